/- The contracts of the reference's device: Flush, Loose. -/
import Derived.Test.YthknelejcedhnaaRefDev2
namespace Go.Proofs.Ythknelejcedhnaa
open Go.ChangeShapes Go.WideShapes Go.ChangeAt Go.RowKit
set_option linter.unusedVariables false
set_option linter.unusedSimpArgs false

theorem IsRef.nowRow {w : World} {B r nb fb db : Nat} {l : List Sec} {c : Nat} (h : IsRef w B r nb fb db l c) (i : Nat) (s : Sec) (hs : l[i]? = some s) : ∃ v, w.cell? ⟨nb, i, none⟩ = some v ∧ w.frozen? ⟨nb, i, none⟩ = false ∧ Row w B v s.now := by
  obtain ⟨vs, sp, h4, h5⟩ := h.now
  have hi : i < l.length := (List.getElem?_eq_some_iff.1 hs).1
  obtain ⟨v, hv, hr⟩ := h5.at_ i (by simpa using hi)
  rw [show (l.map Sec.now).getD i [] = s.now by simp [List.getD_eq_getElem?_getD, hs]] at hr
  have : i < vs.length := (List.getElem?_eq_some_iff.1 hv).1
  exact ⟨v, by rw [h4.cell, List.getElem?_append_left this]; exact hv, h4.free i, hr⟩
theorem IsRef.fastRow {w : World} {B r nb fb db : Nat} {l : List Sec} {c : Nat} (h : IsRef w B r nb fb db l c) (i : Nat) (s : Sec) (hs : l[i]? = some s) : ∃ v, w.cell? ⟨fb, i, none⟩ = some v ∧ w.frozen? ⟨fb, i, none⟩ = false ∧ Row w B v s.lasts := by
  obtain ⟨vs, sp, h4, h5⟩ := h.fast
  have hi : i < l.length := (List.getElem?_eq_some_iff.1 hs).1
  obtain ⟨v, hv, hr⟩ := h5.at_ i (by simpa using hi)
  rw [show (l.map Sec.lasts).getD i [] = s.lasts by simp [List.getD_eq_getElem?_getD, hs]] at hr
  have : i < vs.length := (List.getElem?_eq_some_iff.1 hv).1
  exact ⟨v, by rw [h4.cell, List.getElem?_append_left this]; exact hv, h4.free i, hr⟩
theorem IsRef.dirtyCell {w : World} {B r nb fb db : Nat} {l : List Sec} {c : Nat} (h : IsRef w B r nb fb db l c) (i : Nat) (s : Sec) (hs : l[i]? = some s) : w.cell? ⟨db, i, none⟩ = some (.bool s.loose) := by
  have hi : i < l.length := (List.getElem?_eq_some_iff.1 hs).1
  rw [h.dirty.cell, bools_at _ _ (by simpa using hi)]
  simp [List.getD_eq_getElem?_getD, hs]
theorem Row.form {w : World} {B : Nat} {v : Value} {l : List Nat} (h : Row w B v l) (hl : 0 < l.length) : ∃ sb so cap, v = .slice (some ⟨sb, so, none⟩) l.length cap ∧ l.length ≤ cap := by
  obtain ⟨sb, so, cap, rfl, hc, _⟩ := h.rd.at1 hl
  exact ⟨sb, so, cap, rfl, hc⟩

theorem refLen {w : World} {B r nb fb db : Nat} {l : List Sec} {c : Nat} (h : IsRef w B r nb fb db l c) : ∃ nc fc, w.cell? ⟨r, 0, none⟩ = some (.slice (some ⟨nb, 0, none⟩) l.length nc) ∧ w.cell? ⟨r, 1, none⟩ = some (.slice (some ⟨fb, 0, none⟩) l.length fc) ∧ w.cell? ⟨r, 2, none⟩ = some (.slice (some ⟨db, 0, none⟩) l.length l.length) ∧ w.cell? ⟨r, 3, none⟩ = some (.int .i64 c) ∧ w.frozen? ⟨r, 3, none⟩ = false ∧ l.length ≤ nc ∧ l.length ≤ fc := by
  obtain ⟨nc, fc, hb, h2, h3⟩ := h.dev
  exact ⟨nc, fc, hb.cell 0, hb.cell 1, hb.cell 2, hb.cell 3, hb.free 3, h2, h3⟩

set_option maxRecDepth 100000 in
set_option maxHeartbeats 1000000 in
theorem refFlush {w : World} {B r nb fb db : Nat} {l : List Sec} {c : Nat} (h : IsRef w B r nb fb db l c) (hc : c < 1099511627776) :
    Calls Try.prog 35 #[.pointer (some ⟨r, 0, none⟩)] w fun e w' => e = .returned (.tuple #[]) ∧ IsRef w' B r nb fb db (l.map flushSec) (c + 1) ∧ Keep [r, fb, db] w w' := by
  obtain ⟨nc, fc, g0, g1, g2, g3, g3f, _, _⟩ := refLen h
  have hmx := h.max
  have h0 := h.setCalls (c + 1) (by omega)
  go_enter Try.func35, Try.ntmps35
  go_wp2_with fail
  go_loopw [2] (fun i wr => ∃ k : Nat, k ≤ l.length ∧ i = .int .i64 k ∧ IsRef wr B r nb fb db (flushN l k) (c + 1) ∧ Keep [r, fb, db] w wr) (fun i _ => l.length - (intOf i).toNat)
  case atStart => exact ⟨0, by omega, rfl, by rw [flushN_zero]; exact h0.1, h0.2.mono (by simp)⟩
  case round =>
    obtain ⟨k, hk, rfl, hI, hK⟩ := hrel
    clear h0 g0 g1 g2 g3 g3f
    have hfl := flushN_length l k hk
    obtain ⟨nc1, fc1, g0, g1, g2, g3, g3f, c1, c2⟩ := refLen hI
    rw [hfl] at g0 g1 g2 c1 c2
    by_cases hlt : k < l.length
    · obtain ⟨s, hs, hsm⟩ := sec_mem hlt
      have hok := h.ok s hsm
      have hfs := flushN_at l k s hs
      have q0 : (k : Int) < l.length := by omega
      obtain ⟨v, e0, e0f, hrow⟩ := hI.nowRow k s hfs
      obtain ⟨u, e1, e1f, _⟩ := hI.fastRow k s hfs
      have e2 := hI.dirtyCell k s hfs
      have e2f := hI.dirty.free k
      obtain ⟨sb, so, cap, rfl, hcap⟩ := hrow.form (by rw [hok.1]; omega)
      have r1 := hI.setFast k s hfs _ _ hrow ⟨hok.1, hok.2.2.1⟩
      have hs2 : ((flushN l k).set k ⟨s.now, s.now, s.loose⟩)[k]? = some ⟨s.now, s.now, s.loose⟩ := by
        rw [List.getElem?_set]; simp [hfl, hlt]
      have r2 := r1.1.setDirty k _ hs2 false
      rw [List.set_set] at r2
      have e3 : (flushN l k).set k ⟨s.now, s.now, false⟩ = flushN l (k + 1) := (flushN_succ l k s hs).symm
      have R2 := Lib.hid (e3 ▸ r2.1)
      have K2 := Lib.hid ((hK.then r1.2 (by simp)).then r2.2 (by simp))
      obtain ⟨nc2, fc2, k0, k1, k2, _⟩ := refLen r1.1
      rw [List.length_set, hfl] at k2
      have k3 := r1.1.dirtyCell k _ hs2
      have k4 := r1.1.dirty.free k
      have hdf : db ≠ fb := hI.dirty.ty.ne (by obtain ⟨_, _, hx, _⟩ := hI.fast; exact hx.ty) (by decide)
      go_wp2_with fail
      refine wp_region_still_tail 13 (by kernel_rfl) (by kernel_rfl) ?_
      simp only [List.take_succ_cons, List.take_zero, List.drop_succ_cons, List.drop_zero]
      repeat still_step
      refine wpStill_nil ?_
      go_wp2_with fail
      go_roundw
      case rel => exact ⟨k + 1, by omega, by go_num, R2.out.keep (Keep.refl [] _).drew (by simp), K2.out.drew⟩
      case measure => simp [intOf]; omega
    · obtain rfl : k = l.length := by omega
      rw [flushN_all] at hI
      go_wp2_with fail
      go_end0
      exact ⟨rfl, hI, hK⟩

set_option maxHeartbeats 400000 in
theorem refLoose {w : World} {B r nb fb db : Nat} {l : List Sec} {c : Nat} (h : IsRef w B r nb fb db l c) :
    Calls Try.prog 44 #[.pointer (some ⟨r, 0, none⟩)] w (GotInts w (looseN (l.map Sec.loose) l.length)) := by
  obtain ⟨i0, hi, hz0, hz1, hz2⟩ := info_parts Try.infoI
  have hmx := h.max
  go_enter Try.func44, Try.ntmps44
  go_wp2_with fail
  go_loopw [3, 4] (fun v i wr => ∃ k : Nat, k ≤ l.length ∧ i = .int .i64 k ∧ wr.ownsRow w.heap.size 3 1 v (looseN (l.map Sec.loose) k).length (ints (looseN (l.map Sec.loose) k)) ∧ Keep [] w wr) (fun _ i _ => l.length - (intOf i).toNat)
  case atStart => exact ⟨0, by omega, rfl, World.ownsRow_nil w _ _ 1, Keep.refl _ _⟩
  case round =>
    obtain ⟨k, hk, rfl, hO, hK⟩ := hrel
    have hI := h.keep hK (by simp)
    obtain ⟨nc1, fc1, g0, g1, g2, g3, g3f, c1, c2⟩ := refLen hI
    by_cases hlt : k < l.length
    · obtain ⟨s, hs, hsm⟩ := sec_mem hlt
      have g5 := hI.dirtyCell k s hs
      have q0 : (k : Int) < l.length := by omega
      have hg : (l.map Sec.loose).getD k false = s.loose := by simp [List.getD_eq_getElem?_getD, hs]
      have hn := looseN_succ (l.map Sec.loose) k
      rw [hg] at hn
      have hlen := looseN_len (l.map Sec.loose) k
      have hks := hK.size
      have HN := Lib.hid hn
      clear hn hg hs hsm
      cases hso : s.loose with
      | false =>
        rw [hso] at g5
        have HN2 := Lib.hid (show looseN (l.map Sec.loose) (k + 1) = looseN (l.map Sec.loose) k by rw [HN.out, hso]; simp)
        clear HN hso
        go_wp2_with fail
        go_roundw
        case rel => exact ⟨k + 1, by omega, by go_num, by rw [HN2.out]; exact hO, hK⟩
        case measure => simp [intOf]; omega
      | true =>
        rw [hso] at g5
        have HN2 := Lib.hid (show looseN (l.map Sec.loose) (k + 1) = looseN (l.map Sec.loose) k ++ [(k : Int)] by rw [HN.out, hso]; simp)
        clear HN hso
        generalize looseN (l.map Sec.loose) k = m at *
        go_wp2_with (at_builtin; refine wpList_append_src _ rfl _ _ 45 45 rfl w.heap.size 3 i0 (.int .i64 0) 1 8 Try.underlying45 hi hz0 hz1 hz2 rfl (by decide) _ _ _ rfl (hO.alloc _) _ _ _ rfl (loose_new Try.underlying45 wr _ _) (by unfold maxLen; omega) (by omega) (by simp; omega) ?_; intro v1 w1 h1 h2 h4 h3)
        go_roundw
        case rel =>
          refine ⟨k + 1, by omega, by go_num, by rw [HN2.out, List.length_append, ints_append]; exact h1, (hK.alloc _).then (Keep.grown h2) ?_⟩
          intro x hx hlt2
          have := World.ownsRow.lt hO x (Option.mem_toList.1 hx)
          omega
        case measure => simp [intOf]; omega
    · obtain rfl : k = l.length := by omega
      go_wp2_with fail
      go_ret
      exact ⟨_, rfl, hO, hK⟩
end Go.Proofs.Ythknelejcedhnaa
