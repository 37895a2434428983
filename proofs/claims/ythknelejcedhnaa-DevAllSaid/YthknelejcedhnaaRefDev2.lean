/- The contracts of the reference's device: Write, Flush, Loose. -/
import Derived.Test.YthknelejcedhnaaRefDev
namespace Go.Proofs.Ythknelejcedhnaa
open Go.ChangeShapes Go.WideShapes Go.ChangeAt Go.RowKit
set_option linter.unusedVariables false
set_option linter.unusedSimpArgs false

theorem map_set_same {α β : Type} (f : α → β) (l : List α) (i : Nat) (x y : α) (h : l[i]? = some x) (e : f y = f x) : (l.set i y).map f = l.map f := by
  apply List.ext_getElem?
  intro j
  rw [List.getElem?_map, List.getElem?_map, List.getElem?_set]
  split
  · rename_i hij
    subst hij
    have : i < l.length := (List.getElem?_eq_some_iff.1 h).1
    rw [if_pos this, h]; simp [e]
  · rfl
theorem set_app {α : Type} (vs sp : List α) (i : Nat) (x : α) (h : i < vs.length) : (vs ++ sp).set i x = vs.set i x ++ sp := by
  rw [List.set_append, if_pos h]

theorem IsRef.setNow {w : World} {B r nb fb db : Nat} {l : List Sec} {c : Nat} (h : IsRef w B r nb fb db l c) (i : Nat) (s : Sec) (hs : l[i]? = some s) (v : Value) (x : List Nat) (hv : Row w B v x) (hx : x.length = 64 ∧ ∀ c ∈ x, c < 256) :
    IsRef (w.setCell ⟨nb, i, none⟩ v) B r nb fb db (l.set i ⟨x, s.lasts, s.loose⟩) c ∧ Keep [nb] w (w.setCell ⟨nb, i, none⟩ v) := by
  have hi : i < l.length := (List.getElem?_eq_some_iff.1 hs).1
  have hok := h.ok s (List.mem_of_getElem? hs)
  have hk : Keep [nb] w (w.setCell ⟨nb, i, none⟩ v) := (Keep.refl _ _).setCell (.inl (by simp)) _
  obtain ⟨nc, fc, h1, h2, h3⟩ := h.dev
  obtain ⟨vs, sp, h4, h5⟩ := h.now
  obtain ⟨us, sq, h6, h7⟩ := h.fast
  have n0 : Ty w nb 22 := h4.ty
  have nu : ∀ b ∈ [nb], ¬ Ty w b 5 := by simpa using ty_u8.2.1 n0
  have hl : vs.length = l.length := by rw [h5.1, List.length_map]
  refine ⟨⟨⟨nc, fc, ?_, by simpa using h2, by simpa using h3⟩, ⟨vs.set i v, sp, ?_, ?_⟩, ⟨us, sq, h6.keep hk (by simpa using h.ne.symm), ?_⟩, ?_, h.ne, mem_set_ok h.ok _ _ ⟨hx.1, hok.2.1, hx.2, hok.2.2.2⟩, by simpa using h.pos, by simpa using h.max, h.few, h.low⟩, hk⟩
  · rw [List.length_set]; exact h1.keep hk (by simpa using h1.ty.ne n0 (by decide))
  · rw [← set_app _ _ _ _ (by omega)]; exact h4.set i v
  · rw [List.map_set]; exact (h5.keep hk nu).set (hv.keep hk nu) i
  · rw [map_set_same Sec.lasts l i s ⟨x, s.lasts, s.loose⟩ hs rfl]; exact h7.keep hk nu
  · rw [map_set_same Sec.loose l i s ⟨x, s.lasts, s.loose⟩ hs rfl]; exact h.dirty.keep hk (by simpa using h.dirty.ty.ne n0 (by decide))
theorem IsRef.setFast {w : World} {B r nb fb db : Nat} {l : List Sec} {c : Nat} (h : IsRef w B r nb fb db l c) (i : Nat) (s : Sec) (hs : l[i]? = some s) (v : Value) (x : List Nat) (hv : Row w B v x) (hx : x.length = 64 ∧ ∀ c ∈ x, c < 256) :
    IsRef (w.setCell ⟨fb, i, none⟩ v) B r nb fb db (l.set i ⟨s.now, x, s.loose⟩) c ∧ Keep [fb] w (w.setCell ⟨fb, i, none⟩ v) := by
  have hi : i < l.length := (List.getElem?_eq_some_iff.1 hs).1
  have hok := h.ok s (List.mem_of_getElem? hs)
  have hk : Keep [fb] w (w.setCell ⟨fb, i, none⟩ v) := (Keep.refl _ _).setCell (.inl (by simp)) _
  obtain ⟨nc, fc, h1, h2, h3⟩ := h.dev
  obtain ⟨vs, sp, h4, h5⟩ := h.now
  obtain ⟨us, sq, h6, h7⟩ := h.fast
  have n0 : Ty w fb 22 := h6.ty
  have nu : ∀ b ∈ [fb], ¬ Ty w b 5 := by simpa using ty_u8.2.1 n0
  have hl : us.length = l.length := by rw [h7.1, List.length_map]
  refine ⟨⟨⟨nc, fc, ?_, by simpa using h2, by simpa using h3⟩, ⟨vs, sp, h4.keep hk (by simpa using h.ne), ?_⟩, ⟨us.set i v, sq, ?_, ?_⟩, ?_, h.ne, mem_set_ok h.ok _ _ ⟨hok.1, hx.1, hok.2.2.1, hx.2⟩, by simpa using h.pos, by simpa using h.max, h.few, h.low⟩, hk⟩
  · rw [List.length_set]; exact h1.keep hk (by simpa using h1.ty.ne n0 (by decide))
  · rw [map_set_same Sec.now l i s ⟨s.now, x, s.loose⟩ hs rfl]; exact h5.keep hk nu
  · rw [← set_app _ _ _ _ (by omega)]; exact h6.set i v
  · rw [List.map_set]; exact (h7.keep hk nu).set (hv.keep hk nu) i
  · rw [map_set_same Sec.loose l i s ⟨s.now, x, s.loose⟩ hs rfl]; exact h.dirty.keep hk (by simpa using h.dirty.ty.ne n0 (by decide))
theorem IsRef.setDirty {w : World} {B r nb fb db : Nat} {l : List Sec} {c : Nat} (h : IsRef w B r nb fb db l c) (i : Nat) (s : Sec) (hs : l[i]? = some s) (x : Bool) :
    IsRef (w.setCell ⟨db, i, none⟩ (.bool x)) B r nb fb db (l.set i ⟨s.now, s.lasts, x⟩) c ∧ Keep [db] w (w.setCell ⟨db, i, none⟩ (.bool x)) := by
  have hi : i < l.length := (List.getElem?_eq_some_iff.1 hs).1
  have hok := h.ok s (List.mem_of_getElem? hs)
  have hk : Keep [db] w (w.setCell ⟨db, i, none⟩ (.bool x)) := (Keep.refl _ _).setCell (.inl (by simp)) _
  obtain ⟨nc, fc, h1, h2, h3⟩ := h.dev
  obtain ⟨vs, sp, h4, h5⟩ := h.now
  obtain ⟨us, sq, h6, h7⟩ := h.fast
  have n0 : Ty w db 4 := h.dirty.ty
  have nu : ∀ b ∈ [db], ¬ Ty w b 5 := by intro b hb; rw [List.mem_singleton.1 hb]; exact ty_u8.2.2 n0
  refine ⟨⟨⟨nc, fc, ?_, by simpa using h2, by simpa using h3⟩, ⟨vs, sp, h4.keep hk (by simpa using h4.ty.ne n0 (by decide)), ?_⟩, ⟨us, sq, h6.keep hk (by simpa using h6.ty.ne n0 (by decide)), ?_⟩, ?_, h.ne, mem_set_ok h.ok _ _ hok, by simpa using h.pos, by simpa using h.max, h.few, h.low⟩, hk⟩
  · rw [List.length_set]; exact h1.keep hk (by simpa using h1.ty.ne n0 (by decide))
  · rw [map_set_same Sec.now l i s ⟨s.now, s.lasts, x⟩ hs rfl]; exact h5.keep hk nu
  · rw [map_set_same Sec.lasts l i s ⟨s.now, s.lasts, x⟩ hs rfl]; exact h7.keep hk nu
  · rw [List.map_set]; unfold bools; rw [List.map_set]; exact h.dirty.set i _
theorem IsRef.setCalls {w : World} {B r nb fb db : Nat} {l : List Sec} {c : Nat} (h : IsRef w B r nb fb db l c) (c' : Nat) (hc : c' ≤ 1099511627776) :
    IsRef (w.setCell ⟨r, 3, none⟩ (.int .i64 c')) B r nb fb db l c' ∧ Keep [r] w (w.setCell ⟨r, 3, none⟩ (.int .i64 c')) := by
  have hk : Keep [r] w (w.setCell ⟨r, 3, none⟩ (.int .i64 c')) := (Keep.refl _ _).setCell (.inl (by simp)) _
  obtain ⟨nc, fc, h1, h2, h3⟩ := h.dev
  obtain ⟨vs, sp, h4, h5⟩ := h.now
  obtain ⟨us, sq, h6, h7⟩ := h.fast
  have n0 : Ty w r 60 := h1.ty
  have nu : ∀ b ∈ [r], ¬ Ty w b 5 := by simpa using ty_u8.1 n0
  exact ⟨⟨⟨nc, fc, h1.set 3 _, h2, h3⟩, ⟨vs, sp, h4.keep hk (by simpa using h4.ty.ne n0 (by decide)), h5.keep hk nu⟩, ⟨us, sq, h6.keep hk (by simpa using h6.ty.ne n0 (by decide)), h7.keep hk nu⟩,
    h.dirty.keep hk (by simpa using h.dirty.ty.ne n0 (by decide)), h.ne, h.ok, h.pos, h.max, hc, h.low⟩, hk⟩

theorem refWrite_out {w : World} {B r nb fb db : Nat} {l : List Sec} {c : Nat} (h : IsRef w B r nb fb db l c) (i : Int) (v : Value) (hi : i < 0 ∨ (l.length : Int) ≤ i) :
    Calls Try.prog 33 #[.pointer (some ⟨r, 0, none⟩), .int .i64 i, v] w fun e w' => e = .returned (.int .i64 4) ∧ w = w' := by
  obtain ⟨nc, fc, h1, h2, h3⟩ := h.dev
  have g0 := h1.cell 0
  simp only [List.getElem?_cons_zero] at g0
  rcases hi with hi | hi
  · go_enter Try.func33, Try.ntmps33
    go_wp2
    go_ret
    exact ⟨rfl, rfl⟩
  · have q0 : ¬ i < 0 := by omega
    have q1 : decide (i < 0) = false := decide_eq_false q0
    go_enter Try.func33, Try.ntmps33
    go_wp2
    go_ret
    exact ⟨rfl, rfl⟩
theorem refWrite_long {w : World} {B r nb fb db : Nat} {l : List Sec} {c : Nat} (h : IsRef w B r nb fb db l c) (i : Int) (a : Option Addr) (n cap : Nat) (h0 : 0 ≤ i) (h1 : i < l.length) (hn : 64 < n) :
    Calls Try.prog 33 #[.pointer (some ⟨r, 0, none⟩), .int .i64 i, .slice a n cap] w fun e w' => e = .returned (.int .i64 1) ∧ w = w' := by
  obtain ⟨nc, fc, hb, h2, h3⟩ := h.dev
  have g0 := hb.cell 0
  simp only [List.getElem?_cons_zero] at g0
  have q0 : ¬ i < 0 := by omega
  have q1 : decide (i < 0) = false := decide_eq_false q0
  have q2 : (64 : Int) < n := by omega
  go_enter Try.func33, Try.ntmps33
  go_wp2
  go_ret
  exact ⟨rfl, rfl⟩

set_option maxRecDepth 100000 in
set_option maxHeartbeats 1000000 in
theorem refWrite_in {w : World} {B r nb fb db : Nat} {l : List Sec} {c : Nat} (h : IsRef w B r nb fb db l c) (i : Nat) (s : Sec) (hs : l[i]? = some s) (v : Value) (m : List Nat) (hv : Rd w v m) (hm : m.length ≤ 64) (hmb : ∀ x ∈ m, x < 256) (hc : c < 1099511627776) (hBw : B ≤ w.heap.size) :
    Calls Try.prog 33 #[.pointer (some ⟨r, 0, none⟩), .int .i64 (i : Int), v] w fun e w' => e = .returned (.int .i64 0) ∧ IsRef w' B r nb fb db (l.set i ⟨over s.now 0 m, s.lasts, true⟩) (c + 1) ∧ Keep [r, nb, db] w w' := by
  obtain ⟨i8, hi8, hz80, hz81, hz82⟩ := info_parts Try.info8
  have hi : i < l.length := (List.getElem?_eq_some_iff.1 hs).1
  have hok : s.ok := h.ok s (List.mem_of_getElem? hs)
  have hmx := h.max
  obtain ⟨nc, fc, hb, h2, h3⟩ := h.dev
  have g0 := hb.cell 0
  simp only [List.getElem?_cons_zero] at g0
  have q0 : ¬ (i : Int) < 0 := by omega
  have q1 : decide ((i : Int) < 0) = false := decide_eq_false q0
  have q2 : (i : Int) < l.length := by omega
  have q3 : decide ((64 : Int) < (m.length : Int)) = false := decide_eq_false (by omega)
  have hnow : (over s.now 0 m).length = 64 := by rw [over_length _ _ _ (by have := hok.1; omega)]; exact hok.1
  have hov : over s.now 0 m = m ++ s.now.drop m.length := by simp [over]
  have hnb : ∀ x ∈ over s.now 0 m, x < 256 := by
    intro x hx
    rw [hov] at hx
    rcases List.mem_append.1 hx with hx | hx
    · exact hmb x hx
    · exact hok.2.2.1 x (List.mem_of_mem_drop hx)
  have HNOW := Lib.hid hnow
  have HNB := Lib.hid hnb
  have HOV := Lib.hid hov
  clear hnow hnb hov
  have hsrc := Lib.hid (Rd.src hv Try.underlying22)
  obtain ⟨_, av, capv, rfl, hcv, _⟩ := id hv
  go_enter Try.func33, Try.ntmps33
  go_upto_region 6 with (at_builtin; refine wpList_append_src _ rfl _ _ 22 22 rfl w.heap.size 5 i8 (.int .u8 0) 1 1 Try.underlying22 hi8 hz80 hz81 hz82 rfl (by decide) (.slice none 0 0) 0 [] rfl (World.ownsRow_nil w _ _ 1) _ _ _ rfl hsrc.out (by unfold maxLen; omega) (by omega) (Nat.le_refl _) ?_; intro v0 w0 h1 hg1 h4 h5)
  go_cut [] (fun wc => IsRef wc B r nb fb db (l.set i ⟨over s.now 0 m, s.lasts, s.loose⟩) c ∧ Keep [r, nb, db] w wc)
  case first =>
    have hk0 : Keep [] w w0 := (Keep.grown hg1).mono (by simp [Value.ownBlock])
    rw [Nat.zero_add, List.nil_append] at h1
    obtain ⟨a0, c0, rfl⟩ := ownsRow_slice h1
    obtain ⟨vs, sp, hN, hR⟩ := h.now
    obtain ⟨rv, hrv, hrow⟩ := hR.at_ i (by simpa using hi)
    rw [show (l.map Sec.now).getD i [] = s.now by simp [List.getD_eq_getElem?_getD, hs]] at hrow
    have HROW := Lib.hid hrow
    clear hrow
    have hlvs : vs.length = l.length := by rw [hR.1, List.length_map]
    have e1 : w.cell? ⟨nb, i, none⟩ = some rv := by rw [hN.cell, List.getElem?_append_left (by omega)]; exact hrv
    have hl64 : s.now.length = 64 := hok.1
    have hrd := HROW.out.rd
    obtain ⟨_, ar, capr, rfl, hcr, _⟩ := id hrd
    unfold Rd at hrd
    rw [hl64] at hrd hcr e1
    have hml : m.length ≤ s.now.length := by omega
    have hB0 := hb.keep hk0 (by simp)
    have hI0 := h.keep hk0 (by simp)
    have e0 : w0.cell? ⟨r, 0, none⟩ = some (.slice (some ⟨nb, 0, none⟩) l.length nc) := hB0.cell 0
    have e2 : w0.cell? ⟨nb, i, none⟩ = some (.slice ar 64 capr) := by rw [hk0.cell hN.lt (by simp)]; exact e1
    have hsl : ∀ W : World, (Instr.sliceAt 22 (.slice ar 64 capr) (some (.int .i64 (m.length : Int))) none none).run Try.prog W = .ok (.slice (if capr = m.length then ar else ar.map (·.add m.length)) (64 - m.length) (capr - m.length)) W :=
      fun W => run_cut_lo 22 5 i8 Try.underlying22 hi8 hz81 ar 64 capr m.length (by omega)
    have hcut := hrd.cut m.length 64 (by omega) (by omega) ar capr rfl
    generalize (if capr = m.length then ar else ar.map (·.add m.length)) = cv at *
    rw [bcs_part, List.take_of_length_le (by rw [List.length_drop]; omega)] at hcut
    have hcut0 := hcut.keep hk0 (by simp)
    have hrdc : Rd w0.drew (.slice cv (64 - m.length) (capr - m.length)) (s.now.drop m.length) := by
      unfold Rd
      rw [List.length_drop, hl64]; exact hcut0.keep (Keep.refl [] _).drew (by simp)
    have HS := Lib.hid (Rd.src hrdc Try.underlying22)
    have hld : (s.now.drop m.length).length = 64 - m.length := by rw [List.length_drop, hl64]
    have h1d : w0.drew.ownsRow w.heap.size 5 1 (.slice a0 m.length c0) m.length (bcs m) := h1
    have hob : ∀ b, (Value.slice a0 m.length c0).ownBlock = some b → w.heap.size ≤ b := fun b hb => (World.ownsRow.lt h1 b hb).1
    have hsz := hk0.size
    have HLD := Lib.hid hld
    clear hcut hcut0 hrdc hrd e1 hl64 hld
    rw [HLD.out] at HS
    go_region_law ((refine step_append_src _ rfl _ _ 22 22 rfl w.heap.size 5 i8 (.int .u8 0) 1 1 Try.underlying22 hi8 hz80 hz81 hz82 rfl (by decide) (.slice a0 m.length c0) m.length (bcs m) rfl h1d _ (64 - m.length) _ rfl HS.out (by unfold maxLen; omega) (by omega) hsz ?_; intro v2 w2 k1 k2 k4 k3; obtain ⟨a2, c2, rfl⟩ := ownsRow_slice k1; have hk2 : Keep [] w w2 := hk0.drew.then (Keep.grown k2) (fun b hb hlt => absurd (hob b (Option.mem_toList.1 hb)) (by omega)); have f0 : w2.cell? ⟨r, 0, none⟩ = some (.slice (some ⟨nb, 0, none⟩) l.length nc) := (hb.keep hk2 (by simp)).cell 0; have f1 : w2.cell? ⟨nb, i, none⟩ = some (.slice ar 64 capr) := (hk2.cell hN.lt (by simp)).trans ((hk0.cell hN.lt (by simp)).symm.trans e2); have f2 := (hN.keep hk2 (by simp)).free i))
    all_goals
      go_wp2_with fail
      go_meet
      have e64 : m.length + (64 - m.length) = 64 := by omega
      rw [e64] at k1
      have hrow2 : Row w2 B (.slice a2 64 c2) (over s.now 0 m) := by
        refine Row.buf (Buf.mono (base := w.heap.size) ?_ hBw) (by rw [HNOW.out]; omega)
        unfold Buf
        rw [HOV.out, List.length_append, HLD.out, bcs_append, e64]
        exact k1
      have hres := (h.keep hk2 (by simp)).setNow i s hs _ _ hrow2 ⟨HNOW.out, HNB.out⟩
      exact ⟨hres.1, (hk2.mono (by simp)).then hres.2 (by simp)⟩
  case rest =>
    obtain ⟨hI, hK⟩ := hcut
    have hs2 : (l.set i ⟨over s.now 0 m, s.lasts, s.loose⟩)[i]? = some ⟨over s.now 0 m, s.lasts, s.loose⟩ := by simp [hi]
    obtain ⟨nc2, fc2, hb2, h22, h32⟩ := hI.dev
    rw [List.length_set] at hb2
    have f2 := hb2.cell 2
    have f3 := hb2.cell 3
    have f3f := hb2.free 3
    simp only [List.getElem?_cons_zero, List.getElem?_cons_succ] at f2 f3
    have d0 : wc.cell? ⟨db, i, none⟩ = some (.bool s.loose) := by
      rw [hI.dirty.cell, bools_at _ _ (by simpa using hi)]
      simp [List.getD_eq_getElem?_getD, hi]
    have d1 := hI.dirty.free i
    have hdr : db ≠ r := hI.dirty.ty.ne hb2.ty (by decide)
    have r1 := hI.setDirty i _ hs2 true
    rw [List.set_set] at r1
    have r2 := r1.1.setCalls (c + 1) (by omega)
    have hfin := ((hK.then r1.2 (by simp)).then r2.2 (by simp))
    have HFIN := Lib.hid hfin
    have R2 := Lib.hid r2.1
    clear r1 r2 hfin hs2
    go_wp2_with fail
    go_ret
    exact ⟨rfl, R2.out, HFIN.out⟩
end Go.Proofs.Ythknelejcedhnaa
