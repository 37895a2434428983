/- The contract of dev.Flush. -/
import Derived.Test.YtnnaleoigiaboaaDev
namespace Go.Proofs.Ytnnaleoigiaboaa
open Go.ChangeShapes Go.WideShapes Go.ChangeAt Go.RowKit
set_option linter.unusedVariables false
set_option linter.unusedSimpArgs false

theorem Try.size64 : (Try.prog.info? 69).map (·.size) = some 64 := by kernel_rfl

def FlushS (b sb k : Nat) (v : Value) (cs : List Value) (W : World) : Prop :=
  W.cell? ⟨b, 0, none⟩ = some v ∧ W.rangeAt sb (k * 129) cs ∧ W.there sb (k * 129 + 64) cs.length ∧ W.frozen? ⟨sb, k * 129 + 128, none⟩ = false ∧ ∃ u, W.cell? ⟨sb, k * 129 + 128, none⟩ = some (.bool u)
theorem flush_keep1 {W : World} {b sb k : Nat} {v : Value} {cs : List Value} (hne : b ≠ sb) (hl : cs.length = 64) (h : FlushS b sb k v cs W) : FlushS b sb k v cs (W.setCells sb (k * 129 + 64) cs) := by
  obtain ⟨h1, h2, h3, h4, u, h5⟩ := h
  refine ⟨by rw [World.cell?_setCells_out _ _ _ _ _ (fun e _ => absurd e hne)]; exact h1, World.rangeAt_setCells_apart h2 _ _ _ (.inr (.inl (by omega))), World.there_setCells h3 _ _ _, by rw [World.frozen?_setCells]; exact h4, u, ?_⟩
  rw [World.cell?_setCells_out _ _ _ _ _ (fun _ _ => .inr (by simp; omega))]
  exact h5
theorem flush_keep2 {W : World} {b sb k : Nat} {v : Value} {cs : List Value} (hne : b ≠ sb) (hl : cs.length = 64) (h : FlushS b sb k v cs W) (x : Bool) : FlushS b sb k v cs (W.setCell ⟨sb, k * 129 + 128, none⟩ (.bool x)) := by
  obtain ⟨h1, h2, h3, h4, u, h5⟩ := h
  have e : W.setCell ⟨sb, k * 129 + 128, none⟩ (.bool x) = W.setCells sb (k * 129 + 128) [.bool x] := rfl
  rw [e]
  refine ⟨by rw [World.cell?_setCells_out _ _ _ _ _ (fun e _ => absurd e hne)]; exact h1, World.rangeAt_setCells_apart h2 _ _ _ (.inr (.inl (by omega))), World.there_setCells h3 _ _ _, by rw [World.frozen?_setCells]; exact h4, x, ?_⟩
  exact World.cell?_setCell_same _ _ _ h5
theorem over_lasts (nw ls : List Nat) (a : Bool) (hn : nw.length = 64) (hl : ls.length = 64) : over (secCells ⟨nw, ls, a⟩) 64 (bcs nw) = secCells ⟨nw, nw, a⟩ := by
  have h1 : (bcs nw).length = 64 := by rw [bcs_length, hn]
  have h2 : (bcs nw ++ bcs ls).length = 64 + (bcs nw).length := by rw [List.length_append, bcs_length ls, hl]; omega
  unfold secCells over
  show List.take 64 (bcs nw ++ (bcs ls ++ [Value.bool a])) ++ (bcs nw ++ List.drop (64 + (bcs nw).length) (bcs nw ++ (bcs ls ++ [Value.bool a]))) = bcs nw ++ (bcs nw ++ [Value.bool a])
  rw [List.take_left' h1, ← List.append_assoc (bcs nw) (bcs ls), List.drop_left' h2]
set_option maxHeartbeats 1000000 in
theorem Flush_any {w : World} {b sb : Nat} {l : List Sec} {c : Nat} (h : IsDev w b sb l c) (hc : c < 1099511627776) :
    Calls Try.prog 34 #[.pointer (some ⟨b, 0, none⟩)] w fun e w' => e = .returned (.int .i64 0) ∧ IsDev w' b sb (l.map flushSec) (c + 1) ∧ Keep [b, sb] w w' := by
  have g0 := h.dev.cell 0
  simp only [List.getElem?_cons_zero] at g0
  have hmx := h.max
  go_enter Try.func34, Try.ntmps34
  go_wp2_with fail
  go_loopg [11] l.length (fun g i wr => ∃ k : Nat, g = l.length - k ∧ k ≤ l.length ∧ i = .int .i64 k ∧ Blk wr sb (devCells (flushN l k)) 71 ∧ Keep [sb] w wr)
  case atStart => exact ⟨0, rfl, by omega, rfl, by rw [flushN_zero]; exact h.secs, Keep.refl _ _⟩
  case round =>
    obtain ⟨k, hg, hk, rfl, hB, hK⟩ := hrel
    have HG := Lib.hid hg
    clear hg
    have hD := h.dev.keep hK (by simpa using h.ne)
    have f0 := hD.cell 0
    simp only [List.getElem?_cons_zero] at f0
    by_cases hlt : k < l.length
    · obtain ⟨s, hs, hsm⟩ := sec_mem hlt
      have hok := h.ok s hsm
      have q0 : (k : Int) < l.length := by omega
      have hfs := flushN_at l k s hs
      have hfo := flushN_ok l h.ok k
      have hr := hB.range (k * 129) 64
      have e1 := devCells_range hfo k s hfs 0 64 (by omega)
      rw [Nat.add_zero] at e1
      rw [e1] at hr
      have e2 : ((secCells s).drop 0).take 64 = bcs s.now := by
        unfold secCells
        rw [List.drop_zero, List.take_append_of_le_length (by simp; have := hok.1; omega), List.take_of_length_le (by simp; have := hok.1; omega)]
      rw [e2] at hr
      have hdl := devCells_length hfo
      rw [flushN_length l k hk] at hdl
      have hl64 : (bcs s.now).length = 64 := by rw [bcs_length, hok.1]
      have t1 := hB.there (k * 129 + 64) (bcs s.now).length (by omega)
      have hne := h.ne
      have r2 := devCells_range hfo k s hfs 128 1 (by omega)
      have t2 : wr.cell? ⟨sb, k * 129 + 128, none⟩ = some (.bool s.loose) := by
        rw [hB.cell]
        have h3 := congrArg (fun x : List Value => x[0]?) r2
        simp only [List.getElem?_take, List.getElem?_drop, Nat.zero_lt_one, if_true, Nat.add_zero] at h3
        rw [h3]
        unfold secCells
        have h1 := hok.1
        have h2 := hok.2.1
        rw [List.getElem?_append_right (by simp; omega), List.getElem?_append_right (by simp; omega)]
        simp [h1, h2]
      have t3 := hB.free (k * 129 + 128)
      have hu := Try.underlying69
      have hi64 : (Try.prog.info? 69).map (·.size) = some (bcs s.now).length := by rw [Try.size64, bcs_length, hok.1]
      have h1c := bcs_one s.now
      have u1 : (wr.drew.setCells sb (k * 129 + 64) (bcs s.now)).cell? ⟨sb, k * 129 + 128, none⟩ = some (.bool s.loose) := by
        rw [World.cell?_setCells_out _ _ _ _ _ (fun _ _ => .inr (by have := hok.1; simp; omega))]; exact t2
      have u2 : (wr.drew.setCells sb (k * 129 + 64) (bcs s.now)).frozen? ⟨sb, k * 129 + 128, none⟩ = false := by
        rw [World.frozen?_setCells]; exact t3
      have S0 : FlushS b sb k (.slice (some ⟨sb, 0, none⟩) l.length l.length) (bcs s.now) wr.drew := ⟨f0, hr, t1, t3, _, t2⟩
      have S1 := flush_keep1 hne hl64 S0
      have S2 := flush_keep2 hne hl64 S1 false
      go_wp2_with fail
      go_region_held3 (fun w' => w'.cell? ⟨b, 0, none⟩ = some (.slice (some ⟨sb, 0, none⟩) l.length l.length) ∧ w'.rangeAt sb (k * 129) (bcs s.now) ∧ w'.there sb (k * 129 + 64) (bcs s.now).length ∧ w'.frozen? ⟨sb, k * 129 + 128, none⟩ = false ∧ ∃ u, w'.cell? ⟨sb, k * 129 + 128, none⟩ = some (.bool u)) (first | exact S0 | exact S1 | exact S2) (fail)
      go_wp2_with fail
      go_roundg (l.length - (k + 1))
      case measure => rw [HG.out]; omega
      case rel =>
        refine ⟨k + 1, rfl, by omega, by go_num, ?_, (Keep.setCells _ _ _ _ hK.drew (.inl (by simp))).setCell (.inl (by simp)) _⟩
        have ok1 : (⟨s.now, s.now, s.loose⟩ : Sec).ok := ⟨hok.1, hok.1, hok.2.2.1, hok.2.2.1⟩
        have ok2 : (flushSec s).ok := ⟨hok.1, hok.1, hok.2.2.1, hok.2.2.1⟩
        have ov : over (secCells s) 64 (bcs s.now) = secCells ⟨s.now, s.now, s.loose⟩ := over_lasts s.now s.lasts s.loose hok.1 hok.2.1
        have e3 := devCells_over hfo k s _ hfs ok1 64 (bcs s.now) (by omega) ov
        have hs1 : ((flushN l k).set k ⟨s.now, s.now, s.loose⟩)[k]? = some ⟨s.now, s.now, s.loose⟩ := by
          rw [List.getElem?_set]; simp [flushN_length l k hk, hlt]
        have hfo2 := mem_set_ok hfo k _ ok1
        have e4 := devCells_over hfo2 k _ (flushSec s) hs1 ok2 128 [.bool false] (by simp) (over_loose _ hok.1 hok.1 _ _)
        have hdl2 := devCells_length hfo2
        rw [List.length_set, flushN_length l k hk] at hdl2
        rw [List.set_set, ← flushN_succ l k s hs, ← set_over _ _ _ (by omega)] at e4
        have hB1 := (hB.drew).setCells (bcs s.now) (k * 129 + 64) wr.drew _ (by omega)
        rw [e3] at hB1
        rw [← e4]
        exact hB1.set _ _
    · obtain rfl : k = l.length := by omega
      rw [flushN_all] at hB
      have f1 := hD.cell 1
      have f2 := hD.free 1
      simp only [List.getElem?_cons_succ, List.getElem?_cons_zero] at f1
      have hne := h.ne
      have hfl : ∀ s ∈ l.map flushSec, s.ok := by
        intro s hs
        obtain ⟨t, ht, rfl⟩ := List.mem_map.1 hs
        have := h.ok t ht
        exact ⟨this.1, this.1, this.2.2.1, this.2.2.1⟩
      go_wp2_with fail
      go_ret
      refine ⟨rfl, ⟨?_, hB.other (by simpa using hne.symm) _, hne, hfl, by simpa using h.pos, by simpa using h.max, by omega⟩, (hK.mono (by simp)).setCell (by simp) _⟩
      rw [List.length_map]
      exact hD.set 1 _
end Go.Proofs.Ytnnaleoigiaboaa
