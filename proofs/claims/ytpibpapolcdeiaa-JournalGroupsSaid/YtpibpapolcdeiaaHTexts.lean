/- Texts: rows of strings that came in, cut. -/
import Derived.Test.YtpibpapolcdeiaaG1
import Derived.SliceStrings
namespace Go.Proofs.Ytpibpapolcdeiaa
open Go.ChangeShapes Go.WideShapes Go.ChangeAt Go.RowKit
set_option linter.unusedVariables false
set_option linter.unusedSimpArgs false
set_option maxRecDepth 100000

/-- A slice of texts that came in. -/
def IsTexts (w : World) (v : Value) : Prop := ∃ l : List ByteArray, Rv w 1 v l.length (strs l) ∧ l.length ≤ 9223372036854775807 ∧ ∀ s ∈ l, s.size ≤ 9223372036854775807
theorem open_texts {H : Type} {enc : TypeId × Value → H} {W : World} {v : Value} {d : DataW H} {p : List MemPlace} {r : Reach} {b : Nat}
    (hv : Value.okWide Try.prog W r b 29 v) (h : DataW.Trod enc Try.prog W 0 (fun _ => true) true 29 v d p) : IsTexts W v := by
  obtain ⟨a0, len, cap, rfl⟩ := okWide_slice Try.underlying29 hv
  obtain ⟨fuel, hf⟩ := h
  rcases open_strings Try.underlying29 Try.underlying9 (by kernel_rfl) hf with ⟨hcs, _⟩ | ⟨x, l, c, ss, hcs, _, hl, hm, hz, _, hcell, hws⟩
  · simp [Value.cells] at hcs
    obtain ⟨rfl, rfl, rfl⟩ := hcs
    exact ⟨[], Rv.nil W 1, by simp, by simp⟩
  · simp [Value.cells] at hcs
    obtain ⟨rfl, rfl, rfl⟩ := hcs
    simp only [if_true] at hz
    unfold maxLen at hm hws
    have hl' : (ss.take len).length = len := by rw [List.length_take]; omega
    refine ⟨ss.take len, ⟨by simp [strs], some x, cap, by rw [hl'], by omega, fun hp => ?_⟩, by omega, fun s hs => hws s (List.mem_of_mem_take hs)⟩
    have hp' : 0 < len := by simp [strs] at hp; omega
    have h0 := hcell 0 (by omega)
    have h00 : x.add 0 = x := by simp [Addr.add]
    obtain ⟨sb0, so, rfl, hsb, hadd⟩ := addr_cell (w := W) (a := x) (by rw [← h00, h0]; rfl)
    refine ⟨sb0, so, rfl, hsb, fun i hi => ?_⟩
    have hi' : i < len := by simp [strs] at hi; omega
    have := hcell i (by omega)
    rw [hadd] at this
    rw [this, strs_at _ _ (by omega)]
    simp [List.getD_eq_getElem?_getD, List.getElem?_take, hi']

def texts (l : List ByteArray) (n size : Nat) : List ByteArray := (l.take n).map (cutStr · size)

set_option maxHeartbeats 400000 in
theorem Texts_any {w : World} (v : Value) (l : List ByteArray) (n size : Nat) (h : Rv w 1 v l.length (strs l)) (hl : l.length ≤ 9223372036854775807) (hs : ∀ s ∈ l, s.size ≤ 9223372036854775807) (hn : n ≤ 1000) (hsz : size ≤ 1000000) :
    Calls Try.prog 15 #[v, .int .i64 n, .int .i64 size] w fun e w' => ∃ v', e = .returned v' ∧ w'.ownsRow w.heap.size 9 1 v' (texts l n size).length (strs (texts l n size)) ∧ Keep [] w w' := by
  obtain ⟨i0, hi, hz0, hz1, hz2⟩ := info_parts Try.infoS
  have h2 := h
  obtain ⟨_, a, cap, rfl, hcap, _⟩ := h
  go_enter Try.func15, Try.ntmps15
  go_wp2_with fail
  go_loopw [7, 8] (fun b i wr => ∃ (k : Nat) (v' : Value), k ≤ l.length ∧ k ≤ n ∧ b = v' ∧ i = .int .i64 k ∧ wr.ownsRow w.heap.size 9 1 v' k (strs ((l.take k).map (cutStr · size))) ∧ Keep [] w wr) (fun _ i _ => l.length - (intOf i).toNat)
  case atStart => exact ⟨0, _, by omega, by omega, rfl, rfl, World.ownsRow_nil _ _ _ _, Keep.refl _ _⟩
  case round =>
    obtain ⟨k, v', hk, hkn, rfl, rfl, hO, hK⟩ := hrel
    by_cases hlt : k < l.length
    · by_cases hlt2 : k < n
      · obtain ⟨sb0, so, cap3, he, _, hsb, hat⟩ := h2.at1 (by omega)
        simp only [Value.slice.injEq] at he
        obtain ⟨rfl, _, rfl⟩ := he
        have g4 : wr.cell? ⟨sb0, so + k, none⟩ = some (.string (l.getD k ByteArray.empty)) := by
          rw [hK.cell hsb (by simp), hat k hlt, strs_at l k hlt]
        have hx := hs (l.getD k ByteArray.empty) (by simp [List.getD_eq_getElem?_getD, hlt])
        have hsn : strs ((l.take (k + 1)).map (cutStr · size)) = strs ((l.take k).map (cutStr · size)) ++ [.string (cutStr (l.getD k ByteArray.empty) size)] := by
          rw [take_succ_getD l ByteArray.empty k hlt]; simp [strs]
        have HSN := Lib.hid hsn
        have q1 : (k : Int) < l.length := by omega
        have q2 : (k : Int) < n := by omega
        have hks := hK.size
        obtain ⟨a', c', rfl⟩ := ownsRow_slice hO
        have hlt3 := hO.lt
        clear hsn hat h2 hs
        generalize l.getD k ByteArray.empty = x at *
        go_wp2_with fail
        refine (Cut_any x size hx hsz).mono ?_
        rintro e w' ⟨rfl, rfl⟩
        generalize cutStr x size = y at *
        have hsrc : Src Try.prog 1 29 (.slice (some ⟨wr.heap.size, 0, none⟩) 1 1) 1 [.string y] (wr.alloc (.cells #[.string y] 9)) :=
          (Rv.new wr [.string y] 9 1 1 1 rfl (by omega) _ rfl).src Try.underlying29 (by intro u hu; simp at hu; subst hu; rfl)
        go_wp2_with (at_builtin; refine wpList_append_src _ rfl _ _ 29 29 rfl w.heap.size 9 i0 (.string ByteArray.empty) 1 16 Try.underlying29 hi hz0 hz1 hz2 rfl (by decide) _ _ _ rfl (hO.alloc _) _ 1 _ rfl hsrc (by unfold maxLen; omega) (by omega) (by simp; omega) ?_; intro v1 w1 h1 h2 _ h3)
        go_roundw
        case rel =>
          refine ⟨k + 1, v1, by omega, by omega, rfl, by go_num, by rw [HSN.out]; exact h1, (hK.alloc _).then (Keep.grown h2) ?_⟩
          intro x hx hlt
          have := (hlt3 x (Option.mem_toList.1 hx)).1
          omega
        case measure => simp [intOf]; omega
      · obtain rfl : k = n := by omega
        have q2 : ¬ (k : Int) < k := by omega
        go_wp2_with fail
        go_ret
        have e : (texts l k size).length = k := by unfold texts; simp; omega
        exact ⟨_, rfl, by rw [e]; exact hO, hK⟩
    · obtain rfl : k = l.length := by omega
      go_wp2_with fail
      go_ret
      have e1 : l.take n = l.take l.length := by rw [List.take_of_length_le (by omega), List.take_length]
      have e : (texts l n size).length = l.length := by unfold texts; rw [e1]; simp
      exact ⟨_, rfl, by rw [e]; unfold texts; rw [e1]; exact hO, hK⟩

end Go.Proofs.Ytpibpapolcdeiaa
