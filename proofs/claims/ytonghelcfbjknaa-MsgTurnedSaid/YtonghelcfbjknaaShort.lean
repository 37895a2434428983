/- The contract of the laws' Short. -/
import Derived.Test.YtonghelcfbjknaaStr
import Derived.Test.YtonghelcfbjknaaInfo
namespace Go.Proofs.Ytonghelcfbjknaa
open Go.ChangeShapes Go.WideShapes Go.ChangeAt Go.RowKit
set_option linter.unusedVariables false
set_option linter.unusedSimpArgs false

/-- Short: no more than n bytes. -/
theorem Short_any {w : World} (v : Value) (l : List Nat) (n : Nat) (h : Rd w v l) (hn : n ≤ 1000000) (hl : l.length ≤ 9223372036854775807) :
    Calls Try.prog 16 #[v, .int .i64 n] w fun e w' => ∃ v', e = .returned v' ∧ w = w' ∧ Rd w v' (l.take n) ∧ v'.ownBlock = v.ownBlock := by
  obtain ⟨i0, hi, hz0, hz1, hz2⟩ := info_parts Try.info8
  have h2 := h
  obtain ⟨_, a, cap, rfl, hcap, _⟩ := h
  by_cases hln : n < l.length
  · have q1 : (n : Int) < l.length := by omega
    go_enter Try.func16, Try.ntmps16
    go_wp2_with (refine wpList_slice_to _ _ _ _ _ _ _ 5 i0 Try.underlying33 hi hz1 _ _ _ _ n rfl rfl rfl h2 (by omega) ?_; intro v1 hv1 ho1)
    go_ret
    refine ⟨v1, rfl, rfl, ?_, ho1⟩
    have e : (bcs l).take n = bcs (l.take n) := by simp [bcs, List.map_take]
    rw [e] at hv1
    unfold Rd
    rw [List.length_take, Nat.min_eq_left (by omega)]
    exact hv1
  · go_enter Try.func16, Try.ntmps16
    go_wp2_with fail
    go_ret
    exact ⟨_, rfl, rfl, by rw [List.take_of_length_le (by omega)]; exact h2, rfl⟩

end Go.Proofs.Ytonghelcfbjknaa
