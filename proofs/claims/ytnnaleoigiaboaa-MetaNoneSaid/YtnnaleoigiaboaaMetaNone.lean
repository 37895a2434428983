/- The law MetaNone: its walk. -/
import Derived.Test.YtnnaleoigiaboaaMetaLaws
namespace Go.Proofs.Ytnnaleoigiaboaa
open Go.ChangeShapes Go.WideShapes Go.ChangeAt Go.RowKit
set_option linter.unusedVariables false
set_option linter.unusedSimpArgs false

set_option maxRecDepth 100000 in
set_option maxHeartbeats 4000000 in
theorem metaNone_walk (w : World) : Calls Try.prog 10 #[] w fun e w' => e = .returned (.bool true) ∧ Below w.heap.size w w' := by
  have hzm := run_zeroMeta
  go_enter Try.func10, Try.ntmps10
  go_wp2_with fail
  refine (New_any 2 2 rfl).mono ?_
  rintro e w1 ⟨d1, sb1, rfl, hD1, k1, _, _⟩
  go_wp2_with fail
  refine (meMake_out hD1 1 (.inr (by decide))).mono ?_
  rintro e w2 ⟨rfl, k2⟩
  have K2 := k1.trans k2
  clear hD1 k1 k2
  go_wp2_with fail
  refine (New_any 2 2 rfl).mono ?_
  rintro e w3 ⟨d3, sb3, rfl, hD3, k3, _, _⟩
  have K3 := K2.trans k3
  have hop := meOpen_none hD3 0 zeroSec zeroSec rfl rfl (supGood_le _ _ (by show supTurn (List.replicate 64 0) ≤ 0; rw [supTurn_zero]; omega)) (supGood_le _ _ (by show supTurn (List.replicate 64 0) ≤ 0; rw [supTurn_zero]; omega))
  clear K2 k3 hD3
  go_wp2_with fail
  refine hop.mono ?_
  rintro e w4 ⟨rfl, k4⟩
  have K4 := K3.trans k4
  clear hop K3 k4
  go_wp2_with fail
  refine (begun12 w4).mono ?_
  rintro e w5 ⟨rfl, k5⟩
  go_wp2_with fail
  refine (meSave_nil 0 0 0 false).mono ?_
  rintro e w6 ⟨rfl, k6⟩
  go_wp2_with fail
  refine meMeta_nil.mono ?_
  rintro e w7 ⟨rfl, k7⟩
  go_wp2_with fail
  refine (lawEq_any 0 0 0 false).mono ?_
  rintro e w8 ⟨rfl, k8⟩
  go_wp2_with fail
  go_ret
  exact ⟨rfl, ((((K4.trans k5).trans k6).trans k7).trans k8).below⟩
end Go.Proofs.Ytnnaleoigiaboaa
