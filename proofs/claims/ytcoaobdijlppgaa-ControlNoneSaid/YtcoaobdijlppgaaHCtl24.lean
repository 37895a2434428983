/- ControlNone: the walk. -/
import Derived.Test.YtcoaobdijlppgaaHCtl23
namespace Go.Proofs.Ytcoaobdijlppgaa
open Go.ChangeShapes Go.WideShapes Go.ChangeAt Go.RowKit
set_option linter.unusedVariables false
set_option linter.unusedSimpArgs false
set_option maxRecDepth 100000

theorem Leave_nil {w : World} (n : Int) : Calls Try.prog 17 #[.pointer none, .int .i64 n] w fun e w' => e = .returned (.tuple #[.slice none 0 0, .int .i64 8]) ∧ w = w' := by
  go_enter Try.func17, Try.ntmps17
  go_wp2_with fail
  refine (without_nil n 0).mono ?_
  rintro e w1 ⟨rfl, rfl⟩
  go_wp2_with fail
  go_ret2
  exact ⟨rfl, rfl⟩
theorem Lose_nil {w : World} (n : Int) : Calls Try.prog 23 #[.pointer none, .int .i64 n] w fun e w' => e = .returned (.tuple #[.slice none 0 0, .int .i64 8]) ∧ w = w' := by
  go_enter Try.func23, Try.ntmps23
  go_wp2_with fail
  refine (without_nil n n).mono ?_
  rintro e w1 ⟨rfl, rfl⟩
  go_wp2_with fail
  go_ret2
  exact ⟨rfl, rfl⟩
theorem Open_empty {w : World} {d sb : Nat} {L : List Sec} {k : Nat} (hd : IsDev w d sb L k) (x0 x1 : Sec) (h0 : L[0]? = some x0) (h1 : L[1]? = some x1) (hx : supGood 0 x0.now = false) (hy : supGood 0 x1.now = false) (kv : Value) :
    Calls Try.prog 20 #[.pointer (some ⟨d, 0, none⟩), kv] w fun e w' => e = .returned (.tuple #[.pointer none, .int .i64 3]) ∧ Keep [] w w' := by
  go_enter Try.func20, Try.ntmps20
  go_wp2_with fail
  refine (Open_none hd 0 x0 x1 h0 h1 hx hy).mono ?_
  rintro e w1 ⟨rfl, k1⟩
  go_wp2_with fail
  go_ret2
  exact ⟨rfl, k1⟩
theorem run_noMsg (W : World) : (Instr.build 39 #[]).run Try.prog W = .ok (msV (wordM 0 0 0 false) (.slice none 0 0) (.slice none 0 0) (.slice none 0 0) (.slice none 0 0)) W := run_build W _ _ _ (by rfl)
set_option maxHeartbeats 8000000 in
theorem controlNone_walk (w : World) : Calls Try.prog 6 #[] w fun e w' => e = .returned (.bool true) ∧ Below w.heap.size w w' := by
  have hbz : ∀ W : World, (Instr.build 39 #[]).run Try.prog W = .ok (msV (wordM 0 0 0 false) (.slice none 0 0) (.slice none 0 0) (.slice none 0 0) (.slice none 0 0)) W := run_noMsg
  go_enter Try.func6, Try.ntmps6
  go_wp2_with fail
  refine (Join_nil 1).mono ?_
  rintro e w1 ⟨rfl, rfl⟩
  go_wp2_with fail
  refine (Leave_nil 1).mono ?_
  rintro e w1 ⟨rfl, rfl⟩
  go_wp2_with fail
  refine (Lose_nil 1).mono ?_
  rintro e w1 ⟨rfl, rfl⟩
  go_wp2_with fail
  refine Back_nil.mono ?_
  rintro e w1 ⟨rfl, rfl⟩
  go_wp2_with fail
  refine (New_any 2 2 (by decide)).mono ?_
  rintro e w1 ⟨d, sb, rfl, hd, k1, z1, z2⟩
  go_wp2_with fail
  have hz : supGood 0 zeroSec.now = false := supGood_le 0 _ (by show supTurn (List.replicate 64 0) ≤ 0; rw [supTurn_zero]; exact Nat.le_refl _)
  refine (Open_empty hd zeroSec zeroSec rfl rfl hz hz (.pointer none)).mono ?_
  rintro e w2 ⟨rfl, k2⟩
  have K2 := k1.trans k2
  clear hd k1 k2 z1 z2 hz
  go_wp2_with fail
  refine (begun23 w2).mono ?_
  rintro e w3 ⟨rfl, k3⟩
  have K3 := K2.trans k3
  clear K2 k3
  go_wp2_with fail
  refine Epoch_nil.mono ?_
  rintro e w4 ⟨rfl, rfl⟩
  go_wp2_with fail
  refine Members_nil.mono ?_
  rintro e w4 ⟨rfl, rfl⟩
  go_wp2_with fail
  refine Under_nil.mono ?_
  rintro e w4 ⟨rfl, rfl⟩
  go_wp2_with fail
  refine Beat_nil.mono ?_
  rintro e w4 ⟨rfl, rfl⟩
  go_wp2_with fail
  refine (Step_nil (wordM 0 0 0 false) _ _ _ _).mono ?_
  rintro e w5 ⟨rfl, k5⟩
  go_wp2_with fail
  go_ret
  exact ⟨rfl, (K3.trans k5).below⟩
end Go.Proofs.Ytcoaobdijlppgaa
