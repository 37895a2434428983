/- The law ItemAny: its walk. -/
import Derived.Test.YtpibpgfadkfgbaaItemLaws
import Derived.Test.YtpibpgfadkfgbaaShort
namespace Go.Proofs.Ytpibpgfadkfgbaa
open Go.ChangeShapes Go.WideShapes Go.ChangeAt Go.RowKit
set_option linter.unusedVariables false
set_option linter.unusedSimpArgs false

set_option maxHeartbeats 4000000 in
theorem itemAny_walk (a0 : Option Addr) (len0 cap0 : Nat) (z0 : List Int) (w : World) (w0 : IsRow .u8 w a0 len0 cap0 z0) :
    Calls Try.prog 10 #[.slice a0 len0 cap0] w fun e w' => e = .returned (.bool true) ∧ Below w.heap.size w w' := by
  obtain ⟨A, hAl, hAm, hA, hAb⟩ := w0.rd
  clear w0
  subst hAl
  go_enter Try.func10, Try.ntmps10
  go_wp2_with fail
  refine (begun7 w).mono ?_
  rintro e w0 ⟨rfl, k0⟩
  go_wp2_with fail
  refine (Short_any _ A 100 (hA.keep k0 (by simp)) (by omega) (by omega)).mono ?_
  rintro e w0' ⟨va, rfl, rfl, hr, ho⟩
  go_wp2_with fail
  refine (itells_any va _ hr (fun c hc => hAb c (List.mem_of_mem_take hc)) (by simp; omega)).mono ?_
  rintro e w1 ⟨rfl, k1⟩
  go_wp2_with fail
  go_ret
  exact ⟨rfl, (k0.trans k1).below⟩
end Go.Proofs.Ytpibpgfadkfgbaa
