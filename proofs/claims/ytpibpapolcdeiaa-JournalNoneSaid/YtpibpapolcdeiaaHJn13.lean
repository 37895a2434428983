/- journal: the law JournalNone: its walk. -/
import Derived.Test.YtpibpapolcdeiaaG10
namespace Go.Proofs.Ytpibpapolcdeiaa
open Go.ChangeShapes Go.WideShapes Go.ChangeAt Go.RowKit
set_option linter.unusedVariables false
set_option linter.unusedSimpArgs false
set_option maxRecDepth 100000

set_option maxRecDepth 100000 in
set_option maxHeartbeats 8000000 in
theorem journalNone_walk (w : World) : Calls Try.prog 4 #[] w fun e w' => e = .returned (.bool true) ∧ Below w.heap.size w w' := by
  have K0 := Lib.hid ((Keep.refl [] w).alloc (.cells #[.string { data := #[97] }] 9))
  go_enter Try.func4, Try.ntmps4
  go_wp2_with fail
  refine (JAdd_nil _).mono ?_
  rintro e w1 ⟨rfl, hK1⟩
  have HK1 := Lib.hid (K0.out.trans hK1)
  clear hK1
  go_wp2_with fail
  refine (JSince_nil _ _).mono ?_
  rintro e w1 ⟨rfl, rfl⟩
  go_wp2_with fail
  refine (New_any 300 300 rfl).mono ?_
  rintro e w2 ⟨d, sb, rfl, hD2, hK2, hb, hsb⟩
  have HK2 := Lib.hid (HK1.out.trans hK2)
  clear hD2 hK2 hb hsb
  go_wp2_with fail
  refine (JOpen_few d 0 19 (by decide)).mono ?_
  rintro e w3 ⟨rfl, rfl⟩
  go_wp2_with fail
  refine (begun10 _).mono ?_
  rintro e w4 ⟨rfl, hK4⟩
  have HK4 := Lib.hid (HK2.out.trans hK4)
  clear hK4
  go_wp2_with fail
  refine JSeq_nil.mono ?_
  rintro e w5 ⟨rfl, rfl⟩
  go_wp2_with fail
  refine JBase_nil.mono ?_
  rintro e w6 ⟨rfl, rfl⟩
  go_wp2_with fail
  go_ret
  exact ⟨rfl, HK4.out.below⟩
end Go.Proofs.Ytpibpapolcdeiaa
