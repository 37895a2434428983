/- The clock's begun and laws: walks. -/
import Derived.Test.YtdlnjknlbjlkaaaClock
namespace Go.Proofs.Ytdlnjknlbjlkaaa
open Go.ChangeShapes Go.WideShapes Go.ChangeAt Go.RowKit
set_option linter.unusedVariables false
set_option linter.unusedSimpArgs false

theorem begun16 (w : World) : Calls Try.prog 13 #[] w fun e w' => e = .returned (.bool true) ∧ Below w.heap.size w w' := by
  go_enter Try.func13, Try.ntmps13
  go_wp2_with fail
  have c0 : IsClock (w.alloc (.cells #[.int .i64 0] 25)) w.heap.size 0 := ⟨Blk.new _ _ _, by decide, by decide⟩
  refine (tick_none none 0 c0 1 (by decide)).mono ?_
  clear c0
  rintro e w1 ⟨rfl, c1, k1⟩
  have hs := k1.size
  have hs' : w1.heap.size ≠ w.heap.size := by simp at hs; omega
  have HK := Lib.hid k1
  clear k1
  go_wp2_with fail
  have c2 : IsClock (w1.alloc (.cells #[.int .i64 5, .int .i64 (-1), .int .i64 2] 2)) w.heap.size 1 := ⟨c1.blk.alloc _, by decide, by decide⟩
  refine (tick_lit _ _ [5, -1, 2] 2 c2 ?_ (Blk.new _ _ _) (by decide) (by decide) _ rfl 8 (by decide)).mono ?_
  · exact hs'
  clear c2
  rintro e w2 ⟨rfl, c3, k3⟩
  go_wp2_with fail
  refine (now_any c3).mono ?_
  rintro e w' ⟨rfl, rfl⟩
  go_wp2_with fail
  refine (since_any 3 c3 5 (by decide)).mono ?_
  rintro e w' ⟨rfl, rfl⟩
  go_wp2_with fail
  refine (since_any 9 c3 0 (by decide)).mono ?_
  rintro e w' ⟨rfl, rfl⟩
  go_wp2_with fail
  go_ret
  refine ⟨rfl, Keep.below ?_⟩
  have k4 : Keep [] w w1 := ((Keep.refl _ _).alloc _).then HK.out (by simp)
  exact (k4.alloc _).then k3 (by simp)

theorem tick1_end (n : Int) : tick1 1099511627776 n = 1099511627776 := by unfold tick1; split <;> omega

theorem end_a : 1099511627776 = tickAll 0 [1099511627776] := by simp [tickAll, tick1]
theorem end_b : 1099511627776 = tickAll 1099511627776 [1] := by simp [tickAll, tick1]
theorem end_c : 0 = since 1099511627776 1099511627776 := by simp [since]
theorem end_d (n : Int) : 1099511627776 = tickAll 1099511627776 [n] := (tick1_end n).symm
/-- The law ClockEnd. -/
theorem clockEnd_walk (n : Int) (w : World) (_w0 : (Lit.int .i64 n).wf = true) : Calls Try.prog 6 #[.int .i64 n] w fun e w' => e = .returned (.bool true) ∧ Below w.heap.size w w' := by
  go_enter Try.func6, Try.ntmps6
  go_wp2_with fail
  refine (begun16 w).mono ?_
  rintro e w0 ⟨rfl, k0⟩
  go_wp2_with fail
  have c0 : IsClock ((w0.alloc (.cells #[.int .i64 0] 25)).alloc (.cells #[.int .i64 1099511627776] 2)) w0.heap.size 0 := ⟨(Blk.new _ _ _).alloc _, by decide, by decide⟩
  refine (tick_lit _ _ [1099511627776] 2 c0 ?_ (Blk.new' _ _ _ _ (by simp)) (by decide) (by decide) _ rfl 1099511627776 end_a).mono ?_
  · simp
  clear c0
  rintro e w1 ⟨rfl, c1, k1⟩
  have hs := k1.size
  have hs' : w1.heap.size ≠ w0.heap.size := by simp at hs; omega
  have HK := Lib.hid k1
  clear k1
  go_wp2_with fail
  refine (now_any c1).mono ?_
  rintro e w' ⟨rfl, rfl⟩
  go_wp2_with fail
  have c2 : IsClock (w1.alloc (.cells #[.int .i64 n] 2)) w0.heap.size 1099511627776 := ⟨c1.blk.alloc _, by omega, by omega⟩
  refine (tick_lit _ _ [n] 2 c2 ?_ (Blk.new _ _ _) (by simp) (by simp) _ rfl 1099511627776 (end_d n)).mono ?_
  · exact hs'
  clear c2
  rintro e w2 ⟨rfl, c3, k3⟩
  go_wp2_with fail
  refine (tick_none none 0 c3 1099511627776 end_b).mono ?_
  rintro e w4 ⟨rfl, c4, k4⟩
  go_wp2_with fail
  refine (since_any 1099511627776 c4 0 end_c).mono ?_
  rintro e w' ⟨rfl, rfl⟩
  go_wp2_with fail
  go_ret
  refine ⟨rfl, k0.trans (Below.mono (Keep.below ?_) k0.size)⟩
  have k5 : Keep [] w0 w1 := (((Keep.refl _ _).alloc _).alloc _).then HK.out (by simp)
  exact ((k5.alloc _).then k3 (by simp)).then k4 (by simp)

/-- The law ClockNone. -/
theorem clockNone_walk (w : World) : Calls Try.prog 4 #[] w fun e w' => e = .returned (.bool true) ∧ Below w.heap.size w w' := by
  go_enter Try.func4, Try.ntmps4
  go_wp2_with fail
  refine (begun16 w).mono ?_
  rintro e w0 ⟨rfl, k0⟩
  go_wp2_with fail
  refine (now_nil _).mono ?_
  rintro e w' ⟨rfl, rfl⟩
  go_wp2_with fail
  refine (tick_nil _ _).mono ?_
  rintro e w' ⟨rfl, rfl⟩
  go_wp2_with fail
  refine (tick_nil _ _).mono ?_
  rintro e w' ⟨rfl, rfl⟩
  go_wp2_with fail
  refine (since_nil _ _).mono ?_
  rintro e w' ⟨rfl, rfl⟩
  go_wp2_with fail
  go_ret
  exact ⟨rfl, k0.trans ((Below.refl _ _).alloc k0.size _)⟩
end Go.Proofs.Ytdlnjknlbjlkaaa
