/- slog: the law SlogNone: its walk. -/
import Derived.Test.YtilhbhbdggghoaaG8
namespace Go.Proofs.Ytilhbhbdggghoaa
open Go.ChangeShapes Go.WideShapes Go.ChangeAt Go.RowKit
set_option linter.unusedVariables false
set_option linter.unusedSimpArgs false
set_option maxRecDepth 100000

set_option maxHeartbeats 4000000 in
theorem open_bad {w : World} {d sb c : Nat} {L : List Sec} (hd : IsDev w d sb L c) (frm segs : Int) (h : (frm = 0 ∧ segs = 3 ∧ L.length = 10) ∨ (frm = 0 ∧ segs = 2 ∧ L.length = 100) ∨ (frm = -1 ∧ segs = 3 ∧ L.length = 100)) :
    Calls Try.prog 9 #[.pointer (some ⟨d, 0, none⟩), .int .i64 frm, .int .i64 segs] w fun e w' => e = .returned (.tuple #[.pointer none, .int .i64 4]) ∧ Keep [] w w' := by
  have HLEN : Hid (∀ W, IsDev W d sb L c → Calls Try.prog 20 #[.pointer (some ⟨d, 0, none⟩)] W fun e w' => e = .returned (.int .i64 (L.length : Int)) ∧ w' = W) := Lib.hid (fun W h => (Len_any h).mono (fun _ _ ⟨a, b⟩ => ⟨a, b.symm⟩))
  have HD := Lib.hid hd
  clear hd
  rcases h with ⟨rfl, rfl, hl⟩ | ⟨rfl, rfl, hl⟩ | ⟨rfl, rfl, hl⟩
  all_goals
    have HL := Lib.hid hl
    rw [hl] at HLEN
    clear hl
    go_enter Try.func9, Try.ntmps9
    go_upto_region 3 with fail
  · have k5 := (Blk.new w [.int .i64 3] 3).cell 0
    have HK5 := Lib.hid ((Keep.refl [] w).alloc (.cells #[.int .i64 3] 3))
    simp only [List.toArray, List.getElem?_cons_zero] at k5
    generalize hw1 : w.alloc (.cells #[.int .i64 3] 3) = w1 at *
    clear hw1
    go_quiet ((go_at_call 20; exact Calls.quiet_of_same (HLEN.out _ ((HD.out.keep HK5.out (by simp) (by simp)).keep (drewnK (Keep.refl [] _) _) (by simp) (by simp)))))
    have HKQ := Lib.hid (drewnK HK5.out nq)
    generalize w1.drewN nq = w2 at *
    clear k5
    go_wp2_with fail
    go_ret2
    exact ⟨rfl, HKQ.out⟩
  · have k5 := (Blk.new w [.int .i64 2] 3).cell 0
    have HK5 := Lib.hid ((Keep.refl [] w).alloc (.cells #[.int .i64 2] 3))
    simp only [List.toArray, List.getElem?_cons_zero] at k5
    generalize hw1 : w.alloc (.cells #[.int .i64 2] 3) = w1 at *
    clear hw1
    go_quiet (fail)
    have HKQ := Lib.hid (drewnK HK5.out nq)
    generalize w1.drewN nq = w2 at *
    clear k5
    go_wp2_with fail
    go_ret2
    exact ⟨rfl, HKQ.out⟩
  · have k5 := (Blk.new w [.int .i64 3] 3).cell 0
    have HK5 := Lib.hid ((Keep.refl [] w).alloc (.cells #[.int .i64 3] 3))
    simp only [List.toArray, List.getElem?_cons_zero] at k5
    generalize hw1 : w.alloc (.cells #[.int .i64 3] 3) = w1 at *
    clear hw1
    go_quiet (fail)
    have HKQ := Lib.hid (drewnK HK5.out nq)
    generalize w1.drewN nq = w2 at *
    clear k5
    go_wp2_with fail
    go_ret2
    exact ⟨rfl, HKQ.out⟩
set_option maxRecDepth 100000 in
set_option maxHeartbeats 8000000 in
theorem slogNone_walk (w : World) : Calls Try.prog 7 #[] w fun e w' => e = .returned (.bool true) ∧ Below w.heap.size w w' := by
  have kc := fun (w : World) (C : Array Value) (n c : Nat) => Lib.run_convert_bytes_const (P := Try.prog) w 29 5 C n c Try.underlying29 Try.underlying5
  go_enter Try.func7, Try.ntmps7
  go_wp2_with fail
  refine (New_any 10 10 rfl).mono ?_
  rintro e w1 ⟨d, sb, rfl, hD1, hK1, hb, hsb⟩
  have HK1 := Lib.hid hK1
  have HD1 := Lib.hid hD1
  clear hD1 hK1 hb hsb
  go_wp2_with fail
  refine (open_bad HD1.out 0 3 (.inl ⟨rfl, rfl, by simp⟩)).mono ?_
  rintro e w2 ⟨rfl, k2⟩
  have HK2 := Lib.hid (HK1.out.trans k2)
  clear k2
  go_wp2_with fail
  refine (New_any 100 100 rfl).mono ?_
  rintro e w3 ⟨d3, sb3, rfl, hD3, hK3, hb, hsb⟩
  have HK3 := Lib.hid (HK2.out.trans hK3)
  have HD3 := Lib.hid hD3
  clear hD3 hK3 hb hsb
  go_wp2_with fail
  refine (open_bad HD3.out 0 2 (.inr (.inl ⟨rfl, rfl, by simp⟩))).mono ?_
  rintro e w4 ⟨rfl, k4⟩
  have HK4 := Lib.hid (HK3.out.trans k4)
  clear k4
  go_wp2_with fail
  refine (New_any 100 100 rfl).mono ?_
  rintro e w5 ⟨d5, sb5, rfl, hD5, hK5, hb, hsb⟩
  have HK5 := Lib.hid (HK4.out.trans hK5)
  have HD5 := Lib.hid hD5
  clear hD5 hK5 hb hsb
  go_wp2_with fail
  refine (open_bad HD5.out (-1) 3 (.inr (.inr ⟨rfl, rfl, by simp⟩))).mono ?_
  rintro e w6 ⟨rfl, k6⟩
  have HK6 := Lib.hid (HK5.out.trans k6)
  clear k6
  go_wp2_with fail
  refine (Append_nil _).mono ?_
  rintro e w7 ⟨rfl, rfl⟩
  have HK7 := Lib.hid (HK6.out.alloc (.cells #[.int .u8 120] 5 (1, 2)))
  go_wp2_with fail
  refine (LRead_nil 1).mono ?_
  rintro e w7 ⟨rfl, rfl⟩
  go_wp2_with fail
  refine (begun6 _).mono ?_
  rintro e w8 ⟨rfl, k8⟩
  have HK8 := Lib.hid (HK7.out.trans k8)
  clear k8
  go_wp2_with fail
  refine (Flush0_nil).mono ?_
  rintro e w9 ⟨rfl, rfl⟩
  go_wp2_with fail
  refine (All_nil).mono ?_
  rintro e w9 ⟨rfl, rfl⟩
  go_wp2_with fail
  refine (First_nil).mono ?_
  rintro e w9 ⟨rfl, rfl⟩
  go_wp2_with fail
  refine (Next_nil).mono ?_
  rintro e w9 ⟨rfl, rfl⟩
  go_wp2_with fail
  go_ret
  exact ⟨rfl, HK8.out.below⟩
end Go.Proofs.Ytilhbhbdggghoaa
