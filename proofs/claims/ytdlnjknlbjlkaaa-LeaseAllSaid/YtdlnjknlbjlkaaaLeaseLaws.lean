/- The laws LeaseEnd, LeaseShared, LeaseLonger, LeaseElder, LeaseNone: their walks. -/
import Derived.Test.YtdlnjknlbjlkaaaLeaseT
namespace Go.Proofs.Ytdlnjknlbjlkaaa
open Go.ChangeShapes Go.WideShapes Go.ChangeAt Go.RowKit
set_option linter.unusedVariables false
set_option linter.unusedSimpArgs false

theorem ret_true {b : Bool} (h : b = true) : Ending.returned (.bool b) = .returned (.bool true) := by rw [h]

theorem bit_any (b : Bool) (w : World) : Calls Try.prog 24 #[.bool b] w fun e w' => e = .returned (.int .i64 (if b then 1 else 0)) ∧ w = w' := by
  cases b
  all_goals
    go_enter Try.func24, Try.ntmps24
    go_wp2
    go_ret
    exact ⟨rfl, rfl⟩


set_option maxHeartbeats 1000000 in
theorem leaseEnd_walk (sent : Int) (came : Int) (thn : Int) (w : World) (_w0 : (Lit.int .i64 sent).wf = true) (_w1 : (Lit.int .i64 came).wf = true) (_w2 : (Lit.int .i64 thn).wf = true) :
    Calls Try.prog 7 #[.int .i64 sent, .int .i64 came, .int .i64 thn] w fun e w' => e = .returned (.bool true) ∧ Below w.heap.size w w' := by
  by_cases hin : 0 ≤ sent ∧ sent ≤ 1000 ∧ 0 ≤ came ∧ came ≤ 100 ∧ 0 ≤ thn ∧ thn ≤ 100
  · obtain ⟨i1, i2, i3, i4, i5, i6⟩ := hin
    go_enter Try.func7, Try.ntmps7
    go_wp2_with fail
    refine (begun17 w).mono ?_
    rintro e w0 ⟨rfl, k0⟩
    go_wp2_with fail
    refine (lt_new_nil w w0 (Keep.of_below k0)).mono ?_
    clear k0
    rintro e w1 ⟨b, cb, rfl, h0⟩
    have p1 := h0.ptr
    go_wp2_with fail
    have e1 : sent = tick1 0 sent := by unfold tick1; rw [if_pos (by omega)]; omega
    refine (lt_tick sent h0 (sent) e1).mono ?_
    clear p1 h0 e1
    rintro e w2 ⟨rfl, h2⟩
    go_wp2_with fail
    refine (lt_ask h2).mono ?_
    rintro e w' ⟨rfl, rfl⟩
    have p1 := h2.ptr
    go_wp2_with fail
    have e1 : sent + came = tick1 sent came := by unfold tick1; rw [if_pos (by omega)]
    refine (lt_tick came h2 (sent + came) e1).mono ?_
    clear p1 h2 e1
    rintro e w3 ⟨rfl, h3⟩
    by_cases hc : came < 20
    · go_wp2_with fail
      refine (lt_take sent 7 h3 (by unfold leaseTakes; simp; omega)).mono ?_
      clear h3
      rintro e w4 ⟨rfl, h4⟩
      have p1 := h4.ptr
      go_wp2_with fail
      have e1 : sent + came + thn = tick1 (sent + came) thn := by unfold tick1; rw [if_pos (by omega)]
      refine (lt_tick thn h4 (sent + came + thn) e1).mono ?_
      clear p1 h4 e1
      rintro e w5 ⟨rfl, h5⟩
      by_cases hd : came + thn < 20
      · go_wp2_with fail
        refine (lt_good 7 h5 true (by simp; omega)).mono ?_
        clear h5
        rintro e w6 ⟨rfl, h6⟩
        go_wp2_with fail
        refine (lt_left h6 (20 - came - thn) (by simp; omega)).mono ?_
        clear h6
        rintro e w7 ⟨rfl, h7⟩
        go_wp2_with fail
        refine (bit_any _ _).mono ?_
        rintro e w' ⟨rfl, rfl⟩
        go_wp2_with fail
        go_ret
        exact ⟨ret_true (by first | rfl | (simp; omega)), h7.keep.below⟩
      · go_wp2_with fail
        refine (lt_good 7 h5 false (by simp; omega)).mono ?_
        clear h5
        rintro e w8 ⟨rfl, h8⟩
        go_wp2_with fail
        refine (lt_left h8 0 (by simp; omega)).mono ?_
        clear h8
        rintro e w9 ⟨rfl, h9⟩
        go_wp2_with fail
        refine (bit_any _ _).mono ?_
        rintro e w' ⟨rfl, rfl⟩
        go_wp2_with fail
        go_ret
        exact ⟨ret_true (by first | rfl | (simp; omega)), h9.keep.below⟩
    · go_wp2_with fail
      refine (lt_take_no sent 7 h3 (by unfold leaseTakes; simp; omega)).mono ?_
      clear h3
      rintro e w10 ⟨rfl, h10⟩
      have p1 := h10.ptr
      go_wp2_with fail
      have e1 : sent + came + thn = tick1 (sent + came) thn := by unfold tick1; rw [if_pos (by omega)]
      refine (lt_tick thn h10 (sent + came + thn) e1).mono ?_
      clear p1 h10 e1
      rintro e w11 ⟨rfl, h11⟩
      go_wp2_with fail
      refine (lt_good 7 h11 false (by simp)).mono ?_
      clear h11
      rintro e w12 ⟨rfl, h12⟩
      go_wp2_with fail
      refine (lt_left h12 0 (by simp)).mono ?_
      clear h12
      rintro e w13 ⟨rfl, h13⟩
      go_wp2_with fail
      refine (bit_any _ _).mono ?_
      rintro e w' ⟨rfl, rfl⟩
      go_wp2_with fail
      go_ret
      exact ⟨ret_true (by first | rfl | (simp; omega)), h13.keep.below⟩
  · go_enter Try.func7, Try.ntmps7
    go_wp2_with fail
    refine (begun17 w).mono ?_
    rintro e w0 ⟨rfl, k0⟩
    go_wp2_with fail
    all_goals first | (exfalso; omega) | (go_ret; exact ⟨rfl, k0⟩)

set_option maxHeartbeats 1000000 in
theorem leaseLonger_walk (a : Int) (b : Int) (wait : Int) (w : World) (_w0 : (Lit.int .i64 a).wf = true) (_w1 : (Lit.int .i64 b).wf = true) (_w2 : (Lit.int .i64 wait).wf = true) :
    Calls Try.prog 9 #[.int .i64 a, .int .i64 b, .int .i64 wait] w fun e w' => e = .returned (.bool true) ∧ Below w.heap.size w w' := by
  by_cases hin : 0 ≤ a ∧ a ≤ 15 ∧ 0 ≤ b ∧ b ≤ 15 ∧ 0 ≤ wait ∧ wait ≤ 40
  · obtain ⟨i1, i2, i3, i4, i5, i6⟩ := hin
    go_enter Try.func9, Try.ntmps9
    go_wp2_with fail
    refine (begun17 w).mono ?_
    rintro e w0 ⟨rfl, k0⟩
    go_wp2_with fail
    refine (lt_new_nil w w0 (Keep.of_below k0)).mono ?_
    clear k0
    rintro e w1 ⟨lb, cb, rfl, h0⟩
    have p1 := h0.ptr
    go_wp2_with fail
    have e1 : 15 = tick1 0 15 := by decide
    refine (lt_tick 15 h0 (15) e1).mono ?_
    clear p1 h0 e1
    rintro e w2 ⟨rfl, h2⟩
    go_wp2_with fail
    refine (lt_take a 3 h2 (by unfold leaseTakes; simp; omega)).mono ?_
    clear h2
    rintro e w3 ⟨rfl, h3⟩
    by_cases hab : a < b
    · go_wp2_with fail
      refine (lt_take b 3 h3 (by unfold leaseTakes; simp; omega)).mono ?_
      clear h3
      rintro e w4 ⟨rfl, h4⟩
      go_wp2_with fail
      refine (lt_left h4 (b + 20 - 15) (by simp; omega)).mono ?_
      clear h4
      rintro e w5 ⟨rfl, h5⟩
      have p1 := h5.ptr
      go_wp2_with fail
      have e1 : 15 + wait = tick1 15 wait := by unfold tick1; rw [if_pos (by omega)]
      refine (lt_tick wait h5 (15 + wait) e1).mono ?_
      clear p1 h5 e1
      rintro e w6 ⟨rfl, h6⟩
      by_cases hd : 15 + wait < b + 20
      · go_wp2_with fail
        refine (lt_good 3 h6 true (by simp; omega)).mono ?_
        clear h6
        rintro e w7 ⟨rfl, h7⟩
        go_wp2_with fail
        go_ret
        exact ⟨ret_true (by first | rfl | (simp; omega)), h7.keep.below⟩
      · go_wp2_with fail
        refine (lt_good 3 h6 false (by simp; omega)).mono ?_
        clear h6
        rintro e w8 ⟨rfl, h8⟩
        go_wp2_with fail
        go_ret
        exact ⟨ret_true (by first | rfl | (simp; omega)), h8.keep.below⟩
    · go_wp2_with fail
      refine (lt_take_no b 3 h3 (by unfold leaseTakes; simp; omega)).mono ?_
      clear h3
      rintro e w9 ⟨rfl, h9⟩
      go_wp2_with fail
      refine (lt_left h9 (a + 20 - 15) (by simp; omega)).mono ?_
      clear h9
      rintro e w10 ⟨rfl, h10⟩
      have p1 := h10.ptr
      go_wp2_with fail
      have e1 : 15 + wait = tick1 15 wait := by unfold tick1; rw [if_pos (by omega)]
      refine (lt_tick wait h10 (15 + wait) e1).mono ?_
      clear p1 h10 e1
      rintro e w11 ⟨rfl, h11⟩
      by_cases hd : 15 + wait < a + 20
      · go_wp2_with fail
        refine (lt_good 3 h11 true (by simp; omega)).mono ?_
        clear h11
        rintro e w12 ⟨rfl, h12⟩
        go_wp2_with fail
        go_ret
        exact ⟨ret_true (by first | rfl | (simp; omega)), h12.keep.below⟩
      · go_wp2_with fail
        refine (lt_good 3 h11 false (by simp; omega)).mono ?_
        clear h11
        rintro e w13 ⟨rfl, h13⟩
        go_wp2_with fail
        go_ret
        exact ⟨ret_true (by first | rfl | (simp; omega)), h13.keep.below⟩
  · go_enter Try.func9, Try.ntmps9
    go_wp2_with fail
    refine (begun17 w).mono ?_
    rintro e w0 ⟨rfl, k0⟩
    go_wp2_with fail
    all_goals first | (exfalso; omega) | (go_ret; exact ⟨rfl, k0⟩)

set_option maxHeartbeats 1000000 in
theorem leaseElder_walk (wait : Int) (drop : Bool) (w : World) (_w0 : (Lit.int .i64 wait).wf = true) :
    Calls Try.prog 12 #[.int .i64 wait, .bool drop] w fun e w' => e = .returned (.bool true) ∧ Below w.heap.size w w' := by
  by_cases hin : 0 ≤ wait ∧ wait ≤ 50
  · obtain ⟨i1, i2⟩ := hin
    go_enter Try.func12, Try.ntmps12
    go_wp2_with fail
    refine (begun17 w).mono ?_
    rintro e w0 ⟨rfl, k0⟩
    go_wp2_with fail
    refine (lt_new_nil w w0 (Keep.of_below k0)).mono ?_
    clear k0
    rintro e w1 ⟨lb, cb, rfl, h0⟩
    go_wp2_with fail
    refine (lt_take 0 5 h0 (by decide)).mono ?_
    clear h0
    rintro e w2 ⟨rfl, h2⟩
    have p1 := h2.ptr
    go_wp2_with fail
    have e1 : wait = tick1 0 wait := by unfold tick1; rw [if_pos (by omega)]; omega
    refine (lt_tick wait h2 (wait) e1).mono ?_
    clear p1 h2 e1
    rintro e w3 ⟨rfl, h3⟩
    cases drop
    · go_wp2_with fail
      refine (lt_ask h3).mono ?_
      rintro e w' ⟨rfl, rfl⟩
      go_wp2_with fail
      refine (lt_take_no wait 4 h3 (by unfold leaseTakes; simp)).mono ?_
      clear h3
      rintro e w4 ⟨rfl, h4⟩
      go_wp2_with fail
      refine (lt_good 4 h4 false (by simp)).mono ?_
      clear h4
      rintro e w5 ⟨rfl, h5⟩
      by_cases hd : wait < 20
      · go_wp2_with fail
        refine (lt_good 5 h5 true (by simp; omega)).mono ?_
        clear h5
        rintro e w6 ⟨rfl, h6⟩
        go_wp2_with fail
        go_ret
        exact ⟨ret_true (by first | rfl | (simp; omega)), h6.keep.below⟩
      · go_wp2_with fail
        refine (lt_good 5 h5 false (by simp; omega)).mono ?_
        clear h5
        rintro e w7 ⟨rfl, h7⟩
        go_wp2_with fail
        go_ret
        exact ⟨ret_true (by first | rfl | (simp; omega)), h7.keep.below⟩
    · go_wp2_with fail
      refine (lt_drop h3).mono ?_
      clear h3
      rintro e w8 ⟨rfl, h8⟩
      go_wp2_with fail
      refine (lt_ask h8).mono ?_
      rintro e w' ⟨rfl, rfl⟩
      go_wp2_with fail
      refine (lt_take wait 4 h8 (by unfold leaseTakes; simp; omega)).mono ?_
      clear h8
      rintro e w9 ⟨rfl, h9⟩
      go_wp2_with fail
      refine (lt_good 4 h9 true (by simp; omega)).mono ?_
      clear h9
      rintro e w10 ⟨rfl, h10⟩
      go_wp2_with fail
      refine (lt_good 5 h10 false (by simp)).mono ?_
      clear h10
      rintro e w11 ⟨rfl, h11⟩
      go_wp2_with fail
      go_ret
      exact ⟨ret_true (by first | rfl | (simp; omega)), h11.keep.below⟩
  · go_enter Try.func12, Try.ntmps12
    go_wp2_with fail
    refine (begun17 w).mono ?_
    rintro e w0 ⟨rfl, k0⟩
    go_wp2_with fail
    all_goals first | (exfalso; omega) | (go_ret; exact ⟨rfl, k0⟩)

end Go.Proofs.Ytdlnjknlbjlkaaa
