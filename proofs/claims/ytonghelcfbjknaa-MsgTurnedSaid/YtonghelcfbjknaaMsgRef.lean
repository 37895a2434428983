/- The reference's messages: num, Nodes. -/
import Derived.Test.YtonghelcfbjknaaMsgDec2
import Derived.BigQuiet
namespace Go.Proofs.Ytonghelcfbjknaa
open Go.ChangeShapes Go.WideShapes Go.ChangeAt Go.RowKit
set_option linter.unusedVariables false
set_option linter.unusedSimpArgs false

theorem refNum_any {w : World} (n : Int) (r : Bool) (hr : r = decide (0 ≤ n ∧ n ≤ 1099511627776)) : Calls Try.prog 24 #[.int .i64 n] w fun e w' => e = .returned (.bool r) ∧ w = w' := by
  have HR := Lib.hid hr
  clear hr
  by_cases h1 : 0 ≤ n
  · have q1 : decide (0 ≤ n) = true := decide_eq_true h1
    by_cases h2 : n ≤ 1099511627776
    · have q2 : decide (n ≤ 1099511627776) = true := decide_eq_true h2
      have hf : r = true := by rw [HR.out]; exact decide_eq_true ⟨h1, h2⟩
      go_enter Try.func24, Try.ntmps24
      go_wp2_with fail
      go_ret
      exact ⟨by first | rfl | (rw [hf]; rfl), rfl⟩
    · have q2 : decide (n ≤ 1099511627776) = false := decide_eq_false h2
      have hf : r = false := by rw [HR.out]; exact decide_eq_false (fun h => h2 h.2)
      go_enter Try.func24, Try.ntmps24
      go_wp2_with fail
      go_ret
      exact ⟨by first | rfl | (rw [hf]; rfl), rfl⟩
  · have q1 : decide (0 ≤ n) = false := decide_eq_false h1
    have hf : r = false := by rw [HR.out]; exact decide_eq_false (fun h => h1 h.1)
    go_enter Try.func24, Try.ntmps24
    go_wp2_with fail
    go_ret
    exact ⟨by first | rfl | (rw [hf]; rfl), rfl⟩
theorem keepN {S : List Nat} {a w : World} (h : Keep S a w) (n : Nat) : Keep S a (w.drewN n) := ⟨h.os, h.tape, h.output, h.size, h.block⟩
set_option maxHeartbeats 4000000 in
theorem refNodes_any {w : World} (nsv : Value) (l : List Int) (h : Rv w 1 nsv l.length (ints l)) (hl : l.length ≤ 1000000) (r : Bool) (hr : r = nodesOk l) :
    Calls Try.prog 27 #[nsv] w fun e w' => e = .returned (.bool r) ∧ Keep [] w w' := by
  have HR := Lib.hid hr
  clear hr
  obtain ⟨_, a, cap, rfl, _, _⟩ := id h
  go_enter Try.func27, Try.ntmps27
  go_wp2_with fail
  go_loopw [3] (fun i wr => Keep [] w wr ∧ ∃ j : Nat, i = .int .i64 j ∧ j ≤ l.length ∧ ∀ k, k < j → nodeAt l k) (fun i _ => l.length - (intOf i).toNat)
  case atStart => exact ⟨Keep.refl _ _, 0, rfl, by omega, fun k hk => absurd hk (by omega)⟩
  case round =>
    obtain ⟨hK, j, rfl, hj, hall⟩ := hrel
    by_cases hlt : j < l.length
    · have q0 : (j : Int) < l.length := by omega
      obtain ⟨sb, so, c', he, _, _, hat⟩ := (h.keep hK (by simp)).at1 (by omega)
      simp only [Value.slice.injEq] at he
      obtain ⟨rfl, _, rfl⟩ := he
      have hcell := hat j hlt
      rw [ints_at _ _ hlt] at hcell
      have HB := Lib.hid (nodesOk_false hlt)
      have HA := Lib.hid hall
      have HN := Lib.hid (show nodeAt l j ↔ 1 ≤ l.getD j 0 ∧ l.getD j 0 ≤ 5 ∧ (0 < j → l.getD (j - 1) 0 < l.getD j 0) from Iff.rfl)
      have hb : (r = false → True) := fun _ => trivial
      clear hb
      by_cases hj0 : j = 0
      · subst hj0
        clear hall hat
        simp only [Nat.add_zero] at hcell
        generalize l.getD 0 0 = x at *
        by_cases h1 : x < 1
        · have q1 : decide (x < 1) = true := decide_eq_true h1
          go_wp2_with fail
          go_quiet (fail)
          go_wp2_with fail
          go_ret
          exact ⟨by first | rfl | (rw [HR.out, HB.out (by rw [HN.out]; omega)]; rfl), keepN hK nq⟩
        · have q1 : decide (x < 1) = false := decide_eq_false h1
          by_cases h2 : 5 < x
          · have q2 : decide (5 < x) = true := decide_eq_true h2
            go_wp2_with fail
            go_quiet (fail)
            go_wp2_with fail
            go_ret
            exact ⟨by first | rfl | (rw [HR.out, HB.out (by rw [HN.out]; omega)]; rfl), keepN hK nq⟩
          · have q2 : decide (5 < x) = false := decide_eq_false h2
            go_wp2_with fail
            go_quiet (fail)
            go_wp2_with fail
            go_roundw
            case rel =>
              refine ⟨keepN hK nq, 1, by first | rfl | go_num, by omega, fun k hk => ?_⟩
              obtain rfl : k = 0 := by omega
              exact HN.out.2 ⟨by omega, by omega, fun h => absurd h (by omega)⟩
            case measure => simp [intOf]; omega
      · have hcell' := hat (j - 1) (by omega)
        rw [ints_at _ _ (by omega)] at hcell'
        have q3 : decide (0 < j) = true := decide_eq_true (by omega)
        have q4 : IntKind.i64.wrap ((j : Int) - 1) = ((j - 1 : Nat) : Int) := by rw [IntKind.wrap_i64]; omega
        have q5 : ((j - 1 : Nat) : Int) < l.length := by omega
        clear hall hat
        generalize l.getD j 0 = x at *
        generalize l.getD (j - 1) 0 = y at *
        by_cases h1 : x < 1
        · have q1 : decide (x < 1) = true := decide_eq_true h1
          go_wp2_with fail
          go_quiet (fail)
          go_wp2_with fail
          go_ret
          exact ⟨by first | rfl | (rw [HR.out, HB.out (by rw [HN.out]; omega)]; rfl), keepN hK nq⟩
        · have q1 : decide (x < 1) = false := decide_eq_false h1
          by_cases h2 : 5 < x
          · have q2 : decide (5 < x) = true := decide_eq_true h2
            go_wp2_with fail
            go_quiet (fail)
            go_wp2_with fail
            go_ret
            exact ⟨by first | rfl | (rw [HR.out, HB.out (by rw [HN.out]; omega)]; rfl), keepN hK nq⟩
          · have q2 : decide (5 < x) = false := decide_eq_false h2
            by_cases h3 : x ≤ y
            · have q6 : decide (x ≤ y) = true := decide_eq_true h3
              go_wp2_with fail
              go_quiet (fail)
              go_wp2_with fail
              go_ret
              exact ⟨by first | rfl | (rw [HR.out, HB.out (by rw [HN.out]; omega)]; rfl), keepN hK nq⟩
            · have q6 : decide (x ≤ y) = false := decide_eq_false h3
              go_wp2_with fail
              go_quiet (fail)
              go_wp2_with fail
              go_roundw
              case rel =>
                refine ⟨keepN hK nq, j + 1, by go_num, by omega, fun k hk => ?_⟩
                by_cases hkj : k < j
                · exact HA.out k hkj
                · obtain rfl : k = j := by omega
                  exact HN.out.2 ⟨by omega, by omega, fun h => by omega⟩
              case measure => simp [intOf]; omega
    · obtain rfl : j = l.length := by omega
      by_cases h0 : l.length = 0
      · have q0 : decide (0 < (l.length : Int)) = false := decide_eq_false (by omega)
        go_wp2_with fail
        go_ret
        exact ⟨by rw [HR.out, nodesOk_nil h0]; simp [h0], hK⟩
      · have q0 : decide (0 < (l.length : Int)) = true := decide_eq_true (by omega)
        go_wp2_with fail
        go_ret
        exact ⟨by rw [HR.out, nodesOk_true (by omega) hall]; simp; omega, hK⟩
end Go.Proofs.Ytonghelcfbjknaa
