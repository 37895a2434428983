/- The contracts of num.Get and num.GetText. -/
import Derived.Test.YtonghelcfbjknaaNum
namespace Go.Proofs.Ytonghelcfbjknaa
open Go.ChangeShapes Go.WideShapes Go.ChangeAt Go.RowKit
set_option linter.unusedVariables false
set_option linter.unusedSimpArgs false

theorem or_step (U c k : Nat) (hU : U < 128 ^ k) (hk : U + c % 128 * 128 ^ k < 18446744073709551616) :
    bits .or .u64 (U : Int) (IntKind.u64.wrap ((c : Int) % 128 * 2 ^ (7 * k))) = ((U + c % 128 * 128 ^ k : Nat) : Int) := by
  have e1 : (2 : Nat) ^ (7 * k) = 128 ^ k := by rw [Nat.pow_mul]
  have e2 : ((c : Int) % 128 * 2 ^ (7 * k)) = ((c % 128 * 128 ^ k : Nat) : Int) := by
    rw [← e1]; simp [Int.natCast_mul, Int.natCast_pow]
  have e3 : IntKind.u64.wrap ((c % 128 * 128 ^ k : Nat) : Int) = ((c % 128 * 128 ^ k : Nat) : Int) := by
    rw [IntKind.wrap_u64]; omega
  rw [e2, e3, bits_or_u64_nat _ _ (by omega) (by omega)]
  congr 1
  rw [← e1]
  exact or_disjoint U (c % 128) (7 * k) (by rw [e1]; exact hU)
theorem pow128_le (k : Nat) (hk : k ≤ 8) (c : Nat) : c % 128 * 128 ^ k + 128 ^ k ≤ 18446744073709551615 := by
  have hp : (128 : Nat) ^ k ≤ 128 ^ 8 := Nat.pow_le_pow_right (by decide) hk
  have e8 : (128 : Nat) ^ 8 = 72057594037927936 := rfl
  rw [e8] at hp
  have : c % 128 * 128 ^ k ≤ 127 * 128 ^ k := Nat.mul_le_mul_right _ (by omega)
  omega
theorem pow128_9 (c : Nat) (hc : c ≤ 1) : c % 128 * 128 ^ 9 + 128 ^ 9 ≤ 18446744073709551616 := by
  have h : c = 0 ∨ c = 1 := by omega
  rcases h with rfl | rfl <;> decide +kernel

def GotN (w : World) (r : Int × Nat × Nat) (e : Ending) (w' : World) : Prop := e = .returned (.tuple #[.int .i64 r.1, .int .i64 (r.2.1 : Int), .int .i64 (r.2.2 : Int)]) ∧ w = w'

theorem got_eq {w : World} {r : Int × Nat × Nat} {a b k : Int} (h : a = b) (h1 : GotN w r (.returned (.tuple #[.int .i64 b, .int .i64 k, .int .i64 0])) w) : GotN w r (.returned (.tuple #[.int .i64 a, .int .i64 k, .int .i64 0])) w := by rw [h]; exact h1
set_option maxHeartbeats 2000000 in
theorem Get_any {w : World} (v : Value) (l : List Nat) (h : Rd w v l) (hb : ∀ c ∈ l, c < 256) (hl : l.length ≤ 9223372036854775807) (r : Int × Nat × Nat) (hr : r = get l) :
    Calls Try.prog 50 #[v] w (GotN w r) := by
  have h2 := h
  obtain ⟨_, a, cap, rfl, _, _⟩ := h
  have HR := Lib.hid hr
  clear hr
  go_enter Try.func50, Try.ntmps50
  go_wp2_with fail
  go_loop [5, 11] (fun u i => ∃ (k U : Nat), k ≤ l.length ∧ k ≤ 9 ∧ i = .int .i64 k ∧ u = .int .u64 U ∧ U < 128 ^ k ∧ get l = getGo (l.drop k) k U) (fun _ i => l.length - (intOf i).toNat)
  case atStart => exact ⟨0, 0, by omega, by omega, rfl, rfl, by simp, by simp [get]⟩
  case round =>
    obtain ⟨k, U, hk, hk9, rfl, rfl, hU, hE⟩ := hrel
    by_cases hlt : k < l.length
    · obtain ⟨sb0, so, cap3, he, _, hsb, hat⟩ := h2.at1 (by omega)
      simp only [Value.slice.injEq] at he
      obtain ⟨rfl, _, rfl⟩ := he
      have g4 := hat k hlt
      rw [bcs_at l k hlt] at g4
      have hc : l.getD k 0 < 256 := hb _ (by simp [List.getD_eq_getElem?_getD, hlt])
      have hd : l.drop k = l.getD k 0 :: l.drop (k + 1) := by rw [List.drop_eq_getElem_cons hlt]; simp [List.getD_eq_getElem?_getD, hlt]
      rw [hd] at hE
      have HE := Lib.hid hE
      have HU := Lib.hid hU
      clear hE hd hat h2 hb hU
      generalize l.getD k 0 = c at *
      unfold bc at g4
      have q0 : (k : Int) < l.length := by omega
      have ha := and8 c hc
      have hcase : (k = 9 ∧ 1 < c) ∨ (¬ (k = 9 ∧ 1 < c) ∧ 127 < c) ∨ (¬ (k = 9 ∧ 1 < c) ∧ c ≤ 127 ∧ 0 < k ∧ c = 0) ∨ (¬ (k = 9 ∧ 1 < c) ∧ c ≤ 127 ∧ ¬ (0 < k ∧ c = 0)) := by omega
      rcases hcase with ⟨rfl, h1⟩ | ⟨h9, h1⟩ | ⟨h9, h1, h3, h4⟩ | ⟨h9, h1, h3⟩
      · have q1 : (1 : Int) < c := by omega
        go_wp2_with fail
        go_ret3
        refine ⟨?_, rfl⟩
        rw [HR.out, HE.out]
        simp [getGo, h1]
      · have q1 : (127 : Int) < c := by omega
        have hk8 : k < 9 := by omega
        have q2 : ((k : Int) == 9) = false := by simp; omega
        go_wp2_with fail
        go_round
        case rel =>
          have hp := pow128_le k (by omega) c
          have hU := HU.out
          refine ⟨k + 1, U + c % 128 * 128 ^ k, by omega, by omega, by go_num, by rw [or_step U c k hU (by omega)], ?_, ?_⟩
          · rw [Nat.pow_succ]
            have : c % 128 * 128 ^ k ≤ 127 * 128 ^ k := Nat.mul_le_mul_right _ (by omega)
            omega
          · rw [HE.out]
            simp only [getGo, h9, if_false, h1, if_true]
        case measure => simp [intOf]; omega
      · have q5 : ((c : Int) == 0) = true := by simpa using h4
        have q3 : (0 : Int) < k := by omega
        have q6 : ¬ ((1 : Int) < c) := by omega
        have H4 := Lib.hid h4
        clear h4
        by_cases h99 : k = 9
        all_goals
          first
          | (have q2 : ((k : Int) == 9) = true := by simp; omega)
          | (have q2 : ((k : Int) == 9) = false := by simp; omega)
          have H99 := Lib.hid h99
          clear h99
          go_wp2_with fail
          go_ret3
          refine ⟨?_, rfl⟩
          rw [HR.out, HE.out]
          simp only [getGo, h9, if_false]
          rw [if_neg (by omega), if_pos ⟨h3, H4.out⟩]
          rfl
      · obtain ⟨U', hU'⟩ : ∃ U' : Nat, U' = U + c * 128 ^ k := ⟨_, rfl⟩
        have hlt64 : U' < 18446744073709551616 := by
          have hU := HU.out
          by_cases h99 : k = 9
          · subst h99
            have := pow128_9 c (by omega)
            rw [show c % 128 = c by omega] at this
            omega
          · have := pow128_le k (by omega) c
            rw [show c % 128 = c by omega] at this
            omega
        have hor := or_step U c k HU.out (by rw [show c % 128 = c by omega, ← hU']; exact hlt64)
        rw [show c % 128 = c by omega, ← hU'] at hor
        have HU' := Lib.hid hU'
        clear hU'
        have q6 : ¬ ((127 : Int) < c) := by omega
        have hfin : GotN w r (.returned (.tuple #[.int .i64 (unzz U'), .int .i64 ((k : Int) + 1), .int .i64 0])) w := by
          refine ⟨?_, rfl⟩
          rw [HR.out, HE.out]
          simp only [getGo, h9, if_false]
          rw [if_neg (by omega), if_neg h3, ← HU'.out]
          rfl
        have HF := Lib.hid hfin
        clear hfin
        have hand : bits .and .u64 (U' : Int) 1 = ((U' % 2 : Nat) : Int) := by
          rw [show (1 : Int) = ((1 : Nat) : Int) from rfl, bits_and_u64_nat _ _ hlt64 (by omega), Nat.and_one_is_mod]
        have hnot := not_i64 (U' / 2) (by omega)
        have hd2 : ((U' / 2 : Nat) : Int) = (U' : Int) / 2 := by omega
        rw [hd2] at hnot
        have hm2 : ((U' % 2 : Nat) : Int) = (U' : Int) % 2 := by omega
        rw [hm2] at hand
        clear hd2 hm2
        have hpar : ((U' : Int) % 2 == 1) = true ∨ ((U' : Int) % 2 == 1) = false := by
          cases ((U' : Int) % 2 == 1) <;> simp
        have hk3 : (((k : Int) == 9) = true ∧ decide (0 < k) = true ∧ ((c : Int) == 0) = false ∧ ¬ ((1 : Int) < c)) ∨ (((k : Int) == 9) = false ∧ decide (0 < k) = true ∧ ((c : Int) == 0) = false) ∨ (((k : Int) == 9) = false ∧ decide (0 < k) = false) := by
          simp; omega
        have H3 := Lib.hid h3
        have H9 := Lib.hid h9
        clear h3 h9
        rcases hk3 with ⟨a1, a2, a3, a4⟩ | ⟨a1, a2, a3⟩ | ⟨a1, a2⟩
        all_goals
          rcases hpar with hp | hp
          all_goals
            go_wp2_with fail
            go_ret3
            have hF := HF.out
            unfold unzz at hF
            simp only [beq_iff_eq, beq_eq_false_iff_ne] at hp
            first
            | (have hp' : U' % 2 = 1 := by omega
               rw [if_pos hp'] at hF
               refine got_eq ?_ hF
               omega)
            | (have hp' : ¬ U' % 2 = 1 := by omega
               rw [if_neg hp'] at hF
               refine got_eq ?_ hF
               omega)
    · go_wp2_with fail
      go_ret3
      obtain rfl : k = l.length := by omega
      refine ⟨?_, rfl⟩
      rw [HR.out, hE, List.drop_length]
      simp [getGo]
end Go.Proofs.Ytonghelcfbjknaa
