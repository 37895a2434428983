/- The reference's EqMarks; slices.Equal of entries. -/
import Derived.Test.YtonghelcfbjknaaMsgEq
namespace Go.Proofs.Ytonghelcfbjknaa
open Go.ChangeShapes Go.WideShapes Go.ChangeAt Go.RowKit
set_option linter.unusedVariables false
set_option linter.unusedSimpArgs false

set_option maxHeartbeats 4000000 in
theorem EqMarks_any {w : World} (a b : Value) (la lb : List Mk) (ha : KRd w a la) (hb : KRd w b lb) (hla : la.length ≤ 1000000) (hlb : lb.length ≤ 1000000) (r : Bool) (hr : r = decide (la = lb)) :
    Calls Try.prog 38 #[a, b] w fun e w' => e = .returned (.bool r) ∧ Keep [] w w' := by
  have HR := Lib.hid hr
  clear hr
  obtain ⟨_, a1, c1, rfl, _, _⟩ := id ha
  obtain ⟨_, a2, c2, rfl, _, _⟩ := id hb
  by_cases hlen : la.length = lb.length
  case neg =>
    have q : ((la.length : Int) != (lb.length : Int)) = true := by simpa using (by omega : ¬ (la.length : Int) = lb.length)
    have hf : r = false := by rw [HR.out]; exact decide_eq_false (fun e => hlen (by rw [e]))
    have HF := Lib.hid hf
    clear hf
    go_enter Try.func38, Try.ntmps38
    go_wp2_with fail
    go_ret
    exact ⟨by rw [HF.out]; rfl, Keep.refl _ _⟩
  have q : ((la.length : Int) != (lb.length : Int)) = false := by simpa using (by omega : (la.length : Int) = lb.length)
  go_enter Try.func38, Try.ntmps38
  go_wp2_with fail
  go_loopw [5] (fun i wr => Keep [] w wr ∧ ∃ j : Nat, i = .int .i64 j ∧ j ≤ la.length ∧ ∀ k, k < j → la.getD k mk0 = lb.getD k mk0) (fun i _ => la.length - (intOf i).toNat)
  case atStart => exact ⟨Keep.refl _ _, 0, rfl, by omega, fun k hk => absurd hk (by omega)⟩
  case round =>
    obtain ⟨hK, j, rfl, hj, hall⟩ := hrel
    by_cases hlt : j < la.length
    · have q0 : (j : Int) < la.length := by omega
      have q1 : (j : Int) < lb.length := by omega
      obtain ⟨sa, so, ca, he, hat⟩ := mks_at (ha.keep hK (by simp)) (by omega)
      simp only [Value.slice.injEq] at he
      obtain ⟨rfl, _, rfl⟩ := he
      obtain ⟨sb, so2, cb, he, hat2⟩ := mks_at (hb.keep hK (by simp)) (by omega)
      simp only [Value.slice.injEq] at he
      obtain ⟨rfl, _, rfl⟩ := he
      obtain ⟨d1, d2⟩ := hat j hlt
      obtain ⟨e1, e2⟩ := hat2 j (by omega)
      have HJ := Lib.hid (show (la.getD j mk0 = lb.getD j mk0 → ∀ k, k < j + 1 → la.getD k mk0 = lb.getD k mk0) from fun e k hk => by
        by_cases hkj : k < j
        · exact hall k hkj
        · obtain rfl : k = j := by omega
          exact e)
      have HNE := Lib.hid (show (¬ la.getD j mk0 = lb.getD j mk0 → ¬ la = lb) from fun e h => e (by rw [h]))
      clear hat hat2 hall
      generalize la.getD j mk0 = x at *
      generalize lb.getD j mk0 = y at *
      obtain ⟨xs, xk⟩ := x
      obtain ⟨ys, yk⟩ := y
      simp only at d1 d2 e1 e2
      by_cases z1 : xs = ys
      case neg =>
        have q2 : (xs != ys) = true := by simpa using z1
        have HF : Hid (r = false) := Lib.hid (by rw [HR.out]; exact decide_eq_false (HNE.out (fun e => z1 (congrArg Prod.fst e))))
        go_wp2_with fail
        go_quiet (fail)
        go_wp2_with fail
        go_ret
        exact ⟨by rw [HF.out]; rfl, keepN hK nq⟩
      have q2 : (xs != ys) = false := by simpa using z1
      by_cases z2 : xk.toList = yk.toList
      case neg =>
        have q3 : (xk.toList != yk.toList) = true := by simpa using z2
        have q4 : (xk.toList == yk.toList) = false := by simpa using z2
        have HF : Hid (r = false) := Lib.hid (by rw [HR.out]; exact decide_eq_false (HNE.out (fun e => z2 (congrArg (fun p => p.2.toList) e))))
        go_wp2_with fail
        go_quiet (fail)
        go_wp2_with fail
        go_ret
        exact ⟨by rw [HF.out]; rfl, keepN hK nq⟩
      have HX : Hid ((xs, xk) = (ys, yk)) := Lib.hid (by rw [z1, tl_inj z2])
      have q3 : (xk.toList != yk.toList) = false := by simpa using z2
      have q4 : (xk.toList == yk.toList) = true := by simpa using z2
      go_wp2_with fail
      go_quiet (fail)
      go_wp2_with fail
      go_roundw
      case rel => exact ⟨keepN hK nq, j + 1, by go_num, by omega, HJ.out HX.out⟩
      case measure => simp [intOf]; omega
    · obtain rfl : j = la.length := by omega
      have HF : Hid (r = true) := Lib.hid (by rw [HR.out]; exact decide_eq_true (mks_ext hlen hall))
      go_wp2_with fail
      go_ret
      exact ⟨by rw [HF.out]; rfl, hK⟩
theorem its_ext {l k : List It} (hl : l.length = k.length) (h : ∀ i, i < l.length → l.getD i it0 = k.getD i it0) : l = k := by
  apply List.ext_getElem hl
  intro i h1 h2
  have := h i h1
  rw [List.getD_eq_getElem?_getD, List.getD_eq_getElem?_getD, List.getElem?_eq_getElem h1, List.getElem?_eq_getElem h2] at this
  exact this
set_option maxHeartbeats 4000000 in
theorem slIts_any {w : World} (a b : Value) (la lb : List It) (ha : IRd w a la) (hb : IRd w b lb) (hla : la.length ≤ 1000000) (hlb : lb.length ≤ 1000000) (r : Bool) (hr : r = decide (la = lb)) :
    Calls Try.prog 40 #[a, b] w fun e w' => e = .returned (.bool r) ∧ Keep [] w w' := by
  have HR := Lib.hid hr
  clear hr
  obtain ⟨_, a1, c1, rfl, _, _⟩ := id ha
  obtain ⟨_, a2, c2, rfl, _, _⟩ := id hb
  by_cases hlen : la.length = lb.length
  case neg =>
    have q : ((la.length : Int) != (lb.length : Int)) = true := by simpa using (by omega : ¬ (la.length : Int) = lb.length)
    have hf : r = false := by rw [HR.out]; exact decide_eq_false (fun e => hlen (by rw [e]))
    have HF := Lib.hid hf
    clear hf
    go_enter Try.func40, Try.ntmps40
    go_wp2_with fail
    go_ret
    exact ⟨by rw [HF.out]; rfl, Keep.refl _ _⟩
  have q : ((la.length : Int) != (lb.length : Int)) = false := by simpa using (by omega : (la.length : Int) = lb.length)
  go_enter Try.func40, Try.ntmps40
  go_wp2_with fail
  go_loopw [13] (fun i wr => Keep [] w wr ∧ ∃ j : Nat, i = .int .i64 j ∧ j ≤ la.length ∧ ∀ k, k < j → la.getD k it0 = lb.getD k it0) (fun i _ => la.length - (intOf i).toNat)
  case atStart => exact ⟨Keep.refl _ _, 0, rfl, by omega, fun k hk => absurd hk (by omega)⟩
  case round =>
    obtain ⟨hK, j, rfl, hj, hall⟩ := hrel
    by_cases hlt : j < la.length
    · have q0 : (j : Int) < la.length := by omega
      have q1 : (j : Int) < lb.length := by omega
      obtain ⟨sa, so, ca, he, _, _, d1, d2, d3, d4⟩ := its_at (ha.keep hK (by simp)) j (la.getD j it0) (by rw [List.getD_eq_getElem?_getD, List.getElem?_eq_getElem hlt]; rfl)
      simp only [Value.slice.injEq] at he
      obtain ⟨rfl, _, rfl⟩ := he
      obtain ⟨sb, so2, cb, he, _, _, e1, e2, e3, e4⟩ := its_at (hb.keep hK (by simp)) j (lb.getD j it0) (by rw [List.getD_eq_getElem?_getD, List.getElem?_eq_getElem (by omega)]; rfl)
      simp only [Value.slice.injEq] at he
      obtain ⟨rfl, _, rfl⟩ := he
      have HJ := Lib.hid (show (la.getD j it0 = lb.getD j it0 → ∀ k, k < j + 1 → la.getD k it0 = lb.getD k it0) from fun e k hk => by
        by_cases hkj : k < j
        · exact hall k hkj
        · obtain rfl : k = j := by omega
          exact e)
      have HNE := Lib.hid (show (¬ la.getD j it0 = lb.getD j it0 → ¬ la = lb) from fun e h => e (by rw [h]))
      clear hall
      generalize la.getD j it0 = x at *
      generalize lb.getD j it0 = y at *
      obtain ⟨xk, xv, xn, xg⟩ := x
      obtain ⟨yk, yv, yn, yg⟩ := y
      simp only at d1 d2 d3 d4 e1 e2 e3 e4
      by_cases z1 : xk.toList = yk.toList
      case neg =>
        have HF : Hid (r = false) := Lib.hid (by rw [HR.out]; exact decide_eq_false (HNE.out (fun e => z1 (congrArg (fun p : It => p.1.toList) e))))
        go_wp2_with fail
        go_quiet (fail)
        go_wp2_with fail
        go_ret
        exact ⟨by rw [HF.out]; rfl, keepN hK nq⟩
      by_cases z2 : xv.toList = yv.toList
      case neg =>
        have HF : Hid (r = false) := Lib.hid (by rw [HR.out]; exact decide_eq_false (HNE.out (fun e => z2 (congrArg (fun p : It => p.2.1.toList) e))))
        go_wp2_with fail
        go_quiet (fail)
        go_wp2_with fail
        go_ret
        exact ⟨by rw [HF.out]; rfl, keepN hK nq⟩
      by_cases z3 : xn = yn
      case neg =>
        have HF : Hid (r = false) := Lib.hid (by rw [HR.out]; exact decide_eq_false (HNE.out (fun e => z3 (congrArg (fun p : It => p.2.2.1) e))))
        go_wp2_with fail
        go_quiet (fail)
        go_wp2_with fail
        go_ret
        exact ⟨by rw [HF.out]; rfl, keepN hK nq⟩
      by_cases z4 : xg = yg
      case neg =>
        have HF : Hid (r = false) := Lib.hid (by rw [HR.out]; exact decide_eq_false (HNE.out (fun e => z4 (congrArg (fun p : It => p.2.2.2) e))))
        go_wp2_with fail
        go_quiet (fail)
        go_wp2_with fail
        go_ret
        exact ⟨by rw [HF.out]; rfl, keepN hK nq⟩
      have HX : Hid ((xk, xv, xn, xg) = (yk, yv, yn, yg)) := Lib.hid (by rw [tl_inj z1, tl_inj z2, z3, z4])
      go_wp2_with fail
      go_quiet (fail)
      go_wp2_with fail
      go_roundw
      case rel => exact ⟨keepN hK nq, j + 1, by go_num, by omega, HJ.out HX.out⟩
      case measure => simp [intOf]; omega
    · obtain rfl : j = la.length := by omega
      have HF : Hid (r = true) := Lib.hid (by rw [HR.out]; exact decide_eq_true (its_ext hlen hall))
      go_wp2_with fail
      go_ret
      exact ⟨by rw [HF.out]; rfl, hK⟩
end Go.Proofs.Ytonghelcfbjknaa
