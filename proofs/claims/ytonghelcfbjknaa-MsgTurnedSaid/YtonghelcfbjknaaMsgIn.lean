/- Package msg: in; package points: May. -/
import Derived.Test.YtonghelcfbjknaaMsgFields
namespace Go.Proofs.Ytonghelcfbjknaa
open Go.ChangeShapes Go.WideShapes Go.ChangeAt Go.RowKit
set_option linter.unusedVariables false
set_option linter.unusedSimpArgs false

theorem inB_false {g : Int} {l : List Int} {j : Nat} (hj : j < l.length) (h : ¬ (0 ≤ l.getD j 0 ∧ l.getD j 0 ≤ g)) : inB g l = false := by
  unfold inB
  rw [List.all_eq_false]
  refine ⟨l[j], List.getElem_mem hj, ?_⟩
  rw [List.getD_eq_getElem?_getD, List.getElem?_eq_getElem hj, Option.getD_some] at h
  simpa using h
theorem inB_true {g : Int} {l : List Int} (h : ∀ j, j < l.length → 0 ≤ l.getD j 0 ∧ l.getD j 0 ≤ g) : inB g l = true := by
  unfold inB
  rw [List.all_eq_true]
  intro x hx
  obtain ⟨k, hk, rfl⟩ := List.getElem_of_mem hx
  have h1 := h k hk
  rw [List.getD_eq_getElem?_getD, List.getElem?_eq_getElem hk, Option.getD_some] at h1
  simpa using h1
set_option maxHeartbeats 2000000 in
theorem in_any {w : World} (g : Int) (nsv : Value) (l : List Int) (h : Rv w 1 nsv l.length (ints l)) (hl : l.length ≤ 1000000) (r : Bool) (hr : r = inB g l) :
    Calls Try.prog 21 #[.int .i64 g, nsv] w fun e w' => e = .returned (.bool r) ∧ w = w' := by
  have HR := Lib.hid hr
  clear hr
  obtain ⟨_, a, cap, rfl, _, _⟩ := id h
  go_enter Try.func21, Try.ntmps21
  go_wp2_with fail
  go_loopw [9] (fun i wr => wr = w ∧ ∃ j : Nat, i = .int .i64 j ∧ j ≤ l.length ∧ ∀ k, k < j → 0 ≤ l.getD k 0 ∧ l.getD k 0 ≤ g) (fun i _ => l.length - (intOf i).toNat)
  case atStart => exact ⟨rfl, 0, rfl, by omega, fun k hk => absurd hk (by omega)⟩
  case round =>
    obtain ⟨hw, j, rfl, hj, hall⟩ := hrel
    subst hw
    by_cases hlt : j < l.length
    · have q0 : (j : Int) < l.length := by omega
      obtain ⟨sb, so, c', he, _, _, hat⟩ := h.at1 (by omega)
      simp only [Value.slice.injEq] at he
      obtain ⟨rfl, _, rfl⟩ := he
      have hcell := hat j hlt
      rw [ints_at _ _ hlt] at hcell
      have HX := Lib.hid (show l.getD j 0 = l.getD j 0 from rfl)
      have hbad := inB_false (g := g) hlt
      have hgood : 0 ≤ l.getD j 0 → l.getD j 0 ≤ g → ∀ k, k < j + 1 → 0 ≤ l.getD k 0 ∧ l.getD k 0 ≤ g := fun a b k hk => by
        by_cases hkj : k < j
        · exact hall k hkj
        · obtain rfl : k = j := by omega
          exact ⟨a, b⟩
      have HB := Lib.hid hbad
      have HG := Lib.hid hgood
      clear hbad hgood hall hat HX
      generalize l.getD j 0 = x at *
      by_cases h1 : x < 0
      · have q1 : decide (x < 0) = true := decide_eq_true h1
        go_wp2_with fail
        go_ret
        exact ⟨by rw [HR.out, HB.out (by omega)]; rfl, rfl⟩
      · have q1 : decide (x < 0) = false := decide_eq_false h1
        by_cases h2 : g < x
        · have q2 : decide (g < x) = true := decide_eq_true h2
          go_wp2_with fail
          go_ret
          exact ⟨by rw [HR.out, HB.out (by omega)]; rfl, rfl⟩
        · have q2 : decide (g < x) = false := decide_eq_false h2
          go_wp2_with fail
          go_roundw
          case rel => exact ⟨by trivial, j + 1, by go_num, by omega, HG.out (by omega) (by omega)⟩
          case measure => simp [intOf]; omega
    · obtain rfl : j = l.length := by omega
      go_wp2_with fail
      go_ret
      exact ⟨by rw [HR.out, inB_true hall]; rfl, rfl⟩
theorem nodesOk_false {l : List Int} {j : Nat} (hj : j < l.length) (h : ¬ nodeAt l j) : nodesOk l = false := by
  unfold nodesOk
  have : ¬ ∀ j, j < l.length → nodeAt l j := fun hh => h (hh j hj)
  rw [decide_eq_false this, Bool.and_false]
theorem nodesOk_true {l : List Int} (hl : 0 < l.length) (h : ∀ j, j < l.length → nodeAt l j) : nodesOk l = true := by
  unfold nodesOk
  rw [decide_eq_true hl, decide_eq_true h]; rfl
theorem nodesOk_nil {l : List Int} (hl : l.length = 0) : nodesOk l = false := by
  unfold nodesOk
  rw [decide_eq_false (by omega)]; rfl
set_option maxHeartbeats 4000000 in
theorem ptsMay_any {w : World} (nsv : Value) (l : List Int) (h : Rv w 1 nsv l.length (ints l)) (hl : l.length ≤ 9223372036854775807) (r : Bool) (hr : r = nodesOk l) :
    Calls Try.prog 44 #[nsv] w fun e w' => e = .returned (.bool r) ∧ w = w' := by
  have HR := Lib.hid hr
  clear hr
  obtain ⟨_, a, cap, rfl, _, _⟩ := id h
  go_enter Try.func44, Try.ntmps44
  go_wp2_with fail
  go_loopw [7] (fun i wr => wr = w ∧ ∃ j : Nat, i = .int .i64 j ∧ j ≤ l.length ∧ ∀ k, k < j → nodeAt l k) (fun i _ => l.length - (intOf i).toNat)
  case atStart => exact ⟨rfl, 0, rfl, by omega, fun k hk => absurd hk (by omega)⟩
  case round =>
    obtain ⟨hw, j, rfl, hj, hall⟩ := hrel
    subst hw
    by_cases hlt : j < l.length
    · have q0 : (j : Int) < l.length := by omega
      obtain ⟨sb, so, c', he, _, _, hat⟩ := h.at1 (by omega)
      simp only [Value.slice.injEq] at he
      obtain ⟨rfl, _, rfl⟩ := he
      have hcell := hat j hlt
      rw [ints_at _ _ hlt] at hcell
      have HB := Lib.hid (nodesOk_false hlt)
      have HA := Lib.hid hall
      have HN := Lib.hid (show nodeAt l j ↔ 1 ≤ l.getD j 0 ∧ l.getD j 0 ≤ 5 ∧ (0 < j → l.getD (j - 1) 0 < l.getD j 0) from Iff.rfl)
      by_cases hj0 : j = 0
      · subst hj0
        clear hall hat
        simp only [Nat.add_zero] at hcell
        generalize l.getD 0 0 = x at *
        by_cases h1 : x < 1
        · have q1 : decide (x < 1) = true := decide_eq_true h1
          go_wp2_with fail
          go_ret
          exact ⟨by rw [HR.out, HB.out (by rw [HN.out]; omega)]; rfl, rfl⟩
        · have q1 : decide (x < 1) = false := decide_eq_false h1
          by_cases h2 : 5 < x
          · have q2 : decide (5 < x) = true := decide_eq_true h2
            go_wp2_with fail
            go_ret
            exact ⟨by rw [HR.out, HB.out (by rw [HN.out]; omega)]; rfl, rfl⟩
          · have q2 : decide (5 < x) = false := decide_eq_false h2
            go_wp2_with fail
            go_roundw
            case rel =>
              refine ⟨by trivial, 1, by first | rfl | go_num, by omega, fun k hk => ?_⟩
              obtain rfl : k = 0 := by omega
              exact HN.out.2 ⟨by omega, by omega, fun h => absurd h (by omega)⟩
            case measure => simp [intOf]; omega
      · have hcell' := hat (j - 1) (by omega)
        rw [ints_at _ _ (by omega)] at hcell'
        have q3 : decide ((j : Int) > 0) = true := decide_eq_true (by omega)
        have q4 : IntKind.i64.wrap ((j : Int) - 1) = ((j - 1 : Nat) : Int) := by rw [IntKind.wrap_i64]; omega
        have q5 : ((j - 1 : Nat) : Int) < l.length := by omega
        clear hall hat
        generalize l.getD j 0 = x at *
        generalize l.getD (j - 1) 0 = y at *
        by_cases h1 : x < 1
        · have q1 : decide (x < 1) = true := decide_eq_true h1
          go_wp2_with fail
          go_ret
          exact ⟨by rw [HR.out, HB.out (by rw [HN.out]; omega)]; rfl, rfl⟩
        · have q1 : decide (x < 1) = false := decide_eq_false h1
          by_cases h2 : 5 < x
          · have q2 : decide (5 < x) = true := decide_eq_true h2
            go_wp2_with fail
            go_ret
            exact ⟨by rw [HR.out, HB.out (by rw [HN.out]; omega)]; rfl, rfl⟩
          · have q2 : decide (5 < x) = false := decide_eq_false h2
            by_cases h3 : x ≤ y
            · have q6 : decide (x ≤ y) = true := decide_eq_true h3
              go_wp2_with fail
              go_ret
              exact ⟨by rw [HR.out, HB.out (by rw [HN.out]; omega)]; rfl, rfl⟩
            · have q6 : decide (x ≤ y) = false := decide_eq_false h3
              go_wp2_with fail
              go_roundw
              case rel =>
                refine ⟨by trivial, j + 1, by go_num, by omega, fun k hk => ?_⟩
                by_cases hkj : k < j
                · exact HA.out k hkj
                · obtain rfl : k = j := by omega
                  exact HN.out.2 ⟨by omega, by omega, fun h => by omega⟩
              case measure => simp [intOf]; omega
    · obtain rfl : j = l.length := by omega
      by_cases h0 : l.length = 0
      · have q0 : decide (0 < (l.length : Int)) = false := decide_eq_false (by omega)
        go_wp2_with fail
        go_ret
        exact ⟨by rw [HR.out, nodesOk_nil h0]; simp [h0], rfl⟩
      · have q0 : decide (0 < (l.length : Int)) = true := decide_eq_true (by omega)
        go_wp2_with fail
        go_ret
        exact ⟨by rw [HR.out, nodesOk_true (by omega) hall]; simp; omega, rfl⟩
end Go.Proofs.Ytonghelcfbjknaa
