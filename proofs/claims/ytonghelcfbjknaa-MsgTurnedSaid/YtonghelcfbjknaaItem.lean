/- Entries: which may be, until when they are live, which are the same. -/
import Derived.Test.YtonghelcfbjknaaRefPut
import Derived.Laws.Closers25b
import Derived.Deep.RegionWith
namespace Go.Proofs.Ytonghelcfbjknaa
open Go.ChangeShapes Go.WideShapes Go.ChangeAt Go.RowKit
set_option linter.unusedVariables false
set_option linter.unusedSimpArgs false

abbrev itV (k v : ByteArray) (n : Int) (g : Bool) : Value := .agg #[.string k, .string v, .int .i64 n, .bool g]
def itC (k v : ByteArray) (n : Int) (g : Bool) : List Value := [.string k, .string v, .int .i64 n, .bool g]
def itKey (k : ByteArray) : Bool := decide (1 ≤ k.size) && decide (k.size ≤ 40)
def itMay (k v : ByteArray) (n : Int) (g : Bool) : Bool :=
  itKey k && (decide (v.size ≤ 200) && (decide (0 ≤ n) && (decide (n ≤ 1099511627776) && (!g || (decide (v.size = 0) && decide (n = 0))))))
def itLive (k v : ByteArray) (n : Int) (g : Bool) (now : Int) : Bool := itMay k v n g && (!g && (decide (n = 0) || decide (now < n)))
theorem str_none (s : ByteArray) : (s = { data := #[] }) ↔ s.size = 0 := by
  constructor
  · rintro rfl; rfl
  · intro h
    apply ByteArray.ext
    exact Array.eq_empty_of_size_eq_zero h
theorem str_nil {s : ByteArray} : s.toList = [] ↔ s.size = 0 := by
  rw [toList_nil_iff_emptyBytes, ← str_none]
  rfl
theorem tl_inj {s t : ByteArray} (h : s.toList = t.toList) : s = t := by
  rw [ByteArray.toList_eq, ByteArray.toList_eq] at h
  apply ByteArray.ext
  exact Array.toList_inj.1 h
theorem Key_any {w : World} (s : ByteArray) (hs : s.size ≤ 9223372036854775807) (r : Bool) (hr : r = itKey s) : Calls Try.prog 43 #[.string s] w fun e w' => e = .returned (.bool r) ∧ w = w' := by
  have HR := Lib.hid hr
  clear hr
  by_cases h0 : s.size = 0
  · obtain rfl := (str_none s).2 h0
    go_enter Try.func43, Try.ntmps43
    go_wp2_with fail
    go_ret
    exact ⟨by rw [HR.out]; rfl, rfl⟩
  · have e1 : s.toList.isEmpty = false := by
      cases h : s.toList with
      | nil => exact absurd (str_nil.1 h) h0
      | cons _ _ => rfl
    have h1 : decide (1 ≤ s.size) = true := decide_eq_true (by omega)
    go_enter Try.func43, Try.ntmps43
    go_wp2_with fail
    go_ret
    refine ⟨?_, rfl⟩
    have e3 : decide ((s.size : Int) ≤ 40) = decide (s.size ≤ 40) := by apply decide_eq_decide.2; omega
    rw [HR.out]; unfold itKey; rw [h1, Bool.true_and, ← e3]
    rfl
theorem RefKey_any {w : World} (s : ByteArray) (hs : s.size ≤ 9223372036854775807) (r : Bool) (hr : r = itKey s) : Calls Try.prog 28 #[.string s] w fun e w' => e = .returned (.bool r) ∧ w = w' := by
  have HR := Lib.hid hr
  clear hr
  by_cases h0 : s.size = 0
  · obtain rfl := (str_none s).2 h0
    go_enter Try.func28, Try.ntmps28
    go_wp2_with fail
    go_ret
    exact ⟨by rw [HR.out]; rfl, rfl⟩
  · have h1 : decide (1 ≤ s.size) = true := decide_eq_true (by omega)
    have h2 : decide ((1 : Int) ≤ s.size) = true := decide_eq_true (by omega)
    go_enter Try.func28, Try.ntmps28
    go_wp2_with fail
    go_ret
    refine ⟨?_, rfl⟩
    have e3 : decide ((s.size : Int) ≤ 40) = decide (s.size ≤ 40) := by apply decide_eq_decide.2; omega
    rw [HR.out]; unfold itKey; rw [h1, Bool.true_and, ← e3]
    rfl

set_option maxHeartbeats 4000000 in
theorem May_any {w : World} (k v : ByteArray) (n : Int) (g : Bool) (hk : k.size ≤ 9223372036854775807) (hv : v.size ≤ 9223372036854775807) (r : Bool) (hr : r = itMay k v n g) :
    Calls Try.prog 22 #[itV k v n g] w fun e w' => e = .returned (.bool r) ∧ Keep [] w w' := by
  have HR := Lib.hid hr
  clear hr
  go_enter Try.func22, Try.ntmps22
  go_wp2_with fail
  refine (Key_any k hk _ rfl).mono ?_
  rintro e w1 ⟨rfl, rfl⟩
  cases hk1 : itKey k
  · go_wp2_with fail
    go_ret
    exact ⟨by rw [HR.out]; unfold itMay; rw [hk1]; rfl, (Keep.refl _ _).alloc _⟩
  by_cases h1 : v.size ≤ 200
  case neg =>
    have q1 : decide ((200 : Int) < v.size) = true := decide_eq_true (by omega)
    go_wp2_with fail
    go_ret
    exact ⟨by rw [HR.out]; unfold itMay; rw [decide_eq_false (show ¬ v.size ≤ 200 by omega)]; simp, (Keep.refl _ _).alloc _⟩
  have q1 : decide ((200 : Int) < v.size) = false := decide_eq_false (by omega)
  by_cases h2 : 0 ≤ n
  case neg =>
    have q2 : decide (n < 0) = true := decide_eq_true (by omega)
    go_wp2_with fail
    go_ret
    exact ⟨by rw [HR.out]; unfold itMay; rw [decide_eq_false (show ¬ 0 ≤ n by omega)]; simp, (Keep.refl _ _).alloc _⟩
  have q2 : decide (n < 0) = false := decide_eq_false (by omega)
  by_cases h3 : n ≤ 1099511627776
  case neg =>
    have q3 : decide (1099511627776 < n) = true := decide_eq_true (by omega)
    go_wp2_with fail
    go_ret
    exact ⟨by rw [HR.out]; unfold itMay; rw [decide_eq_false (show ¬ n ≤ 1099511627776 by omega)]; simp, (Keep.refl _ _).alloc _⟩
  have q3 : decide (1099511627776 < n) = false := decide_eq_false (by omega)
  have HR2 : r = (!g || (decide (v.size = 0) && decide (n = 0))) := by
    rw [HR.out]; unfold itMay; rw [hk1, decide_eq_true h1, decide_eq_true h2, decide_eq_true h3]; simp
  have HR2 := Lib.hid HR2
  cases g
  · go_wp2_with fail
    go_ret
    exact ⟨by rw [HR2.out]; rfl, (Keep.refl _ _).alloc _⟩
  by_cases h4 : v.size = 0
  case neg =>
    have q4 : ¬ v.toList = [] := fun e => h4 (str_nil.1 e)
    go_wp2_with fail
    go_ret
    exact ⟨by rw [HR2.out]; simp [h4], (Keep.refl _ _).alloc _⟩
  obtain rfl := (str_none v).2 h4
  by_cases h5 : n = 0
  · subst h5
    go_wp2_with fail
    go_ret
    exact ⟨by rw [HR2.out]; rfl, (Keep.refl _ _).alloc _⟩
  · have q5 : (n == 0) = false := by simpa using h5
    go_wp2_with fail
    go_ret
    exact ⟨by rw [HR2.out]; simp [h5], (Keep.refl _ _).alloc _⟩
set_option maxHeartbeats 4000000 in
theorem RefMay_any {w : World} (k v : ByteArray) (n : Int) (g : Bool) (hk : k.size ≤ 9223372036854775807) (hv : v.size ≤ 9223372036854775807) (r : Bool) (hr : r = itMay k v n g) :
    Calls Try.prog 26 #[itV k v n g] w fun e w' => e = .returned (.bool r) ∧ Keep [] w w' := by
  have HR := Lib.hid hr
  clear hr
  go_enter Try.func26, Try.ntmps26
  go_wp2_with fail
  refine (RefKey_any k hk _ rfl).mono ?_
  rintro e w1 ⟨rfl, rfl⟩
  cases hk1 : itKey k
  · go_wp2_with fail
    go_ret
    exact ⟨by rw [HR.out]; unfold itMay; rw [hk1]; rfl, (Keep.refl _ _).alloc _⟩
  by_cases h1 : v.size ≤ 200
  case neg =>
    have q1 : decide ((v.size : Int) ≤ 200) = false := decide_eq_false (by omega)
    go_wp2_with fail
    go_ret
    exact ⟨by rw [HR.out]; unfold itMay; rw [decide_eq_false (show ¬ v.size ≤ 200 by omega)]; simp, (Keep.refl _ _).alloc _⟩
  have q1 : decide ((v.size : Int) ≤ 200) = true := decide_eq_true (by omega)
  by_cases h2 : 0 ≤ n
  case neg =>
    have q2 : decide (0 ≤ n) = false := decide_eq_false (by omega)
    go_wp2_with fail
    go_ret
    exact ⟨by rw [HR.out]; unfold itMay; rw [decide_eq_false (show ¬ 0 ≤ n by omega)]; simp, (Keep.refl _ _).alloc _⟩
  have q2 : decide (0 ≤ n) = true := decide_eq_true (by omega)
  by_cases h3 : n ≤ 1099511627776
  case neg =>
    have q3 : decide (n ≤ 1099511627776) = false := decide_eq_false (by omega)
    go_wp2_with fail
    go_ret
    exact ⟨by rw [HR.out]; unfold itMay; rw [decide_eq_false (show ¬ n ≤ 1099511627776 by omega)]; simp, (Keep.refl _ _).alloc _⟩
  have q3 : decide (n ≤ 1099511627776) = true := decide_eq_true (by omega)
  have HR2 : r = (!g || (decide (v.size = 0) && decide (n = 0))) := by
    rw [HR.out]; unfold itMay; rw [hk1, decide_eq_true h1, decide_eq_true h2, decide_eq_true h3]; simp
  have HR2 := Lib.hid HR2
  cases g
  · go_wp2_with fail
    go_ret
    exact ⟨by rw [HR2.out]; rfl, (Keep.refl _ _).alloc _⟩
  by_cases h4 : v.size = 0
  case neg =>
    have q4 : ¬ v.toList = [] := fun e => h4 (str_nil.1 e)
    go_wp2_with fail
    go_ret
    exact ⟨by rw [HR2.out]; simp [h4], (Keep.refl _ _).alloc _⟩
  obtain rfl := (str_none v).2 h4
  by_cases h5 : n = 0
  · subst h5
    go_wp2_with fail
    go_ret
    exact ⟨by rw [HR2.out]; rfl, (Keep.refl _ _).alloc _⟩
  · have q5 : (n == 0) = false := by simpa using h5
    go_wp2_with fail
    go_ret
    exact ⟨by rw [HR2.out]; simp [h5], (Keep.refl _ _).alloc _⟩

def itEq (k v : ByteArray) (n : Int) (g : Bool) (k' v' : ByteArray) (n' : Int) (g' : Bool) : Bool := decide (k = k') && (decide (v = v') && (decide (n = n') && decide (g = g')))
set_option maxHeartbeats 4000000 in
theorem EqItem_any {w : World} (k v : ByteArray) (n : Int) (g : Bool) (k' v' : ByteArray) (n' : Int) (g' : Bool) (r : Bool) (hr : r = itEq k v n g k' v' n' g') :
    Calls Try.prog 25 #[itV k v n g, itV k' v' n' g'] w fun e w' => e = .returned (.bool r) ∧ Keep [] w w' := by
  have HR := Lib.hid hr
  clear hr
  go_enter Try.func25, Try.ntmps25
  by_cases h1 : k = k'
  case neg =>
    have q1 : ¬ k.toList = k'.toList := fun e => h1 (tl_inj e)
    go_wp2_with fail
    go_ret
    exact ⟨by rw [HR.out]; unfold itEq; rw [decide_eq_false h1]; rfl, ((Keep.refl _ _).alloc _).alloc _⟩
  subst h1
  by_cases h2 : v = v'
  case neg =>
    have q1 : ¬ v.toList = v'.toList := fun e => h2 (tl_inj e)
    go_wp2_with fail
    go_ret
    exact ⟨by rw [HR.out]; unfold itEq; rw [decide_eq_false h2]; simp, ((Keep.refl _ _).alloc _).alloc _⟩
  subst h2
  by_cases h3 : n = n'
  case neg =>
    have q1 : (n == n') = false := by simpa using h3
    go_wp2_with fail
    go_ret
    exact ⟨by rw [HR.out]; unfold itEq; rw [decide_eq_false h3]; simp, ((Keep.refl _ _).alloc _).alloc _⟩
  subst h3
  go_wp2_with fail
  go_ret
  exact ⟨by rw [HR.out]; unfold itEq; cases g <;> cases g' <;> simp, ((Keep.refl _ _).alloc _).alloc _⟩

end Go.Proofs.Ytonghelcfbjknaa
