/- The laws of metas: may, eq, begun. -/
import Derived.Test.YtnnaleoigiaboaaMeta4
namespace Go.Proofs.Ytnnaleoigiaboaa
open Go.ChangeShapes Go.WideShapes Go.ChangeAt Go.RowKit
set_option linter.unusedVariables false
set_option linter.unusedSimpArgs false

set_option maxRecDepth 100000 in
set_option maxHeartbeats 4000000 in
theorem lawMay_any {w : World} (b e r : Int) (f : Bool) (q : Bool) (hq : q = meMay b e r f) :
    Calls Try.prog 27 #[meV b e r f] w fun x w' => x = .returned (.bool q) ∧ Keep [] w w' := by
  have HQ := Lib.hid hq
  clear hq
  go_enter Try.func27, Try.ntmps27
  by_cases ab0 : 0 ≤ b
  case neg =>
    have p := decide_eq_false ab0
    have hm : meIn b = false := meIn_no (by omega)
    have HN : q = false := HQ.out.trans (by unfold meMay; rw [hm]; simp)
    subst HN
    go_wp2_with fail
    go_ret
    exact ⟨rfl, (Keep.refl _ _).alloc _⟩
  have pab0 := decide_eq_true ab0
  by_cases ab1 : b ≤ 1099511627776
  case neg =>
    have p := decide_eq_false ab1
    have hm : meIn b = false := meIn_no (by omega)
    have HN : q = false := HQ.out.trans (by unfold meMay; rw [hm]; simp)
    subst HN
    go_wp2_with fail
    go_ret
    exact ⟨rfl, (Keep.refl _ _).alloc _⟩
  have pab1 := decide_eq_true ab1
  by_cases ae0 : 0 ≤ e
  case neg =>
    have p := decide_eq_false ae0
    have hm : meIn e = false := meIn_no (by omega)
    have HN : q = false := HQ.out.trans (by unfold meMay; rw [hm]; simp)
    subst HN
    go_wp2_with fail
    go_ret
    exact ⟨rfl, (Keep.refl _ _).alloc _⟩
  have pae0 := decide_eq_true ae0
  by_cases ae1 : e ≤ 1099511627776
  case neg =>
    have p := decide_eq_false ae1
    have hm : meIn e = false := meIn_no (by omega)
    have HN : q = false := HQ.out.trans (by unfold meMay; rw [hm]; simp)
    subst HN
    go_wp2_with fail
    go_ret
    exact ⟨rfl, (Keep.refl _ _).alloc _⟩
  have pae1 := decide_eq_true ae1
  by_cases ar0 : 0 ≤ r
  case neg =>
    have p := decide_eq_false ar0
    have hm : meIn r = false := meIn_no (by omega)
    have HN : q = false := HQ.out.trans (by unfold meMay; rw [hm]; simp)
    subst HN
    go_wp2_with fail
    go_ret
    exact ⟨rfl, (Keep.refl _ _).alloc _⟩
  have par0 := decide_eq_true ar0
  by_cases ar1 : r ≤ 1099511627776
  case neg =>
    have p := decide_eq_false ar1
    have hm : meIn r = false := meIn_no (by omega)
    have HN : q = false := HQ.out.trans (by unfold meMay; rw [hm]; simp)
    subst HN
    go_wp2_with fail
    go_ret
    exact ⟨rfl, (Keep.refl _ _).alloc _⟩
  have par1 := decide_eq_true ar1
  have hQ2 : q = ((decide (r = 0) || decide (e < r)) && (!f || decide (0 < r))) := by rw [HQ.out]; unfold meMay; rw [(meIn_iff b).2 ⟨ab0, ab1⟩, (meIn_iff e).2 ⟨ae0, ae1⟩, (meIn_iff r).2 ⟨ar0, ar1⟩]; rfl
  have HQ := Lib.hid hQ2
  clear hQ2
  by_cases h0 : r = 0
  · subst h0
    have p9 : decide (e < 0) = false := decide_eq_false (by omega)
    cases f
    · have HN : q = true := HQ.out.trans (rfl)
      subst HN
      go_wp2_with fail
      go_ret
      exact ⟨rfl, (Keep.refl _ _).alloc _⟩
    · have HN : q = false := HQ.out.trans (rfl)
      subst HN
      go_wp2_with fail
      go_ret
      exact ⟨rfl, (Keep.refl _ _).alloc _⟩
  have p8 : (r == 0) = false := by simpa using h0
  have p10 : decide (0 < r) = true := decide_eq_true (by omega)
  by_cases h1 : e < r
  · have p9 : decide (e < r) = true := decide_eq_true h1
    have HN : q = true := HQ.out.trans (by rw [p9, p10]; simp)
    subst HN
    go_wp2_with fail
    go_ret
    exact ⟨rfl, (Keep.refl _ _).alloc _⟩
  · have p9 : decide (e < r) = false := decide_eq_false h1
    have HN : q = false := HQ.out.trans (by rw [p9, decide_eq_false h0]; rfl)
    subst HN
    go_wp2_with fail
    go_ret
    exact ⟨rfl, (Keep.refl _ _).alloc _⟩

set_option maxHeartbeats 4000000 in
theorem lawEq_any {w : World} (b e r : Int) (f : Bool) :
    Calls Try.prog 31 #[meV b e r f, meV b e r f] w fun x w' => x = .returned (.bool true) ∧ Keep [] w w' := by
  have hff : (f == f) = true := by simp
  go_enter Try.func31, Try.ntmps31
  go_wp2_with fail
  go_ret
  exact ⟨rfl, ((Keep.refl _ _).alloc _).alloc _⟩
theorem meMeta_nil {w : World} : Calls Try.prog 32 #[.pointer none] w fun x w' => x = .returned (meV 0 0 0 false) ∧ Keep [] w w' := by
  have hzm := run_zeroMeta
  go_enter Try.func32, Try.ntmps32
  go_wp2_with fail
  have hB5 := Blk.new w (meC 0 0 0 false) 52
  have hKK := (Keep.refl [] w).alloc (.cells (meC 0 0 0 false).toArray 52)
  change bodyPost _ _ _ _ _ (w.alloc (.cells (meC 0 0 0 false).toArray 52))
  generalize w.alloc (.cells (meC 0 0 0 false).toArray 52) = w5 at *
  refine bodyPost_ret (v := meV 0 0 0 false) ?_ rfl ⟨rfl, hKK⟩
  have d0 := hB5.cell 0
  have d1 := hB5.cell 1
  have d2 := hB5.cell 2
  have d3 := hB5.cell 3
  simp only [meC, List.getElem?_cons_zero, List.getElem?_cons_succ] at d0 d1 d2 d3
  simp [results, Try.results32, go_sem, d0, d1, d2, d3]
theorem meOpen_none {w : World} {d sb : Nat} {L : List Sec} {c : Nat} (hd : IsDev w d sb L c) (at_ : Nat) (x0 x1 : Sec) (h0 : L[at_]? = some x0) (h1 : L[at_ + 1]? = some x1) (hx : supGood 0 x0.now = false) (hy : supGood 0 x1.now = false) :
    Calls Try.prog 30 #[.pointer (some ⟨d, 0, none⟩), .int .i64 at_] w fun x w' => x = .returned (.tuple #[.pointer none, .int .i64 3]) ∧ Keep [] w w' := by
  have HO := Lib.hid (Open_none hd at_ x0 x1 h0 h1 hx hy)
  clear h0 h1 hx hy hd
  go_enter Try.func30, Try.ntmps30
  go_wp2_with fail
  refine HO.out.mono ?_
  rintro x w1 ⟨rfl, k1⟩
  go_wp2_with fail
  go_ret2
  exact ⟨rfl, k1⟩
set_option maxRecDepth 100000 in
set_option maxHeartbeats 4000000 in
theorem begun12 (w : World) : Calls Try.prog 25 #[] w fun x w' => x = .returned (.bool true) ∧ Keep [] w w' := by
  have hb1 : ∀ W : World, (Instr.build 52 #[(0, .int .i64 1), (1, .int .i64 3), (2, .int .i64 5), (3, .bool true)]).run Try.prog W = .ok (meV 1 3 5 true) W := fun W => run_build W _ _ _ (by kernel_rfl)
  have hb2 : ∀ W : World, (Instr.build 52 #[(3, .bool true)]).run Try.prog W = .ok (meV 0 0 0 true) W := fun W => run_build W _ _ _ (by kernel_rfl)
  go_enter Try.func25, Try.ntmps25
  go_wp2_with fail
  refine (New_any 4 4 rfl).mono ?_
  rintro x w1 ⟨d, sb, rfl, hD1, k1, hb, hsb⟩
  go_wp2_with fail
  refine (meMake_in hD1 0 (by decide) (by decide)).mono ?_
  rintro x w2 ⟨k, s, rfl, hD2, hk2, k2, hkz, hsz⟩
  have hP2 := Pair.make (List.replicate 4 zeroSec) 0 (meText 0 0 0 false) (by decide)
  have hL2 : ((((List.replicate 4 zeroSec).map flushSec).set (0 + 1) zeroSec).set 0 ⟨sImg 1 (meText 0 0 0 false), sImg 1 (meText 0 0 0 false), false⟩).length = 4 := by simp
  generalize (((List.replicate 4 zeroSec).map flushSec).set (0 + 1) zeroSec).set 0 ⟨sImg 1 (meText 0 0 0 false), sImg 1 (meText 0 0 0 false), false⟩ = L2 at *
  have hz1 := k1.size
  have K2 : Keep [] w w2 := k1.then k2 (by intro q hq hlt; simp at hq; omega)
  have HLW := Lib.hid (show w.heap.size ≤ d ∧ w.heap.size ≤ sb ∧ w.heap.size ≤ k ∧ w.heap.size ≤ s by omega)
  clear hD1 k1 k2 hb hsb hkz hsz hz1
  have hsv := meSave_ok hD2 hk2 1 3 5 true (by decide) (by omega) (by omega) (by omega) (by rw [hL2]; omega) (by omega) (by omega)
  clear hD2 hk2
  go_wp2_with fail
  refine hsv.mono ?_
  rintro x w3 ⟨rfl, hD3, hk3, k3⟩
  have hP3 := hP2.save (by omega) (by omega) (meText 1 3 5 true)
  have K3 := K2.then k3 (by intro q hq hlt; have := HLW.out; simp at hq; omega)
  clear hsv K2 k3 hP2 hk3
  have hkv : Rv w3 1 (.slice none 0 0) ([] : List Bool).length (bools []) := Rv.nil w3 1
  go_wp2_with fail
  refine (Crash_any hD3 (.slice none 0 0) [] hkv (by simp)).mono ?_
  rintro x w4 ⟨d4, sb4, rfl, hD4, k4, hd4, hsb4⟩
  have hP4 := hP3.crash []
  have K4 := K3.trans k4
  clear hD3 hP3 K3 k4 hkv
  go_wp2_with fail
  refine (meOpen_pair hD4 hP4 (by omega) (by decide) (by omega) (by omega)).mono ?_
  rintro x w5 ⟨o, s5, rfl, hk5, k5, _, _⟩
  have K5 := K4.trans k5
  clear hD4 hP4 K4 k5
  go_wp2_with fail
  refine (meMeta_any hk5).mono ?_
  rintro x w6 ⟨rfl, k6⟩
  have K6 := K5.trans k6
  clear hk5 K5 k6
  go_wp2_with fail
  refine (meMay_any 0 0 0 true false (by decide)).mono ?_
  rintro x w7 ⟨rfl, k7⟩
  go_wp2_with fail
  go_ret
  exact ⟨rfl, (K6.alloc _).trans k7⟩
end Go.Proofs.Ytnnaleoigiaboaa
