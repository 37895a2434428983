/- Package meta: which metas may be, their text. -/
import Derived.Test.YtnnaleoigiaboaaSuper4
import Derived.Test.YtnnaleoigiaboaaBump
import Derived.Test.YtnnaleoigiaboaaRegInv
import Derived.Test.YtnnaleoigiaboaaGetManyP
import Derived.Deep.DeepCutAuto
import Derived.Deep.CutBlock
namespace Go.Proofs.Ytnnaleoigiaboaa
open Go.ChangeShapes Go.WideShapes Go.ChangeAt Go.RowKit
set_option linter.unusedVariables false
set_option linter.unusedSimpArgs false

abbrev meV (b e r : Int) (f : Bool) : Value := .agg #[.int .i64 b, .int .i64 e, .int .i64 r, .bool f]
def meC (b e r : Int) (f : Bool) : List Value := [.int .i64 b, .int .i64 e, .int .i64 r, .bool f]
def meIn (n : Int) : Bool := decide (0 ≤ n) && decide (n ≤ 1099511627776)
def meMay (b e r : Int) (f : Bool) : Bool := meIn b && (meIn e && (meIn r && ((decide (r = 0) || decide (e < r)) && (!f || decide (0 < r)))))
theorem meIn_iff (n : Int) : meIn n = true ↔ 0 ≤ n ∧ n ≤ 1099511627776 := by unfold meIn; rw [Bool.and_eq_true, decide_eq_true_eq, decide_eq_true_eq]
theorem meIn_no {n : Int} (h : ¬ (0 ≤ n ∧ n ≤ 1099511627776)) : meIn n = false := by
  cases hh : meIn n with
  | false => rfl
  | true => exact absurd ((meIn_iff n).1 hh) h

set_option maxRecDepth 100000 in
set_option maxHeartbeats 4000000 in
theorem meMay_any {w : World} (b e r : Int) (f : Bool) (q : Bool) (hq : q = meMay b e r f) :
    Calls Try.prog 28 #[meV b e r f] w fun x w' => x = .returned (.bool q) ∧ Keep [] w w' := by
  have HQ := Lib.hid hq
  clear hq
  go_enter Try.func28, Try.ntmps28
  go_wp2_with fail
  have hx : Blk ((w.alloc (.cells (meC b e r f).toArray 52)).alloc (.cells (ints [b, e, r]).toArray 2)) w.heap.size (meC b e r f) 52 := (Blk.new _ _ _).alloc _
  have hs : Blk ((w.alloc (.cells (meC b e r f).toArray 52)).alloc (.cells (ints [b, e, r]).toArray 2)) (w.heap.size + 1) (ints [b, e, r]) 2 := Blk.new' _ _ _ _ (by simp)
  have hK : Keep [] w ((w.alloc (.cells (meC b e r f).toArray 52)).alloc (.cells (ints [b, e, r]).toArray 2)) := ((Keep.refl _ _).alloc _).alloc _
  obtain ⟨w1, hw1⟩ : ∃ W, W = (w.alloc (.cells (meC b e r f).toArray 52)).alloc (.cells (ints [b, e, r]).toArray 2) := ⟨_, rfl⟩
  change Code.wp _ _ _ _ ((w.alloc (.cells (meC b e r f).toArray 52)).alloc (.cells (ints [b, e, r]).toArray 2))
  rw [← hw1] at hx hs hK ⊢
  clear hw1
  generalize w.heap.size + 1 = sb at *
  generalize w.heap.size = xb at *
  have s0 := hs.cell 0
  have s1 := hs.cell 1
  have s2 := hs.cell 2
  simp only [ints, List.map_cons, List.map_nil, List.getElem?_cons_succ, List.getElem?_cons_zero] at s0 s1 s2
  have x1 := hx.cell 1
  have x2 := hx.cell 2
  have x3 := hx.cell 3
  simp only [meC, List.getElem?_cons_succ, List.getElem?_cons_zero] at x1 x2 x3
  clear hx hs
  have hno : ∀ n : Int, n ∈ [b, e, r] → ¬ (0 ≤ n ∧ n ≤ 1099511627776) → q = false := by
    intro n hn h
    have h1 := meIn_no h
    rw [HQ.out]
    unfold meMay
    simp only [List.mem_cons, List.not_mem_nil, or_false] at hn
    rcases hn with rfl | rfl | rfl <;> simp [h1]
  have HNO := Lib.hid hno
  clear hno
  go_loopw [13] (fun i wr => ∃ j : Nat, j ≤ 3 ∧ i = .int .i64 j ∧ wr = w1 ∧ (0 < j → 0 ≤ b ∧ b ≤ 1099511627776) ∧ (1 < j → 0 ≤ e ∧ e ≤ 1099511627776) ∧ (2 < j → 0 ≤ r ∧ r ≤ 1099511627776)) (fun i _ => 3 - (intOf i).toNat)
  case atStart => exact ⟨0, by omega, rfl, rfl, by omega, by omega, by omega⟩
  case round =>
    obtain ⟨j, hj, rfl, rfl, h1, h2, h3⟩ := hrel
    have HB := Lib.hid h1
    have HE := Lib.hid h2
    have HR := Lib.hid h3
    clear h1 h2 h3
    have hj4 : j = 0 ∨ j = 1 ∨ j = 2 ∨ j = 3 := by omega
    rcases hj4 with rfl | rfl | rfl | rfl
    · by_cases a : b < 0
      · have HN := HNO.out b (by simp) (by omega)
        have p1 : decide (b < 0) = true := decide_eq_true a
        subst HN
        go_wp2_with fail
        go_ret
        exact ⟨rfl, hK⟩
      have p1 : decide (b < 0) = false := decide_eq_false a
      by_cases a2 : 1099511627776 < b
      · have HN := HNO.out b (by simp) (by omega)
        have p2 : decide (1099511627776 < b) = true := decide_eq_true a2
        subst HN
        go_wp2_with fail
        go_ret
        exact ⟨rfl, hK⟩
      have p2 : decide (1099511627776 < b) = false := decide_eq_false a2
      go_wp2_with fail
      go_roundw
      case rel => exact ⟨1, by omega, by first | rfl | trivial, by first | rfl | trivial, by intros; omega, by intros; omega, by intros; omega⟩
      case measure => simp [intOf]
    · by_cases a : e < 0
      · have HN := HNO.out e (by simp) (by omega)
        have p1 : decide (e < 0) = true := decide_eq_true a
        subst HN
        go_wp2_with fail
        go_ret
        exact ⟨rfl, hK⟩
      have p1 : decide (e < 0) = false := decide_eq_false a
      by_cases a2 : 1099511627776 < e
      · have HN := HNO.out e (by simp) (by omega)
        have p2 : decide (1099511627776 < e) = true := decide_eq_true a2
        subst HN
        go_wp2_with fail
        go_ret
        exact ⟨rfl, hK⟩
      have p2 : decide (1099511627776 < e) = false := decide_eq_false a2
      go_wp2_with fail
      go_roundw
      case rel => exact ⟨2, by omega, by first | rfl | trivial, by first | rfl | trivial, by have := HB.out (by omega); intros; omega, by intros; omega, by intros; omega⟩
      case measure => simp [intOf]
    · by_cases a : r < 0
      · have HN := HNO.out r (by simp) (by omega)
        have p1 : decide (r < 0) = true := decide_eq_true a
        subst HN
        go_wp2_with fail
        go_ret
        exact ⟨rfl, hK⟩
      have p1 : decide (r < 0) = false := decide_eq_false a
      by_cases a2 : 1099511627776 < r
      · have HN := HNO.out r (by simp) (by omega)
        have p2 : decide (1099511627776 < r) = true := decide_eq_true a2
        subst HN
        go_wp2_with fail
        go_ret
        exact ⟨rfl, hK⟩
      have p2 : decide (1099511627776 < r) = false := decide_eq_false a2
      go_wp2_with fail
      go_roundw
      case rel => exact ⟨3, by omega, by first | rfl | trivial, by first | rfl | trivial, by have := HB.out (by omega); intros; omega, by have := HE.out (by omega); intros; omega, by intros; omega⟩
      case measure => simp [intOf]
    · have i1 := (meIn_iff b).2 (HB.out (by omega))
      have i2 := (meIn_iff e).2 (HE.out (by omega))
      have i3 := (meIn_iff r).2 (HR.out (by omega))
      have hr0 := (HR.out (by omega)).1
      have he0 := (HE.out (by omega)).1
      have hQ2 : q = ((decide (r = 0) || decide (e < r)) && (!f || decide (0 < r))) := by rw [HQ.out]; unfold meMay; rw [i1, i2, i3]; rfl
      have HQ2 := Lib.hid hQ2
      clear i1 i2 i3 hQ2
      by_cases a : r = 0
      · subst a
        cases f
        · have HN : q = true := by rw [HQ2.out]; rfl
          subst HN
          go_wp2_with fail
          go_ret
          exact ⟨rfl, hK⟩
        · have HN : q = false := by rw [HQ2.out]; rfl
          subst HN
          go_wp2_with fail
          go_ret
          exact ⟨rfl, hK⟩
      have p3 : (r == 0) = false := by simpa using a
      by_cases a2 : e < r
      · have p4 : decide (e < r) = true := decide_eq_true a2
        have p5 : decide (0 < r) = true := decide_eq_true (by omega)
        have HN : q = true := by rw [HQ2.out, p4, p5]; simp
        subst HN
        cases f
        · go_wp2_with fail
          go_ret
          exact ⟨rfl, hK⟩
        · go_wp2_with fail
          go_ret
          exact ⟨rfl, hK⟩
      · have p4 : decide (e < r) = false := decide_eq_false a2
        have HN : q = false := by rw [HQ2.out, p4, decide_eq_false a]; rfl
        subst HN
        go_wp2_with fail
        go_ret
        exact ⟨rfl, hK⟩

def fN (f : Bool) : Int := if f = true then 1 else 0
theorem fN_i64 (f : Bool) : I64 (fN f) := by cases f <;> (unfold fN I64; simp)
def meText (b e r : Int) (f : Bool) : List Nat := putAll [b, e, r, fN f]
theorem meText_len {b e r : Int} {f : Bool} (h : ∀ n ∈ [b, e, r], I64 n) : (meText b e r f).length ≤ 40 := by
  have := putAll_len [b, e, r, fN f] (by intro n hn; simp only [List.mem_cons, List.not_mem_nil, or_false] at hn; rcases hn with rfl | rfl | rfl | rfl; exact h _ (by simp); exact h _ (by simp); exact h _ (by simp); exact fN_i64 f)
  unfold meText
  simpa using this
set_option maxRecDepth 100000 in
set_option maxHeartbeats 4000000 in
theorem meText_any {w : World} (b e r : Int) (f : Bool) (hi : ∀ n ∈ [b, e, r], I64 n) :
    Calls Try.prog 40 #[meV b e r f] w fun x w' => ∃ v, x = .returned v ∧ Buf w' w.heap.size 5 v (meText b e r f) ∧ Keep [] w w' := by
  have HI := Lib.hid hi
  clear hi
  go_enter Try.func40, Try.ntmps40
  go_upto_if 5 with fail
  go_cut [3] (fun s wc => s = .int .i64 (fN f) ∧ Blk wc w.heap.size (meC b e r f) 52 ∧ Keep [] w wc)
  case first =>
    cases f
    · go_wp2_with fail
      go_meet
      exact ⟨rfl, Blk.new _ _ _, (Keep.refl _ _).alloc _⟩
    · go_wp2_with fail
      go_meet
      exact ⟨rfl, Blk.new _ _ _, (Keep.refl _ _).alloc _⟩
  case rest =>
  obtain ⟨rfl, hx, K1⟩ := hcut
  have hz1 := K1.size
  have x0 := hx.cell 0
  have x1 := hx.cell 1
  have x2 := hx.cell 2
  simp only [meC, List.getElem?_cons_succ, List.getElem?_cons_zero] at x0 x1 x2
  have hfi := fN_i64 f
  have hall : ∀ n ∈ [b, e, r, fN f], I64 n := by intro n hn; simp only [List.mem_cons, List.not_mem_nil, or_false] at hn; rcases hn with rfl | rfl | rfl | rfl; exact HI.out _ (by simp); exact HI.out _ (by simp); exact HI.out _ (by simp); exact hfi
  have hT : meText b e r f = putAll [b, e, r, fN f] := rfl
  have HT := Lib.hid hT
  have HALL := Lib.hid hall
  clear hT hall hfi hx
  generalize fN f = fn at *
  go_wp2_with fail
  have hW : Rv (wc.alloc (.cells (ints [b, e, r, fn]).toArray 2)) 1 (.slice (some ⟨wc.heap.size, 0, none⟩) [b, e, r, fn].length [b, e, r, fn].length) [b, e, r, fn].length (ints [b, e, r, fn]) := rv_blk (Blk.new' _ _ _ _ (by simp)) rfl
  refine (Put_any w.heap.size (.slice none 0 0) [] _ [b, e, r, fn] (Buf.nil _ _ _) hW (by intro _ q hq hc; cases hc) HALL.out (by simp) (by simp; omega)).mono ?_
  rintro x w2 ⟨v, rfl, o⟩
  go_wp2_with fail
  go_ret
  refine ⟨v, rfl, ?_, (K1.alloc _).trans (o.keep.mono (by intro y hy _; cases hy))⟩
  rw [HT.out]
  have := o.buf
  rwa [List.nil_append] at this
end Go.Proofs.Ytnnaleoigiaboaa
