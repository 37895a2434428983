/- Package meta: Open. -/
import Derived.Test.YtnnaleoigiaboaaMeta3
namespace Go.Proofs.Ytnnaleoigiaboaa
open Go.ChangeShapes Go.WideShapes Go.ChangeAt Go.RowKit
set_option linter.unusedVariables false
set_option linter.unusedSimpArgs false

def opJ (w0 : World) (k g s d at_ turn slot : Nat) (ba : Option Addr) (bcap : Nat) (TB : List Nat) (b e r fn : Int) (l : Nat → Bool) (x : Nat → Value) (w' : World) : Prop :=
  ∃ B13, (l 14 = false → Blk w' k [.pointer (some ⟨s, 0, none⟩), .int .i64 0, .int .i64 0, .int .i64 0, .bool false] 78 ∧ Blk w' g [.int .i64 0] 2) ∧
  (l 14 = true → Blk w' k [.pointer (some ⟨s, 0, none⟩), .int .i64 b, .int .i64 e, .int .i64 r, .bool false] 78 ∧ Blk w' g [.int .i64 fn] 2) ∧
  (IsSup w' s d at_ turn TB slot) ∧
  (Rd w' (.slice ba TB.length bcap) TB) ∧
  (Keep [k, g] w0 w') ∧
  (l 0 = true → x 0 = .slice ba TB.length bcap) ∧
  (l 1 = true → x 1 = .pointer (some ⟨k, 0, none⟩)) ∧
  (l 2 = true → x 2 = .pointer (some ⟨k, 0, none⟩)) ∧
  (l 3 = true → x 3 = .pointer (some ⟨k, 1, none⟩)) ∧
  (l 4 = true → x 4 = .pointer (some ⟨k, 1, none⟩)) ∧
  (l 5 = true → x 5 = .pointer (some ⟨k, 0, none⟩)) ∧
  (l 6 = true → x 6 = .pointer (some ⟨k, 0, none⟩)) ∧
  (l 7 = true → x 7 = .pointer (some ⟨k, 1, none⟩)) ∧
  (l 8 = true → x 8 = .pointer (some ⟨k, 2, none⟩)) ∧
  (l 9 = true → x 9 = .pointer (some ⟨k, 0, none⟩)) ∧
  (l 10 = true → x 10 = .pointer (some ⟨k, 0, none⟩)) ∧
  (l 11 = true → x 11 = .pointer (some ⟨k, 1, none⟩)) ∧
  (l 12 = true → x 12 = .pointer (some ⟨k, 3, none⟩)) ∧
  (l 13 = true → x 13 = .slice (some ⟨B13, 0, none⟩) 4 4 ∧ Blk w' B13 (ptrs [some ⟨k, 1, none⟩, some ⟨k, 2, none⟩, some ⟨k, 3, none⟩, some ⟨g, 0, none⟩]) 82) ∧
  (l 14 = true → x 14 = .tuple #[.int .i64 (TB.length : Int), .int .i64 0]) ∧
  (l 15 = true → x 15 = .tuple #[.int .i64 (TB.length : Int), .int .i64 0]) ∧
  (l 16 = true → x 16 = .int .i64 (TB.length : Int)) ∧
  (l 17 = true → x 17 = .int .i64 0) ∧
  (l 18 = true → x 18 = .int .i64 (TB.length : Int)) ∧
  (l 19 = true → x 19 = .int .i64 0)

set_option maxRecDepth 100000 in
set_option maxHeartbeats 8000000 in
theorem meOpen_pair {w : World} {d sb : Nat} {L : List Sec} {c : Nat} (hd : IsDev w d sb L c) {at_ slot turn : Nat} {b e r : Int} {f : Bool} (h : Pair L at_ slot turn (meText b e r f)) (hs : slot ≤ 1)
    (hq : true = meMay b e r f) (h0 : 0 < turn) (hn : turn < 9223372036854775808) :
    Calls Try.prog 30 #[.pointer (some ⟨d, 0, none⟩), .int .i64 at_] w fun x w' => ∃ k s, x = .returned (.tuple #[.pointer (some ⟨k, 0, none⟩), .int .i64 0]) ∧ IsKep w' k s d at_ turn slot b e r f ∧ Keep [] w w' ∧ w.heap.size ≤ k ∧ w.heap.size ≤ s := by
  have hi := meMay_i64 hq
  have hTl := meText_len (f := f) hi
  have hTb := meText_byte b e r f
  have hm := getMany_put [b, e, r, fN f] [] (by intro n hn; simp only [List.mem_cons, List.not_mem_nil, or_false] at hn; rcases hn with rfl | rfl | rfl | rfl; exact hi _ (by simp); exact hi _ (by simp); exact hi _ (by simp); exact fN_i64 f)
  rw [List.append_nil] at hm
  have hm2 : getMany (meText b e r f) 4 = ([b, e, r, fN f], (meText b e r f).length, 0) := hm
  have hfn : (fN f == 1) = f := by cases f <;> rfl
  have HQ := Lib.hid hq
  have HO := Lib.hid (Open_pair hd h hs hTl hTb h0 hn)
  obtain ⟨TB, hT0⟩ : ∃ TB, meText b e r f = TB := ⟨_, rfl⟩
  rw [hT0] at hTl hTb hm2 HO
  have HT0 := Lib.hid hT0
  generalize fN f = fn at *
  have HM := Lib.hid hm2.symm
  have HTB := Lib.hid (show (∀ c ∈ TB, c < 256) ∧ TB.length ≤ 4611686018427387904 from ⟨hTb, by omega⟩)
  have HTL := Lib.hid hTl
  clear hi hTl hTb hm hm2 hq h hs h0 hn hT0 hd
  go_enter Try.func30, Try.ntmps30
  go_wp2_with fail
  refine HO.out.mono ?_
  rintro x w1 ⟨s, rfl, hsz, hS1, k1⟩
  have hz1 := k1.size
  have hssl := hS1.lt
  clear HO
  go_wp2_with fail
  have hKB1 : Blk ((w1.alloc (.cells #[.pointer (some ⟨s, 0, none⟩), .int .i64 0, .int .i64 0, .int .i64 0, .bool false] 78)).alloc (.cells #[.int .i64 0] 2)) w1.heap.size [.pointer (some ⟨s, 0, none⟩), .int .i64 0, .int .i64 0, .int .i64 0, .bool false] 78 := (Blk.new _ _ _).alloc _
  have hG1 : Blk ((w1.alloc (.cells #[.pointer (some ⟨s, 0, none⟩), .int .i64 0, .int .i64 0, .int .i64 0, .bool false] 78)).alloc (.cells #[.int .i64 0] 2)) (w1.heap.size + 1) [.int .i64 0] 2 := Blk.new' _ [.int .i64 0] _ _ (by simp)
  have hS2 := (hS1.keep ((Keep.refl [] _).alloc (.cells #[.pointer (some ⟨s, 0, none⟩), .int .i64 0, .int .i64 0, .int .i64 0, .bool false] 78)) (by simp) (by simp)).keep ((Keep.refl [] _).alloc (.cells #[.int .i64 0] 2)) (by simp) (by simp)
  have K2 := (k1.alloc (.cells #[.pointer (some ⟨s, 0, none⟩), .int .i64 0, .int .i64 0, .int .i64 0, .bool false] 78)).alloc (.cells #[.int .i64 0] 2)
  obtain ⟨w2, hw2⟩ : ∃ W, W = (w1.alloc (.cells #[.pointer (some ⟨s, 0, none⟩), .int .i64 0, .int .i64 0, .int .i64 0, .bool false] 78)).alloc (.cells #[.int .i64 0] 2) := ⟨_, rfl⟩
  rw [← hw2] at hKB1 hG1 hS2 K2 ⊢
  have hz2 : w2.heap.size = w1.heap.size + 2 := by rw [hw2]; simp
  clear hw2 hS1 k1
  refine (Text_any hS2 HTL.out).mono ?_
  rintro x w3 ⟨v, rfl, hb3, k3⟩
  have hKB0 := hKB1.keep k3 (by simp)
  have hG0 := hG1.keep k3 (by simp)
  have hS0 := hS2.keep k3 (by simp) (by simp)
  have K3 := K2.trans k3
  have hrb0 := hb3.rd
  obtain ⟨ba, bcap, rfl⟩ := hb3.slice
  have HVB := Lib.hid (show ∀ q, (Value.slice ba TB.length bcap).ownBlock = some q → q ≠ w1.heap.size ∧ q ≠ w1.heap.size + 1 from fun q hq => by have := (hb3.lt q hq).1; omega)
  have HGK := Lib.hid (show w1.heap.size ≠ w1.heap.size + 1 ∧ w.heap.size ≤ w1.heap.size ∧ w.heap.size ≤ w1.heap.size + 1 ∧ w.heap.size ≤ s by omega)
  clear hKB1 hG1 hS2 K2 k3 hb3 hz2 hz1 hssl hsz
  generalize w1.heap.size + 1 = g at *
  generalize w1.heap.size = k at *
  go_wp2_with fail
  refine wp_region_inv (opJ w3 k g s d at_ turn slot ba bcap TB b e r fn) (by kernel_rfl) (by kernel_rfl) (by kernel_rfl) ?_ (Steps.cons 0 ?_ (Steps.cons 1 ?_ (Steps.cons 2 ?_ (Steps.cons 3 ?_ (Steps.cons 4 ?_ (Steps.cons 5 ?_ (Steps.cons 6 ?_ (Steps.cons 7 ?_ (Steps.cons 8 ?_ (Steps.cons 9 ?_ (Steps.cons 10 ?_ (Steps.cons 11 ?_ (Steps.cons 12 ?_ (Steps.cons 13 ?_ (Steps.cons 14 ?_ (Steps.cons 15 ?_ (Steps.cons 16 ?_ (Steps.cons 17 ?_ (Steps.cons 18 ?_ (Steps.cons 19 ?_ (Steps.nil 20))))))))))))))))))))) 20 rfl ?_
  · intro x
    exact ⟨0, fun _ => ⟨hKB0.drew, hG0.drew⟩, fun h => absurd h (by decide), hS0.keep ((Keep.refl [] _).drew) (by simp) (by simp), hrb0.keep ((Keep.refl [] _).drew) (by simp), (Keep.refl _ _).drew, fun h => absurd h (by decide), fun h => absurd h (by decide), fun h => absurd h (by decide), fun h => absurd h (by decide), fun h => absurd h (by decide), fun h => absurd h (by decide), fun h => absurd h (by decide), fun h => absurd h (by decide), fun h => absurd h (by decide), fun h => absurd h (by decide), fun h => absurd h (by decide), fun h => absurd h (by decide), fun h => absurd h (by decide), fun h => absurd h (by decide), fun h => absurd h (by decide), fun h => absurd h (by decide), fun h => absurd h (by decide), fun h => absurd h (by decide), fun h => absurd h (by decide), fun h => absurd h (by decide)⟩
  · intro l x w' hJ hi hd
    obtain ⟨B13, hg0, hg1, hS, hrb, hK, h0, h1, h2, h3, h4, h5, h6, h7, h8, h9, h10, h11, h12, h13, h14, h15, h16, h17, h18, h19⟩ := hJ
    refine Runs.of (b := ?bO0) ?eO0 ?_
    case eO0 => simp only [putV, Act.put, List.setIfInBounds_toArray, List.set_cons_zero, List.set_cons_succ]; rfl
    intro K' hK'
    go_simp
    exact hK'.go _ rfl ⟨B13, hg0, hg1, hS, hrb, hK, fun _ => rfl, h1, h2, h3, h4, h5, h6, h7, h8, h9, h10, h11, h12, h13, h14, h15, h16, h17, h18, h19⟩
  · intro l x w' hJ hi hd
    obtain ⟨B13, hg0, hg1, hS, hrb, hK, h0, h1, h2, h3, h4, h5, h6, h7, h8, h9, h10, h11, h12, h13, h14, h15, h16, h17, h18, h19⟩ := hJ
    refine Runs.of (b := ?bO1) ?eO1 ?_
    case eO1 => simp only [putV, Act.put, List.setIfInBounds_toArray, List.set_cons_zero, List.set_cons_succ]; rfl
    intro K' hK'
    go_simp
    exact hK'.go _ rfl ⟨B13, hg0, hg1, hS, hrb, hK, h0, fun _ => rfl, h2, h3, h4, h5, h6, h7, h8, h9, h10, h11, h12, h13, h14, h15, h16, h17, h18, h19⟩
  · intro l x w' hJ hi hd
    obtain ⟨B13, hg0, hg1, hS, hrb, hK, h0, h1, h2, h3, h4, h5, h6, h7, h8, h9, h10, h11, h12, h13, h14, h15, h16, h17, h18, h19⟩ := hJ
    have e1 := h1 (show l 1 = true by first | exact hd.1 rfl | exact hd.2.1 rfl | exact hd.2.2.1 rfl | exact hd.2.2.2.1 rfl | exact hd.2.2.2.2.1 rfl | exact hd.2.2.2.2.2.1 rfl)
    refine Runs.of (b := ?bO2) ?eO2 ?_
    case eO2 => simp only [putV, Act.put, List.setIfInBounds_toArray, List.set_cons_zero, List.set_cons_succ, e1]; rfl
    intro K' hK'
    go_simp
    exact hK'.go _ rfl ⟨B13, hg0, hg1, hS, hrb, hK, h0, h1, fun _ => rfl, h3, h4, h5, h6, h7, h8, h9, h10, h11, h12, h13, h14, h15, h16, h17, h18, h19⟩
  · intro l x w' hJ hi hd
    obtain ⟨B13, hg0, hg1, hS, hrb, hK, h0, h1, h2, h3, h4, h5, h6, h7, h8, h9, h10, h11, h12, h13, h14, h15, h16, h17, h18, h19⟩ := hJ
    have e2 := h2 (show l 2 = true by first | exact hd.1 rfl | exact hd.2.1 rfl | exact hd.2.2.1 rfl | exact hd.2.2.2.1 rfl | exact hd.2.2.2.2.1 rfl | exact hd.2.2.2.2.2.1 rfl)
    refine Runs.of (b := ?bO3) ?eO3 ?_
    case eO3 => simp only [putV, Act.put, List.setIfInBounds_toArray, List.set_cons_zero, List.set_cons_succ, e2]; rfl
    intro K' hK'
    go_simp
    exact hK'.go _ rfl ⟨B13, hg0, hg1, hS, hrb, hK, h0, h1, h2, fun _ => rfl, h4, h5, h6, h7, h8, h9, h10, h11, h12, h13, h14, h15, h16, h17, h18, h19⟩
  · intro l x w' hJ hi hd
    obtain ⟨B13, hg0, hg1, hS, hrb, hK, h0, h1, h2, h3, h4, h5, h6, h7, h8, h9, h10, h11, h12, h13, h14, h15, h16, h17, h18, h19⟩ := hJ
    have e3 := h3 (show l 3 = true by first | exact hd.1 rfl | exact hd.2.1 rfl | exact hd.2.2.1 rfl | exact hd.2.2.2.1 rfl | exact hd.2.2.2.2.1 rfl | exact hd.2.2.2.2.2.1 rfl)
    refine Runs.of (b := ?bO4) ?eO4 ?_
    case eO4 => simp only [putV, Act.put, List.setIfInBounds_toArray, List.set_cons_zero, List.set_cons_succ, e3]; rfl
    intro K' hK'
    go_simp
    exact hK'.go _ rfl ⟨B13, hg0, hg1, hS, hrb, hK, h0, h1, h2, h3, fun _ => rfl, h5, h6, h7, h8, h9, h10, h11, h12, h13, h14, h15, h16, h17, h18, h19⟩
  · intro l x w' hJ hi hd
    obtain ⟨B13, hg0, hg1, hS, hrb, hK, h0, h1, h2, h3, h4, h5, h6, h7, h8, h9, h10, h11, h12, h13, h14, h15, h16, h17, h18, h19⟩ := hJ
    refine Runs.of (b := ?bO5) ?eO5 ?_
    case eO5 => simp only [putV, Act.put, List.setIfInBounds_toArray, List.set_cons_zero, List.set_cons_succ]; rfl
    intro K' hK'
    go_simp
    exact hK'.go _ rfl ⟨B13, hg0, hg1, hS, hrb, hK, h0, h1, h2, h3, h4, fun _ => rfl, h6, h7, h8, h9, h10, h11, h12, h13, h14, h15, h16, h17, h18, h19⟩
  · intro l x w' hJ hi hd
    obtain ⟨B13, hg0, hg1, hS, hrb, hK, h0, h1, h2, h3, h4, h5, h6, h7, h8, h9, h10, h11, h12, h13, h14, h15, h16, h17, h18, h19⟩ := hJ
    have e5 := h5 (show l 5 = true by first | exact hd.1 rfl | exact hd.2.1 rfl | exact hd.2.2.1 rfl | exact hd.2.2.2.1 rfl | exact hd.2.2.2.2.1 rfl | exact hd.2.2.2.2.2.1 rfl)
    refine Runs.of (b := ?bO6) ?eO6 ?_
    case eO6 => simp only [putV, Act.put, List.setIfInBounds_toArray, List.set_cons_zero, List.set_cons_succ, e5]; rfl
    intro K' hK'
    go_simp
    exact hK'.go _ rfl ⟨B13, hg0, hg1, hS, hrb, hK, h0, h1, h2, h3, h4, h5, fun _ => rfl, h7, h8, h9, h10, h11, h12, h13, h14, h15, h16, h17, h18, h19⟩
  · intro l x w' hJ hi hd
    obtain ⟨B13, hg0, hg1, hS, hrb, hK, h0, h1, h2, h3, h4, h5, h6, h7, h8, h9, h10, h11, h12, h13, h14, h15, h16, h17, h18, h19⟩ := hJ
    have e6 := h6 (show l 6 = true by first | exact hd.1 rfl | exact hd.2.1 rfl | exact hd.2.2.1 rfl | exact hd.2.2.2.1 rfl | exact hd.2.2.2.2.1 rfl | exact hd.2.2.2.2.2.1 rfl)
    refine Runs.of (b := ?bO7) ?eO7 ?_
    case eO7 => simp only [putV, Act.put, List.setIfInBounds_toArray, List.set_cons_zero, List.set_cons_succ, e6]; rfl
    intro K' hK'
    go_simp
    exact hK'.go _ rfl ⟨B13, hg0, hg1, hS, hrb, hK, h0, h1, h2, h3, h4, h5, h6, fun _ => rfl, h8, h9, h10, h11, h12, h13, h14, h15, h16, h17, h18, h19⟩
  · intro l x w' hJ hi hd
    obtain ⟨B13, hg0, hg1, hS, hrb, hK, h0, h1, h2, h3, h4, h5, h6, h7, h8, h9, h10, h11, h12, h13, h14, h15, h16, h17, h18, h19⟩ := hJ
    have e7 := h7 (show l 7 = true by first | exact hd.1 rfl | exact hd.2.1 rfl | exact hd.2.2.1 rfl | exact hd.2.2.2.1 rfl | exact hd.2.2.2.2.1 rfl | exact hd.2.2.2.2.2.1 rfl)
    refine Runs.of (b := ?bO8) ?eO8 ?_
    case eO8 => simp only [putV, Act.put, List.setIfInBounds_toArray, List.set_cons_zero, List.set_cons_succ, e7]; rfl
    intro K' hK'
    go_simp
    exact hK'.go _ rfl ⟨B13, hg0, hg1, hS, hrb, hK, h0, h1, h2, h3, h4, h5, h6, h7, fun _ => rfl, h9, h10, h11, h12, h13, h14, h15, h16, h17, h18, h19⟩
  · intro l x w' hJ hi hd
    obtain ⟨B13, hg0, hg1, hS, hrb, hK, h0, h1, h2, h3, h4, h5, h6, h7, h8, h9, h10, h11, h12, h13, h14, h15, h16, h17, h18, h19⟩ := hJ
    refine Runs.of (b := ?bO9) ?eO9 ?_
    case eO9 => simp only [putV, Act.put, List.setIfInBounds_toArray, List.set_cons_zero, List.set_cons_succ]; rfl
    intro K' hK'
    go_simp
    exact hK'.go _ rfl ⟨B13, hg0, hg1, hS, hrb, hK, h0, h1, h2, h3, h4, h5, h6, h7, h8, fun _ => rfl, h10, h11, h12, h13, h14, h15, h16, h17, h18, h19⟩
  · intro l x w' hJ hi hd
    obtain ⟨B13, hg0, hg1, hS, hrb, hK, h0, h1, h2, h3, h4, h5, h6, h7, h8, h9, h10, h11, h12, h13, h14, h15, h16, h17, h18, h19⟩ := hJ
    have e9 := h9 (show l 9 = true by first | exact hd.1 rfl | exact hd.2.1 rfl | exact hd.2.2.1 rfl | exact hd.2.2.2.1 rfl | exact hd.2.2.2.2.1 rfl | exact hd.2.2.2.2.2.1 rfl)
    refine Runs.of (b := ?bO10) ?eO10 ?_
    case eO10 => simp only [putV, Act.put, List.setIfInBounds_toArray, List.set_cons_zero, List.set_cons_succ, e9]; rfl
    intro K' hK'
    go_simp
    exact hK'.go _ rfl ⟨B13, hg0, hg1, hS, hrb, hK, h0, h1, h2, h3, h4, h5, h6, h7, h8, h9, fun _ => rfl, h11, h12, h13, h14, h15, h16, h17, h18, h19⟩
  · intro l x w' hJ hi hd
    obtain ⟨B13, hg0, hg1, hS, hrb, hK, h0, h1, h2, h3, h4, h5, h6, h7, h8, h9, h10, h11, h12, h13, h14, h15, h16, h17, h18, h19⟩ := hJ
    have e10 := h10 (show l 10 = true by first | exact hd.1 rfl | exact hd.2.1 rfl | exact hd.2.2.1 rfl | exact hd.2.2.2.1 rfl | exact hd.2.2.2.2.1 rfl | exact hd.2.2.2.2.2.1 rfl)
    refine Runs.of (b := ?bO11) ?eO11 ?_
    case eO11 => simp only [putV, Act.put, List.setIfInBounds_toArray, List.set_cons_zero, List.set_cons_succ, e10]; rfl
    intro K' hK'
    go_simp
    exact hK'.go _ rfl ⟨B13, hg0, hg1, hS, hrb, hK, h0, h1, h2, h3, h4, h5, h6, h7, h8, h9, h10, fun _ => rfl, h12, h13, h14, h15, h16, h17, h18, h19⟩
  · intro l x w' hJ hi hd
    obtain ⟨B13, hg0, hg1, hS, hrb, hK, h0, h1, h2, h3, h4, h5, h6, h7, h8, h9, h10, h11, h12, h13, h14, h15, h16, h17, h18, h19⟩ := hJ
    have e11 := h11 (show l 11 = true by first | exact hd.1 rfl | exact hd.2.1 rfl | exact hd.2.2.1 rfl | exact hd.2.2.2.1 rfl | exact hd.2.2.2.2.1 rfl | exact hd.2.2.2.2.2.1 rfl)
    refine Runs.of (b := ?bO12) ?eO12 ?_
    case eO12 => simp only [putV, Act.put, List.setIfInBounds_toArray, List.set_cons_zero, List.set_cons_succ, e11]; rfl
    intro K' hK'
    go_simp
    exact hK'.go _ rfl ⟨B13, hg0, hg1, hS, hrb, hK, h0, h1, h2, h3, h4, h5, h6, h7, h8, h9, h10, h11, fun _ => rfl, h13, h14, h15, h16, h17, h18, h19⟩
  · intro l x w' hJ hi hd
    obtain ⟨B13, hg0, hg1, hS, hrb, hK, h0, h1, h2, h3, h4, h5, h6, h7, h8, h9, h10, h11, h12, h13, h14, h15, h16, h17, h18, h19⟩ := hJ
    have e4 := h4 (show l 4 = true by first | exact hd.1 rfl | exact hd.2.1 rfl | exact hd.2.2.1 rfl | exact hd.2.2.2.1 rfl | exact hd.2.2.2.2.1 rfl | exact hd.2.2.2.2.2.1 rfl)
    have e8 := h8 (show l 8 = true by first | exact hd.1 rfl | exact hd.2.1 rfl | exact hd.2.2.1 rfl | exact hd.2.2.2.1 rfl | exact hd.2.2.2.2.1 rfl | exact hd.2.2.2.2.2.1 rfl)
    have e12 := h12 (show l 12 = true by first | exact hd.1 rfl | exact hd.2.1 rfl | exact hd.2.2.1 rfl | exact hd.2.2.2.1 rfl | exact hd.2.2.2.2.1 rfl | exact hd.2.2.2.2.2.1 rfl)
    refine Runs.of (b := ?bO13) ?eO13 ?_
    case eO13 => simp only [putV, Act.put, List.setIfInBounds_toArray, List.set_cons_zero, List.set_cons_succ, e4, e8, e12]; rfl
    intro K' hK'
    go_simp
    exact hK'.go _ rfl ⟨w'.heap.size, fun h => ⟨(hg0 h).1.alloc _, (hg0 h).2.alloc _⟩, fun h => ⟨(hg1 h).1.alloc _, (hg1 h).2.alloc _⟩, hS.keep ((Keep.refl [] _).alloc _) (by simp) (by simp), hrb.alloc _, hK.alloc _, h0, h1, h2, h3, h4, h5, h6, h7, h8, h9, h10, h11, h12, fun _ => ⟨rfl, Blk.new _ (ptrs [some ⟨k, 1, none⟩, some ⟨k, 2, none⟩, some ⟨k, 3, none⟩, some ⟨g, 0, none⟩]) _⟩, h14, h15, h16, h17, h18, h19⟩
  · intro l x w' hJ hi hd
    obtain ⟨B13, hg0, hg1, hS, hrb, hK, h0, h1, h2, h3, h4, h5, h6, h7, h8, h9, h10, h11, h12, h13, h14, h15, h16, h17, h18, h19⟩ := hJ
    have e0 := h0 (show l 0 = true by first | exact hd.1 rfl | exact hd.2.1 rfl | exact hd.2.2.1 rfl | exact hd.2.2.2.1 rfl | exact hd.2.2.2.2.1 rfl | exact hd.2.2.2.2.2.1 rfl)
    have e13 := h13 (show l 13 = true by first | exact hd.1 rfl | exact hd.2.1 rfl | exact hd.2.2.1 rfl | exact hd.2.2.2.1 rfl | exact hd.2.2.2.2.1 rfl | exact hd.2.2.2.2.2.1 rfl)
    refine Runs.of (b := ?bO14) ?eO14 ?_
    case eO14 => simp only [putV, Act.put, List.setIfInBounds_toArray, List.set_cons_zero, List.set_cons_succ, e0, e13.1]; rfl
    intro K' hK'
    go_simp
    obtain ⟨hKB, hG⟩ := hg0 hi
    have hns : ∀ q ∈ blocks ([some ⟨k, 1, none⟩, some ⟨k, 2, none⟩, some ⟨k, 3, none⟩, some ⟨g, 0, none⟩] : List (Option Addr)), q = k ∨ q = g := by intro q hq; simp only [blocks, List.filterMap_cons, List.filterMap_nil, Option.map_some, List.mem_cons, List.not_mem_nil, or_false] at hq; omega
    have hbk := e13.2.ty.ne hKB.ty (by decide)
    have hbg := e13.2.ty.ne hG.ty (by decide)
    refine (All_any (.slice ba TB.length bcap) _ TB [some ⟨k, 1, none⟩, some ⟨k, 2, none⟩, some ⟨k, 3, none⟩, some ⟨g, 0, none⟩] hrb (rv_blk e13.2 rfl) HTB.out.1 HTB.out.2 (by simp) ?_ (fun q hq _ hm => by have := HVB.out q hq; have := hns q hm; omega) (fun q hq hm => by have h1 : B13 = q := Option.some.inj hq; have := hns q hm; omega) ([b, e, r, fn], TB.length, 0) HM.out).mono ?_
    · intro a ha
      simp only [List.mem_cons, Option.some.injEq, List.not_mem_nil, or_false] at ha
      rcases ha with rfl | rfl | rfl | rfl
      · exact ⟨⟨_, hKB.cell 1⟩, hKB.free 1⟩
      · exact ⟨⟨_, hKB.cell 2⟩, hKB.free 2⟩
      · exact ⟨⟨_, hKB.cell 3⟩, hKB.free 3⟩
      · exact ⟨⟨_, hG.cell 0⟩, hG.free 0⟩
    rintro x2 w2 ⟨rfl, hw2⟩
    simp only at hw2 ⊢
    have hk2 : Keep [k, g] w' w2 := by rw [hw2]; exact setAll_keep _ _ _ _ _ (Keep.refl _ _) (by intro q hq; have := hns q hq; simp; omega)
    have hgk := HGK.out
    have hKB2 : Blk w2 k [.pointer (some ⟨s, 0, none⟩), .int .i64 b, .int .i64 e, .int .i64 r, .bool false] 78 := by rw [hw2]; exact (((hKB.set 1 (.int .i64 b)).set 2 (.int .i64 e)).set 3 (.int .i64 r)).other (by show k ≠ g; omega) _
    have hG2 : Blk w2 g [.int .i64 fn] 2 := by rw [hw2]; exact ((((hG.other (a := ⟨k, 1, none⟩) (by show g ≠ k; omega) _).other (a := ⟨k, 2, none⟩) (by show g ≠ k; omega) _).other (a := ⟨k, 3, none⟩) (by show g ≠ k; omega) _).set 0 (.int .i64 fn))
    have hsk : s ≠ k ∧ s ≠ g := ⟨hS.ty.ne hKB.ty (by decide), hS.ty.ne hG.ty (by decide)⟩
    have hnu : ∀ q ∈ [k, g], ¬ Ty w' q 5 := by intro q hq; simp only [List.mem_cons, List.not_mem_nil, or_false] at hq; rcases hq with rfl | rfl; exact fun h => hKB.ty.ne h (by decide) rfl; exact fun h => hG.ty.ne h (by decide) rfl
    clear hw2
    go_simp
    exact hK'.go _ rfl ⟨B13, fun h => Bool.noConfusion (show true = false from h), fun _ => ⟨hKB2, hG2⟩, hS.keep hk2 (by simp; omega) hnu, Rd.keep0 hrb hk2 (fun q hq _ => by have := HVB.out q hq; simp; omega), hK.trans hk2, h0, h1, h2, h3, h4, h5, h6, h7, h8, h9, h10, h11, h12, fun h => ⟨(h13 h).1, (h13 h).2.keep hk2 (by simp; omega)⟩, fun _ => rfl, h15, h16, h17, h18, h19⟩
  · intro l x w' hJ hi hd
    obtain ⟨B13, hg0, hg1, hS, hrb, hK, h0, h1, h2, h3, h4, h5, h6, h7, h8, h9, h10, h11, h12, h13, h14, h15, h16, h17, h18, h19⟩ := hJ
    have e14 := h14 (show l 14 = true by first | exact hd.1 rfl | exact hd.2.1 rfl | exact hd.2.2.1 rfl | exact hd.2.2.2.1 rfl | exact hd.2.2.2.2.1 rfl | exact hd.2.2.2.2.2.1 rfl)
    refine Runs.of (b := ?bO15) ?eO15 ?_
    case eO15 => simp only [putV, Act.put, List.setIfInBounds_toArray, List.set_cons_zero, List.set_cons_succ, e14]; rfl
    intro K' hK'
    go_simp
    exact hK'.go _ rfl ⟨B13, hg0, hg1, hS, hrb, hK, h0, h1, h2, h3, h4, h5, h6, h7, h8, h9, h10, h11, h12, h13, h14, fun _ => rfl, h16, h17, h18, h19⟩
  · intro l x w' hJ hi hd
    obtain ⟨B13, hg0, hg1, hS, hrb, hK, h0, h1, h2, h3, h4, h5, h6, h7, h8, h9, h10, h11, h12, h13, h14, h15, h16, h17, h18, h19⟩ := hJ
    have e15 := h15 (show l 15 = true by first | exact hd.1 rfl | exact hd.2.1 rfl | exact hd.2.2.1 rfl | exact hd.2.2.2.1 rfl | exact hd.2.2.2.2.1 rfl | exact hd.2.2.2.2.2.1 rfl)
    refine Runs.of (b := ?bO16) ?eO16 ?_
    case eO16 => simp only [putV, Act.put, List.setIfInBounds_toArray, List.set_cons_zero, List.set_cons_succ, e15]; rfl
    intro K' hK'
    go_simp
    exact hK'.go _ rfl ⟨B13, hg0, hg1, hS, hrb, hK, h0, h1, h2, h3, h4, h5, h6, h7, h8, h9, h10, h11, h12, h13, h14, h15, fun _ => rfl, h17, h18, h19⟩
  · intro l x w' hJ hi hd
    obtain ⟨B13, hg0, hg1, hS, hrb, hK, h0, h1, h2, h3, h4, h5, h6, h7, h8, h9, h10, h11, h12, h13, h14, h15, h16, h17, h18, h19⟩ := hJ
    have e15 := h15 (show l 15 = true by first | exact hd.1 rfl | exact hd.2.1 rfl | exact hd.2.2.1 rfl | exact hd.2.2.2.1 rfl | exact hd.2.2.2.2.1 rfl | exact hd.2.2.2.2.2.1 rfl)
    refine Runs.of (b := ?bO17) ?eO17 ?_
    case eO17 => simp only [putV, Act.put, List.setIfInBounds_toArray, List.set_cons_zero, List.set_cons_succ, e15]; rfl
    intro K' hK'
    go_simp
    exact hK'.go _ rfl ⟨B13, hg0, hg1, hS, hrb, hK, h0, h1, h2, h3, h4, h5, h6, h7, h8, h9, h10, h11, h12, h13, h14, h15, h16, fun _ => rfl, h18, h19⟩
  · intro l x w' hJ hi hd
    obtain ⟨B13, hg0, hg1, hS, hrb, hK, h0, h1, h2, h3, h4, h5, h6, h7, h8, h9, h10, h11, h12, h13, h14, h15, h16, h17, h18, h19⟩ := hJ
    have e16 := h16 (show l 16 = true by first | exact hd.1 rfl | exact hd.2.1 rfl | exact hd.2.2.1 rfl | exact hd.2.2.2.1 rfl | exact hd.2.2.2.2.1 rfl | exact hd.2.2.2.2.2.1 rfl)
    refine Runs.of (b := ?bO18) ?eO18 ?_
    case eO18 => simp only [putV, Act.put, List.setIfInBounds_toArray, List.set_cons_zero, List.set_cons_succ, e16]; rfl
    intro K' hK'
    go_simp
    exact hK'.go _ rfl ⟨B13, hg0, hg1, hS, hrb, hK, h0, h1, h2, h3, h4, h5, h6, h7, h8, h9, h10, h11, h12, h13, h14, h15, h16, h17, fun _ => rfl, h19⟩
  · intro l x w' hJ hi hd
    obtain ⟨B13, hg0, hg1, hS, hrb, hK, h0, h1, h2, h3, h4, h5, h6, h7, h8, h9, h10, h11, h12, h13, h14, h15, h16, h17, h18, h19⟩ := hJ
    have e17 := h17 (show l 17 = true by first | exact hd.1 rfl | exact hd.2.1 rfl | exact hd.2.2.1 rfl | exact hd.2.2.2.1 rfl | exact hd.2.2.2.2.1 rfl | exact hd.2.2.2.2.2.1 rfl)
    refine Runs.of (b := ?bO19) ?eO19 ?_
    case eO19 => simp only [putV, Act.put, List.setIfInBounds_toArray, List.set_cons_zero, List.set_cons_succ, e17]; rfl
    intro K' hK'
    go_simp
    exact hK'.go _ rfl ⟨B13, hg0, hg1, hS, hrb, hK, h0, h1, h2, h3, h4, h5, h6, h7, h8, h9, h10, h11, h12, h13, h14, h15, h16, h17, h18, fun _ => rfl⟩
  · intro l x w4 hJ hl
    obtain ⟨B13, hg0, hg1, hS, hrb, hK, h0, h1, h2, h3, h4, h5, h6, h7, h8, h9, h10, h11, h12, h13, h14, h15, h16, h17, h18, h19⟩ := hJ
    have e18 := h18 (hl 18 (by decide))
    have e19 := h19 (hl 19 (by decide))
    obtain ⟨hKB, hG⟩ := hg1 (hl 14 (by decide))
    simp only [putV, Act.put, List.setIfInBounds_toArray, List.set_cons_zero, List.set_cons_succ, e18, e19]
    clear h0 h1 h2 h3 h4 h5 h6 h7 h8 h9 h10 h11 h12 h13 h14 h15 h16 h17 h18 h19 e18 e19 hl hg0 hg1 hKB0 hG0 hS0 hrb0
    have K4 := K3.then hK (by intro q hq hlt; have := HGK.out; simp at hq; omega)
    have g0 := hG.cell 0
    have k4 := hKB.cell 4
    have f4 := hKB.free 4
    simp only [List.getElem?_cons_zero, List.getElem?_cons_succ] at g0 k4
    go_upto_region 9 with fail
    have hKB5 : Blk (w4.setCell ⟨k, 4, none⟩ (.bool f)) k [.pointer (some ⟨s, 0, none⟩), .int .i64 b, .int .i64 e, .int .i64 r, .bool f] 78 := hKB.set 4 (.bool f)
    have hk5 : Keep [k] w4 (w4.setCell ⟨k, 4, none⟩ (.bool f)) := (Keep.refl _ _).setCell (.inl (by simp)) _
    have hS5 := hS.keep hk5 (by have := hS.ty.ne hKB.ty (by decide); simp; omega) (by intro q hq; simp at hq; subst hq; exact fun h => hKB.ty.ne h (by decide) rfl)
    have K5 := K4.then hk5 (by intro q hq hlt; have := HGK.out; simp at hq; omega)
    clear hKB hG hS hk5 K4 g0 k4 f4 hrb hK
    generalize w4.setCell ⟨k, 4, none⟩ (.bool f) = w5 at *
    have c1 := hKB5.cell 1
    have c2 := hKB5.cell 2
    have c3 := hKB5.cell 3
    have c4 := hKB5.cell 4
    simp only [List.getElem?_cons_zero, List.getElem?_cons_succ] at c1 c2 c3 c4
    go_wp2_with fail
    refine (meMay_any b e r f true HQ.out).mono ?_
    rintro x6 w6 ⟨rfl, k6⟩
    go_wp2_with fail
    go_ret2
    exact ⟨k, s, rfl, ⟨hKB5.keep k6 (by simp), by rw [HT0.out]; exact hS5.keep k6 (by simp) (by simp)⟩, K5.trans k6, HGK.out.2.1, HGK.out.2.2.2⟩
end Go.Proofs.Ytnnaleoigiaboaa
