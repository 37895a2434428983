/- Package meta: a Save of what may be. -/
import Derived.Test.YtnnaleoigiaboaaMeta2
namespace Go.Proofs.Ytnnaleoigiaboaa
open Go.ChangeShapes Go.WideShapes Go.ChangeAt Go.RowKit
set_option linter.unusedVariables false
set_option linter.unusedSimpArgs false

def svE (w0 : World) (xb k s d sb at_ turn slot c : Nat) (L : List Sec) (b e r : Int) (f : Bool) (b0 e0 r0 : Int) (f0 : Bool) (l : Nat → Bool) (x : Nat → Value) (w' : World) : Prop :=
  (Blk w' xb (meC b e r f) 52) ∧
  (Blk w' k [.pointer (some ⟨s, 0, none⟩), .int .i64 b0, .int .i64 e0, .int .i64 r0, .bool f0] 78) ∧
  (l 6 = false → IsDev w' d sb L c ∧ IsSup w' s d at_ turn (meText b0 e0 r0 f0) slot) ∧
  (l 6 = true → IsDev w' d sb ((L.map flushSec).set (at_ + (1 - slot)) ⟨sImg (turn + 1) (meText b e r f), sImg (turn + 1) (meText b e r f), false⟩) (c + 2) ∧ IsSup w' s d at_ (turn + 1) (meText b e r f) (1 - slot)) ∧
  (Keep [d, sb, s] w0 w') ∧
  (l 0 = true → x 0 = .pointer (some ⟨k, 0, none⟩)) ∧
  (l 1 = true → x 1 = .pointer (some ⟨k, 0, none⟩)) ∧
  (l 2 = true → x 2 = .pointer (some ⟨k, 0, none⟩)) ∧
  (l 3 = true → x 3 = .pointer (some ⟨s, 0, none⟩)) ∧
  (l 4 = true → x 4 = meV b e r f) ∧
  (l 5 = true → Buf w' w0.heap.size 5 (x 5) (meText b e r f)) ∧
  (l 6 = true → x 6 = .int .i64 0) ∧
  (l 7 = true → x 7 = .int .i64 0)

set_option maxRecDepth 100000 in
set_option maxHeartbeats 8000000 in
theorem meSave_ok {w : World} {d sb : Nat} {L : List Sec} {c : Nat} (hd : IsDev w d sb L c) {k s at_ turn slot : Nat} {b0 e0 r0 : Int} {f0 : Bool} (hk : IsKep w k s d at_ turn slot b0 e0 r0 f0) (b e r : Int) (f : Bool)
    (hq : true = meMay b e r f) (hb0 : b0 ≤ b) (he0 : e0 ≤ e) (hslot : slot ≤ 1) (hat : at_ + 1 < L.length) (hn : turn + 1 < 9223372036854775808) (hc : c + 2 ≤ 1099511627776) :
    Calls Try.prog 29 #[.pointer (some ⟨k, 0, none⟩), meV b e r f] w fun x w' => x = .returned (.int .i64 0) ∧
      IsDev w' d sb ((L.map flushSec).set (at_ + (1 - slot)) ⟨sImg (turn + 1) (meText b e r f), sImg (turn + 1) (meText b e r f), false⟩) (c + 2) ∧ IsKep w' k s d at_ (turn + 1) (1 - slot) b e r f ∧ Keep [d, sb, s, k] w w' := by
  have HQ := Lib.hid hq
  have HI := Lib.hid (meMay_i64 hq)
  have HTL := Lib.hid (meText_len (f := f) (meMay_i64 hq))
  have p1 : decide (b < b0) = false := decide_eq_false (by omega)
  have p2 : decide (e < e0) = false := decide_eq_false (by omega)
  clear hq hb0 he0
  obtain ⟨hB, hS⟩ := hk
  go_enter Try.func29, Try.ntmps29
  go_wp2_with fail
  have hX1 := Blk.new w (meC b e r f) 52
  have hB1 := hB.alloc (.cells (meC b e r f).toArray 52)
  have K1 := (Keep.refl [] w).alloc (.cells (meC b e r f).toArray 52)
  obtain ⟨w1, hw1⟩ : ∃ W, W = w.alloc (.cells (meC b e r f).toArray 52) := ⟨_, rfl⟩
  change Code.wp _ _ _ _ (w.alloc (.cells (meC b e r f).toArray 52))
  rw [← hw1] at hX1 hB1 K1 ⊢
  have hD1 := hd.keep K1 (by simp) (by simp)
  have hS1 := hS.keep K1 (by simp) (by simp)
  clear hw1 hd hS hB
  generalize w.heap.size = xb at *
  refine wp_region_inv (svD w1 xb k s b e r f b0 e0 r0 f0) (by kernel_rfl) (by kernel_rfl) (by kernel_rfl) ?_ (Steps.cons 0 ?_ (Steps.cons 1 ?_ (Steps.cons 2 ?_ (Steps.cons 3 ?_ (Steps.cons 4 ?_ (Steps.cons 5 ?_ (Steps.cons 6 ?_ (Steps.cons 7 ?_ (Steps.cons 8 ?_ (Steps.cons 9 ?_ (Steps.cons 10 ?_ (Steps.cons 11 ?_ (Steps.cons 12 ?_ (Steps.cons 13 ?_ (Steps.cons 14 ?_ (Steps.cons 15 ?_ (Steps.cons 16 ?_ (Steps.cons 17 ?_ (Steps.cons 18 ?_ (Steps.cons 19 ?_ (Steps.cons 20 ?_ (Steps.cons 21 ?_ (Steps.cons 22 ?_ (Steps.cons 23 ?_ (Steps.nil 24))))))))))))))))))))))))) 24 rfl ?_
  · intro x
    exact ⟨hX1.drew, hB1.drew, (Keep.refl _ _).drew, fun h => absurd h (by decide), fun h => absurd h (by decide), fun h => absurd h (by decide), fun h => absurd h (by decide), fun h => absurd h (by decide), fun h => absurd h (by decide), fun h => absurd h (by decide), fun h => absurd h (by decide), fun h => absurd h (by decide), fun h => absurd h (by decide), fun h => absurd h (by decide), fun h => absurd h (by decide), fun h => absurd h (by decide), fun h => absurd h (by decide), fun h => absurd h (by decide), fun h => absurd h (by decide), fun h => absurd h (by decide), fun h => absurd h (by decide), fun h => absurd h (by decide), fun h => absurd h (by decide), fun h => absurd h (by decide), fun h => absurd h (by decide), fun h => absurd h (by decide), fun h => absurd h (by decide)⟩
  · intro l x w' hJ hi hd
    obtain ⟨hX, hB, hK, h0, h1, h2, h3, h4, h5, h6, h7, h8, h9, h10, h11, h12, h13, h14, h15, h16, h17, h18, h19, h20, h21, h22, h23⟩ := hJ
    have c0 := hX.cell 0
    have c1 := hX.cell 1
    have c2 := hX.cell 2
    have c3 := hX.cell 3
    simp only [meC, List.getElem?_cons_zero, List.getElem?_cons_succ] at c0 c1 c2 c3
    refine Runs.of (b := ?bD0) ?eD0 ?_
    case eD0 => simp only [putV, Act.put, List.setIfInBounds_toArray, List.set_cons_zero, List.set_cons_succ]; rfl
    intro K' hK'
    go_simp
    exact hK'.go _ rfl ⟨hX, hB, hK, fun _ => rfl, h1, h2, h3, h4, h5, h6, h7, h8, h9, h10, h11, h12, h13, h14, h15, h16, h17, h18, h19, h20, h21, h22, h23⟩
  · intro l x w' hJ hi hd
    obtain ⟨hX, hB, hK, h0, h1, h2, h3, h4, h5, h6, h7, h8, h9, h10, h11, h12, h13, h14, h15, h16, h17, h18, h19, h20, h21, h22, h23⟩ := hJ
    have e0 := h0 (show l 0 = true by first | exact hd.1 rfl | exact hd.2.1 rfl | exact hd.2.2.1 rfl | exact hd.2.2.2.1 rfl | exact hd.2.2.2.2.1 rfl | exact hd.2.2.2.2.2.1 rfl)
    refine Runs.of (b := ?bD1) ?eD1 ?_
    case eD1 => simp only [putV, Act.put, List.setIfInBounds_toArray, List.set_cons_zero, List.set_cons_succ, e0]; rfl
    intro K' hK'
    go_simp
    refine (meMay_any b e r f _ HQ.out).mono ?_
    rintro x2 w2 ⟨rfl, k2⟩
    go_simp
    exact hK'.go _ rfl ⟨hX.keep k2 (by simp), hB.keep k2 (by simp), hK.trans k2, h0, fun _ => rfl, h2, h3, h4, h5, h6, h7, h8, h9, h10, h11, h12, h13, h14, h15, h16, h17, h18, h19, h20, h21, h22, h23⟩
  · intro l x w' hJ hi hd
    obtain ⟨hX, hB, hK, h0, h1, h2, h3, h4, h5, h6, h7, h8, h9, h10, h11, h12, h13, h14, h15, h16, h17, h18, h19, h20, h21, h22, h23⟩ := hJ
    have e1 := h1 (show l 1 = true by first | exact hd.1 rfl | exact hd.2.1 rfl | exact hd.2.2.1 rfl | exact hd.2.2.2.1 rfl | exact hd.2.2.2.2.1 rfl | exact hd.2.2.2.2.2.1 rfl)
    refine Runs.of (b := ?bD2) ?eD2 ?_
    case eD2 => simp only [putV, Act.put, List.setIfInBounds_toArray, List.set_cons_zero, List.set_cons_succ, e1]; rfl
    intro K' hK'
    go_simp
    exact hK'.go _ rfl ⟨hX, hB, hK, h0, h1, fun _ => rfl, h3, h4, h5, h6, h7, h8, h9, h10, h11, h12, h13, h14, h15, h16, h17, h18, h19, h20, h21, h22, h23⟩
  · intro l x w' hJ hi hd
    obtain ⟨hX, hB, hK, h0, h1, h2, h3, h4, h5, h6, h7, h8, h9, h10, h11, h12, h13, h14, h15, h16, h17, h18, h19, h20, h21, h22, h23⟩ := hJ
    have e2 := h2 (show l 2 = true by first | exact hd.1 rfl | exact hd.2.1 rfl | exact hd.2.2.1 rfl | exact hd.2.2.2.1 rfl | exact hd.2.2.2.2.1 rfl | exact hd.2.2.2.2.2.1 rfl)
    refine Runs.of (b := ?bD3) ?eD3 ?_
    case eD3 => simp only [putV, Act.put, List.setIfInBounds_toArray, List.set_cons_zero, List.set_cons_succ, e2]; rfl
    intro K' hK'
    go_simp
    exact hK'.go _ rfl ⟨hX, hB, hK, h0, h1, h2, fun _ => rfl, h4, h5, h6, h7, h8, h9, h10, h11, h12, h13, h14, h15, h16, h17, h18, h19, h20, h21, h22, h23⟩
  · intro l x w' hJ hi hd
    obtain ⟨hX, hB, hK, h0, h1, h2, h3, h4, h5, h6, h7, h8, h9, h10, h11, h12, h13, h14, h15, h16, h17, h18, h19, h20, h21, h22, h23⟩ := hJ
    have e3 := h3 (show l 3 = true by first | exact hd.1 rfl | exact hd.2.1 rfl | exact hd.2.2.1 rfl | exact hd.2.2.2.1 rfl | exact hd.2.2.2.2.1 rfl | exact hd.2.2.2.2.2.1 rfl)
    refine Runs.of (b := ?bD4) ?eD4 ?_
    case eD4 => simp only [putV, Act.put, List.setIfInBounds_toArray, List.set_cons_zero, List.set_cons_succ, e3]; rfl
    intro K' hK'
    go_simp
    exact hK'.go _ rfl ⟨hX, hB, hK, h0, h1, h2, h3, fun _ => rfl, h5, h6, h7, h8, h9, h10, h11, h12, h13, h14, h15, h16, h17, h18, h19, h20, h21, h22, h23⟩
  · intro l x w' hJ hi hd
    obtain ⟨hX, hB, hK, h0, h1, h2, h3, h4, h5, h6, h7, h8, h9, h10, h11, h12, h13, h14, h15, h16, h17, h18, h19, h20, h21, h22, h23⟩ := hJ
    have e3 := h3 (show l 3 = true by first | exact hd.1 rfl | exact hd.2.1 rfl | exact hd.2.2.1 rfl | exact hd.2.2.2.1 rfl | exact hd.2.2.2.2.1 rfl | exact hd.2.2.2.2.2.1 rfl)
    have e4 := h4 (show l 4 = true by first | exact hd.1 rfl | exact hd.2.1 rfl | exact hd.2.2.1 rfl | exact hd.2.2.2.1 rfl | exact hd.2.2.2.2.1 rfl | exact hd.2.2.2.2.2.1 rfl)
    have c := hX.cell 0
    simp only [meC, List.getElem?_cons_zero, List.getElem?_cons_succ] at c
    refine Runs.of (b := ?bD5) ?eD5 ?_
    case eD5 => simp only [putV, Act.put, List.setIfInBounds_toArray, List.set_cons_zero, List.set_cons_succ, e3, e4]; rfl
    intro K' hK'
    go_simp
    exact hK'.go _ rfl ⟨hX, hB, hK, h0, h1, h2, h3, h4, fun _ => rfl, h6, h7, h8, h9, h10, h11, h12, h13, h14, h15, h16, h17, h18, h19, h20, h21, h22, h23⟩
  · intro l x w' hJ hi hd
    obtain ⟨hX, hB, hK, h0, h1, h2, h3, h4, h5, h6, h7, h8, h9, h10, h11, h12, h13, h14, h15, h16, h17, h18, h19, h20, h21, h22, h23⟩ := hJ
    have e3 := h3 (show l 3 = true by first | exact hd.1 rfl | exact hd.2.1 rfl | exact hd.2.2.1 rfl | exact hd.2.2.2.1 rfl | exact hd.2.2.2.2.1 rfl | exact hd.2.2.2.2.2.1 rfl)
    refine Runs.of (b := ?bD6) ?eD6 ?_
    case eD6 => simp only [putV, Act.put, List.setIfInBounds_toArray, List.set_cons_zero, List.set_cons_succ, e3]; rfl
    intro K' hK'
    go_simp
    exact hK'.go _ rfl ⟨hX, hB, hK, h0, h1, h2, h3, h4, h5, fun _ => rfl, h7, h8, h9, h10, h11, h12, h13, h14, h15, h16, h17, h18, h19, h20, h21, h22, h23⟩
  · intro l x w' hJ hi hd
    obtain ⟨hX, hB, hK, h0, h1, h2, h3, h4, h5, h6, h7, h8, h9, h10, h11, h12, h13, h14, h15, h16, h17, h18, h19, h20, h21, h22, h23⟩ := hJ
    have e3 := h3 (show l 3 = true by first | exact hd.1 rfl | exact hd.2.1 rfl | exact hd.2.2.1 rfl | exact hd.2.2.2.1 rfl | exact hd.2.2.2.2.1 rfl | exact hd.2.2.2.2.2.1 rfl)
    have e6 := h6 (show l 6 = true by first | exact hd.1 rfl | exact hd.2.1 rfl | exact hd.2.2.1 rfl | exact hd.2.2.2.1 rfl | exact hd.2.2.2.2.1 rfl | exact hd.2.2.2.2.2.1 rfl)
    refine Runs.of (b := ?bD7) ?eD7 ?_
    case eD7 => simp only [putV, Act.put, List.setIfInBounds_toArray, List.set_cons_zero, List.set_cons_succ, e3, e6]; rfl
    intro K' hK'
    go_simp
    exact hK'.go _ rfl ⟨hX, hB, hK, h0, h1, h2, h3, h4, h5, h6, fun _ => rfl, h8, h9, h10, h11, h12, h13, h14, h15, h16, h17, h18, h19, h20, h21, h22, h23⟩
  · intro l x w' hJ hi hd
    obtain ⟨hX, hB, hK, h0, h1, h2, h3, h4, h5, h6, h7, h8, h9, h10, h11, h12, h13, h14, h15, h16, h17, h18, h19, h20, h21, h22, h23⟩ := hJ
    have e3 := h3 (show l 3 = true by first | exact hd.1 rfl | exact hd.2.1 rfl | exact hd.2.2.1 rfl | exact hd.2.2.2.1 rfl | exact hd.2.2.2.2.1 rfl | exact hd.2.2.2.2.2.1 rfl)
    have e7 := h7 (show l 7 = true by first | exact hd.1 rfl | exact hd.2.1 rfl | exact hd.2.2.1 rfl | exact hd.2.2.2.1 rfl | exact hd.2.2.2.2.1 rfl | exact hd.2.2.2.2.2.1 rfl)
    refine Runs.of (b := ?bD8) ?eD8 ?_
    case eD8 => simp only [putV, Act.put, List.setIfInBounds_toArray, List.set_cons_zero, List.set_cons_succ, e3, e7]; rfl
    intro K' hK'
    go_simp
    exact hK'.go _ rfl ⟨hX, hB, hK, h0, h1, h2, h3, h4, h5, h6, h7, fun _ => rfl, h9, h10, h11, h12, h13, h14, h15, h16, h17, h18, h19, h20, h21, h22, h23⟩
  · intro l x w' hJ hi hd
    obtain ⟨hX, hB, hK, h0, h1, h2, h3, h4, h5, h6, h7, h8, h9, h10, h11, h12, h13, h14, h15, h16, h17, h18, h19, h20, h21, h22, h23⟩ := hJ
    have e3 := h3 (show l 3 = true by first | exact hd.1 rfl | exact hd.2.1 rfl | exact hd.2.2.1 rfl | exact hd.2.2.2.1 rfl | exact hd.2.2.2.2.1 rfl | exact hd.2.2.2.2.2.1 rfl)
    have e8 := h8 (show l 8 = true by first | exact hd.1 rfl | exact hd.2.1 rfl | exact hd.2.2.1 rfl | exact hd.2.2.2.1 rfl | exact hd.2.2.2.2.1 rfl | exact hd.2.2.2.2.2.1 rfl)
    refine Runs.of (b := ?bD9) ?eD9 ?_
    case eD9 => simp only [putV, Act.put, List.setIfInBounds_toArray, List.set_cons_zero, List.set_cons_succ, e3, e8]; rfl
    intro K' hK'
    go_simp
    exact hK'.go _ rfl ⟨hX, hB, hK, h0, h1, h2, h3, h4, h5, h6, h7, h8, fun _ => rfl, h10, h11, h12, h13, h14, h15, h16, h17, h18, h19, h20, h21, h22, h23⟩
  · intro l x w' hJ hi hd
    obtain ⟨hX, hB, hK, h0, h1, h2, h3, h4, h5, h6, h7, h8, h9, h10, h11, h12, h13, h14, h15, h16, h17, h18, h19, h20, h21, h22, h23⟩ := hJ
    have e3 := h3 (show l 3 = true by first | exact hd.1 rfl | exact hd.2.1 rfl | exact hd.2.2.1 rfl | exact hd.2.2.2.1 rfl | exact hd.2.2.2.2.1 rfl | exact hd.2.2.2.2.2.1 rfl)
    have e9 := h9 (show l 9 = true by first | exact hd.1 rfl | exact hd.2.1 rfl | exact hd.2.2.1 rfl | exact hd.2.2.2.1 rfl | exact hd.2.2.2.2.1 rfl | exact hd.2.2.2.2.2.1 rfl)
    have c := hB.cell 1
    simp only [List.getElem?_cons_zero, List.getElem?_cons_succ] at c
    refine Runs.of (b := ?bD10) ?eD10 ?_
    case eD10 => simp only [putV, Act.put, List.setIfInBounds_toArray, List.set_cons_zero, List.set_cons_succ, e3, e9]; rfl
    intro K' hK'
    go_simp
    exact hK'.go _ rfl ⟨hX, hB, hK, h0, h1, h2, h3, h4, h5, h6, h7, h8, h9, fun _ => rfl, h11, h12, h13, h14, h15, h16, h17, h18, h19, h20, h21, h22, h23⟩
  · intro l x w' hJ hi hd
    obtain ⟨hX, hB, hK, h0, h1, h2, h3, h4, h5, h6, h7, h8, h9, h10, h11, h12, h13, h14, h15, h16, h17, h18, h19, h20, h21, h22, h23⟩ := hJ
    have e3 := h3 (show l 3 = true by first | exact hd.1 rfl | exact hd.2.1 rfl | exact hd.2.2.1 rfl | exact hd.2.2.2.1 rfl | exact hd.2.2.2.2.1 rfl | exact hd.2.2.2.2.2.1 rfl)
    have e5 := h5 (show l 5 = true by first | exact hd.1 rfl | exact hd.2.1 rfl | exact hd.2.2.1 rfl | exact hd.2.2.2.1 rfl | exact hd.2.2.2.2.1 rfl | exact hd.2.2.2.2.2.1 rfl)
    have e10 := h10 (show l 10 = true by first | exact hd.1 rfl | exact hd.2.1 rfl | exact hd.2.2.1 rfl | exact hd.2.2.2.1 rfl | exact hd.2.2.2.2.1 rfl | exact hd.2.2.2.2.2.1 rfl)
    refine Runs.of (b := ?bD11) ?eD11 ?_
    case eD11 => simp only [putV, Act.put, List.setIfInBounds_toArray, List.set_cons_zero, List.set_cons_succ, e3, e5, e10]; rfl
    intro K' hK'
    go_simp
    exact hK'.go _ rfl ⟨hX, hB, hK, h0, h1, h2, h3, h4, h5, h6, h7, h8, h9, h10, fun _ => rfl, h12, h13, h14, h15, h16, h17, h18, h19, h20, h21, h22, h23⟩
  · intro l x w' hJ hi hd
    obtain ⟨hX, hB, hK, h0, h1, h2, h3, h4, h5, h6, h7, h8, h9, h10, h11, h12, h13, h14, h15, h16, h17, h18, h19, h20, h21, h22, h23⟩ := hJ
    have e3 := h3 (show l 3 = true by first | exact hd.1 rfl | exact hd.2.1 rfl | exact hd.2.2.1 rfl | exact hd.2.2.2.1 rfl | exact hd.2.2.2.2.1 rfl | exact hd.2.2.2.2.2.1 rfl)
    have e11 := h11 (show l 11 = true by first | exact hd.1 rfl | exact hd.2.1 rfl | exact hd.2.2.1 rfl | exact hd.2.2.2.1 rfl | exact hd.2.2.2.2.1 rfl | exact hd.2.2.2.2.2.1 rfl)
    refine Runs.of (b := ?bD12) ?eD12 ?_
    case eD12 => simp only [putV, Act.put, List.setIfInBounds_toArray, List.set_cons_zero, List.set_cons_succ, e3, e11]; rfl
    intro K' hK'
    go_simp
    exact hK'.go _ rfl ⟨hX, hB, hK, h0, h1, h2, h3, h4, h5, h6, h7, h8, h9, h10, h11, fun _ => rfl, h13, h14, h15, h16, h17, h18, h19, h20, h21, h22, h23⟩
  · intro l x w' hJ hi hd
    obtain ⟨hX, hB, hK, h0, h1, h2, h3, h4, h5, h6, h7, h8, h9, h10, h11, h12, h13, h14, h15, h16, h17, h18, h19, h20, h21, h22, h23⟩ := hJ
    have e12 := h12 (show l 12 = true by first | exact hd.1 rfl | exact hd.2.1 rfl | exact hd.2.2.1 rfl | exact hd.2.2.2.1 rfl | exact hd.2.2.2.2.1 rfl | exact hd.2.2.2.2.2.1 rfl)
    refine Runs.of (b := ?bD13) ?eD13 ?_
    case eD13 => simp only [putV, Act.put, List.setIfInBounds_toArray, List.set_cons_zero, List.set_cons_succ, e12]; rfl
    intro K' hK'
    go_simp
    exact hK'.go _ rfl ⟨hX, hB, hK, h0, h1, h2, h3, h4, h5, h6, h7, h8, h9, h10, h11, h12, fun _ => rfl, h14, h15, h16, h17, h18, h19, h20, h21, h22, h23⟩
  · intro l x w' hJ hi hd
    obtain ⟨hX, hB, hK, h0, h1, h2, h3, h4, h5, h6, h7, h8, h9, h10, h11, h12, h13, h14, h15, h16, h17, h18, h19, h20, h21, h22, h23⟩ := hJ
    have e13 := h13 (show l 13 = true by first | exact hd.1 rfl | exact hd.2.1 rfl | exact hd.2.2.1 rfl | exact hd.2.2.2.1 rfl | exact hd.2.2.2.2.1 rfl | exact hd.2.2.2.2.2.1 rfl)
    refine Runs.of (b := ?bD14) ?eD14 ?_
    case eD14 => simp only [putV, Act.put, List.setIfInBounds_toArray, List.set_cons_zero, List.set_cons_succ, e13]; rfl
    intro K' hK'
    go_simp
    exact hK'.go _ rfl ⟨hX, hB, hK, h0, h1, h2, h3, h4, h5, h6, h7, h8, h9, h10, h11, h12, h13, fun _ => rfl, h15, h16, h17, h18, h19, h20, h21, h22, h23⟩
  · intro l x w' hJ hi hd
    obtain ⟨hX, hB, hK, h0, h1, h2, h3, h4, h5, h6, h7, h8, h9, h10, h11, h12, h13, h14, h15, h16, h17, h18, h19, h20, h21, h22, h23⟩ := hJ
    have e13 := h13 (show l 13 = true by first | exact hd.1 rfl | exact hd.2.1 rfl | exact hd.2.2.1 rfl | exact hd.2.2.2.1 rfl | exact hd.2.2.2.2.1 rfl | exact hd.2.2.2.2.2.1 rfl)
    have e14 := h14 (show l 14 = true by first | exact hd.1 rfl | exact hd.2.1 rfl | exact hd.2.2.1 rfl | exact hd.2.2.2.1 rfl | exact hd.2.2.2.2.1 rfl | exact hd.2.2.2.2.2.1 rfl)
    have c := hX.cell 1
    simp only [meC, List.getElem?_cons_zero, List.getElem?_cons_succ] at c
    refine Runs.of (b := ?bD15) ?eD15 ?_
    case eD15 => simp only [putV, Act.put, List.setIfInBounds_toArray, List.set_cons_zero, List.set_cons_succ, e13, e14]; rfl
    intro K' hK'
    go_simp
    exact hK'.go _ rfl ⟨hX, hB, hK, h0, h1, h2, h3, h4, h5, h6, h7, h8, h9, h10, h11, h12, h13, h14, fun _ => rfl, h16, h17, h18, h19, h20, h21, h22, h23⟩
  · intro l x w' hJ hi hd
    obtain ⟨hX, hB, hK, h0, h1, h2, h3, h4, h5, h6, h7, h8, h9, h10, h11, h12, h13, h14, h15, h16, h17, h18, h19, h20, h21, h22, h23⟩ := hJ
    have e13 := h13 (show l 13 = true by first | exact hd.1 rfl | exact hd.2.1 rfl | exact hd.2.2.1 rfl | exact hd.2.2.2.1 rfl | exact hd.2.2.2.2.1 rfl | exact hd.2.2.2.2.2.1 rfl)
    refine Runs.of (b := ?bD16) ?eD16 ?_
    case eD16 => simp only [putV, Act.put, List.setIfInBounds_toArray, List.set_cons_zero, List.set_cons_succ, e13]; rfl
    intro K' hK'
    go_simp
    exact hK'.go _ rfl ⟨hX, hB, hK, h0, h1, h2, h3, h4, h5, h6, h7, h8, h9, h10, h11, h12, h13, h14, h15, fun _ => rfl, h17, h18, h19, h20, h21, h22, h23⟩
  · intro l x w' hJ hi hd
    obtain ⟨hX, hB, hK, h0, h1, h2, h3, h4, h5, h6, h7, h8, h9, h10, h11, h12, h13, h14, h15, h16, h17, h18, h19, h20, h21, h22, h23⟩ := hJ
    have e13 := h13 (show l 13 = true by first | exact hd.1 rfl | exact hd.2.1 rfl | exact hd.2.2.1 rfl | exact hd.2.2.2.1 rfl | exact hd.2.2.2.2.1 rfl | exact hd.2.2.2.2.2.1 rfl)
    have e16 := h16 (show l 16 = true by first | exact hd.1 rfl | exact hd.2.1 rfl | exact hd.2.2.1 rfl | exact hd.2.2.2.1 rfl | exact hd.2.2.2.2.1 rfl | exact hd.2.2.2.2.2.1 rfl)
    refine Runs.of (b := ?bD17) ?eD17 ?_
    case eD17 => simp only [putV, Act.put, List.setIfInBounds_toArray, List.set_cons_zero, List.set_cons_succ, e13, e16]; rfl
    intro K' hK'
    go_simp
    exact hK'.go _ rfl ⟨hX, hB, hK, h0, h1, h2, h3, h4, h5, h6, h7, h8, h9, h10, h11, h12, h13, h14, h15, h16, fun _ => rfl, h18, h19, h20, h21, h22, h23⟩
  · intro l x w' hJ hi hd
    obtain ⟨hX, hB, hK, h0, h1, h2, h3, h4, h5, h6, h7, h8, h9, h10, h11, h12, h13, h14, h15, h16, h17, h18, h19, h20, h21, h22, h23⟩ := hJ
    have e13 := h13 (show l 13 = true by first | exact hd.1 rfl | exact hd.2.1 rfl | exact hd.2.2.1 rfl | exact hd.2.2.2.1 rfl | exact hd.2.2.2.2.1 rfl | exact hd.2.2.2.2.2.1 rfl)
    have e17 := h17 (show l 17 = true by first | exact hd.1 rfl | exact hd.2.1 rfl | exact hd.2.2.1 rfl | exact hd.2.2.2.1 rfl | exact hd.2.2.2.2.1 rfl | exact hd.2.2.2.2.2.1 rfl)
    refine Runs.of (b := ?bD18) ?eD18 ?_
    case eD18 => simp only [putV, Act.put, List.setIfInBounds_toArray, List.set_cons_zero, List.set_cons_succ, e13, e17]; rfl
    intro K' hK'
    go_simp
    exact hK'.go _ rfl ⟨hX, hB, hK, h0, h1, h2, h3, h4, h5, h6, h7, h8, h9, h10, h11, h12, h13, h14, h15, h16, h17, fun _ => rfl, h19, h20, h21, h22, h23⟩
  · intro l x w' hJ hi hd
    obtain ⟨hX, hB, hK, h0, h1, h2, h3, h4, h5, h6, h7, h8, h9, h10, h11, h12, h13, h14, h15, h16, h17, h18, h19, h20, h21, h22, h23⟩ := hJ
    have e13 := h13 (show l 13 = true by first | exact hd.1 rfl | exact hd.2.1 rfl | exact hd.2.2.1 rfl | exact hd.2.2.2.1 rfl | exact hd.2.2.2.2.1 rfl | exact hd.2.2.2.2.2.1 rfl)
    have e18 := h18 (show l 18 = true by first | exact hd.1 rfl | exact hd.2.1 rfl | exact hd.2.2.1 rfl | exact hd.2.2.2.1 rfl | exact hd.2.2.2.2.1 rfl | exact hd.2.2.2.2.2.1 rfl)
    refine Runs.of (b := ?bD19) ?eD19 ?_
    case eD19 => simp only [putV, Act.put, List.setIfInBounds_toArray, List.set_cons_zero, List.set_cons_succ, e13, e18]; rfl
    intro K' hK'
    go_simp
    exact hK'.go _ rfl ⟨hX, hB, hK, h0, h1, h2, h3, h4, h5, h6, h7, h8, h9, h10, h11, h12, h13, h14, h15, h16, h17, h18, fun _ => rfl, h20, h21, h22, h23⟩
  · intro l x w' hJ hi hd
    obtain ⟨hX, hB, hK, h0, h1, h2, h3, h4, h5, h6, h7, h8, h9, h10, h11, h12, h13, h14, h15, h16, h17, h18, h19, h20, h21, h22, h23⟩ := hJ
    have e13 := h13 (show l 13 = true by first | exact hd.1 rfl | exact hd.2.1 rfl | exact hd.2.2.1 rfl | exact hd.2.2.2.1 rfl | exact hd.2.2.2.2.1 rfl | exact hd.2.2.2.2.2.1 rfl)
    have e19 := h19 (show l 19 = true by first | exact hd.1 rfl | exact hd.2.1 rfl | exact hd.2.2.1 rfl | exact hd.2.2.2.1 rfl | exact hd.2.2.2.2.1 rfl | exact hd.2.2.2.2.2.1 rfl)
    have c := hB.cell 2
    simp only [List.getElem?_cons_zero, List.getElem?_cons_succ] at c
    refine Runs.of (b := ?bD20) ?eD20 ?_
    case eD20 => simp only [putV, Act.put, List.setIfInBounds_toArray, List.set_cons_zero, List.set_cons_succ, e13, e19]; rfl
    intro K' hK'
    go_simp
    exact hK'.go _ rfl ⟨hX, hB, hK, h0, h1, h2, h3, h4, h5, h6, h7, h8, h9, h10, h11, h12, h13, h14, h15, h16, h17, h18, h19, fun _ => rfl, h21, h22, h23⟩
  · intro l x w' hJ hi hd
    obtain ⟨hX, hB, hK, h0, h1, h2, h3, h4, h5, h6, h7, h8, h9, h10, h11, h12, h13, h14, h15, h16, h17, h18, h19, h20, h21, h22, h23⟩ := hJ
    have e13 := h13 (show l 13 = true by first | exact hd.1 rfl | exact hd.2.1 rfl | exact hd.2.2.1 rfl | exact hd.2.2.2.1 rfl | exact hd.2.2.2.2.1 rfl | exact hd.2.2.2.2.2.1 rfl)
    have e15 := h15 (show l 15 = true by first | exact hd.1 rfl | exact hd.2.1 rfl | exact hd.2.2.1 rfl | exact hd.2.2.2.1 rfl | exact hd.2.2.2.2.1 rfl | exact hd.2.2.2.2.2.1 rfl)
    have e20 := h20 (show l 20 = true by first | exact hd.1 rfl | exact hd.2.1 rfl | exact hd.2.2.1 rfl | exact hd.2.2.2.1 rfl | exact hd.2.2.2.2.1 rfl | exact hd.2.2.2.2.2.1 rfl)
    refine Runs.of (b := ?bD21) ?eD21 ?_
    case eD21 => simp only [putV, Act.put, List.setIfInBounds_toArray, List.set_cons_zero, List.set_cons_succ, e13, e15, e20]; rfl
    intro K' hK'
    go_simp
    exact hK'.go _ rfl ⟨hX, hB, hK, h0, h1, h2, h3, h4, h5, h6, h7, h8, h9, h10, h11, h12, h13, h14, h15, h16, h17, h18, h19, h20, fun _ => rfl, h22, h23⟩
  · intro l x w' hJ hi hd
    obtain ⟨hX, hB, hK, h0, h1, h2, h3, h4, h5, h6, h7, h8, h9, h10, h11, h12, h13, h14, h15, h16, h17, h18, h19, h20, h21, h22, h23⟩ := hJ
    have e13 := h13 (show l 13 = true by first | exact hd.1 rfl | exact hd.2.1 rfl | exact hd.2.2.1 rfl | exact hd.2.2.2.1 rfl | exact hd.2.2.2.2.1 rfl | exact hd.2.2.2.2.2.1 rfl)
    have e21 := h21 (show l 21 = true by first | exact hd.1 rfl | exact hd.2.1 rfl | exact hd.2.2.1 rfl | exact hd.2.2.2.1 rfl | exact hd.2.2.2.2.1 rfl | exact hd.2.2.2.2.2.1 rfl)
    refine Runs.of (b := ?bD22) ?eD22 ?_
    case eD22 => simp only [putV, Act.put, List.setIfInBounds_toArray, List.set_cons_zero, List.set_cons_succ, e13, e21]; rfl
    intro K' hK'
    go_simp
    exact hK'.go _ rfl ⟨hX, hB, hK, h0, h1, h2, h3, h4, h5, h6, h7, h8, h9, h10, h11, h12, h13, h14, h15, h16, h17, h18, h19, h20, h21, fun _ => rfl, h23⟩
  · intro l x w' hJ hi hd
    obtain ⟨hX, hB, hK, h0, h1, h2, h3, h4, h5, h6, h7, h8, h9, h10, h11, h12, h13, h14, h15, h16, h17, h18, h19, h20, h21, h22, h23⟩ := hJ
    have e22 := h22 (show l 22 = true by first | exact hd.1 rfl | exact hd.2.1 rfl | exact hd.2.2.1 rfl | exact hd.2.2.2.1 rfl | exact hd.2.2.2.2.1 rfl | exact hd.2.2.2.2.2.1 rfl)
    refine Runs.of (b := ?bD23) ?eD23 ?_
    case eD23 => simp only [putV, Act.put, List.setIfInBounds_toArray, List.set_cons_zero, List.set_cons_succ, e22]; rfl
    intro K' hK'
    go_simp
    exact hK'.go _ rfl ⟨hX, hB, hK, h0, h1, h2, h3, h4, h5, h6, h7, h8, h9, h10, h11, h12, h13, h14, h15, h16, h17, h18, h19, h20, h21, h22, fun _ => rfl⟩
  · intro l x w3 hJ hl
    obtain ⟨hX, hB, hK, h0, h1, h2, h3, h4, h5, h6, h7, h8, h9, h10, h11, h12, h13, h14, h15, h16, h17, h18, h19, h20, h21, h22, h23⟩ := hJ
    have e23 := h23 (hl 23 (by decide))
    simp only [putV, Act.put, List.setIfInBounds_toArray, List.set_cons_zero, List.set_cons_succ, e23]
    have K := K1.trans hK
    clear e23 hl
    have hX2 := hX
    have hB2 := hB
    have hD2 := hD1.keep hK (by simp) (by simp)
    have hS2 := hS1.keep hK (by simp) (by simp)
    have K3 := K
    have HLW := Lib.hid (show xb ≠ d ∧ xb ≠ sb ∧ xb ≠ s ∧ k ≠ d ∧ k ≠ sb ∧ k ≠ s ∧ k ≠ xb ∧ d < w3.heap.size ∧ sb < w3.heap.size ∧ s < w3.heap.size from ⟨hX.ty.ne hD2.dev.ty (by decide), hX.ty.ne hD2.secs.ty (by decide), hX.ty.ne hS2.ty (by decide), hB.ty.ne hD2.dev.ty (by decide), hB.ty.ne hD2.secs.ty (by decide), hB.ty.ne hS2.ty (by decide), hB.ty.ne hX.ty (by decide), hD2.dev.lt, hD2.secs.lt, hS2.lt⟩)
    clear hX1 hB1 K1 hK K hX hB hD1 hS1 h0 h1 h2 h3 h4 h5 h6 h7 h8 h9 h10 h11 h12 h13 h14 h15 h16 h17 h18 h19 h20 h21 h22 h23
    go_wp2_with fail
    refine wp_region_inv (svE w3 xb k s d sb at_ turn slot c L b e r f b0 e0 r0 f0) (by kernel_rfl) (by kernel_rfl) (by kernel_rfl) ?_ (Steps.cons 0 ?_ (Steps.cons 1 ?_ (Steps.cons 2 ?_ (Steps.cons 3 ?_ (Steps.cons 4 ?_ (Steps.cons 5 ?_ (Steps.cons 6 ?_ (Steps.cons 7 ?_ (Steps.nil 8))))))))) 8 rfl ?_
    · intro x
      exact ⟨hX2.drew, hB2.drew, fun _ => ⟨hD2.keep ((Keep.refl [] _).drew) (by simp) (by simp), hS2.keep ((Keep.refl [] _).drew) (by simp) (by simp)⟩, fun h => absurd h (by decide), (Keep.refl _ _).drew, fun h => absurd h (by decide), fun h => absurd h (by decide), fun h => absurd h (by decide), fun h => absurd h (by decide), fun h => absurd h (by decide), fun h => absurd h (by decide), fun h => absurd h (by decide), fun h => absurd h (by decide)⟩
    · intro l x w' hJ hi hd
      obtain ⟨hX, hB, hst0, hst1, hK, h0, h1, h2, h3, h4, h5, h6, h7⟩ := hJ
      refine Runs.of (b := ?bE0) ?eE0 ?_
      case eE0 => simp only [putV, Act.put, List.setIfInBounds_toArray, List.set_cons_zero, List.set_cons_succ]; rfl
      intro K' hK'
      go_simp
      exact hK'.go _ rfl ⟨hX, hB, hst0, hst1, hK, fun _ => rfl, h1, h2, h3, h4, h5, h6, h7⟩
    · intro l x w' hJ hi hd
      obtain ⟨hX, hB, hst0, hst1, hK, h0, h1, h2, h3, h4, h5, h6, h7⟩ := hJ
      have e0 := h0 (show l 0 = true by first | exact hd.1 rfl | exact hd.2.1 rfl | exact hd.2.2.1 rfl | exact hd.2.2.2.1 rfl | exact hd.2.2.2.2.1 rfl | exact hd.2.2.2.2.2.1 rfl)
      refine Runs.of (b := ?bE1) ?eE1 ?_
      case eE1 => simp only [putV, Act.put, List.setIfInBounds_toArray, List.set_cons_zero, List.set_cons_succ, e0]; rfl
      intro K' hK'
      go_simp
      exact hK'.go _ rfl ⟨hX, hB, hst0, hst1, hK, h0, fun _ => rfl, h2, h3, h4, h5, h6, h7⟩
    · intro l x w' hJ hi hd
      obtain ⟨hX, hB, hst0, hst1, hK, h0, h1, h2, h3, h4, h5, h6, h7⟩ := hJ
      have e1 := h1 (show l 1 = true by first | exact hd.1 rfl | exact hd.2.1 rfl | exact hd.2.2.1 rfl | exact hd.2.2.2.1 rfl | exact hd.2.2.2.2.1 rfl | exact hd.2.2.2.2.2.1 rfl)
      refine Runs.of (b := ?bE2) ?eE2 ?_
      case eE2 => simp only [putV, Act.put, List.setIfInBounds_toArray, List.set_cons_zero, List.set_cons_succ, e1]; rfl
      intro K' hK'
      go_simp
      exact hK'.go _ rfl ⟨hX, hB, hst0, hst1, hK, h0, h1, fun _ => rfl, h3, h4, h5, h6, h7⟩
    · intro l x w' hJ hi hd
      obtain ⟨hX, hB, hst0, hst1, hK, h0, h1, h2, h3, h4, h5, h6, h7⟩ := hJ
      have e2 := h2 (show l 2 = true by first | exact hd.1 rfl | exact hd.2.1 rfl | exact hd.2.2.1 rfl | exact hd.2.2.2.1 rfl | exact hd.2.2.2.2.1 rfl | exact hd.2.2.2.2.2.1 rfl)
      have c0 := hB.cell 0
      simp only [List.getElem?_cons_zero] at c0
      refine Runs.of (b := ?bE3) ?eE3 ?_
      case eE3 => simp only [putV, Act.put, List.setIfInBounds_toArray, List.set_cons_zero, List.set_cons_succ, e2]; rfl
      intro K' hK'
      go_simp
      exact hK'.go _ rfl ⟨hX, hB, hst0, hst1, hK, h0, h1, h2, fun _ => rfl, h4, h5, h6, h7⟩
    · intro l x w' hJ hi hd
      obtain ⟨hX, hB, hst0, hst1, hK, h0, h1, h2, h3, h4, h5, h6, h7⟩ := hJ
      have c0 := hX.cell 0
      have c1 := hX.cell 1
      have c2 := hX.cell 2
      have c3 := hX.cell 3
      simp only [meC, List.getElem?_cons_zero, List.getElem?_cons_succ] at c0 c1 c2 c3
      refine Runs.of (b := ?bE4) ?eE4 ?_
      case eE4 => simp only [putV, Act.put, List.setIfInBounds_toArray, List.set_cons_zero, List.set_cons_succ]; rfl
      intro K' hK'
      go_simp
      exact hK'.go _ rfl ⟨hX, hB, hst0, hst1, hK, h0, h1, h2, h3, fun _ => rfl, h5, h6, h7⟩
    · intro l x w' hJ hi hd
      obtain ⟨hX, hB, hst0, hst1, hK, h0, h1, h2, h3, h4, h5, h6, h7⟩ := hJ
      have e4 := h4 (show l 4 = true by first | exact hd.1 rfl | exact hd.2.1 rfl | exact hd.2.2.1 rfl | exact hd.2.2.2.1 rfl | exact hd.2.2.2.2.1 rfl | exact hd.2.2.2.2.2.1 rfl)
      refine Runs.of (b := ?bE5) ?eE5 ?_
      case eE5 => simp only [putV, Act.put, List.setIfInBounds_toArray, List.set_cons_zero, List.set_cons_succ, e4]; rfl
      intro K' hK'
      go_simp
      refine (meText_any b e r f HI.out).mono ?_
      rintro x2 w2 ⟨v2, rfl, hb2, k2⟩
      go_simp
      exact hK'.go v2 rfl ⟨hX.keep k2 (by simp), hB.keep k2 (by simp), fun h => ⟨(hst0 h).1.keep k2 (by simp) (by simp), (hst0 h).2.keep k2 (by simp) (by simp)⟩, fun h => ⟨(hst1 h).1.keep k2 (by simp) (by simp), (hst1 h).2.keep k2 (by simp) (by simp)⟩, hK.trans (k2.mono (by simp)), h0, h1, h2, h3, h4, fun _ => hb2.mono hK.size, h6, h7⟩
    · intro l x w' hJ hi hd
      obtain ⟨hX, hB, hst0, hst1, hK, h0, h1, h2, h3, h4, h5, h6, h7⟩ := hJ
      have e3 := h3 (show l 3 = true by first | exact hd.1 rfl | exact hd.2.1 rfl | exact hd.2.2.1 rfl | exact hd.2.2.2.1 rfl | exact hd.2.2.2.2.1 rfl | exact hd.2.2.2.2.2.1 rfl)
      have e5 := h5 (show l 5 = true by first | exact hd.1 rfl | exact hd.2.1 rfl | exact hd.2.2.1 rfl | exact hd.2.2.2.1 rfl | exact hd.2.2.2.2.1 rfl | exact hd.2.2.2.2.2.1 rfl)
      refine Runs.of (b := ?bE6) ?eE6 ?_
      case eE6 => simp only [putV, Act.put, List.setIfInBounds_toArray, List.set_cons_zero, List.set_cons_succ, e3]; rfl
      intro K' hK'
      go_simp
      obtain ⟨hD, hS⟩ := hst0 hi
      have hlw := HLW.out
      refine (Save_in hD hS (x 5) (meText b e r f) e5.rd (meText_byte _ _ _ _) HTL.out hslot hat hn hc (fun q hq _ => by have := e5.lt q hq; omega)).mono ?_
      rintro x2 w2 ⟨rfl, hD2, hS2, k2⟩
      go_simp
      exact hK'.go _ rfl ⟨hX.keep k2 (by simp; omega), hB.keep k2 (by simp; omega), fun h => Bool.noConfusion (show true = false from h), fun _ => ⟨hD2, hS2⟩, hK.trans k2, h0, h1, h2, h3, h4, fun h => (h5 h).keep k2 (fun q hq => by have := (h5 h).lt q hq; simp; omega), fun _ => rfl, h7⟩
    · intro l x w' hJ hi hd
      obtain ⟨hX, hB, hst0, hst1, hK, h0, h1, h2, h3, h4, h5, h6, h7⟩ := hJ
      have e6 := h6 (show l 6 = true by first | exact hd.1 rfl | exact hd.2.1 rfl | exact hd.2.2.1 rfl | exact hd.2.2.2.1 rfl | exact hd.2.2.2.2.1 rfl | exact hd.2.2.2.2.2.1 rfl)
      refine Runs.of (b := ?bE7) ?eE7 ?_
      case eE7 => simp only [putV, Act.put, List.setIfInBounds_toArray, List.set_cons_zero, List.set_cons_succ, e6]; rfl
      intro K' hK'
      go_simp
      exact hK'.go _ rfl ⟨hX, hB, hst0, hst1, hK, h0, h1, h2, h3, h4, h5, h6, fun _ => rfl⟩
    · intro l x w4 hJ hl
      obtain ⟨hX, hB, hst0, hst1, hK, h0, h1, h2, h3, h4, h5, h6, h7⟩ := hJ
      have e7 := h7 (hl 7 (by decide))
      obtain ⟨hD4, hS4⟩ := hst1 (hl 6 (by decide))
      simp only [putV, Act.put, List.setIfInBounds_toArray, List.set_cons_zero, List.set_cons_succ, e7]
      clear h0 h1 h2 h3 h4 h5 h6 h7 e7 hl hst0 hst1 hX2 hB2 hD2 hS2
      have x0 := hX.cell 0
      have x1 := hX.cell 1
      have x2 := hX.cell 2
      have x3 := hX.cell 3
      have g1 := hB.cell 1
      have g2 := hB.cell 2
      have g3 := hB.cell 3
      have g4 := hB.cell 4
      have f1 := hB.free 1
      have f2 := hB.free 2
      have f3 := hB.free 3
      have f4 := hB.free 4
      simp only [meC, List.getElem?_cons_zero, List.getElem?_cons_succ] at x0 x1 x2 x3 g1 g2 g3 g4
      go_wp2_with fail
      go_ret
      have hB5 := (((hB.set 1 (.int .i64 b)).set 2 (.int .i64 e)).set 3 (.int .i64 r)).set 4 (.bool f)
      have hK5 : Keep [k] w4 ((((w4.setCell ⟨k, 1, none⟩ (.int .i64 b)).setCell ⟨k, 2, none⟩ (.int .i64 e)).setCell ⟨k, 3, none⟩ (.int .i64 r)).setCell ⟨k, 4, none⟩ (.bool f)) := ((((Keep.refl _ _).setCell (.inl (by simp)) _).setCell (.inl (by simp)) _).setCell (.inl (by simp)) _).setCell (.inl (by simp)) _
      have hlw := HLW.out
      refine ⟨rfl, hD4.keep hK5 (by simp; omega) (by simp; omega), ⟨hB5, hS4.keep hK5 (by simp; omega) (by intro y hy; simp at hy; subst hy; exact fun h => hB.ty.ne h (by decide) rfl)⟩, ?_⟩
      exact (K3.mono (by simp)).trans ((hK.mono (by simp)).trans (hK5.mono (by simp)))
end Go.Proofs.Ytnnaleoigiaboaa
