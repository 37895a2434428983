/- The law ItemMay: its walk. -/
import Derived.Test.YtpibpgfadkfgbaaItemLaws
namespace Go.Proofs.Ytpibpgfadkfgbaa
open Go.ChangeShapes Go.WideShapes Go.ChangeAt Go.RowKit
set_option linter.unusedVariables false
set_option linter.unusedSimpArgs false

def IsItem (v : Value) : Prop := ∃ (k u : ByteArray) (n : Int) (g : Bool), v = itV k u n g ∧ k.size ≤ 9223372036854775807 ∧ u.size ≤ 9223372036854775807 ∧ (Lit.int .i64 n).wf = true
theorem agg_of_four (v : Value) (a b c d : Value) (h : v.cells.toList = [a, b, c, d]) : v = .agg #[a, b, c, d] := by
  have h2 : v.cells = #[a, b, c, d] := by rw [← Array.toList_inj]; exact h
  cases v <;> first | (simp only [Value.cells] at h2; rw [h2]) | (simp [Value.cells] at h2)
theorem item_opens {H : Type} {enc : TypeId × Value → H} {W : World} : Opens enc Try.prog W 49 (fun y : It => [Value.string y.1, Value.string y.2.1, Value.int .i64 y.2.2.1, Value.bool y.2.2.2])
    (fun y => y.1.size ≤ 9223372036854775807 ∧ y.2.1.size ≤ 9223372036854775807 ∧ (Lit.int .i64 y.2.2.1).wf = true ∧ True) :=
  opens_struct4 Try.underlying49 (by kernel_rfl) (by decide) (by refine ⟨?_, ?_, ?_, ?_⟩ <;> kernel_rfl)
    (opens_string Try.underlying9) (opens_string Try.underlying9) (opens_int Try.underlying2) (opens_bool Try.underlying4)
theorem open_item {H : Type} {enc : TypeId × Value → H} {W : World} {v : Value} {d : DataW H} {p : List MemPlace} {r : Reach} {b : Nat}
    (hv : Value.okWide Try.prog W r b 49 v) (h : DataW.Trod enc Try.prog W 0 (fun _ => true) true 49 v d p) : IsItem v := by
  obtain ⟨fuel, hf⟩ := h
  obtain ⟨y, h1, h2⟩ := item_opens _ _ _ hf
  exact ⟨y.1, y.2.1, y.2.2.1, y.2.2.2, agg_of_four _ _ _ _ _ h1, h2.1, h2.2.1, h2.2.2.1⟩
def imayJ (w0 : World) (b : Nat) (k v : ByteArray) (n : Int) (g : Bool) (now : Int) (l : Nat → Bool) (x : Nat → Value) (w' : World) : Prop :=
  (Blk w' b (itC k v n g) 49) ∧
  (Keep [] w0 w') ∧
  (l 0 = true → x 0 = itV k v n g) ∧
  (l 1 = true → x 1 = .bool (itMay k v n g)) ∧
  (l 2 = true → x 2 = itV k v n g) ∧
  (l 3 = true → x 3 = .bool (itMay k v n g)) ∧
  (l 4 = true → x 4 = .bool true) ∧
  (l 5 = true → x 5 = .bool true) ∧
  (l 6 = true → x 6 = itV k v n g) ∧
  (l 7 = true → x 7 = .int .i64 now) ∧
  (l 8 = true → x 8 = .bool (itLive k v n g now)) ∧
  (l 9 = true → x 9 = itV k v n g) ∧
  (l 10 = true → x 10 = .int .i64 now) ∧
  (l 11 = true → x 11 = .bool (itLive k v n g now)) ∧
  (l 12 = true → x 12 = .bool true) ∧
  (l 13 = true → x 13 = .bool true) ∧
  (l 14 = true → x 14 = .bool true)

set_option maxRecDepth 100000 in
set_option maxHeartbeats 4000000 in
theorem itemMay_walk (v0 : Value) (now : Int) (w : World) (w0 : IsItem v0) (_w1 : (Lit.int .i64 now).wf = true) :
    Calls Try.prog 8 #[v0, .int .i64 now] w fun e w' => e = .returned (.bool true) ∧ Below w.heap.size w w' := by
  obtain ⟨k0, v1, n, g, rfl, hk, hv, _⟩ := w0
  go_enter Try.func8, Try.ntmps8
  go_wp2_with fail
  have hx0 := Blk.new w (itC k0 v1 n g) 49
  have hK0 := (Keep.refl [] w).alloc (.cells (itC k0 v1 n g).toArray 49)
  refine (begun7 _).mono ?_
  rintro e w1 ⟨rfl, k1⟩
  have hx1 : Blk w1 w.heap.size (itC k0 v1 n g) 49 := hx0.keep k1 (by simp)
  have K1 : Keep [] w w1 := hK0.trans k1
  have hlw : w.heap.size ≤ w.heap.size := Nat.le_refl _
  clear hx0 hK0 k1
  obtain ⟨b, hb⟩ : ∃ b, b = w.heap.size := ⟨_, rfl⟩
  rw [← hb] at hx1 ⊢
  have HLW := Lib.hid (show w.heap.size ≤ b by omega)
  clear hb hlw
  have c0 := hx1.cell 0
  have c1 := hx1.cell 1
  have c2 := hx1.cell 2
  have c3 := hx1.cell 3
  simp only [itC, List.getElem?_cons_zero, List.getElem?_cons_succ] at c0 c1 c2 c3
  go_wp2_with fail
  refine (itCut_any k0 v1 n g hk hv).mono ?_
  rintro e w2 ⟨rfl, k2⟩
  have hx2 := hx1.keep k2 (by simp)
  have K2 := K1.trans k2
  have HS := Lib.hid (show (cutStr k0 50).size ≤ 9223372036854775807 ∧ (cutStr v1 210).size ≤ 9223372036854775807 from ⟨by have := cutStr_size k0 50; omega, by have := cutStr_size v1 210; omega⟩)
  clear c0 c1 c2 c3 hx1 K1 k2 hk hv
  generalize cutStr k0 50 = k at *
  generalize cutStr v1 210 = v at *
  have f0 := hx2.free 0
  have f1 := hx2.free 1
  have f2 := hx2.free 2
  have f3 := hx2.free 3
  have c0 := hx2.cell 0
  have c1 := hx2.cell 1
  have c2 := hx2.cell 2
  have c3 := hx2.cell 3
  simp only [itC, List.getElem?_cons_zero, List.getElem?_cons_succ] at c0 c1 c2 c3
  go_upto_region 5 with fail
  have hB0 := (((hx2.set 0 (.string k)).set 1 (.string v)).set 2 (.int .i64 n)).set 3 (.bool g)
  have hk4 : Keep [b] w2 ((((w2.setCell ⟨b, 0, none⟩ (.string k)).setCell ⟨b, 1, none⟩ (.string v)).setCell ⟨b, 2, none⟩ (.int .i64 n)).setCell ⟨b, 3, none⟩ (.bool g)) :=
    ((((Keep.refl _ _).setCell (.inl (by simp)) _).setCell (.inl (by simp)) _).setCell (.inl (by simp)) _).setCell (.inl (by simp)) _
  have K4 := K2.then hk4 (by intro y hy hlt; have := HLW.out; simp at hy; omega)
  clear hk4 hx2 K2 f0 f1 f2 f3 c0 c1 c2 c3
  generalize (((w2.setCell ⟨b, 0, none⟩ (.string k)).setCell ⟨b, 1, none⟩ (.string v)).setCell ⟨b, 2, none⟩ (.int .i64 n)).setCell ⟨b, 3, none⟩ (.bool g) = w4 at *
  replace hB0 : Blk w4 b (itC k v n g) 49 := hB0
  refine wp_region_inv (imayJ w4 b k v n g now) (by kernel_rfl) (by kernel_rfl) (by kernel_rfl) ?_ (Steps.cons 0 ?_ (Steps.cons 1 ?_ (Steps.cons 2 ?_ (Steps.cons 3 ?_ (Steps.cons 4 ?_ (Steps.cons 5 ?_ (Steps.cons 6 ?_ (Steps.cons 7 ?_ (Steps.cons 8 ?_ (Steps.cons 9 ?_ (Steps.cons 10 ?_ (Steps.cons 11 ?_ (Steps.cons 12 ?_ (Steps.cons 13 ?_ (Steps.cons 14 ?_ (Steps.nil 15)))))))))))))))) 15 rfl ?_
  · intro x
    exact ⟨hB0.drew, (Keep.refl _ _).drew, fun h => absurd h (by decide), fun h => absurd h (by decide), fun h => absurd h (by decide), fun h => absurd h (by decide), fun h => absurd h (by decide), fun h => absurd h (by decide), fun h => absurd h (by decide), fun h => absurd h (by decide), fun h => absurd h (by decide), fun h => absurd h (by decide), fun h => absurd h (by decide), fun h => absurd h (by decide), fun h => absurd h (by decide), fun h => absurd h (by decide), fun h => absurd h (by decide)⟩
  · intro l x w' hJ hi hd
    obtain ⟨hB, hK, h0, h1, h2, h3, h4, h5, h6, h7, h8, h9, h10, h11, h12, h13, h14⟩ := hJ
    have c0 := hB.cell 0
    have c1 := hB.cell 1
    have c2 := hB.cell 2
    have c3 := hB.cell 3
    simp only [itC, List.getElem?_cons_zero, List.getElem?_cons_succ] at c0 c1 c2 c3
    refine Runs.of (b := ?bM0) ?eM0 ?_
    case eM0 => simp only [putV, Act.put, List.setIfInBounds_toArray, List.set_cons_zero, List.set_cons_succ]; rfl
    intro K' hK'
    go_simp
    exact hK'.go _ rfl ⟨hB, hK, fun _ => rfl, h1, h2, h3, h4, h5, h6, h7, h8, h9, h10, h11, h12, h13, h14⟩
  · intro l x w' hJ hi hd
    obtain ⟨hB, hK, h0, h1, h2, h3, h4, h5, h6, h7, h8, h9, h10, h11, h12, h13, h14⟩ := hJ
    have e0 := h0 (show l 0 = true by first | exact hd.1 rfl | exact hd.2.1 rfl | exact hd.2.2.1 rfl | exact hd.2.2.2.1 rfl | exact hd.2.2.2.2.1 rfl | exact hd.2.2.2.2.2.1 rfl)
    refine Runs.of (b := ?bM1) ?eM1 ?_
    case eM1 => simp only [putV, Act.put, List.setIfInBounds_toArray, List.set_cons_zero, List.set_cons_succ, e0]; rfl
    intro K' hK'
    go_simp
    refine (May_any k v n g HS.out.1 HS.out.2 _ rfl).mono ?_
    rintro e w2 ⟨rfl, k2⟩
    go_simp
    exact hK'.go _ rfl ⟨hB.keep k2 (by simp), hK.trans k2, h0, fun _ => rfl, h2, h3, h4, h5, h6, h7, h8, h9, h10, h11, h12, h13, h14⟩
  · intro l x w' hJ hi hd
    obtain ⟨hB, hK, h0, h1, h2, h3, h4, h5, h6, h7, h8, h9, h10, h11, h12, h13, h14⟩ := hJ
    have c0 := hB.cell 0
    have c1 := hB.cell 1
    have c2 := hB.cell 2
    have c3 := hB.cell 3
    simp only [itC, List.getElem?_cons_zero, List.getElem?_cons_succ] at c0 c1 c2 c3
    refine Runs.of (b := ?bM2) ?eM2 ?_
    case eM2 => simp only [putV, Act.put, List.setIfInBounds_toArray, List.set_cons_zero, List.set_cons_succ]; rfl
    intro K' hK'
    go_simp
    exact hK'.go _ rfl ⟨hB, hK, h0, h1, fun _ => rfl, h3, h4, h5, h6, h7, h8, h9, h10, h11, h12, h13, h14⟩
  · intro l x w' hJ hi hd
    obtain ⟨hB, hK, h0, h1, h2, h3, h4, h5, h6, h7, h8, h9, h10, h11, h12, h13, h14⟩ := hJ
    have e2 := h2 (show l 2 = true by first | exact hd.1 rfl | exact hd.2.1 rfl | exact hd.2.2.1 rfl | exact hd.2.2.2.1 rfl | exact hd.2.2.2.2.1 rfl | exact hd.2.2.2.2.2.1 rfl)
    refine Runs.of (b := ?bM3) ?eM3 ?_
    case eM3 => simp only [putV, Act.put, List.setIfInBounds_toArray, List.set_cons_zero, List.set_cons_succ, e2]; rfl
    intro K' hK'
    go_simp
    refine (RefMay_any k v n g HS.out.1 HS.out.2 _ rfl).mono ?_
    rintro e w2 ⟨rfl, k2⟩
    go_simp
    exact hK'.go _ rfl ⟨hB.keep k2 (by simp), hK.trans k2, h0, h1, h2, fun _ => rfl, h4, h5, h6, h7, h8, h9, h10, h11, h12, h13, h14⟩
  · intro l x w' hJ hi hd
    obtain ⟨hB, hK, h0, h1, h2, h3, h4, h5, h6, h7, h8, h9, h10, h11, h12, h13, h14⟩ := hJ
    have e1 := h1 (show l 1 = true by first | exact hd.1 rfl | exact hd.2.1 rfl | exact hd.2.2.1 rfl | exact hd.2.2.2.1 rfl | exact hd.2.2.2.2.1 rfl | exact hd.2.2.2.2.2.1 rfl)
    have e3 := h3 (show l 3 = true by first | exact hd.1 rfl | exact hd.2.1 rfl | exact hd.2.2.1 rfl | exact hd.2.2.2.1 rfl | exact hd.2.2.2.2.1 rfl | exact hd.2.2.2.2.2.1 rfl)
    refine Runs.of (b := ?bM4) ?eM4 ?_
    case eM4 => simp only [putV, Act.put, List.setIfInBounds_toArray, List.set_cons_zero, List.set_cons_succ, e1, e3]; rfl
    intro K' hK'
    go_simp
    exact hK'.go _ rfl ⟨hB, hK, h0, h1, h2, h3, fun _ => rfl, h5, h6, h7, h8, h9, h10, h11, h12, h13, h14⟩
  · intro l x w' hJ hi hd
    obtain ⟨hB, hK, h0, h1, h2, h3, h4, h5, h6, h7, h8, h9, h10, h11, h12, h13, h14⟩ := hJ
    have e4 := h4 (show l 4 = true by first | exact hd.1 rfl | exact hd.2.1 rfl | exact hd.2.2.1 rfl | exact hd.2.2.2.1 rfl | exact hd.2.2.2.2.1 rfl | exact hd.2.2.2.2.2.1 rfl)
    refine Runs.of (b := ?bM5) ?eM5 ?_
    case eM5 => simp only [putV, Act.put, List.setIfInBounds_toArray, List.set_cons_zero, List.set_cons_succ, e4]; rfl
    intro K' hK'
    go_simp
    exact hK'.go _ rfl ⟨hB, hK, h0, h1, h2, h3, h4, fun _ => rfl, h6, h7, h8, h9, h10, h11, h12, h13, h14⟩
  · intro l x w' hJ hi hd
    obtain ⟨hB, hK, h0, h1, h2, h3, h4, h5, h6, h7, h8, h9, h10, h11, h12, h13, h14⟩ := hJ
    have e5 := h5 (show l 5 = true by first | exact hd.1 rfl | exact hd.2.1 rfl | exact hd.2.2.1 rfl | exact hd.2.2.2.1 rfl | exact hd.2.2.2.2.1 rfl | exact hd.2.2.2.2.2.1 rfl)
    have c0 := hB.cell 0
    have c1 := hB.cell 1
    have c2 := hB.cell 2
    have c3 := hB.cell 3
    simp only [itC, List.getElem?_cons_zero, List.getElem?_cons_succ] at c0 c1 c2 c3
    refine Runs.of (b := ?bM6) ?eM6 ?_
    case eM6 => simp only [putV, Act.put, List.setIfInBounds_toArray, List.set_cons_zero, List.set_cons_succ, e5]; rfl
    intro K' hK'
    go_simp
    exact hK'.go _ rfl ⟨hB, hK, h0, h1, h2, h3, h4, h5, fun _ => rfl, h7, h8, h9, h10, h11, h12, h13, h14⟩
  · intro l x w' hJ hi hd
    obtain ⟨hB, hK, h0, h1, h2, h3, h4, h5, h6, h7, h8, h9, h10, h11, h12, h13, h14⟩ := hJ
    have e5 := h5 (show l 5 = true by first | exact hd.1 rfl | exact hd.2.1 rfl | exact hd.2.2.1 rfl | exact hd.2.2.2.1 rfl | exact hd.2.2.2.2.1 rfl | exact hd.2.2.2.2.2.1 rfl)
    refine Runs.of (b := ?bM7) ?eM7 ?_
    case eM7 => simp only [putV, Act.put, List.setIfInBounds_toArray, List.set_cons_zero, List.set_cons_succ, e5]; rfl
    intro K' hK'
    go_simp
    exact hK'.go _ rfl ⟨hB, hK, h0, h1, h2, h3, h4, h5, h6, fun _ => rfl, h8, h9, h10, h11, h12, h13, h14⟩
  · intro l x w' hJ hi hd
    obtain ⟨hB, hK, h0, h1, h2, h3, h4, h5, h6, h7, h8, h9, h10, h11, h12, h13, h14⟩ := hJ
    have e5 := h5 (show l 5 = true by first | exact hd.1 rfl | exact hd.2.1 rfl | exact hd.2.2.1 rfl | exact hd.2.2.2.1 rfl | exact hd.2.2.2.2.1 rfl | exact hd.2.2.2.2.2.1 rfl)
    have e6 := h6 (show l 6 = true by first | exact hd.1 rfl | exact hd.2.1 rfl | exact hd.2.2.1 rfl | exact hd.2.2.2.1 rfl | exact hd.2.2.2.2.1 rfl | exact hd.2.2.2.2.2.1 rfl)
    have e7 := h7 (show l 7 = true by first | exact hd.1 rfl | exact hd.2.1 rfl | exact hd.2.2.1 rfl | exact hd.2.2.2.1 rfl | exact hd.2.2.2.2.1 rfl | exact hd.2.2.2.2.2.1 rfl)
    refine Runs.of (b := ?bM8) ?eM8 ?_
    case eM8 => simp only [putV, Act.put, List.setIfInBounds_toArray, List.set_cons_zero, List.set_cons_succ, e5, e6, e7]; rfl
    intro K' hK'
    go_simp
    refine (Live_any k v n g now HS.out.1 HS.out.2 _ rfl).mono ?_
    rintro e w2 ⟨rfl, k2⟩
    go_simp
    exact hK'.go _ rfl ⟨hB.keep k2 (by simp), hK.trans k2, h0, h1, h2, h3, h4, h5, h6, h7, fun _ => rfl, h9, h10, h11, h12, h13, h14⟩
  · intro l x w' hJ hi hd
    obtain ⟨hB, hK, h0, h1, h2, h3, h4, h5, h6, h7, h8, h9, h10, h11, h12, h13, h14⟩ := hJ
    have e5 := h5 (show l 5 = true by first | exact hd.1 rfl | exact hd.2.1 rfl | exact hd.2.2.1 rfl | exact hd.2.2.2.1 rfl | exact hd.2.2.2.2.1 rfl | exact hd.2.2.2.2.2.1 rfl)
    have c0 := hB.cell 0
    have c1 := hB.cell 1
    have c2 := hB.cell 2
    have c3 := hB.cell 3
    simp only [itC, List.getElem?_cons_zero, List.getElem?_cons_succ] at c0 c1 c2 c3
    refine Runs.of (b := ?bM9) ?eM9 ?_
    case eM9 => simp only [putV, Act.put, List.setIfInBounds_toArray, List.set_cons_zero, List.set_cons_succ, e5]; rfl
    intro K' hK'
    go_simp
    exact hK'.go _ rfl ⟨hB, hK, h0, h1, h2, h3, h4, h5, h6, h7, h8, fun _ => rfl, h10, h11, h12, h13, h14⟩
  · intro l x w' hJ hi hd
    obtain ⟨hB, hK, h0, h1, h2, h3, h4, h5, h6, h7, h8, h9, h10, h11, h12, h13, h14⟩ := hJ
    have e5 := h5 (show l 5 = true by first | exact hd.1 rfl | exact hd.2.1 rfl | exact hd.2.2.1 rfl | exact hd.2.2.2.1 rfl | exact hd.2.2.2.2.1 rfl | exact hd.2.2.2.2.2.1 rfl)
    refine Runs.of (b := ?bM10) ?eM10 ?_
    case eM10 => simp only [putV, Act.put, List.setIfInBounds_toArray, List.set_cons_zero, List.set_cons_succ, e5]; rfl
    intro K' hK'
    go_simp
    exact hK'.go _ rfl ⟨hB, hK, h0, h1, h2, h3, h4, h5, h6, h7, h8, h9, fun _ => rfl, h11, h12, h13, h14⟩
  · intro l x w' hJ hi hd
    obtain ⟨hB, hK, h0, h1, h2, h3, h4, h5, h6, h7, h8, h9, h10, h11, h12, h13, h14⟩ := hJ
    have e5 := h5 (show l 5 = true by first | exact hd.1 rfl | exact hd.2.1 rfl | exact hd.2.2.1 rfl | exact hd.2.2.2.1 rfl | exact hd.2.2.2.2.1 rfl | exact hd.2.2.2.2.2.1 rfl)
    have e9 := h9 (show l 9 = true by first | exact hd.1 rfl | exact hd.2.1 rfl | exact hd.2.2.1 rfl | exact hd.2.2.2.1 rfl | exact hd.2.2.2.2.1 rfl | exact hd.2.2.2.2.2.1 rfl)
    have e10 := h10 (show l 10 = true by first | exact hd.1 rfl | exact hd.2.1 rfl | exact hd.2.2.1 rfl | exact hd.2.2.2.1 rfl | exact hd.2.2.2.2.1 rfl | exact hd.2.2.2.2.2.1 rfl)
    refine Runs.of (b := ?bM11) ?eM11 ?_
    case eM11 => simp only [putV, Act.put, List.setIfInBounds_toArray, List.set_cons_zero, List.set_cons_succ, e5, e9, e10]; rfl
    intro K' hK'
    go_simp
    refine (RefLive_any k v n g now HS.out.1 HS.out.2 _ rfl).mono ?_
    rintro e w2 ⟨rfl, k2⟩
    go_simp
    exact hK'.go _ rfl ⟨hB.keep k2 (by simp), hK.trans k2, h0, h1, h2, h3, h4, h5, h6, h7, h8, h9, h10, fun _ => rfl, h12, h13, h14⟩
  · intro l x w' hJ hi hd
    obtain ⟨hB, hK, h0, h1, h2, h3, h4, h5, h6, h7, h8, h9, h10, h11, h12, h13, h14⟩ := hJ
    have e5 := h5 (show l 5 = true by first | exact hd.1 rfl | exact hd.2.1 rfl | exact hd.2.2.1 rfl | exact hd.2.2.2.1 rfl | exact hd.2.2.2.2.1 rfl | exact hd.2.2.2.2.2.1 rfl)
    have e8 := h8 (show l 8 = true by first | exact hd.1 rfl | exact hd.2.1 rfl | exact hd.2.2.1 rfl | exact hd.2.2.2.1 rfl | exact hd.2.2.2.2.1 rfl | exact hd.2.2.2.2.2.1 rfl)
    have e11 := h11 (show l 11 = true by first | exact hd.1 rfl | exact hd.2.1 rfl | exact hd.2.2.1 rfl | exact hd.2.2.2.1 rfl | exact hd.2.2.2.2.1 rfl | exact hd.2.2.2.2.2.1 rfl)
    refine Runs.of (b := ?bM12) ?eM12 ?_
    case eM12 => simp only [putV, Act.put, List.setIfInBounds_toArray, List.set_cons_zero, List.set_cons_succ, e5, e8, e11]; rfl
    intro K' hK'
    go_simp
    exact hK'.go _ rfl ⟨hB, hK, h0, h1, h2, h3, h4, h5, h6, h7, h8, h9, h10, h11, fun _ => rfl, h13, h14⟩
  · intro l x w' hJ hi hd
    obtain ⟨hB, hK, h0, h1, h2, h3, h4, h5, h6, h7, h8, h9, h10, h11, h12, h13, h14⟩ := hJ
    have e5 := h5 (show l 5 = true by first | exact hd.1 rfl | exact hd.2.1 rfl | exact hd.2.2.1 rfl | exact hd.2.2.2.1 rfl | exact hd.2.2.2.2.1 rfl | exact hd.2.2.2.2.2.1 rfl)
    have e12 := h12 (show l 12 = true by first | exact hd.1 rfl | exact hd.2.1 rfl | exact hd.2.2.1 rfl | exact hd.2.2.2.1 rfl | exact hd.2.2.2.2.1 rfl | exact hd.2.2.2.2.2.1 rfl)
    refine Runs.of (b := ?bM13) ?eM13 ?_
    case eM13 => simp only [putV, Act.put, List.setIfInBounds_toArray, List.set_cons_zero, List.set_cons_succ, e5, e12]; rfl
    intro K' hK'
    go_simp
    exact hK'.go _ rfl ⟨hB, hK, h0, h1, h2, h3, h4, h5, h6, h7, h8, h9, h10, h11, h12, fun _ => rfl, h14⟩
  · intro l x w' hJ hi hd
    obtain ⟨hB, hK, h0, h1, h2, h3, h4, h5, h6, h7, h8, h9, h10, h11, h12, h13, h14⟩ := hJ
    have e13 := h13 (show l 13 = true by first | exact hd.1 rfl | exact hd.2.1 rfl | exact hd.2.2.1 rfl | exact hd.2.2.2.1 rfl | exact hd.2.2.2.2.1 rfl | exact hd.2.2.2.2.2.1 rfl)
    refine Runs.of (b := ?bM14) ?eM14 ?_
    case eM14 => simp only [putV, Act.put, List.setIfInBounds_toArray, List.set_cons_zero, List.set_cons_succ, e13]; rfl
    intro K' hK'
    go_simp
    exact hK'.go _ rfl ⟨hB, hK, h0, h1, h2, h3, h4, h5, h6, h7, h8, h9, h10, h11, h12, h13, fun _ => rfl⟩
  · intro l x w3 hJ hl
    obtain ⟨hB, hK, h0, h1, h2, h3, h4, h5, h6, h7, h8, h9, h10, h11, h12, h13, h14⟩ := hJ
    have e14 := h14 (hl 14 (by decide))
    simp only [putV, Act.put, List.setIfInBounds_toArray, List.set_cons_zero, List.set_cons_succ, e14]
    have K := K4.trans hK
    clear h0 h1 h2 h3 h4 h5 h6 h7 h8 h9 h10 h11 h12 h13 h14 e14 hl hB hK
    go_wp2_with fail
    go_ret
    exact ⟨rfl, K.below⟩
end Go.Proofs.Ytpibpgfadkfgbaa
