/- The law MetaMay: its walk. -/
import Derived.Test.YtnnaleoigiaboaaMetaLaws
import Derived.Test.YtnnaleoigiaboaaOpen
namespace Go.Proofs.Ytnnaleoigiaboaa
open Go.ChangeShapes Go.WideShapes Go.ChangeAt Go.RowKit
set_option linter.unusedVariables false
set_option linter.unusedSimpArgs false

def IsMeta (v : Value) : Prop := ∃ (b e r : Int) (f : Bool), v = meV b e r f
abbrev Me := Int × Int × Int × Bool
theorem agg_of_four (v : Value) (a b c d : Value) (h : v.cells.toList = [a, b, c, d]) : v = .agg #[a, b, c, d] := by
  have h2 : v.cells = #[a, b, c, d] := by rw [← Array.toList_inj]; exact h
  cases v <;> first | (simp only [Value.cells] at h2; rw [h2]) | (simp [Value.cells] at h2)
theorem meta_opens {H : Type} {enc : TypeId × Value → H} {W : World} : Opens enc Try.prog W 52 (fun y : Me => [Value.int .i64 y.1, Value.int .i64 y.2.1, Value.int .i64 y.2.2.1, Value.bool y.2.2.2])
    (fun y => (Lit.int .i64 y.1).wf = true ∧ (Lit.int .i64 y.2.1).wf = true ∧ (Lit.int .i64 y.2.2.1).wf = true ∧ True) :=
  opens_struct4 Try.underlying52 (by kernel_rfl) (by decide) (by refine ⟨?_, ?_, ?_, ?_⟩ <;> kernel_rfl)
    (opens_int Try.underlying2) (opens_int Try.underlying2) (opens_int Try.underlying2) (opens_bool Try.underlying4)
theorem open_meta {H : Type} {enc : TypeId × Value → H} {W : World} {v : Value} {d : DataW H} {p : List MemPlace} {r : Reach} {b : Nat}
    (hv : Value.okWide Try.prog W r b 52 v) (h : DataW.Trod enc Try.prog W 0 (fun _ => true) true 52 v d p) : IsMeta v := by
  obtain ⟨fuel, hf⟩ := h
  obtain ⟨y, h1, h2⟩ := meta_opens _ _ _ hf
  exact ⟨y.1, y.2.1, y.2.2.1, y.2.2.2, agg_of_four _ _ _ _ _ h1⟩
def mayM (w0 : World) (xb : Nat) (b e r : Int) (f q : Bool) (l : Nat → Bool) (x : Nat → Value) (w' : World) : Prop :=
  (Blk w' xb (meC b e r f) 52) ∧
  (Keep [] w0 w') ∧
  (l 0 = true → x 0 = meV b e r f) ∧
  (l 1 = true → x 1 = .bool q) ∧
  (l 2 = true → x 2 = meV b e r f) ∧
  (l 3 = true → x 3 = .bool q) ∧
  (l 4 = true → x 4 = .bool true) ∧
  (l 5 = true → x 5 = .bool true)

set_option maxRecDepth 100000 in
set_option maxHeartbeats 4000000 in
theorem metaMay_walk (v0 : Value) (w : World) (w0 : IsMeta v0) :
    Calls Try.prog 12 #[v0] w fun e w' => e = .returned (.bool true) ∧ Below w.heap.size w w' := by
  obtain ⟨b, e, r, f, rfl⟩ := w0
  obtain ⟨q, hq⟩ : ∃ q, q = meMay b e r f := ⟨_, rfl⟩
  have HQ := Lib.hid hq
  clear hq
  go_enter Try.func12, Try.ntmps12
  go_wp2_with fail
  have hx0 := Blk.new w (meC b e r f) 52
  have hK0 := (Keep.refl [] w).alloc (.cells (meC b e r f).toArray 52)
  refine (begun12 _).mono ?_
  rintro x w1 ⟨rfl, k1⟩
  have hX1 : Blk w1 w.heap.size (meC b e r f) 52 := hx0.keep k1 (by simp)
  have K1 : Keep [] w w1 := hK0.trans k1
  clear hx0 hK0 k1
  obtain ⟨xb, hxb⟩ : ∃ xb, xb = w.heap.size := ⟨_, rfl⟩
  rw [← hxb] at hX1 ⊢
  clear hxb
  go_wp2_with fail
  refine wp_region_inv (mayM w1 xb b e r f q) (by kernel_rfl) (by kernel_rfl) (by kernel_rfl) ?_ (Steps.cons 0 ?_ (Steps.cons 1 ?_ (Steps.cons 2 ?_ (Steps.cons 3 ?_ (Steps.cons 4 ?_ (Steps.cons 5 ?_ (Steps.nil 6))))))) 6 rfl ?_
  · intro x
    exact ⟨hX1.drew, (Keep.refl _ _).drew, fun h => absurd h (by decide), fun h => absurd h (by decide), fun h => absurd h (by decide), fun h => absurd h (by decide), fun h => absurd h (by decide), fun h => absurd h (by decide)⟩
  · intro l x w' hJ hi hd
    obtain ⟨hX, hK, h0, h1, h2, h3, h4, h5⟩ := hJ
    have c0 := hX.cell 0
    have c1 := hX.cell 1
    have c2 := hX.cell 2
    have c3 := hX.cell 3
    simp only [meC, List.getElem?_cons_zero, List.getElem?_cons_succ] at c0 c1 c2 c3
    refine Runs.of (b := ?bP0) ?eP0 ?_
    case eP0 => simp only [putV, Act.put, List.setIfInBounds_toArray, List.set_cons_zero, List.set_cons_succ]; rfl
    intro K' hK'
    go_simp
    exact hK'.go _ rfl ⟨hX, hK, fun _ => rfl, h1, h2, h3, h4, h5⟩
  · intro l x w' hJ hi hd
    obtain ⟨hX, hK, h0, h1, h2, h3, h4, h5⟩ := hJ
    have e0 := h0 (show l 0 = true by first | exact hd.1 rfl | exact hd.2.1 rfl | exact hd.2.2.1 rfl | exact hd.2.2.2.1 rfl | exact hd.2.2.2.2.1 rfl | exact hd.2.2.2.2.2.1 rfl)
    refine Runs.of (b := ?bP1) ?eP1 ?_
    case eP1 => simp only [putV, Act.put, List.setIfInBounds_toArray, List.set_cons_zero, List.set_cons_succ, e0]; rfl
    intro K' hK'
    go_simp
    refine (meMay_any b e r f q HQ.out).mono ?_
    rintro x2 w2 ⟨rfl, k2⟩
    go_simp
    exact hK'.go _ rfl ⟨hX.keep k2 (by simp), hK.trans k2, h0, fun _ => rfl, h2, h3, h4, h5⟩
  · intro l x w' hJ hi hd
    obtain ⟨hX, hK, h0, h1, h2, h3, h4, h5⟩ := hJ
    have c0 := hX.cell 0
    have c1 := hX.cell 1
    have c2 := hX.cell 2
    have c3 := hX.cell 3
    simp only [meC, List.getElem?_cons_zero, List.getElem?_cons_succ] at c0 c1 c2 c3
    refine Runs.of (b := ?bP2) ?eP2 ?_
    case eP2 => simp only [putV, Act.put, List.setIfInBounds_toArray, List.set_cons_zero, List.set_cons_succ]; rfl
    intro K' hK'
    go_simp
    exact hK'.go _ rfl ⟨hX, hK, h0, h1, fun _ => rfl, h3, h4, h5⟩
  · intro l x w' hJ hi hd
    obtain ⟨hX, hK, h0, h1, h2, h3, h4, h5⟩ := hJ
    have e2 := h2 (show l 2 = true by first | exact hd.1 rfl | exact hd.2.1 rfl | exact hd.2.2.1 rfl | exact hd.2.2.2.1 rfl | exact hd.2.2.2.2.1 rfl | exact hd.2.2.2.2.2.1 rfl)
    refine Runs.of (b := ?bP3) ?eP3 ?_
    case eP3 => simp only [putV, Act.put, List.setIfInBounds_toArray, List.set_cons_zero, List.set_cons_succ, e2]; rfl
    intro K' hK'
    go_simp
    refine (lawMay_any b e r f q HQ.out).mono ?_
    rintro x2 w2 ⟨rfl, k2⟩
    go_simp
    exact hK'.go _ rfl ⟨hX.keep k2 (by simp), hK.trans k2, h0, h1, h2, fun _ => rfl, h4, h5⟩
  · intro l x w' hJ hi hd
    obtain ⟨hX, hK, h0, h1, h2, h3, h4, h5⟩ := hJ
    have e1 := h1 (show l 1 = true by first | exact hd.1 rfl | exact hd.2.1 rfl | exact hd.2.2.1 rfl | exact hd.2.2.2.1 rfl | exact hd.2.2.2.2.1 rfl | exact hd.2.2.2.2.2.1 rfl)
    have e3 := h3 (show l 3 = true by first | exact hd.1 rfl | exact hd.2.1 rfl | exact hd.2.2.1 rfl | exact hd.2.2.2.1 rfl | exact hd.2.2.2.2.1 rfl | exact hd.2.2.2.2.2.1 rfl)
    refine Runs.of (b := ?bP4) ?eP4 ?_
    case eP4 => simp only [putV, Act.put, List.setIfInBounds_toArray, List.set_cons_zero, List.set_cons_succ, e1, e3]; rfl
    intro K' hK'
    go_simp
    exact hK'.go _ rfl ⟨hX, hK, h0, h1, h2, h3, fun _ => rfl, h5⟩
  · intro l x w' hJ hi hd
    obtain ⟨hX, hK, h0, h1, h2, h3, h4, h5⟩ := hJ
    have e4 := h4 (show l 4 = true by first | exact hd.1 rfl | exact hd.2.1 rfl | exact hd.2.2.1 rfl | exact hd.2.2.2.1 rfl | exact hd.2.2.2.2.1 rfl | exact hd.2.2.2.2.2.1 rfl)
    refine Runs.of (b := ?bP5) ?eP5 ?_
    case eP5 => simp only [putV, Act.put, List.setIfInBounds_toArray, List.set_cons_zero, List.set_cons_succ, e4]; rfl
    intro K' hK'
    go_simp
    exact hK'.go _ rfl ⟨hX, hK, h0, h1, h2, h3, h4, fun _ => rfl⟩
  · intro l x w3 hJ hl
    obtain ⟨hX, hK, h0, h1, h2, h3, h4, h5⟩ := hJ
    have e5 := h5 (hl 5 (by decide))
    simp only [putV, Act.put, List.setIfInBounds_toArray, List.set_cons_zero, List.set_cons_succ, e5]
    have K := K1.trans hK
    clear h0 h1 h2 h3 h4 h5 e5 hl hX hK
    go_wp2_with fail
    go_ret
    exact ⟨rfl, K.below⟩
end Go.Proofs.Ytnnaleoigiaboaa
