/- Entries: cut, put into rows. -/
import Derived.Test.YtonghelcfbjknaaItem
import Derived.Test.YtonghelcfbjknaaRegInv
namespace Go.Proofs.Ytonghelcfbjknaa
open Go.ChangeShapes Go.WideShapes Go.ChangeAt Go.RowKit
set_option linter.unusedVariables false
set_option linter.unusedSimpArgs false

theorem Try.sizeItem : (Try.prog.info? 24).map (·.size) = some 4 := by kernel_rfl
theorem itC_one (k v : ByteArray) (n : Int) (g : Bool) : ∀ u ∈ itC k v n g, u.oneCell' = true := by
  intro u hu
  simp [itC] at hu
  rcases hu with rfl | rfl | rfl | rfl <;> rfl
def cutC (k v : ByteArray) (n : Int) (g : Bool) (l : Nat → Bool) : List Value := [.string (if l 7 = true then cutStr k 50 else k), .string (if l 9 = true then cutStr v 210 else v), .int .i64 n, .bool g]
def cutJ (k v : ByteArray) (n : Int) (g : Bool) (w : World) (b r : Nat) (l : Nat → Bool) (x : Nat → Value) (w' : World) : Prop :=
  Blk w' b (cutC k v n g l) 24 ∧ Blk w' r (itC { data := #[] } { data := #[] } 0 false) 24 ∧ Keep [b, r] w w' ∧ (l 1 = false → l 2 = false ∧ l 7 = false) ∧ (l 4 = false → l 5 = false ∧ l 9 = false) ∧
  (l 0 = true → x 0 = .pointer (some ⟨b, 0, none⟩)) ∧ (l 1 = true → x 1 = .string k) ∧ (l 2 = true → x 2 = .string (cutStr k 50)) ∧
  (l 3 = true → x 3 = .pointer (some ⟨b, 1, none⟩)) ∧ (l 4 = true → x 4 = .string v) ∧ (l 5 = true → x 5 = .string (cutStr v 210)) ∧
  (l 6 = true → x 6 = .pointer (some ⟨b, 0, none⟩)) ∧ (l 8 = true → x 8 = .pointer (some ⟨b, 1, none⟩))

theorem cutC_set0 {w : World} {b : Nat} {k v : ByteArray} {n : Int} {g : Bool} {l : Nat → Bool} {T : TypeId} (h : Blk w b (cutC k v n g l) T) : Blk (w.setCell ⟨b, 0, none⟩ (.string (cutStr k 50))) b (cutC k v n g (upd l 7 true)) T := h.set 0 _
theorem cutC_set1 {w : World} {b : Nat} {k v : ByteArray} {n : Int} {g : Bool} {l : Nat → Bool} {T : TypeId} (h : Blk w b (cutC k v n g l) T) : Blk (w.setCell ⟨b, 1, none⟩ (.string (cutStr v 210))) b (cutC k v n g (upd l 9 true)) T := h.set 1 _
set_option maxHeartbeats 4000000 in
theorem itCut_any {w : World} (k v : ByteArray) (n : Int) (g : Bool) (hk : k.size ≤ 9223372036854775807) (hv : v.size ≤ 9223372036854775807) :
    Calls Try.prog 19 #[itV k v n g] w fun e w' => e = .returned (itV (cutStr k 50) (cutStr v 210) n g) ∧ Keep [] w w' := by
  go_enter Try.func19, Try.ntmps19
  go_wp2_with fail
  have hB0 : Blk ((w.alloc (.cells (itC k v n g).toArray 24)).alloc (.cells (itC { data := #[] } { data := #[] } 0 false).toArray 24)) w.heap.size (itC k v n g) 24 := (Blk.new _ _ _).alloc _
  have hR0 : Blk ((w.alloc (.cells (itC k v n g).toArray 24)).alloc (.cells (itC { data := #[] } { data := #[] } 0 false).toArray 24)) (w.heap.size + 1) (itC { data := #[] } { data := #[] } 0 false) 24 := Blk.new' _ _ _ _ (by simp)
  have hK0 : Keep [] w ((w.alloc (.cells (itC k v n g).toArray 24)).alloc (.cells (itC { data := #[] } { data := #[] } 0 false).toArray 24)) := ((Keep.refl _ _).alloc _).alloc _
  obtain ⟨w1, hw1⟩ : ∃ W, W = (w.alloc (.cells (itC k v n g).toArray 24)).alloc (.cells (itC { data := #[] } { data := #[] } 0 false).toArray 24) := ⟨_, rfl⟩
  change Code.wp _ _ _ _ ((w.alloc (.cells (itC k v n g).toArray 24)).alloc (.cells (itC { data := #[] } { data := #[] } 0 false).toArray 24))
  rw [← hw1] at hB0 hR0 hK0 ⊢
  clear hw1
  have hne : w.heap.size ≠ w.heap.size + 1 := by omega
  have hlow : w.heap.size ≤ w.heap.size + 1 := by omega
  generalize w.heap.size + 1 = r at *
  obtain ⟨b, hb⟩ : ∃ b, b = w.heap.size := ⟨_, rfl⟩
  rw [← hb] at hB0 hne hlow ⊢
  have hlb : w.heap.size ≤ b ∧ w.heap.size ≤ r := by omega
  have HLB := Lib.hid hlb
  clear hb hlb hlow
  have hne' : r ≠ b := Ne.symm hne
  refine wp_region_inv (cutJ k v n g w1 b r) (by kernel_rfl) (by kernel_rfl) (by kernel_rfl) ?_ (Steps.cons 0 ?_ (Steps.cons 1 ?_ (Steps.cons 2 ?_ (Steps.cons 3 ?_ (Steps.cons 4 ?_ (Steps.cons 5 ?_ (Steps.cons 6 ?_ (Steps.cons 7 ?_ (Steps.cons 8 ?_ (Steps.cons 9 ?_ (Steps.nil 10))))))))))) 10 rfl ?_
  · intro x
    exact ⟨hB0.drew, hR0.drew, (Keep.refl _ _).drew, fun _ => ⟨rfl, rfl⟩, fun _ => ⟨rfl, rfl⟩, fun h => absurd h (by decide), fun h => absurd h (by decide), fun h => absurd h (by decide), fun h => absurd h (by decide), fun h => absurd h (by decide), fun h => absurd h (by decide), fun h => absurd h (by decide), fun h => absurd h (by decide)⟩
  · intro l x w' hJ hi hd
    obtain ⟨hB, hR, hK, d1, d4, h0, h1, h2, h3, h4, h5, h6, h8⟩ := hJ
    refine Runs.of (b := ?b0) ?e0 ?_
    case e0 => simp only [putV, Act.put, List.setIfInBounds_toArray, List.set_cons_zero, List.set_cons_succ]; rfl
    intro K' hK'
    go_simp
    exact hK'.go _ rfl ⟨hB, hR, hK, d1, d4, fun _ => rfl, h1, h2, h3, h4, h5, h6, h8⟩
  · intro l x w' hJ hi hd
    obtain ⟨hB, hR, hK, d1, d4, h0, h1, h2, h3, h4, h5, h6, h8⟩ := hJ
    have e0 := h0 (show l 0 = true by first | exact hd.1 rfl | exact hd.2.1 rfl | exact hd.2.2.1 rfl | exact hd.2.2.2.1 rfl | exact hd.2.2.2.2.1 rfl)
    have c := hB.cell 0
    simp only [cutC, (d1 hi).2, List.getElem?_cons_zero] at c
    rw [if_neg (by decide)] at c
    refine Runs.of (b := ?b1) ?e1 ?_
    case e1 => simp only [putV, Act.put, List.setIfInBounds_toArray, List.set_cons_zero, List.set_cons_succ, e0]; rfl
    intro K' hK'
    go_simp
    exact hK'.go _ rfl ⟨hB, hR, hK, fun h => Bool.noConfusion (show true = false from h), d4, h0, fun _ => rfl, h2, h3, h4, h5, h6, h8⟩
  · intro l x w' hJ hi hd
    obtain ⟨hB, hR, hK, d1, d4, h0, h1, h2, h3, h4, h5, h6, h8⟩ := hJ
    have D : l 1 = true := by first | exact hd.1 rfl | exact hd.2.1 rfl | exact hd.2.2.1 rfl | exact hd.2.2.2.1 rfl | exact hd.2.2.2.2.1 rfl
    have e1 := h1 (show l 1 = true by first | exact hd.1 rfl | exact hd.2.1 rfl | exact hd.2.2.1 rfl | exact hd.2.2.2.1 rfl | exact hd.2.2.2.2.1 rfl)
    refine Runs.of (b := ?b2) ?e2 ?_
    case e2 => simp only [putV, Act.put, List.setIfInBounds_toArray, List.set_cons_zero, List.set_cons_succ, e1]; rfl
    intro K' hK'
    go_simp
    refine (Cut_any k 50 hk (by omega)).mono ?_
    rintro e w2 ⟨rfl, rfl⟩
    go_simp
    exact hK'.go _ rfl ⟨hB, hR, hK, fun h => absurd (D.symm.trans h) (by decide), d4, h0, h1, fun _ => rfl, h3, h4, h5, h6, h8⟩
  · intro l x w' hJ hi hd
    obtain ⟨hB, hR, hK, d1, d4, h0, h1, h2, h3, h4, h5, h6, h8⟩ := hJ
    refine Runs.of (b := ?b3) ?e3 ?_
    case e3 => simp only [putV, Act.put, List.setIfInBounds_toArray, List.set_cons_zero, List.set_cons_succ]; rfl
    intro K' hK'
    go_simp
    exact hK'.go _ rfl ⟨hB, hR, hK, d1, d4, h0, h1, h2, fun _ => rfl, h4, h5, h6, h8⟩
  · intro l x w' hJ hi hd
    obtain ⟨hB, hR, hK, d1, d4, h0, h1, h2, h3, h4, h5, h6, h8⟩ := hJ
    have e3 := h3 (show l 3 = true by first | exact hd.1 rfl | exact hd.2.1 rfl | exact hd.2.2.1 rfl | exact hd.2.2.2.1 rfl | exact hd.2.2.2.2.1 rfl)
    have c := hB.cell 1
    simp only [cutC, (d4 hi).2, List.getElem?_cons_zero, List.getElem?_cons_succ] at c
    rw [if_neg (by decide)] at c
    refine Runs.of (b := ?b4) ?e4 ?_
    case e4 => simp only [putV, Act.put, List.setIfInBounds_toArray, List.set_cons_zero, List.set_cons_succ, e3]; rfl
    intro K' hK'
    go_simp
    exact hK'.go _ rfl ⟨hB, hR, hK, d1, fun h => Bool.noConfusion (show true = false from h), h0, h1, h2, h3, fun _ => rfl, h5, h6, h8⟩
  · intro l x w' hJ hi hd
    obtain ⟨hB, hR, hK, d1, d4, h0, h1, h2, h3, h4, h5, h6, h8⟩ := hJ
    have D : l 4 = true := by first | exact hd.1 rfl | exact hd.2.1 rfl | exact hd.2.2.1 rfl | exact hd.2.2.2.1 rfl | exact hd.2.2.2.2.1 rfl
    have e4 := h4 (show l 4 = true by first | exact hd.1 rfl | exact hd.2.1 rfl | exact hd.2.2.1 rfl | exact hd.2.2.2.1 rfl | exact hd.2.2.2.2.1 rfl)
    refine Runs.of (b := ?b5) ?e5 ?_
    case e5 => simp only [putV, Act.put, List.setIfInBounds_toArray, List.set_cons_zero, List.set_cons_succ, e4]; rfl
    intro K' hK'
    go_simp
    refine (Cut_any v 210 hv (by omega)).mono ?_
    rintro e w2 ⟨rfl, rfl⟩
    go_simp
    exact hK'.go _ rfl ⟨hB, hR, hK, d1, fun h => absurd (D.symm.trans h) (by decide), h0, h1, h2, h3, h4, fun _ => rfl, h6, h8⟩
  · intro l x w' hJ hi hd
    obtain ⟨hB, hR, hK, d1, d4, h0, h1, h2, h3, h4, h5, h6, h8⟩ := hJ
    refine Runs.of (b := ?b6) ?e6 ?_
    case e6 => simp only [putV, Act.put, List.setIfInBounds_toArray, List.set_cons_zero, List.set_cons_succ]; rfl
    intro K' hK'
    go_simp
    exact hK'.go _ rfl ⟨hB, hR, hK, d1, d4, h0, h1, h2, h3, h4, h5, fun _ => rfl, h8⟩
  · intro l x w' hJ hi hd
    obtain ⟨hB, hR, hK, d1, d4, h0, h1, h2, h3, h4, h5, h6, h8⟩ := hJ
    have D : l 2 = true := by first | exact hd.1 rfl | exact hd.2.1 rfl | exact hd.2.2.1 rfl | exact hd.2.2.2.1 rfl | exact hd.2.2.2.2.1 rfl
    have e6 := h6 (show l 6 = true by first | exact hd.1 rfl | exact hd.2.1 rfl | exact hd.2.2.1 rfl | exact hd.2.2.2.1 rfl | exact hd.2.2.2.2.1 rfl)
    have e2 := h2 (show l 2 = true by first | exact hd.1 rfl | exact hd.2.1 rfl | exact hd.2.2.1 rfl | exact hd.2.2.2.1 rfl | exact hd.2.2.2.2.1 rfl)
    have f0 := hB.free 0
    have c := hB.cell 0
    simp only [cutC, List.getElem?_cons_zero, List.getElem?_cons_succ] at c
    refine Runs.of (b := ?b7) ?e7 ?_
    case e7 => simp only [putV, Act.put, List.setIfInBounds_toArray, List.set_cons_zero, List.set_cons_succ, e6, e2]; rfl
    intro K' hK'
    go_simp
    exact hK'.go undef rfl ⟨cutC_set0 hB, hR.other hne' _, hK.setCell (.inl (by simp)) _, fun h => absurd (D.symm.trans (d1 h).1) (by decide), d4, h0, h1, h2, h3, h4, h5, h6, h8⟩
  · intro l x w' hJ hi hd
    obtain ⟨hB, hR, hK, d1, d4, h0, h1, h2, h3, h4, h5, h6, h8⟩ := hJ
    refine Runs.of (b := ?b8) ?e8 ?_
    case e8 => simp only [putV, Act.put, List.setIfInBounds_toArray, List.set_cons_zero, List.set_cons_succ]; rfl
    intro K' hK'
    go_simp
    exact hK'.go _ rfl ⟨hB, hR, hK, d1, d4, h0, h1, h2, h3, h4, h5, h6, fun _ => rfl⟩
  · intro l x w' hJ hi hd
    obtain ⟨hB, hR, hK, d1, d4, h0, h1, h2, h3, h4, h5, h6, h8⟩ := hJ
    have D : l 5 = true := by first | exact hd.1 rfl | exact hd.2.1 rfl | exact hd.2.2.1 rfl | exact hd.2.2.2.1 rfl | exact hd.2.2.2.2.1 rfl
    have e8 := h8 (show l 8 = true by first | exact hd.1 rfl | exact hd.2.1 rfl | exact hd.2.2.1 rfl | exact hd.2.2.2.1 rfl | exact hd.2.2.2.2.1 rfl)
    have e5 := h5 (show l 5 = true by first | exact hd.1 rfl | exact hd.2.1 rfl | exact hd.2.2.1 rfl | exact hd.2.2.2.1 rfl | exact hd.2.2.2.2.1 rfl)
    have f0 := hB.free 1
    have c := hB.cell 1
    simp only [cutC, List.getElem?_cons_zero, List.getElem?_cons_succ] at c
    refine Runs.of (b := ?b9) ?e9 ?_
    case e9 => simp only [putV, Act.put, List.setIfInBounds_toArray, List.set_cons_zero, List.set_cons_succ, e8, e5]; rfl
    intro K' hK'
    go_simp
    exact hK'.go undef rfl ⟨cutC_set1 hB, hR.other hne' _, hK.setCell (.inl (by simp)) _, d1, fun h => absurd (D.symm.trans (d4 h).1) (by decide), h0, h1, h2, h3, h4, h5, h6, h8⟩
  · intro l x w3 hJ hl
    obtain ⟨hB, hR, hK, -⟩ := hJ
    have hC : cutC k v n g l = itC (cutStr k 50) (cutStr v 210) n g := by unfold cutC; rw [hl 7 (by decide), hl 9 (by decide)]; rfl
    rw [hC] at hB
    simp only [putV, Act.put, List.setIfInBounds_toArray, List.set_cons_zero, List.set_cons_succ]
    have c0 := hB.cell 0
    have c1 := hB.cell 1
    have c2 := hB.cell 2
    have c3 := hB.cell 3
    simp only [itC, List.getElem?_cons_zero, List.getElem?_cons_succ] at c0 c1 c2 c3
    clear hl hC
    have f0 := hR.free 0
    have f1 := hR.free 1
    have f2 := hR.free 2
    have f3 := hR.free 3
    have g0 := hR.cell 0
    have g1 := hR.cell 1
    have g2 := hR.cell 2
    have g3 := hR.cell 3
    simp only [itC, List.getElem?_cons_zero, List.getElem?_cons_succ] at g0 g1 g2 g3
    go_wp2_with fail
    have hB5 := (((hR.set 0 (.string (cutStr k 50))).set 1 (.string (cutStr v 210))).set 2 (.int .i64 n)).set 3 (.bool g)
    have hK5 : Keep [b, r] w1 ((((w3.setCell ⟨r, 0, none⟩ (.string (cutStr k 50))).setCell ⟨r, 1, none⟩ (.string (cutStr v 210))).setCell ⟨r, 2, none⟩ (.int .i64 n)).setCell ⟨r, 3, none⟩ (.bool g)) :=
      (((hK.setCell (.inl (by simp)) _).setCell (.inl (by simp)) _).setCell (.inl (by simp)) _).setCell (.inl (by simp)) _
    have hKK := hK0.then hK5 (by intro y hy hlt; have := HLB.out; simp at hy; omega)
    generalize (((w3.setCell ⟨r, 0, none⟩ (.string (cutStr k 50))).setCell ⟨r, 1, none⟩ (.string (cutStr v 210))).setCell ⟨r, 2, none⟩ (.int .i64 n)).setCell ⟨r, 3, none⟩ (.bool g) = w5 at *
    refine bodyPost_ret (v := itV (cutStr k 50) (cutStr v 210) n g) ?_ rfl ⟨rfl, hKK⟩
    have d0 := hB5.cell 0
    have d1 := hB5.cell 1
    have d2 := hB5.cell 2
    have d3 := hB5.cell 3
    simp only [itC, List.set_cons_zero, List.set_cons_succ, List.getElem?_cons_zero, List.getElem?_cons_succ] at d0 d1 d2 d3
    simp [results, Try.results19, go_sem, d0, d1, d2, d3]
end Go.Proofs.Ytonghelcfbjknaa
