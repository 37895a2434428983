/- The law VectorAll: its walk. -/
import Derived.Test.YtpibpgfadkfgbaaVectorLaws
namespace Go.Proofs.Ytpibpgfadkfgbaa
open Go.ChangeShapes Go.WideShapes Go.ChangeAt Go.RowKit
set_option linter.unusedVariables false
set_option linter.unusedSimpArgs false

def allC (F : Nat → Int) (l : Nat → Bool) : Nat → List Value
  | 3 => if l 6 = true then v6 F else v6 (fun _ => 0)
  | 4 => if l 7 = true then v6 F else v6 (fun _ => 0)
  | 5 => if l 8 = true then v6 F else v6 (fun _ => 0)
  | _ => []
theorem allC_still (F : Nat → Int) (l : Nat → Bool) (k : Nat) (hk : k ≠ 6 ∧ k ≠ 7 ∧ k ≠ 8) (i : Nat) : allC F (upd l k true) i = allC F l i := by
  unfold allC
  rw [upd_ne _ _ _ _ (Ne.symm hk.1), upd_ne _ _ _ _ (Ne.symm hk.2.1), upd_ne _ _ _ _ (Ne.symm hk.2.2)]
theorem cell_alloc {w : World} {a : Addr} {v : Value} {o : Obj} (h : w.cell? a = some v) : (w.alloc o).cell? a = some v := by
  rw [World.cell?_alloc_some _ _ _ (by rw [h]; rfl), h]
def allT : Nat → TypeId := fun _ => 24
def allJ (F : Nat → Int) (wr : World) (l : Nat → Bool) (x : Nat → Value) (w' : World) : Prop :=
  ∃ B : Nat → Nat, RI [3, 4, 5] allT (allC F) wr w' l B ∧ (l 0 = true → x 0 = vec F) ∧ (l 1 = true → x 1 = vec F) ∧ (l 2 = true → x 2 = vec F) ∧
    (l 3 = true → x 3 = .pointer (some ⟨B 3, 0, none⟩)) ∧ (l 4 = true → x 4 = .pointer (some ⟨B 4, 0, none⟩)) ∧ (l 5 = true → x 5 = .pointer (some ⟨B 5, 0, none⟩)) ∧ (l 6 = true → l 3 = true) ∧ (l 7 = true → l 4 = true) ∧ (l 8 = true → l 5 = true)
/-- x[i] >= y[i] for all i ahead of j. -/
def hasN (f g : Nat → Int) : Nat → Bool
  | 0 => true
  | 1 => true
  | j + 2 => hasN f g (j + 1) && decide (g (j + 1) ≤ f (j + 1))
theorem hasN_six (f g : Nat → Int) : hasN f g 6 = vhas f g := by
  simp [hasN, vhas, Bool.and_assoc]
theorem hasN_succ (f g : Nat → Int) (j : Nat) (h : 1 ≤ j) : hasN f g (j + 1) = (hasN f g j && decide (g j ≤ f j)) := by
  obtain ⟨k, rfl⟩ : ∃ k, j = k + 1 := ⟨j - 1, by omega⟩
  rfl
def hiJ (f g h : Nat → Int) (j : Nat) : Nat → Int := fun i => if 1 ≤ i ∧ i < j then max (f i) (max (g i) (h i)) else f i
def loJ (f g h : Nat → Int) (j : Nat) : Nat → Int := fun i => if 1 ≤ i ∧ i < j then min (f i) (min (g i) (h i)) else f i
theorem hiJ_one (f g h : Nat → Int) : hiJ f g h 1 = f := by funext i; unfold hiJ; rw [if_neg (by omega)]
theorem loJ_one (f g h : Nat → Int) : loJ f g h 1 = f := by funext i; unfold loJ; rw [if_neg (by omega)]
theorem hiJ_step (f g h : Nat → Int) (j : Nat) (hj : 1 ≤ j) : (fun i => if i = j then max (f j) (max (g j) (h j)) else hiJ f g h j i) = hiJ f g h (j + 1) := by
  funext i
  unfold hiJ
  by_cases e : i = j
  · subst e; rw [if_pos rfl, if_pos (by omega)]
  · rw [if_neg e]
    by_cases h2 : 1 ≤ i ∧ i < j
    · rw [if_pos h2, if_pos (by omega)]
    · rw [if_neg h2, if_neg (by omega)]
theorem loJ_step (f g h : Nat → Int) (j : Nat) (hj : 1 ≤ j) : (fun i => if i = j then min (f j) (min (g j) (h j)) else loJ f g h j i) = loJ f g h (j + 1) := by
  funext i
  unfold loJ
  by_cases e : i = j
  · subst e; rw [if_pos rfl, if_pos (by omega)]
  · rw [if_neg e]
    by_cases h2 : 1 ≤ i ∧ i < j
    · rw [if_pos h2, if_pos (by omega)]
    · rw [if_neg h2, if_neg (by omega)]
theorem all_hi (f g h : Nat → Int) : vsame (vmaxN f [g, h] 2) (hiJ f g h 6) = true := (vsame_iff _ _).2 (fun i h1 h2 => by
  show vmax (vmax f g) h i = _
  rw [vmax_at _ _ _ ⟨h1, h2⟩, vmax_at _ _ _ ⟨h1, h2⟩]
  unfold hiJ
  rw [if_pos (by omega)]
  omega)
theorem all_lo (f g h : Nat → Int) : vsame (vminN f [g, h] 2) (loJ f g h 6) = true := (vsame_iff _ _).2 (fun i h1 h2 => by
  show vmin (vmin f g) h i = _
  rw [vmin_at _ _ _ ⟨h1, h2⟩, vmin_at _ _ _ ⟨h1, h2⟩]
  unfold loJ
  rw [if_pos (by omega)]
  omega)

set_option maxRecDepth 100000 in
set_option maxHeartbeats 8000000 in
theorem vectorAll_walk (a0 : Option Addr) (len0 cap0 : Nat) (z0 : List Int) (a1 : Option Addr) (len1 cap1 : Nat) (z1 : List Int) (a2 : Option Addr) (len2 cap2 : Nat) (z2 : List Int) (node n : Int) (w : World)
    (w0 : IsRow .i64 w a0 len0 cap0 z0) (w1 : IsRow .i64 w a1 len1 cap1 z1) (w2 : IsRow .i64 w a2 len2 cap2 z2) (_w3 : (Lit.int .i64 node).wf = true) (_w4 : (Lit.int .i64 n).wf = true) :
    Calls Try.prog 3 #[.slice a0 len0 cap0, .slice a1 len1 cap1, .slice a2 len2 cap2, .int .i64 node, .int .i64 n] w fun e w' => e = .returned (.bool true) ∧ Below w.heap.size w w' := by
  obtain ⟨hzl, hmax, hr, hwf⟩ := w0.rv
  obtain ⟨hzl1, hmax1, hr1, hwf1⟩ := w1.rv
  obtain ⟨hzl2, hmax2, hr2, hwf2⟩ := w2.rv
  clear w0 w1 w2 hwf hwf1 hwf2
  generalize z0.take len0 = zs at *
  generalize z1.take len1 = ys at *
  generalize z2.take len2 = us at *
  obtain rfl := hzl
  obtain rfl := hzl1
  obtain rfl := hzl2
  go_enter Try.func3, Try.ntmps3
  go_wp2_with fail
  refine (begun11 w).mono ?_
  rintro e w0 ⟨rfl, k0⟩
  go_wp2_with fail
  refine (of_any _ zs (hr.keep k0 (by simp)) (by omega)).mono ?_
  rintro e w1 ⟨rfl, k1⟩
  have K1 := k0.trans k1
  go_wp2_with fail
  refine (of_any _ ys (hr1.keep K1 (by simp)) (by omega)).mono ?_
  rintro e w2 ⟨rfl, k2⟩
  have K2 := K1.trans k2
  go_wp2_with fail
  refine (of_any _ us (hr2.keep K2 (by simp)) (by omega)).mono ?_
  rintro e w3 ⟨rfl, k3⟩
  have K3 := K2.trans k3
  clear k0 k1 k2 k3 K1 K2
  go_wp2_with fail
  have hx0 : Blk (((w3.alloc (.cells (v6 (vof zs)).toArray 24)).alloc (.cells (v6 (vof ys)).toArray 24)).alloc (.cells (v6 (vof us)).toArray 24)) w3.heap.size (v6 (vof zs)) 24 := ((Blk.new _ _ _).alloc _).alloc _
  have hy0 : Blk (((w3.alloc (.cells (v6 (vof zs)).toArray 24)).alloc (.cells (v6 (vof ys)).toArray 24)).alloc (.cells (v6 (vof us)).toArray 24)) (w3.heap.size + 1) (v6 (vof ys)) 24 := (Blk.new' _ _ _ _ (by simp)).alloc _
  have hz0 : Blk (((w3.alloc (.cells (v6 (vof zs)).toArray 24)).alloc (.cells (v6 (vof ys)).toArray 24)).alloc (.cells (v6 (vof us)).toArray 24)) (w3.heap.size + 1 + 1) (v6 (vof us)) 24 := Blk.new' _ _ _ _ (by simp)
  have K4 := ((K3.alloc (.cells (v6 (vof zs)).toArray 24)).alloc (.cells (v6 (vof ys)).toArray 24)).alloc (.cells (v6 (vof us)).toArray 24)
  obtain ⟨w4, hw4⟩ : ∃ W, W = ((w3.alloc (.cells (v6 (vof zs)).toArray 24)).alloc (.cells (v6 (vof ys)).toArray 24)).alloc (.cells (v6 (vof us)).toArray 24) := ⟨_, rfl⟩
  change Calls _ _ _ (((w3.alloc (.cells (v6 (vof zs)).toArray 24)).alloc (.cells (v6 (vof ys)).toArray 24)).alloc (.cells (v6 (vof us)).toArray 24)) _
  rw [← hw4] at hx0 hy0 hz0 K4 ⊢
  clear hw4 K3
  generalize w3.heap.size + 1 + 1 = bz at *
  generalize w3.heap.size + 1 = by_ at *
  generalize w3.heap.size = bx at *
  refine (vOf_any _ zs (hr.keep K4 (by simp)) (by omega)).mono ?_
  rintro e w5 ⟨rfl, k5⟩
  have K5 := K4.trans k5
  go_wp2_with fail
  refine (vOf_any _ ys (hr1.keep K5 (by simp)) (by omega)).mono ?_
  rintro e w6 ⟨rfl, k6⟩
  have K6 := K5.trans k6
  go_wp2_with fail
  refine (vOf_any _ us (hr2.keep K6 (by simp)) (by omega)).mono ?_
  rintro e w7 ⟨rfl, k7⟩
  have K7 := K6.trans k7
  have hx := ((hx0.keep k5 (by simp)).keep k6 (by simp)).keep k7 (by simp)
  have hy := ((hy0.keep k5 (by simp)).keep k6 (by simp)).keep k7 (by simp)
  have hz := ((hz0.keep k5 (by simp)).keep k6 (by simp)).keep k7 (by simp)
  clear k5 k6 k7 K4 K5 K6 hx0 hy0 hz0
  have HF0 := Lib.hid (vof_zero zs)
  generalize vof zs = F at *
  generalize vof ys = G at *
  generalize vof us = H at *
  go_wp2_with fail
  have hv0 : Blk (((w7.alloc (.cells (v6 F).toArray 26)).alloc (.cells (v6 G).toArray 26)).alloc (.cells (v6 H).toArray 26)) w7.heap.size (v6 F) 26 := ((Blk.new _ _ _).alloc _).alloc _
  have hw0 : Blk (((w7.alloc (.cells (v6 F).toArray 26)).alloc (.cells (v6 G).toArray 26)).alloc (.cells (v6 H).toArray 26)) (w7.heap.size + 1) (v6 G) 26 := (Blk.new' _ _ _ _ (by simp)).alloc _
  have hu0 : Blk (((w7.alloc (.cells (v6 F).toArray 26)).alloc (.cells (v6 G).toArray 26)).alloc (.cells (v6 H).toArray 26)) (w7.heap.size + 1 + 1) (v6 H) 26 := Blk.new' _ _ _ _ (by simp)
  have hx1 := ((hx.alloc (.cells (v6 F).toArray 26)).alloc (.cells (v6 G).toArray 26)).alloc (.cells (v6 H).toArray 26)
  have hy1 := ((hy.alloc (.cells (v6 F).toArray 26)).alloc (.cells (v6 G).toArray 26)).alloc (.cells (v6 H).toArray 26)
  have hz1 := ((hz.alloc (.cells (v6 F).toArray 26)).alloc (.cells (v6 G).toArray 26)).alloc (.cells (v6 H).toArray 26)
  have K8 := ((K7.alloc (.cells (v6 F).toArray 26)).alloc (.cells (v6 G).toArray 26)).alloc (.cells (v6 H).toArray 26)
  obtain ⟨wr, hwr⟩ : ∃ W, W = ((w7.alloc (.cells (v6 F).toArray 26)).alloc (.cells (v6 G).toArray 26)).alloc (.cells (v6 H).toArray 26) := ⟨_, rfl⟩
  change Code.wp _ _ _ _ (((w7.alloc (.cells (v6 F).toArray 26)).alloc (.cells (v6 G).toArray 26)).alloc (.cells (v6 H).toArray 26))
  rw [← hwr] at hv0 hw0 hu0 hx1 hy1 hz1 K8 ⊢
  clear hwr K7 hx hy hz
  generalize w7.heap.size + 1 + 1 = bu at *
  generalize w7.heap.size + 1 = bw at *
  generalize w7.heap.size = bv at *
  refine wp_region_inv (allJ F wr) (by kernel_rfl) (by kernel_rfl) (by kernel_rfl) ?_ (Steps.cons 0 ?_ (Steps.cons 1 ?_ (Steps.cons 2 ?_ (Steps.cons 3 ?_ (Steps.cons 4 ?_ (Steps.cons 5 ?_ (Steps.cons 6 ?_ (Steps.cons 7 ?_ (Steps.cons 8 ?_ (Steps.nil 9)))))))))) 9 rfl ?_
  · intro x
    exact ⟨fun _ => 0, RI.start _ _, by simp⟩
  · intro l x w' hJ hi hd
    obtain ⟨B, hR, h0, h1, h2, h3, h4, h5, g3, g4, g5⟩ := hJ
    obtain ⟨c0, c1, c2, c3, c4, c5⟩ := v6_cells (hx1.keep hR.keep (by simp))
    refine Runs.of (b := ?b0) ?e0 ?_
    case e0 => simp only [putV, Act.put, List.setIfInBounds_toArray, List.set_cons_zero, List.set_cons_succ]; rfl
    intro K' hK'
    go_simp
    exact hK'.go _ rfl ⟨B, hR.still 0 (by decide) (fun i _ => allC_still _ _ 0 (by decide) i), fun _ => rfl, h1, h2, h3, h4, h5, g3, g4, g5⟩
  · intro l x w' hJ hi hd
    obtain ⟨B, hR, h0, h1, h2, h3, h4, h5, g3, g4, g5⟩ := hJ
    obtain ⟨c0, c1, c2, c3, c4, c5⟩ := v6_cells (hx1.keep hR.keep (by simp))
    refine Runs.of (b := ?b1) ?e1 ?_
    case e1 => simp only [putV, Act.put, List.setIfInBounds_toArray, List.set_cons_zero, List.set_cons_succ]; rfl
    intro K' hK'
    go_simp
    exact hK'.go _ rfl ⟨B, hR.still 1 (by decide) (fun i _ => allC_still _ _ 1 (by decide) i), h0, fun _ => rfl, h2, h3, h4, h5, g3, g4, g5⟩
  · intro l x w' hJ hi hd
    obtain ⟨B, hR, h0, h1, h2, h3, h4, h5, g3, g4, g5⟩ := hJ
    obtain ⟨c0, c1, c2, c3, c4, c5⟩ := v6_cells (hx1.keep hR.keep (by simp))
    refine Runs.of (b := ?b2) ?e2 ?_
    case e2 => simp only [putV, Act.put, List.setIfInBounds_toArray, List.set_cons_zero, List.set_cons_succ]; rfl
    intro K' hK'
    go_simp
    exact hK'.go _ rfl ⟨B, hR.still 2 (by decide) (fun i _ => allC_still _ _ 2 (by decide) i), h0, h1, fun _ => rfl, h3, h4, h5, g3, g4, g5⟩
  · intro l x w' hJ hi hd
    obtain ⟨B, hR, h0, h1, h2, h3, h4, h5, g3, g4, g5⟩ := hJ
    refine Runs.of (b := ?b3) ?e3 ?_
    case e3 => simp only [putV, Act.put, List.setIfInBounds_toArray, List.set_cons_zero, List.set_cons_succ]; rfl
    intro K' hK'
    go_simp
    exact hK'.go _ rfl ⟨upd B 3 _, hR.new' 3 hi (v6 (fun _ => 0)) (by
      have : l 6 = false := by
        cases h : l 6 with
        | false => rfl
        | true => rw [g3 h] at hi; cases hi
      unfold allC; simp only [upd_ne _ _ _ _ (show (6 : Nat) ≠ 3 by decide), this]; rfl) (fun i _ _ => allC_still _ _ 3 (by decide) i), h0, h1, h2, fun _ => rfl, h4, h5, fun _ => rfl, g4, g5⟩
  · intro l x w' hJ hi hd
    obtain ⟨B, hR, h0, h1, h2, h3, h4, h5, g3, g4, g5⟩ := hJ
    refine Runs.of (b := ?b4) ?e4 ?_
    case e4 => simp only [putV, Act.put, List.setIfInBounds_toArray, List.set_cons_zero, List.set_cons_succ]; rfl
    intro K' hK'
    go_simp
    exact hK'.go _ rfl ⟨upd B 4 _, hR.new' 4 hi (v6 (fun _ => 0)) (by
      have : l 7 = false := by
        cases h : l 7 with
        | false => rfl
        | true => rw [g4 h] at hi; cases hi
      unfold allC; simp only [upd_ne _ _ _ _ (show (7 : Nat) ≠ 4 by decide), this]; rfl) (fun i _ _ => allC_still _ _ 4 (by decide) i), h0, h1, h2, h3, fun _ => rfl, h5, g3, fun _ => rfl, g5⟩
  · intro l x w' hJ hi hd
    obtain ⟨B, hR, h0, h1, h2, h3, h4, h5, g3, g4, g5⟩ := hJ
    refine Runs.of (b := ?b5) ?e5 ?_
    case e5 => simp only [putV, Act.put, List.setIfInBounds_toArray, List.set_cons_zero, List.set_cons_succ]; rfl
    intro K' hK'
    go_simp
    exact hK'.go _ rfl ⟨upd B 5 _, hR.new' 5 hi (v6 (fun _ => 0)) (by
      have : l 8 = false := by
        cases h : l 8 with
        | false => rfl
        | true => rw [g5 h] at hi; cases hi
      unfold allC; simp only [upd_ne _ _ _ _ (show (8 : Nat) ≠ 5 by decide), this]; rfl) (fun i _ _ => allC_still _ _ 5 (by decide) i), h0, h1, h2, h3, h4, fun _ => rfl, g3, g4, fun _ => rfl⟩
  · intro l x w' hJ hi hd
    obtain ⟨B, hR, h0, h1, h2, h3, h4, h5, g3, g4, g5⟩ := hJ
    have e3 := h3 (hd.1 rfl)
    have e0 := h0 (hd.2.1 rfl)
    refine Runs.of (b := ?b6) ?e6 ?_
    case e6 => simp only [putV, Act.put, List.setIfInBounds_toArray, List.set_cons_zero, List.set_cons_succ, e3, e0]; rfl
    intro K' hK'
    have hB := (hR.blk 3 (by decide) (hd.1 rfl)).2
    have hC0 : allC F l 3 = v6 (fun _ => 0) := by unfold allC; simp only [hi]; rfl
    rw [hC0] at hB
    obtain ⟨c0, c1, c2, c3, c4, c5⟩ := v6_cells hB
    have f0 := hB.free 0
    have f1 := hB.free 1
    have f2 := hB.free 2
    have f3 := hB.free 3
    have f4 := hB.free 4
    have f5 := hB.free 5
    go_simp
    refine hK'.go undef rfl ⟨B, hR.store 6 3 (by decide) (by decide) (hd.1 rfl) (Keep.setCell (Keep.setCell (Keep.setCell (Keep.setCell (Keep.setCell (Keep.setCell (Keep.refl _ _) (.inl (by simp)) _) (.inl (by simp)) _) (.inl (by simp)) _) (.inl (by simp)) _) (.inl (by simp)) _) (.inl (by simp)) _) ?_ ?_, h0, h1, h2, h3, h4, h5, fun _ => hd.1 rfl, g4, g5⟩
    · have hC1 : allC F (upd l 6 true) 3 = v6 F := by unfold allC; simp only [upd_same]; rfl
      rw [hC1]
      exact (((((hB.set 0 _).set 1 _).set 2 _).set 3 _).set 4 _).set 5 _
    · intro j _ hj
      unfold allC
      rw [upd_ne _ 6 7 _ (by decide), upd_ne _ 6 8 _ (by decide)]
      split <;> first | rfl | exact absurd rfl hj
  · intro l x w' hJ hi hd
    obtain ⟨B, hR, h0, h1, h2, h3, h4, h5, g3, g4, g5⟩ := hJ
    have e4 := h4 (hd.1 rfl)
    have e1 := h1 (hd.2.1 rfl)
    refine Runs.of (b := ?b7) ?e7 ?_
    case e7 => simp only [putV, Act.put, List.setIfInBounds_toArray, List.set_cons_zero, List.set_cons_succ, e4, e1]; rfl
    intro K' hK'
    have hB := (hR.blk 4 (by decide) (hd.1 rfl)).2
    have hC0 : allC F l 4 = v6 (fun _ => 0) := by unfold allC; simp only [hi]; rfl
    rw [hC0] at hB
    obtain ⟨c0, c1, c2, c3, c4, c5⟩ := v6_cells hB
    have f0 := hB.free 0
    have f1 := hB.free 1
    have f2 := hB.free 2
    have f3 := hB.free 3
    have f4 := hB.free 4
    have f5 := hB.free 5
    go_simp
    refine hK'.go undef rfl ⟨B, hR.store 7 4 (by decide) (by decide) (hd.1 rfl) (Keep.setCell (Keep.setCell (Keep.setCell (Keep.setCell (Keep.setCell (Keep.setCell (Keep.refl _ _) (.inl (by simp)) _) (.inl (by simp)) _) (.inl (by simp)) _) (.inl (by simp)) _) (.inl (by simp)) _) (.inl (by simp)) _) ?_ ?_, h0, h1, h2, h3, h4, h5, g3, fun _ => hd.1 rfl, g5⟩
    · have hC1 : allC F (upd l 7 true) 4 = v6 F := by unfold allC; simp only [upd_same]; rfl
      rw [hC1]
      exact (((((hB.set 0 _).set 1 _).set 2 _).set 3 _).set 4 _).set 5 _
    · intro j _ hj
      unfold allC
      rw [upd_ne _ 7 6 _ (by decide), upd_ne _ 7 8 _ (by decide)]
      split <;> first | rfl | exact absurd rfl hj
  · intro l x w' hJ hi hd
    obtain ⟨B, hR, h0, h1, h2, h3, h4, h5, g3, g4, g5⟩ := hJ
    have e5 := h5 (hd.1 rfl)
    have e2 := h2 (hd.2.1 rfl)
    refine Runs.of (b := ?b8) ?e8 ?_
    case e8 => simp only [putV, Act.put, List.setIfInBounds_toArray, List.set_cons_zero, List.set_cons_succ, e5, e2]; rfl
    intro K' hK'
    have hB := (hR.blk 5 (by decide) (hd.1 rfl)).2
    have hC0 : allC F l 5 = v6 (fun _ => 0) := by unfold allC; simp only [hi]; rfl
    rw [hC0] at hB
    obtain ⟨c0, c1, c2, c3, c4, c5⟩ := v6_cells hB
    have f0 := hB.free 0
    have f1 := hB.free 1
    have f2 := hB.free 2
    have f3 := hB.free 3
    have f4 := hB.free 4
    have f5 := hB.free 5
    go_simp
    refine hK'.go undef rfl ⟨B, hR.store 8 5 (by decide) (by decide) (hd.1 rfl) (Keep.setCell (Keep.setCell (Keep.setCell (Keep.setCell (Keep.setCell (Keep.setCell (Keep.refl _ _) (.inl (by simp)) _) (.inl (by simp)) _) (.inl (by simp)) _) (.inl (by simp)) _) (.inl (by simp)) _) (.inl (by simp)) _) ?_ ?_, h0, h1, h2, h3, h4, h5, g3, g4, fun _ => hd.1 rfl⟩
    · have hC1 : allC F (upd l 8 true) 5 = v6 F := by unfold allC; simp only [upd_same]; rfl
      rw [hC1]
      exact (((((hB.set 0 _).set 1 _).set 2 _).set 3 _).set 4 _).set 5 _
    · intro j _ hj
      unfold allC
      rw [upd_ne _ 8 6 _ (by decide), upd_ne _ 8 7 _ (by decide)]
      split <;> first | rfl | exact absurd rfl hj
  · intro l x w9 hJ hl
    obtain ⟨B, hR, -, -, -, h3, h4, h5, -, -, -⟩ := hJ
    have e3 := h3 (hl 3 (by decide))
    have e4 := h4 (hl 4 (by decide))
    have e5 := h5 (hl 5 (by decide))
    have hHi := (hR.blk 3 (by decide) (hl 3 (by decide))).2
    have hLo := (hR.blk 4 (by decide) (hl 4 (by decide))).2
    have hSe := (hR.blk 5 (by decide) (hl 5 (by decide))).2
    have n34 : B 3 ≠ B 4 := fun e => absurd (hR.apart 3 (by decide) 4 (by decide) (hl 3 (by decide)) (hl 4 (by decide)) e) (by decide)
    have n35 : B 3 ≠ B 5 := fun e => absurd (hR.apart 3 (by decide) 5 (by decide) (hl 3 (by decide)) (hl 5 (by decide)) e) (by decide)
    have n45 : B 4 ≠ B 5 := fun e => absurd (hR.apart 4 (by decide) 5 (by decide) (hl 4 (by decide)) (hl 5 (by decide)) e) (by decide)
    have x3 : allC F l 3 = v6 F := by unfold allC; simp only [hl 6 (by decide)]; rfl
    have x4 : allC F l 4 = v6 F := by unfold allC; simp only [hl 7 (by decide)]; rfl
    have x5 : allC F l 5 = v6 F := by unfold allC; simp only [hl 8 (by decide)]; rfl
    rw [x3] at hHi
    rw [x4] at hLo
    rw [x5] at hSe
    have s3 := (hR.blk 3 (by decide) (hl 3 (by decide))).1
    have s4 := (hR.blk 4 (by decide) (hl 4 (by decide))).1
    have s5 := (hR.blk 5 (by decide) (hl 5 (by decide))).1
    have hV := hv0.keep hR.keep (by simp)
    have hW := hw0.keep hR.keep (by simp)
    have hU := hu0.keep hR.keep (by simp)
    have hX := hx1.keep hR.keep (by simp)
    have hY := hy1.keep hR.keep (by simp)
    have hZ := hz1.keep hR.keep (by simp)
    have K9 := K8.trans hR.keep
    have lv := hv0.lt
    have lw := hw0.lt
    have lu := hu0.lt
    have lx := hx1.lt
    have ly := hy1.lt
    have lz := hz1.lt
    have hsz := K8.size
    change Blk w9 _ _ 24 at hHi hLo hSe
    simp only [putV, Act.put, List.setIfInBounds_toArray, List.set_cons_zero, List.set_cons_succ, e3, e4, e5]
    clear h3 h4 h5 e3 e4 e5 x3 x4 x5 hl hR hv0 hw0 hu0 hx1 hy1 hz1 K8
    generalize B 3 = bh at *
    generalize B 4 = bl at *
    generalize B 5 = bs at *
    go_wp2_with fail
    have hx1 : bx ≠ bh ∧ bx ≠ bl ∧ bx ≠ bs ∧ by_ ≠ bh ∧ by_ ≠ bl ∧ by_ ≠ bs ∧ bz ≠ bh ∧ bz ≠ bl ∧ bz ≠ bs ∧ bv ≠ bh ∧ bv ≠ bl ∧ bv ≠ bs ∧ bw ≠ bh ∧ bw ≠ bl ∧ bw ≠ bs ∧ bu ≠ bh ∧ bu ≠ bl ∧ bu ≠ bs := by omega
    have hlb : w.heap.size ≤ bh ∧ w.heap.size ≤ bl ∧ w.heap.size ≤ bs := by omega
    have HNE := Lib.hid hx1
    clear hx1 s3 s4 s5 lv lw lu lx ly lz
    go_loopw [21, 22] (fun hv i wr => ∃ j : Nat, 1 ≤ j ∧ j ≤ 6 ∧ i = .int .i64 j ∧ hv = .bool (hasN F G j) ∧ Blk wr bh (v6 (hiJ F G H j)) 24 ∧ Blk wr bl (v6 (loJ F G H j)) 24 ∧ Keep [bh, bl] w9 wr) (fun _ i _ => 6 - (intOf i).toNat)
    case atStart => exact ⟨1, by omega, by omega, rfl, rfl, by rw [hiJ_one]; exact hHi, by rw [loJ_one]; exact hLo, Keep.refl _ _⟩
    case round =>
      obtain ⟨j, hj1, hj6, rfl, rfl, hHi1, hLo1, hKr⟩ := hrel
      clear hHi hLo
      obtain ⟨n1, n2, n3, n4, n5, n6, n7, n8, n9, n10, n11, n12, n13, n14, n15, n16, n17, n18⟩ := HNE.out
      have hXr := hX.keep hKr (by simp; exact ⟨n1, n2⟩)
      have hYr := hY.keep hKr (by simp; exact ⟨n4, n5⟩)
      have hZr := hZ.keep hKr (by simp; exact ⟨n7, n8⟩)
      by_cases hj : j < 6
      · have q1 : (j : Int) < 6 := by omega
        have q2 : (0 : Int) ≤ j := by omega
        go_upto_region 11 with fail
        go_cut [] (fun wc => Blk wc bh (v6 (hiJ F G H (j + 1))) 24 ∧ Blk wc bl (v6 (loJ F G H j)) 24 ∧ Keep [bh, bl] w9 wc ∧ Keep [bh] wr wc)
        case first =>
          have cX := hXr.cell j
          have cY := hYr.cell j
          have cZ := hZr.cell j
          have cH := hHi1.cell j
          have fH := hHi1.free j
          rw [v6_at _ _ hj] at cX cY cZ cH
          have hset := v6_set (hiJ F G H j) j (max (F j) (max (G j) (H j))) hj
          rw [hiJ_step F G H j hj1] at hset
          have hS3 := hHi1.drew.set j (.int .i64 (max (F j) (max (G j) (H j))))
          rw [hset] at hS3
          have hk3 : Keep [bh] wr (wr.drew.setCell ⟨bh, j, none⟩ (.int .i64 (max (F j) (max (G j) (H j))))) := (Keep.refl _ _).drew.setCell (.inl (by simp)) _
          have HS3 := Lib.hid hS3
          have HK3 := Lib.hid hk3
          have HLO := Lib.hid hLo1
          clear hset hS3 hk3 hHi1 hLo1
          generalize F j = f at *
          generalize G j = g at *
          generalize H j = h at *
          generalize hiJ F G H j j = old at *
          have hcs : g < h ∨ g = h ∨ h < g := by omega
          have hcs1 : f < g ∨ f = g ∨ g < f := by omega
          have hcs2 : f < h ∨ f = h ∨ h < f := by omega
          rcases hcs with hc | hc | hc <;> rcases hcs1 with hd | hd | hd <;> rcases hcs2 with he | he | he
          all_goals first
            | (exfalso; omega)
            | (first
                | (have HM1 : max g h = g := by omega
                   rw [HM1] at HS3 HK3)
                | (have HM1 : max g h = h := by omega
                   rw [HM1] at HS3 HK3)
               first
                | (have HM2 : max f g = f := by omega
                   rw [HM2] at HS3 HK3
                   clear HM2)
                | (have HM2 : max f g = g := by omega
                   rw [HM2] at HS3 HK3
                   clear HM2)
                | (have HM2 : max f h = f := by omega
                   rw [HM2] at HS3 HK3
                   clear HM2)
                | (have HM2 : max f h = h := by omega
                   rw [HM2] at HS3 HK3
                   clear HM2)
               clear HM1
               (try subst hc)
               (try subst hd)
               (try subst he)
               go_wp2_with fail
               refine wp_region_still_tail 13 (by kernel_rfl) (by kernel_rfl) ?_
               simp only [List.take_succ_cons, List.take_zero, List.drop_succ_cons, List.drop_zero]
               repeat still_step
               refine wpStill_nil ?_
               go_wp2_with fail
               go_meet
               exact ⟨HS3.out, HLO.out.keep HK3.out (by simpa using Ne.symm n34), hKr.trans (HK3.out.mono (by simp)), HK3.out⟩)
        case rest =>
          obtain ⟨hHi2, hLo2, hK2, hkx⟩ := hcut
          have hXr := hX.keep hK2 (by simp; exact ⟨n1, n2⟩)
          have hYr := hY.keep hK2 (by simp; exact ⟨n4, n5⟩)
          have hZr := hZ.keep hK2 (by simp; exact ⟨n7, n8⟩)
          clear hHi1 hLo1 hKr hkx
          go_upto_region 12 with fail
          go_cut [] (fun wd => Blk wd bh (v6 (hiJ F G H (j + 1))) 24 ∧ Blk wd bl (v6 (loJ F G H (j + 1))) 24 ∧ Keep [bh, bl] w9 wd)
          case first =>
            have cX := hXr.cell j
            have cY := hYr.cell j
            have cZ := hZr.cell j
            have cH := hLo2.cell j
            have fH := hLo2.free j
            rw [v6_at _ _ hj] at cX cY cZ cH
            have hset := v6_set (loJ F G H j) j (min (F j) (min (G j) (H j))) hj
            rw [loJ_step F G H j hj1] at hset
            have hS3 := hLo2.drew.set j (.int .i64 (min (F j) (min (G j) (H j))))
            rw [hset] at hS3
            have hk3 : Keep [bl] wc (wc.drew.setCell ⟨bl, j, none⟩ (.int .i64 (min (F j) (min (G j) (H j))))) := (Keep.refl _ _).drew.setCell (.inl (by simp)) _
            have HS3 := Lib.hid hS3
            have HK3 := Lib.hid hk3
            have HHI := Lib.hid hHi2
            clear hset hS3 hk3 hHi2 hLo2
            generalize F j = f at *
            generalize G j = g at *
            generalize H j = h at *
            generalize loJ F G H j j = old at *
            have hcs : g < h ∨ g = h ∨ h < g := by omega
            have hcs1 : f < g ∨ f = g ∨ g < f := by omega
            have hcs2 : f < h ∨ f = h ∨ h < f := by omega
            rcases hcs with hc | hc | hc <;> rcases hcs1 with hd | hd | hd <;> rcases hcs2 with he | he | he
            all_goals first
              | (exfalso; omega)
              | (first
                  | (have HM1 : min g h = g := by omega
                     rw [HM1] at HS3 HK3)
                  | (have HM1 : min g h = h := by omega
                     rw [HM1] at HS3 HK3)
                 first
                  | (have HM2 : min f g = f := by omega
                     rw [HM2] at HS3 HK3
                     clear HM2)
                  | (have HM2 : min f g = g := by omega
                     rw [HM2] at HS3 HK3
                     clear HM2)
                  | (have HM2 : min f h = f := by omega
                     rw [HM2] at HS3 HK3
                     clear HM2)
                  | (have HM2 : min f h = h := by omega
                     rw [HM2] at HS3 HK3
                     clear HM2)
                 clear HM1
                 (try subst hc)
                 (try subst hd)
                 (try subst he)
                 go_wp2_with fail
                 refine wp_region_still_tail 13 (by kernel_rfl) (by kernel_rfl) ?_
                 simp only [List.take_succ_cons, List.take_zero, List.drop_succ_cons, List.drop_zero]
                 repeat still_step
                 refine wpStill_nil ?_
                 go_wp2_with fail
                 go_meet
                 exact ⟨HHI.out.keep HK3.out (by simpa using n34), HS3.out, hK2.trans (HK3.out.mono (by simp))⟩)
          case rest =>
            obtain ⟨hHi3, hLo3, hK3⟩ := hcut
            have cX := (hX.keep hK3 (by simp; exact ⟨n1, n2⟩)).cell j
            have cY := (hY.keep hK3 (by simp; exact ⟨n4, n5⟩)).cell j
            rw [v6_at _ _ hj] at cX cY
            have hss := hasN_succ F G j hj1
            have HSS := Lib.hid hss
            clear hss hXr hYr hZr hHi2 hLo2 hK2
            generalize hb : hasN F G j = b at *
            have HB := Lib.hid hb
            clear hb
            cases b with
            | false =>
              go_wp2_with fail
              go_quiet (fail)
              go_wp2_with fail
              go_roundw
              case rel => exact ⟨j + 1, by omega, by omega, by go_num, by rw [HSS.out]; rfl, blkN hHi3 nq, blkN hLo3 nq, keepN hK3 nq⟩
              case measure => simp [intOf]; omega
            | true =>
              go_wp2_with fail
              go_quiet (fail)
              go_wp2_with fail
              go_roundw
              case rel => exact ⟨j + 1, by omega, by omega, by go_num, by rw [HSS.out]; rfl, blkN hHi3 nq, blkN hLo3 nq, keepN hK3 nq⟩
              case measure => simp [intOf]; omega
      · obtain rfl : j = 6 := by omega
        have hV1 := hV.keep hKr (by simp; exact ⟨n10, n11⟩)
        have hW1 := hW.keep hKr (by simp; exact ⟨n13, n14⟩)
        have hU1 := hU.keep hKr (by simp; exact ⟨n16, n17⟩)
        have hSe1 := hSe.keep hKr (by simp; exact ⟨Ne.symm n35, Ne.symm n45⟩)
        have K1 := K9.then hKr (by intro x hx hlt; simp at hx; omega)
        clear hYr hZr hKr hX hY hZ hV hW hU hSe K9
        obtain ⟨inr, hinr⟩ : ∃ b, b = decide (1 ≤ node ∧ node ≤ 5) := ⟨_, rfl⟩
        have HINR := Lib.hid hinr
        clear hinr
        go_upto_region 14 with fail
        go_cut [86] (fun s wc => s = .bool inr ∧ Keep [] wr wc)
        case first =>
          have hc : node < 1 ∨ (1 ≤ node ∧ 5 < node) ∨ (1 ≤ node ∧ node ≤ 5) := by omega
          rcases hc with hc | ⟨hc, hd⟩ | ⟨hc, hd⟩
          · have p1 : decide ((1 : Int) ≤ node) = false := decide_eq_false (by omega)
            have p3 : decide (1 ≤ node ∧ node ≤ 5) = false := decide_eq_false (by omega)
            have P3 := Lib.hid p3
            clear p3
            go_wp2_with fail
            go_meet
            exact ⟨by rw [HINR.out, P3.out], Keep.refl _ _⟩
          · have p1 : decide ((1 : Int) ≤ node) = true := decide_eq_true (by omega)
            have p2 : decide (node ≤ (5 : Int)) = false := decide_eq_false (by omega)
            have p3 : decide (1 ≤ node ∧ node ≤ 5) = false := decide_eq_false (by omega)
            have P3 := Lib.hid p3
            clear p3
            go_wp2_with fail
            go_meet
            exact ⟨by rw [HINR.out, P3.out], Keep.refl _ _⟩
          · have p1 : decide ((1 : Int) ≤ node) = true := decide_eq_true (by omega)
            have p2 : decide (node ≤ (5 : Int)) = true := decide_eq_true (by omega)
            have p3 : decide (1 ≤ node ∧ node ≤ 5) = true := decide_eq_true (by omega)
            have P3 := Lib.hid p3
            clear p3
            go_wp2_with fail
            go_meet
            exact ⟨by rw [HINR.out, P3.out], Keep.refl _ _⟩
        case rest =>
          obtain ⟨rfl, hkc⟩ := hcut
          have hV2 := hV1.keep hkc (by simp)
          have hW2 := hW1.keep hkc (by simp)
          have hU2 := hU1.keep hkc (by simp)
          have hX2 := hXr.keep hkc (by simp)
          have hHi2 := hHi1.keep hkc (by simp)
          have hLo2 := hLo1.keep hkc (by simp)
          have hSe2 := hSe1.keep hkc (by simp)
          have K2 := K1.trans hkc
          clear hV1 hW1 hU1 hXr hHi1 hLo1 hSe1 K1 hkc
          go_upto_if 86 with fail
          go_cut [] (fun wd => Blk wd bs (v6 (vset F node n)) 24 ∧ Keep [bs] wc wd)
          case first =>
            by_cases hin : 1 ≤ node ∧ node ≤ 5
            · obtain rfl : inr = true := by rw [HINR.out]; exact decide_eq_true hin
              clear HINR
              obtain ⟨kn, rfl⟩ : ∃ k : Nat, node = k := ⟨node.toNat, by omega⟩
              have hk6 : kn < 6 := by omega
              have q1 : (kn : Int) < 6 := by omega
              have q2 : (0 : Int) ≤ kn := by omega
              have cS := hSe2.cell kn
              have fS := hSe2.free kn
              rw [v6_at _ _ hk6] at cS
              have hset := v6_set F kn (max 0 n) hk6
              have hfe : (fun i => if i = kn then max 0 n else F i) = vset F kn n := by
                funext i
                unfold vset
                by_cases e : i = kn
                · subst e; rw [if_pos rfl, if_pos (by omega)]; omega
                · rw [if_neg e, if_neg (by omega)]
              rw [hfe] at hset
              have hS3 := hSe2.set kn (.int .i64 (max 0 n))
              rw [hset] at hS3
              have hk3 : Keep [bs] wc (wc.setCell ⟨bs, kn, none⟩ (.int .i64 (max 0 n))) := (Keep.refl _ _).setCell (.inl (by simp)) _
              have HS3 := Lib.hid hS3
              have HK3 := Lib.hid hk3
              clear hset hS3 hk3 hfe hin
              generalize F kn = old at *
              have hn : n < 0 ∨ n = 0 ∨ 0 < n := by omega
              rcases hn with hn | rfl | hn
              · rw [show max 0 n = 0 by omega] at HS3 HK3
                go_wp2_with fail
                go_meet
                exact ⟨HS3.out, HK3.out⟩
              · rw [show max (0 : Int) 0 = 0 by omega] at HS3 HK3
                go_wp2_with fail
                go_meet
                exact ⟨HS3.out, HK3.out⟩
              · rw [show max 0 n = n by omega] at HS3 HK3
                go_wp2_with fail
                go_meet
                exact ⟨HS3.out, HK3.out⟩
            · obtain rfl : inr = false := by rw [HINR.out]; exact decide_eq_false hin
              clear HINR
              have hv := vset_out F node n hin
              have HV := Lib.hid hv
              clear hv hin
              go_wp2_with fail
              go_meet
              exact ⟨by rw [HV.out]; exact hSe2, Keep.refl _ _⟩
          case rest =>
            obtain ⟨hSe3, hkd⟩ := hcut
            have hV5 := (hV2.keep hkd (by simp; exact n12)).drew
            have hW5 := (hW2.keep hkd (by simp; exact n15)).drew
            have hU5 := (hU2.keep hkd (by simp; exact n18)).drew
            have hX5 := (hX2.keep hkd (by simp; exact n3)).drew
            have hHi5 := (hHi2.keep hkd (by simp; exact n35)).drew
            have hLo5 := (hLo2.keep hkd (by simp; exact n45)).drew
            have hSe5 := hSe3.drew
            have K5 := (K2.then hkd (by intro x hx hlt; simp at hx; omega)).drew
            clear hV2 hW2 hU2 hX2 hHi2 hLo2 hSe2 hSe3 K2 hkd
            have hq1 : true = vsame (vmaxN F [G, H] 2) (hiJ F G H 6) := (all_hi F G H).symm
            have hq2 : true = vsame (vminN F [G, H] 2) (loJ F G H 6) := (all_lo F G H).symm
            have hq3 : true = vsame F F := (vsame_self F).symm
            have hq4 : true = vsame (vset F node n) (vset F node n) := (vsame_self _).symm
            have hx10 : vmaxN F [G, H] 2 0 = 0 := by show vmax (vmax F G) H 0 = 0; rw [vmax_0, vmax_0]; exact HF0.out
            have hy10 : vminN F [G, H] 2 0 = 0 := by show vmin (vmin F G) H 0 = 0; rw [vmin_0, vmin_0]; exact HF0.out
            have hhi0 : hiJ F G H 6 0 = 0 := by unfold hiJ; rw [if_neg (by omega)]; exact HF0.out
            have hlo0 : loJ F G H 6 0 = 0 := by unfold loJ; rw [if_neg (by omega)]; exact HF0.out
            have hse0 : vset F node n 0 = 0 := by unfold vset; rw [if_neg (by omega)]; exact HF0.out
            have hMax : ∀ W : World, Calls Try.prog 17 #[vec F, .slice (some ⟨W.heap.size, 0, none⟩) 2 2] (W.alloc (.cells (v6 G ++ v6 H).toArray 26)) fun e w' => e = .returned (vec (vmaxN F [G, H] 2)) ∧ Keep [] (W.alloc (.cells (v6 G ++ v6 H).toArray 26)) w' := fun W => vMax_any F _ [G, H] (rv_vecs W [G, H] _ rfl _ rfl _) (by simp)
            have hMin : ∀ W : World, Calls Try.prog 18 #[vec F, .slice (some ⟨W.heap.size, 0, none⟩) 2 2] (W.alloc (.cells (v6 G ++ v6 H).toArray 26)) fun e w' => e = .returned (vec (vminN F [G, H] 2)) ∧ Keep [] (W.alloc (.cells (v6 G ++ v6 H).toArray 26)) w' := fun W => vMin_any F _ [G, H] (rv_vecs W [G, H] _ rfl _ rfl _) (by simp)
            have hMax0 : ∀ W : World, Calls Try.prog 17 #[vec F, .slice none 0 0] W fun e w' => e = .returned (vec F) ∧ Keep [] W w' := fun W => vMax_any F _ [] ⟨rfl, none, 0, rfl, Nat.le_refl _, fun h => absurd h (by simp)⟩ (by simp)
            have hMin0 : ∀ W : World, Calls Try.prog 18 #[vec F, .slice none 0 0] W fun e w' => e = .returned (vec F) ∧ Keep [] W w' := fun W => vMin_any F _ [] ⟨rfl, none, 0, rfl, Nat.le_refl _, fun h => absurd h (by simp)⟩ (by simp)
            have hSet : ∀ W : World, Calls Try.prog 19 #[vec F, .int .i64 node, .int .i64 n] W fun e w' => e = .returned (vec (vset F node n)) ∧ Keep [] W w' := fun W => vSet_any F node n
            have hHas : ∀ W : World, Calls Try.prog 20 #[vec F, vec G] W fun e w' => e = .returned (.bool (hasN F G 6)) ∧ Keep [] W w' := fun W => vHas_any F G _ (hasN_six F G)
            have HQ1 := Lib.hid hq1
            have HQ2 := Lib.hid hq2
            have HQ3 := Lib.hid hq3
            have HQ4 := Lib.hid hq4
            have HX1 := Lib.hid hx10
            have HY1 := Lib.hid hy10
            have HHi0 := Lib.hid hhi0
            have HLo0 := Lib.hid hlo0
            have HSe0 := Lib.hid hse0
            have HMax := Lib.hid hMax
            have HMin := Lib.hid hMin
            have HMax0 := Lib.hid hMax0
            have HMin0 := Lib.hid hMin0
            have HSet := Lib.hid hSet
            have HHas := Lib.hid hHas
            clear hq1 hq2 hq3 hq4 hx10 hy10 hhi0 hlo0 hse0 hMax hMin hMax0 hMin0 hSet hHas
            generalize vmaxN F [G, H] 2 = X1 at *
            generalize vminN F [G, H] 2 = Y1 at *
            generalize hiJ F G H 6 = Hi at *
            generalize loJ F G H 6 = Lo at *
            generalize vset F node n = Se at *
            generalize hasN F G 6 = hb at *
            have hbb : (hb == hb) = true := by simp
            obtain ⟨a0, a1, a2, a3, a4, a5⟩ := v6_cells hV5
            obtain ⟨b0, b1, b2, b3, b4, b5⟩ := v6_cells hW5
            obtain ⟨c0, c1, c2, c3, c4, c5⟩ := v6_cells hU5
            obtain ⟨d0, d1, d2, d3, d4, d5⟩ := v6_cells hX5
            obtain ⟨e0, e1, e2, e3, e4, e5⟩ := v6_cells hHi5
            obtain ⟨f0, f1, f2, f3, f4, f5⟩ := v6_cells hLo5
            obtain ⟨g0, g1, g2, g3, g4, g5⟩ := v6_cells hSe5
            go_wp2_with fail
            go_region_held3 (fun w' => w'.cell? ⟨bv, 0, none⟩ = some (.int .i64 (F 0)) ∧ w'.cell? ⟨bv, 1, none⟩ = some (.int .i64 (F 1)) ∧ w'.cell? ⟨bv, 2, none⟩ = some (.int .i64 (F 2)) ∧ w'.cell? ⟨bv, 3, none⟩ = some (.int .i64 (F 3)) ∧ w'.cell? ⟨bv, 4, none⟩ = some (.int .i64 (F 4)) ∧ w'.cell? ⟨bv, 5, none⟩ = some (.int .i64 (F 5)) ∧ w'.cell? ⟨bw, 0, none⟩ = some (.int .i64 (G 0)) ∧ w'.cell? ⟨bw, 1, none⟩ = some (.int .i64 (G 1)) ∧ w'.cell? ⟨bw, 2, none⟩ = some (.int .i64 (G 2)) ∧ w'.cell? ⟨bw, 3, none⟩ = some (.int .i64 (G 3)) ∧ w'.cell? ⟨bw, 4, none⟩ = some (.int .i64 (G 4)) ∧ w'.cell? ⟨bw, 5, none⟩ = some (.int .i64 (G 5)) ∧ w'.cell? ⟨bu, 0, none⟩ = some (.int .i64 (H 0)) ∧ w'.cell? ⟨bu, 1, none⟩ = some (.int .i64 (H 1)) ∧ w'.cell? ⟨bu, 2, none⟩ = some (.int .i64 (H 2)) ∧ w'.cell? ⟨bu, 3, none⟩ = some (.int .i64 (H 3)) ∧ w'.cell? ⟨bu, 4, none⟩ = some (.int .i64 (H 4)) ∧ w'.cell? ⟨bu, 5, none⟩ = some (.int .i64 (H 5)) ∧ w'.cell? ⟨bx, 0, none⟩ = some (.int .i64 (F 0)) ∧ w'.cell? ⟨bx, 1, none⟩ = some (.int .i64 (F 1)) ∧ w'.cell? ⟨bx, 2, none⟩ = some (.int .i64 (F 2)) ∧ w'.cell? ⟨bx, 3, none⟩ = some (.int .i64 (F 3)) ∧ w'.cell? ⟨bx, 4, none⟩ = some (.int .i64 (F 4)) ∧ w'.cell? ⟨bx, 5, none⟩ = some (.int .i64 (F 5)) ∧ w'.cell? ⟨bh, 0, none⟩ = some (.int .i64 (Hi 0)) ∧ w'.cell? ⟨bh, 1, none⟩ = some (.int .i64 (Hi 1)) ∧ w'.cell? ⟨bh, 2, none⟩ = some (.int .i64 (Hi 2)) ∧ w'.cell? ⟨bh, 3, none⟩ = some (.int .i64 (Hi 3)) ∧ w'.cell? ⟨bh, 4, none⟩ = some (.int .i64 (Hi 4)) ∧ w'.cell? ⟨bh, 5, none⟩ = some (.int .i64 (Hi 5)) ∧ w'.cell? ⟨bl, 0, none⟩ = some (.int .i64 (Lo 0)) ∧ w'.cell? ⟨bl, 1, none⟩ = some (.int .i64 (Lo 1)) ∧ w'.cell? ⟨bl, 2, none⟩ = some (.int .i64 (Lo 2)) ∧ w'.cell? ⟨bl, 3, none⟩ = some (.int .i64 (Lo 3)) ∧ w'.cell? ⟨bl, 4, none⟩ = some (.int .i64 (Lo 4)) ∧ w'.cell? ⟨bl, 5, none⟩ = some (.int .i64 (Lo 5)) ∧ w'.cell? ⟨bs, 0, none⟩ = some (.int .i64 (Se 0)) ∧ w'.cell? ⟨bs, 1, none⟩ = some (.int .i64 (Se 1)) ∧ w'.cell? ⟨bs, 2, none⟩ = some (.int .i64 (Se 2)) ∧ w'.cell? ⟨bs, 3, none⟩ = some (.int .i64 (Se 3)) ∧ w'.cell? ⟨bs, 4, none⟩ = some (.int .i64 (Se 4)) ∧ w'.cell? ⟨bs, 5, none⟩ = some (.int .i64 (Se 5)))
              ((repeat' apply And.intro) <;> first | assumption | (exact cell_alloc (by assumption)))
              (first
                | (go_at_call_of 16 (Hi 0); refine (same_any X1 Hi true HQ1.out HX1.out HHi0.out).mono ?_; rintro e wa ⟨rfl, ka⟩; have hV5 := (hV5).keep ka (by simp); have hW5 := (hW5).keep ka (by simp); have hU5 := (hU5).keep ka (by simp); have hX5 := (hX5).keep ka (by simp); have hHi5 := (hHi5).keep ka (by simp); have hLo5 := (hLo5).keep ka (by simp); have hSe5 := (hSe5).keep ka (by simp); have K5 := (K5).trans ka; clear a0 a1 a2 a3 a4 a5 b0 b1 b2 b3 b4 b5 c0 c1 c2 c3 c4 c5 d0 d1 d2 d3 d4 d5 e0 e1 e2 e3 e4 e5 f0 f1 f2 f3 f4 f5 g0 g1 g2 g3 g4 g5; obtain ⟨a0, a1, a2, a3, a4, a5⟩ := v6_cells hV5; obtain ⟨b0, b1, b2, b3, b4, b5⟩ := v6_cells hW5; obtain ⟨c0, c1, c2, c3, c4, c5⟩ := v6_cells hU5; obtain ⟨d0, d1, d2, d3, d4, d5⟩ := v6_cells hX5; obtain ⟨e0, e1, e2, e3, e4, e5⟩ := v6_cells hHi5; obtain ⟨f0, f1, f2, f3, f4, f5⟩ := v6_cells hLo5; obtain ⟨g0, g1, g2, g3, g4, g5⟩ := v6_cells hSe5)
                | (go_at_call_of 16 (Lo 0); refine (same_any Y1 Lo true HQ2.out HY1.out HLo0.out).mono ?_; rintro e wa ⟨rfl, ka⟩; have hV5 := (hV5).keep ka (by simp); have hW5 := (hW5).keep ka (by simp); have hU5 := (hU5).keep ka (by simp); have hX5 := (hX5).keep ka (by simp); have hHi5 := (hHi5).keep ka (by simp); have hLo5 := (hLo5).keep ka (by simp); have hSe5 := (hSe5).keep ka (by simp); have K5 := (K5).trans ka; clear a0 a1 a2 a3 a4 a5 b0 b1 b2 b3 b4 b5 c0 c1 c2 c3 c4 c5 d0 d1 d2 d3 d4 d5 e0 e1 e2 e3 e4 e5 f0 f1 f2 f3 f4 f5 g0 g1 g2 g3 g4 g5; obtain ⟨a0, a1, a2, a3, a4, a5⟩ := v6_cells hV5; obtain ⟨b0, b1, b2, b3, b4, b5⟩ := v6_cells hW5; obtain ⟨c0, c1, c2, c3, c4, c5⟩ := v6_cells hU5; obtain ⟨d0, d1, d2, d3, d4, d5⟩ := v6_cells hX5; obtain ⟨e0, e1, e2, e3, e4, e5⟩ := v6_cells hHi5; obtain ⟨f0, f1, f2, f3, f4, f5⟩ := v6_cells hLo5; obtain ⟨g0, g1, g2, g3, g4, g5⟩ := v6_cells hSe5)
                | (go_at_call_of 16 (Se 0); refine (same_any Se Se true HQ4.out HSe0.out HSe0.out).mono ?_; rintro e wa ⟨rfl, ka⟩; have hV5 := (hV5).keep ka (by simp); have hW5 := (hW5).keep ka (by simp); have hU5 := (hU5).keep ka (by simp); have hX5 := (hX5).keep ka (by simp); have hHi5 := (hHi5).keep ka (by simp); have hLo5 := (hLo5).keep ka (by simp); have hSe5 := (hSe5).keep ka (by simp); have K5 := (K5).trans ka; clear a0 a1 a2 a3 a4 a5 b0 b1 b2 b3 b4 b5 c0 c1 c2 c3 c4 c5 d0 d1 d2 d3 d4 d5 e0 e1 e2 e3 e4 e5 f0 f1 f2 f3 f4 f5 g0 g1 g2 g3 g4 g5; obtain ⟨a0, a1, a2, a3, a4, a5⟩ := v6_cells hV5; obtain ⟨b0, b1, b2, b3, b4, b5⟩ := v6_cells hW5; obtain ⟨c0, c1, c2, c3, c4, c5⟩ := v6_cells hU5; obtain ⟨d0, d1, d2, d3, d4, d5⟩ := v6_cells hX5; obtain ⟨e0, e1, e2, e3, e4, e5⟩ := v6_cells hHi5; obtain ⟨f0, f1, f2, f3, f4, f5⟩ := v6_cells hLo5; obtain ⟨g0, g1, g2, g3, g4, g5⟩ := v6_cells hSe5)
                | (go_at_call_of 16 (F 0); refine (same_any F F true HQ3.out HF0.out HF0.out).mono ?_; rintro e wa ⟨rfl, ka⟩; have hV5 := (hV5).keep ka (by simp); have hW5 := (hW5).keep ka (by simp); have hU5 := (hU5).keep ka (by simp); have hX5 := (hX5).keep ka (by simp); have hHi5 := (hHi5).keep ka (by simp); have hLo5 := (hLo5).keep ka (by simp); have hSe5 := (hSe5).keep ka (by simp); have K5 := (K5).trans ka; clear a0 a1 a2 a3 a4 a5 b0 b1 b2 b3 b4 b5 c0 c1 c2 c3 c4 c5 d0 d1 d2 d3 d4 d5 e0 e1 e2 e3 e4 e5 f0 f1 f2 f3 f4 f5 g0 g1 g2 g3 g4 g5; obtain ⟨a0, a1, a2, a3, a4, a5⟩ := v6_cells hV5; obtain ⟨b0, b1, b2, b3, b4, b5⟩ := v6_cells hW5; obtain ⟨c0, c1, c2, c3, c4, c5⟩ := v6_cells hU5; obtain ⟨d0, d1, d2, d3, d4, d5⟩ := v6_cells hX5; obtain ⟨e0, e1, e2, e3, e4, e5⟩ := v6_cells hHi5; obtain ⟨f0, f1, f2, f3, f4, f5⟩ := v6_cells hLo5; obtain ⟨g0, g1, g2, g3, g4, g5⟩ := v6_cells hSe5)
                | (go_at_call_of 17 (Value.slice none 0 0); refine (HMax0.out _).mono ?_; rintro e wa ⟨rfl, ka⟩; have hV5 := (hV5).keep ka (by simp); have hW5 := (hW5).keep ka (by simp); have hU5 := (hU5).keep ka (by simp); have hX5 := (hX5).keep ka (by simp); have hHi5 := (hHi5).keep ka (by simp); have hLo5 := (hLo5).keep ka (by simp); have hSe5 := (hSe5).keep ka (by simp); have K5 := (K5).trans ka; clear a0 a1 a2 a3 a4 a5 b0 b1 b2 b3 b4 b5 c0 c1 c2 c3 c4 c5 d0 d1 d2 d3 d4 d5 e0 e1 e2 e3 e4 e5 f0 f1 f2 f3 f4 f5 g0 g1 g2 g3 g4 g5; obtain ⟨a0, a1, a2, a3, a4, a5⟩ := v6_cells hV5; obtain ⟨b0, b1, b2, b3, b4, b5⟩ := v6_cells hW5; obtain ⟨c0, c1, c2, c3, c4, c5⟩ := v6_cells hU5; obtain ⟨d0, d1, d2, d3, d4, d5⟩ := v6_cells hX5; obtain ⟨e0, e1, e2, e3, e4, e5⟩ := v6_cells hHi5; obtain ⟨f0, f1, f2, f3, f4, f5⟩ := v6_cells hLo5; obtain ⟨g0, g1, g2, g3, g4, g5⟩ := v6_cells hSe5)
                | (go_at_call_of 18 (Value.slice none 0 0); refine (HMin0.out _).mono ?_; rintro e wa ⟨rfl, ka⟩; have hV5 := (hV5).keep ka (by simp); have hW5 := (hW5).keep ka (by simp); have hU5 := (hU5).keep ka (by simp); have hX5 := (hX5).keep ka (by simp); have hHi5 := (hHi5).keep ka (by simp); have hLo5 := (hLo5).keep ka (by simp); have hSe5 := (hSe5).keep ka (by simp); have K5 := (K5).trans ka; clear a0 a1 a2 a3 a4 a5 b0 b1 b2 b3 b4 b5 c0 c1 c2 c3 c4 c5 d0 d1 d2 d3 d4 d5 e0 e1 e2 e3 e4 e5 f0 f1 f2 f3 f4 f5 g0 g1 g2 g3 g4 g5; obtain ⟨a0, a1, a2, a3, a4, a5⟩ := v6_cells hV5; obtain ⟨b0, b1, b2, b3, b4, b5⟩ := v6_cells hW5; obtain ⟨c0, c1, c2, c3, c4, c5⟩ := v6_cells hU5; obtain ⟨d0, d1, d2, d3, d4, d5⟩ := v6_cells hX5; obtain ⟨e0, e1, e2, e3, e4, e5⟩ := v6_cells hHi5; obtain ⟨f0, f1, f2, f3, f4, f5⟩ := v6_cells hLo5; obtain ⟨g0, g1, g2, g3, g4, g5⟩ := v6_cells hSe5)
                | (go_at_call 17; refine (HMax.out _).mono ?_; rintro e wa ⟨rfl, ka⟩; have hV5 := (hV5.alloc _).keep ka (by simp); have hW5 := (hW5.alloc _).keep ka (by simp); have hU5 := (hU5.alloc _).keep ka (by simp); have hX5 := (hX5.alloc _).keep ka (by simp); have hHi5 := (hHi5.alloc _).keep ka (by simp); have hLo5 := (hLo5.alloc _).keep ka (by simp); have hSe5 := (hSe5.alloc _).keep ka (by simp); have K5 := (K5.alloc _).trans ka; clear a0 a1 a2 a3 a4 a5 b0 b1 b2 b3 b4 b5 c0 c1 c2 c3 c4 c5 d0 d1 d2 d3 d4 d5 e0 e1 e2 e3 e4 e5 f0 f1 f2 f3 f4 f5 g0 g1 g2 g3 g4 g5; obtain ⟨a0, a1, a2, a3, a4, a5⟩ := v6_cells hV5; obtain ⟨b0, b1, b2, b3, b4, b5⟩ := v6_cells hW5; obtain ⟨c0, c1, c2, c3, c4, c5⟩ := v6_cells hU5; obtain ⟨d0, d1, d2, d3, d4, d5⟩ := v6_cells hX5; obtain ⟨e0, e1, e2, e3, e4, e5⟩ := v6_cells hHi5; obtain ⟨f0, f1, f2, f3, f4, f5⟩ := v6_cells hLo5; obtain ⟨g0, g1, g2, g3, g4, g5⟩ := v6_cells hSe5)
                | (go_at_call 18; refine (HMin.out _).mono ?_; rintro e wa ⟨rfl, ka⟩; have hV5 := (hV5.alloc _).keep ka (by simp); have hW5 := (hW5.alloc _).keep ka (by simp); have hU5 := (hU5.alloc _).keep ka (by simp); have hX5 := (hX5.alloc _).keep ka (by simp); have hHi5 := (hHi5.alloc _).keep ka (by simp); have hLo5 := (hLo5.alloc _).keep ka (by simp); have hSe5 := (hSe5.alloc _).keep ka (by simp); have K5 := (K5.alloc _).trans ka; clear a0 a1 a2 a3 a4 a5 b0 b1 b2 b3 b4 b5 c0 c1 c2 c3 c4 c5 d0 d1 d2 d3 d4 d5 e0 e1 e2 e3 e4 e5 f0 f1 f2 f3 f4 f5 g0 g1 g2 g3 g4 g5; obtain ⟨a0, a1, a2, a3, a4, a5⟩ := v6_cells hV5; obtain ⟨b0, b1, b2, b3, b4, b5⟩ := v6_cells hW5; obtain ⟨c0, c1, c2, c3, c4, c5⟩ := v6_cells hU5; obtain ⟨d0, d1, d2, d3, d4, d5⟩ := v6_cells hX5; obtain ⟨e0, e1, e2, e3, e4, e5⟩ := v6_cells hHi5; obtain ⟨f0, f1, f2, f3, f4, f5⟩ := v6_cells hLo5; obtain ⟨g0, g1, g2, g3, g4, g5⟩ := v6_cells hSe5)
                | (go_at_call 19; refine (HSet.out _).mono ?_; rintro e wa ⟨rfl, ka⟩; have hV5 := (hV5).keep ka (by simp); have hW5 := (hW5).keep ka (by simp); have hU5 := (hU5).keep ka (by simp); have hX5 := (hX5).keep ka (by simp); have hHi5 := (hHi5).keep ka (by simp); have hLo5 := (hLo5).keep ka (by simp); have hSe5 := (hSe5).keep ka (by simp); have K5 := (K5).trans ka; clear a0 a1 a2 a3 a4 a5 b0 b1 b2 b3 b4 b5 c0 c1 c2 c3 c4 c5 d0 d1 d2 d3 d4 d5 e0 e1 e2 e3 e4 e5 f0 f1 f2 f3 f4 f5 g0 g1 g2 g3 g4 g5; obtain ⟨a0, a1, a2, a3, a4, a5⟩ := v6_cells hV5; obtain ⟨b0, b1, b2, b3, b4, b5⟩ := v6_cells hW5; obtain ⟨c0, c1, c2, c3, c4, c5⟩ := v6_cells hU5; obtain ⟨d0, d1, d2, d3, d4, d5⟩ := v6_cells hX5; obtain ⟨e0, e1, e2, e3, e4, e5⟩ := v6_cells hHi5; obtain ⟨f0, f1, f2, f3, f4, f5⟩ := v6_cells hLo5; obtain ⟨g0, g1, g2, g3, g4, g5⟩ := v6_cells hSe5)
                | (go_at_call 20; refine (HHas.out _).mono ?_; rintro e wa ⟨rfl, ka⟩; have hV5 := (hV5).keep ka (by simp); have hW5 := (hW5).keep ka (by simp); have hU5 := (hU5).keep ka (by simp); have hX5 := (hX5).keep ka (by simp); have hHi5 := (hHi5).keep ka (by simp); have hLo5 := (hLo5).keep ka (by simp); have hSe5 := (hSe5).keep ka (by simp); have K5 := (K5).trans ka; clear a0 a1 a2 a3 a4 a5 b0 b1 b2 b3 b4 b5 c0 c1 c2 c3 c4 c5 d0 d1 d2 d3 d4 d5 e0 e1 e2 e3 e4 e5 f0 f1 f2 f3 f4 f5 g0 g1 g2 g3 g4 g5; obtain ⟨a0, a1, a2, a3, a4, a5⟩ := v6_cells hV5; obtain ⟨b0, b1, b2, b3, b4, b5⟩ := v6_cells hW5; obtain ⟨c0, c1, c2, c3, c4, c5⟩ := v6_cells hU5; obtain ⟨d0, d1, d2, d3, d4, d5⟩ := v6_cells hX5; obtain ⟨e0, e1, e2, e3, e4, e5⟩ := v6_cells hHi5; obtain ⟨f0, f1, f2, f3, f4, f5⟩ := v6_cells hLo5; obtain ⟨g0, g1, g2, g3, g4, g5⟩ := v6_cells hSe5)
                | fail)
            all_goals
              go_wp2_with fail
              go_ret
              exact ⟨rfl, K5.below⟩
end Go.Proofs.Ytpibpgfadkfgbaa
