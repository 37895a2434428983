/- The law VectorLaws: its walk. -/
import Derived.Test.YtpibpgfadkfgbaaVecLaws
import Derived.Test.YtpibpgfadkfgbaaRegInv
namespace Go.Proofs.Ytpibpgfadkfgbaa
open Go.ChangeShapes Go.WideShapes Go.ChangeAt Go.RowKit
set_option linter.unusedVariables false
set_option linter.unusedSimpArgs false

theorem vmax_at (v u : Nat → Int) (i : Nat) (h : 1 ≤ i ∧ i ≤ 5) : vmax v u i = max (v i) (u i) := by
  unfold vmax vmaxJ; rw [if_pos (by omega)]
theorem vmin_at (v u : Nat → Int) (i : Nat) (h : 1 ≤ i ∧ i ≤ 5) : vmin v u i = min (v i) (u i) := by
  unfold vmin vminJ; rw [if_pos (by omega)]
theorem vmax_0 (v u : Nat → Int) : vmax v u 0 = v 0 := by unfold vmax vmaxJ; rw [if_neg (by omega)]
theorem vmin_0 (v u : Nat → Int) : vmin v u 0 = v 0 := by unfold vmin vminJ; rw [if_neg (by omega)]
theorem vhas_max_l (v u : Nat → Int) : vhas (vmax v u) v = true := (vhas_iff _ _).2 (fun i h1 h2 => by rw [vmax_at _ _ _ ⟨h1, h2⟩]; omega)
theorem vhas_max_r (v u : Nat → Int) : vhas (vmax v u) u = true := (vhas_iff _ _).2 (fun i h1 h2 => by rw [vmax_at _ _ _ ⟨h1, h2⟩]; omega)
theorem vhas_min_l (v u : Nat → Int) : vhas v (vmin v u) = true := (vhas_iff _ _).2 (fun i h1 h2 => by rw [vmin_at _ _ _ ⟨h1, h2⟩]; omega)
theorem vhas_min_r (v u : Nat → Int) : vhas u (vmin v u) = true := (vhas_iff _ _).2 (fun i h1 h2 => by rw [vmin_at _ _ _ ⟨h1, h2⟩]; omega)
theorem vhas_self (v : Nat → Int) : vhas v v = true := (vhas_iff _ _).2 (fun i h1 h2 => by omega)
theorem vhas_both (v u : Nat → Int) : (vhas v u && vhas u v) = vsame v u := by
  rw [Bool.eq_iff_iff, Bool.and_eq_true, vhas_iff, vhas_iff, vsame_iff]
  constructor
  · rintro ⟨h1, h2⟩ i hi hj
    have := h1 i hi hj
    have := h2 i hi hj
    omega
  · intro h
    exact ⟨fun i hi hj => by have := h i hi hj; omega, fun i hi hj => by have := h i hi hj; omega⟩
theorem vmax_comm (v u : Nat → Int) : vsame (vmax v u) (vmax u v) = true := (vsame_iff _ _).2 (fun i h1 h2 => by rw [vmax_at _ _ _ ⟨h1, h2⟩, vmax_at _ _ _ ⟨h1, h2⟩]; omega)
theorem vmin_comm (v u : Nat → Int) : vsame (vmin v u) (vmin u v) = true := (vsame_iff _ _).2 (fun i h1 h2 => by rw [vmin_at _ _ _ ⟨h1, h2⟩, vmin_at _ _ _ ⟨h1, h2⟩]; omega)
theorem blk_vecs {w : World} {b : Nat} {u : Nat → Int} {T : TypeId} (h : Blk w b (v6 u) T) : Rv w 6 (.slice (some ⟨b, 0, none⟩) 1 1) [u].length ([u].map v6).flatten := by
  refine ⟨rfl, _, 1, rfl, by simp, fun _ => ⟨b, 0, rfl, h.lt, fun j hj => ?_⟩⟩
  rw [Nat.zero_add, h.cell]; simp

def lawsC (F G : Nat → Int) (l : Nat → Bool) : Nat → List Value
  | 2 => v6 G
  | 6 => v6 G
  | 8 => if l 10 = true then v6 (vmax F G) else v6 (fun _ => 0)
  | 9 => if l 11 = true then v6 (vmin F G) else v6 (fun _ => 0)
  | _ => []
theorem lawsC_still (F G : Nat → Int) (l : Nat → Bool) (k : Nat) (hk : k ≠ 10 ∧ k ≠ 11) (i : Nat) : lawsC F G (upd l k true) i = lawsC F G l i := by
  unfold lawsC
  rw [upd_ne _ _ _ _ (Ne.symm hk.1), upd_ne _ _ _ _ (Ne.symm hk.2)]
def lawsT : Nat → TypeId := fun _ => 26
def lawsJ (F G : Nat → Int) (wr : World) (l : Nat → Bool) (x : Nat → Value) (w' : World) : Prop :=
  ∃ B : Nat → Nat, RI [2, 6, 8, 9] lawsT (lawsC F G) wr w' l B ∧ (l 0 = true → x 0 = vec F) ∧ (l 1 = true → x 1 = vec G) ∧ (l 2 = true → x 2 = .slice (some ⟨B 2, 0, none⟩) 1 1) ∧ (l 3 = true → x 3 = vec (vmax F G)) ∧
    (l 4 = true → x 4 = vec F) ∧ (l 5 = true → x 5 = vec G) ∧ (l 6 = true → x 6 = .slice (some ⟨B 6, 0, none⟩) 1 1) ∧ (l 7 = true → x 7 = vec (vmin F G)) ∧
    (l 8 = true → x 8 = .pointer (some ⟨B 8, 0, none⟩)) ∧ (l 9 = true → x 9 = .pointer (some ⟨B 9, 0, none⟩)) ∧ (l 10 = true → l 8 = true) ∧ (l 11 = true → l 9 = true)

set_option maxRecDepth 100000 in
set_option maxHeartbeats 8000000 in
theorem vectorLaws_walk (a0 : Option Addr) (len0 cap0 : Nat) (z0 : List Int) (a1 : Option Addr) (len1 cap1 : Nat) (z1 : List Int) (w : World) (w0 : IsRow .i64 w a0 len0 cap0 z0) (w1 : IsRow .i64 w a1 len1 cap1 z1) :
    Calls Try.prog 5 #[.slice a0 len0 cap0, .slice a1 len1 cap1] w fun e w' => e = .returned (.bool true) ∧ Below w.heap.size w w' := by
  obtain ⟨hzl, hmax, hr, hwf⟩ := w0.rv
  obtain ⟨hzl1, hmax1, hr1, hwf1⟩ := w1.rv
  clear w0 w1
  generalize z0.take len0 = zs at *
  generalize z1.take len1 = ys at *
  obtain rfl := hzl
  obtain rfl := hzl1
  go_enter Try.func5, Try.ntmps5
  go_wp2_with fail
  refine (begun11 w).mono ?_
  rintro e w0 ⟨rfl, k0⟩
  have hr0 := hr.keep k0 (by simp)
  have hs0 := hr1.keep k0 (by simp)
  go_wp2_with fail
  refine (vOf_any _ zs hr0 (by omega)).mono ?_
  rintro e w1 ⟨rfl, k1⟩
  have K1 := k0.trans k1
  have hs1 := hs0.keep k1 (by simp)
  go_wp2_with fail
  refine (vOf_any _ ys hs1 (by omega)).mono ?_
  rintro e w2 ⟨rfl, k2⟩
  have K2 := K1.trans k2
  clear k0 k1 k2 K1 hs1 hs0 hr0
  have hof : ∀ W : World, Rv W 1 (.slice a1 ys.length cap1) ys.length (ints ys) → Calls Try.prog 14 #[.slice a1 ys.length cap1] W fun e w' => e = .returned (vec (vof ys)) ∧ Keep [] W w' := fun W h => of_any (w := W) _ ys h (by omega)
  have HF0 := Lib.hid (vof_zero zs)
  have HG0 := Lib.hid (vof_zero ys)
  generalize vof zs = F at *
  generalize vof ys = G at *
  go_wp2_with fail
  have hV : Blk ((w2.alloc (.cells (v6 F).toArray 26)).alloc (.cells (v6 G).toArray 26)) w2.heap.size (v6 F) 26 := (Blk.new _ _ _).alloc _
  have hW : Blk ((w2.alloc (.cells (v6 F).toArray 26)).alloc (.cells (v6 G).toArray 26)) (w2.heap.size + 1) (v6 G) 26 := Blk.new' _ _ _ _ (by simp)
  have hK := (K2.alloc (.cells (v6 F).toArray 26)).alloc (.cells (v6 G).toArray 26)
  obtain ⟨wr, hwr⟩ : ∃ wr, wr = (w2.alloc (.cells (v6 F).toArray 26)).alloc (.cells (v6 G).toArray 26) := ⟨_, rfl⟩
  change Code.wp _ _ _ _ ((w2.alloc (.cells (v6 F).toArray 26)).alloc (.cells (v6 G).toArray 26))
  rw [← hwr] at hV hW hK ⊢
  have hbw : w2.heap.size ≠ w2.heap.size + 1 := by omega
  clear hwr K2
  generalize w2.heap.size + 1 = bw at *
  generalize w2.heap.size = bv at *
  refine wp_region_inv (lawsJ F G wr) (by kernel_rfl) (by kernel_rfl) (by kernel_rfl) ?_ (Steps.cons 0 ?_ (Steps.cons 1 ?_ (Steps.cons 2 ?_ (Steps.cons 3 ?_ (Steps.cons 4 ?_ (Steps.cons 5 ?_ (Steps.cons 6 ?_ (Steps.cons 7 ?_ (Steps.cons 8 ?_ (Steps.cons 9 ?_ (Steps.cons 10 ?_ (Steps.cons 11 ?_ (Steps.nil 12))))))))))))) 12 rfl ?_
  · intro x
    exact ⟨fun _ => 0, RI.start _ _, by simp⟩
  · intro l x w' hJ hi hd
    obtain ⟨B, hR, h0, h1, h2, h3, h4, h5, h6, h7, h8, h9, g8, g9⟩ := hJ
    obtain ⟨c0, c1, c2, c3, c4, c5⟩ := v6_cells (hV.keep hR.keep (by simp))
    refine Runs.of (b := ?b0) ?e0 ?_
    case e0 => simp only [putV, Act.put, List.setIfInBounds_toArray, List.set_cons_zero, List.set_cons_succ]; rfl
    intro K' hK'
    go_simp
    exact hK'.go _ rfl ⟨B, hR.still 0 (by decide) (fun i _ => lawsC_still _ _ _ 0 (by decide) i), fun _ => rfl, h1, h2, h3, h4, h5, h6, h7, h8, h9, g8, g9⟩
  · intro l x w' hJ hi hd
    obtain ⟨B, hR, h0, h1, h2, h3, h4, h5, h6, h7, h8, h9, g8, g9⟩ := hJ
    obtain ⟨c0, c1, c2, c3, c4, c5⟩ := v6_cells (hW.keep hR.keep (by simp))
    refine Runs.of (b := ?b1) ?e1 ?_
    case e1 => simp only [putV, Act.put, List.setIfInBounds_toArray, List.set_cons_zero, List.set_cons_succ]; rfl
    intro K' hK'
    go_simp
    exact hK'.go _ rfl ⟨B, hR.still 1 (by decide) (fun i _ => lawsC_still _ _ _ 1 (by decide) i), h0, fun _ => rfl, h2, h3, h4, h5, h6, h7, h8, h9, g8, g9⟩
  · intro l x w' hJ hi hd
    obtain ⟨B, hR, h0, h1, h2, h3, h4, h5, h6, h7, h8, h9, g8, g9⟩ := hJ
    have e1 := h1 (hd.1 rfl)
    refine Runs.of (b := ?b2) ?e2 ?_
    case e2 => simp only [putV, Act.put, List.setIfInBounds_toArray, List.set_cons_zero, List.set_cons_succ, e1]; rfl
    intro K' hK'
    go_simp
    exact hK'.go _ rfl ⟨upd B 2 _, hR.new 2 hi (fun i _ _ => lawsC_still _ _ _ 2 (by decide) i), h0, h1, fun _ => rfl, h3, h4, h5, h6, h7, h8, h9, g8, g9⟩
  · intro l x w' hJ hi hd
    obtain ⟨B, hR, h0, h1, h2, h3, h4, h5, h6, h7, h8, h9, g8, g9⟩ := hJ
    have e0 := h0 (hd.1 rfl)
    have e2 := h2 (hd.2.1 rfl)
    refine Runs.of (b := ?b3) ?e3 ?_
    case e3 => simp only [putV, Act.put, List.setIfInBounds_toArray, List.set_cons_zero, List.set_cons_succ, e0, e2]; rfl
    intro K' hK'
    go_simp
    refine (vMax_any F _ [G] (blk_vecs (hR.blk 2 (by decide) (hd.2.1 rfl)).2) (by simp)).mono ?_
    rintro e w'' ⟨rfl, k⟩
    go_simp
    exact hK'.go (vec (vmax F G)) rfl ⟨B, (hR.step k).still 3 (by decide) (fun i _ => lawsC_still _ _ _ 3 (by decide) i), h0, h1, h2, fun _ => rfl, h4, h5, h6, h7, h8, h9, g8, g9⟩
  · intro l x w' hJ hi hd
    obtain ⟨B, hR, h0, h1, h2, h3, h4, h5, h6, h7, h8, h9, g8, g9⟩ := hJ
    obtain ⟨c0, c1, c2, c3, c4, c5⟩ := v6_cells (hV.keep hR.keep (by simp))
    refine Runs.of (b := ?b4) ?e4 ?_
    case e4 => simp only [putV, Act.put, List.setIfInBounds_toArray, List.set_cons_zero, List.set_cons_succ]; rfl
    intro K' hK'
    go_simp
    exact hK'.go _ rfl ⟨B, hR.still 4 (by decide) (fun i _ => lawsC_still _ _ _ 4 (by decide) i), h0, h1, h2, h3, fun _ => rfl, h5, h6, h7, h8, h9, g8, g9⟩
  · intro l x w' hJ hi hd
    obtain ⟨B, hR, h0, h1, h2, h3, h4, h5, h6, h7, h8, h9, g8, g9⟩ := hJ
    obtain ⟨c0, c1, c2, c3, c4, c5⟩ := v6_cells (hW.keep hR.keep (by simp))
    refine Runs.of (b := ?b5) ?e5 ?_
    case e5 => simp only [putV, Act.put, List.setIfInBounds_toArray, List.set_cons_zero, List.set_cons_succ]; rfl
    intro K' hK'
    go_simp
    exact hK'.go _ rfl ⟨B, hR.still 5 (by decide) (fun i _ => lawsC_still _ _ _ 5 (by decide) i), h0, h1, h2, h3, h4, fun _ => rfl, h6, h7, h8, h9, g8, g9⟩
  · intro l x w' hJ hi hd
    obtain ⟨B, hR, h0, h1, h2, h3, h4, h5, h6, h7, h8, h9, g8, g9⟩ := hJ
    have e5 := h5 (hd.1 rfl)
    refine Runs.of (b := ?b6) ?e6 ?_
    case e6 => simp only [putV, Act.put, List.setIfInBounds_toArray, List.set_cons_zero, List.set_cons_succ, e5]; rfl
    intro K' hK'
    go_simp
    exact hK'.go _ rfl ⟨upd B 6 _, hR.new 6 hi (fun i _ _ => lawsC_still _ _ _ 6 (by decide) i), h0, h1, h2, h3, h4, h5, fun _ => rfl, h7, h8, h9, g8, g9⟩
  · intro l x w' hJ hi hd
    obtain ⟨B, hR, h0, h1, h2, h3, h4, h5, h6, h7, h8, h9, g8, g9⟩ := hJ
    have e4 := h4 (hd.1 rfl)
    have e6 := h6 (hd.2.1 rfl)
    refine Runs.of (b := ?b7) ?e7 ?_
    case e7 => simp only [putV, Act.put, List.setIfInBounds_toArray, List.set_cons_zero, List.set_cons_succ, e4, e6]; rfl
    intro K' hK'
    go_simp
    refine (vMin_any F _ [G] (blk_vecs (hR.blk 6 (by decide) (hd.2.1 rfl)).2) (by simp)).mono ?_
    rintro e w'' ⟨rfl, k⟩
    go_simp
    exact hK'.go (vec (vmin F G)) rfl ⟨B, (hR.step k).still 7 (by decide) (fun i _ => lawsC_still _ _ _ 7 (by decide) i), h0, h1, h2, h3, h4, h5, h6, fun _ => rfl, h8, h9, g8, g9⟩
  · intro l x w' hJ hi hd
    obtain ⟨B, hR, h0, h1, h2, h3, h4, h5, h6, h7, h8, h9, g8, g9⟩ := hJ
    refine Runs.of (b := ?b8) ?e8 ?_
    case e8 => simp only [putV, Act.put, List.setIfInBounds_toArray, List.set_cons_zero, List.set_cons_succ]; rfl
    intro K' hK'
    go_simp
    exact hK'.go _ rfl ⟨upd B 8 _, hR.new' 8 hi (v6 (fun _ => 0)) (by
      have : l 10 = false := by
        cases h : l 10 with
        | false => rfl
        | true => rw [g8 h] at hi; cases hi
      unfold lawsC; simp only [upd_ne _ _ _ _ (show (10 : Nat) ≠ 8 by decide), this]; rfl) (fun i _ _ => lawsC_still _ _ _ 8 (by decide) i), h0, h1, h2, h3, h4, h5, h6, h7, fun _ => rfl, h9, fun _ => rfl, g9⟩
  · intro l x w' hJ hi hd
    obtain ⟨B, hR, h0, h1, h2, h3, h4, h5, h6, h7, h8, h9, g8, g9⟩ := hJ
    refine Runs.of (b := ?b9) ?e9 ?_
    case e9 => simp only [putV, Act.put, List.setIfInBounds_toArray, List.set_cons_zero, List.set_cons_succ]; rfl
    intro K' hK'
    go_simp
    exact hK'.go _ rfl ⟨upd B 9 _, hR.new' 9 hi (v6 (fun _ => 0)) (by
      have : l 11 = false := by
        cases h : l 11 with
        | false => rfl
        | true => rw [g9 h] at hi; cases hi
      unfold lawsC; simp only [upd_ne _ _ _ _ (show (11 : Nat) ≠ 9 by decide), this]; rfl) (fun i _ _ => lawsC_still _ _ _ 9 (by decide) i), h0, h1, h2, h3, h4, h5, h6, h7, h8, fun _ => rfl, g8, fun _ => rfl⟩
  · intro l x w' hJ hi hd
    obtain ⟨B, hR, h0, h1, h2, h3, h4, h5, h6, h7, h8, h9, g8, g9⟩ := hJ
    have e8 := h8 (hd.1 rfl)
    have e3 := h3 (hd.2.1 rfl)
    refine Runs.of (b := ?b10) ?e10 ?_
    case e10 => simp only [putV, Act.put, List.setIfInBounds_toArray, List.set_cons_zero, List.set_cons_succ, e8, e3]; rfl
    intro K' hK'
    have hB := (hR.blk 8 (by decide) (hd.1 rfl)).2
    have hC0 : lawsC F G l 8 = v6 (fun _ => 0) := by unfold lawsC; simp only [hi]; rfl
    rw [hC0] at hB
    obtain ⟨c0, c1, c2, c3, c4, c5⟩ := v6_cells hB
    have f0 := hB.free 0
    have f1 := hB.free 1
    have f2 := hB.free 2
    have f3 := hB.free 3
    have f4 := hB.free 4
    have f5 := hB.free 5
    go_simp
    refine hK'.go undef rfl ⟨B, hR.store 10 8 (by decide) (by decide) (hd.1 rfl) (Keep.setCell (Keep.setCell (Keep.setCell (Keep.setCell (Keep.setCell (Keep.setCell (Keep.refl _ _) (.inl (by simp)) _) (.inl (by simp)) _) (.inl (by simp)) _) (.inl (by simp)) _) (.inl (by simp)) _) (.inl (by simp)) _) ?_ ?_, h0, h1, h2, h3, h4, h5, h6, h7, h8, h9, fun _ => hd.1 rfl, g9⟩
    · have hC1 : lawsC F G (upd l 10 true) 8 = v6 (vmax F G) := by unfold lawsC; simp only [upd_same]; rfl
      rw [hC1]
      exact (((((hB.set 0 _).set 1 _).set 2 _).set 3 _).set 4 _).set 5 _
    · intro j _ hj
      unfold lawsC
      rw [upd_ne _ 10 11 _ (by decide)]
      split <;> first | rfl | exact absurd rfl hj
  · intro l x w' hJ hi hd
    obtain ⟨B, hR, h0, h1, h2, h3, h4, h5, h6, h7, h8, h9, g8, g9⟩ := hJ
    have e9 := h9 (hd.1 rfl)
    have e7 := h7 (hd.2.1 rfl)
    refine Runs.of (b := ?b11) ?e11 ?_
    case e11 => simp only [putV, Act.put, List.setIfInBounds_toArray, List.set_cons_zero, List.set_cons_succ, e9, e7]; rfl
    intro K' hK'
    have hB := (hR.blk 9 (by decide) (hd.1 rfl)).2
    have hC0 : lawsC F G l 9 = v6 (fun _ => 0) := by unfold lawsC; simp only [hi]; rfl
    rw [hC0] at hB
    obtain ⟨c0, c1, c2, c3, c4, c5⟩ := v6_cells hB
    have f0 := hB.free 0
    have f1 := hB.free 1
    have f2 := hB.free 2
    have f3 := hB.free 3
    have f4 := hB.free 4
    have f5 := hB.free 5
    go_simp
    refine hK'.go undef rfl ⟨B, hR.store 11 9 (by decide) (by decide) (hd.1 rfl) (Keep.setCell (Keep.setCell (Keep.setCell (Keep.setCell (Keep.setCell (Keep.setCell (Keep.refl _ _) (.inl (by simp)) _) (.inl (by simp)) _) (.inl (by simp)) _) (.inl (by simp)) _) (.inl (by simp)) _) (.inl (by simp)) _) ?_ ?_, h0, h1, h2, h3, h4, h5, h6, h7, h8, h9, g8, fun _ => hd.1 rfl⟩
    · have hC1 : lawsC F G (upd l 11 true) 9 = v6 (vmin F G) := by unfold lawsC; simp only [upd_same]; rfl
      rw [hC1]
      exact (((((hB.set 0 _).set 1 _).set 2 _).set 3 _).set 4 _).set 5 _
    · intro j _ hj
      unfold lawsC
      rw [upd_ne _ 11 10 _ (by decide)]
      split <;> first | rfl | exact absurd rfl hj
  · intro l x w3 hJ hl
    obtain ⟨B, hR, -, -, -, -, -, -, -, -, h8, h9, -, -⟩ := hJ
    have e8 := h8 (hl 8 (by decide))
    have e9 := h9 (hl 9 (by decide))
    have hX := (hR.blk 8 (by decide) (hl 8 (by decide))).2
    have hY := (hR.blk 9 (by decide) (hl 9 (by decide))).2
    have x8 : lawsC F G l 8 = v6 (vmax F G) := by unfold lawsC; simp only [hl 10 (by decide)]; rfl
    have x9 : lawsC F G l 9 = v6 (vmin F G) := by unfold lawsC; simp only [hl 11 (by decide)]; rfl
    rw [x8] at hX
    rw [x9] at hY
    have hV3 := hV.keep hR.keep (by simp)
    have hW3 := hW.keep hR.keep (by simp)
    have K3 := hK.trans hR.keep
    change Blk w3 _ _ 26 at hX hY
    simp only [putV, Act.put, List.setIfInBounds_toArray, List.set_cons_zero, List.set_cons_succ, e8, e9]
    clear h8 h9 e8 e9 x8 x9 hl
    generalize B 8 = bx at *
    generalize B 9 = by_ at *
    have hp0 : (vhas F G && vhas G F) = vsame F G := vhas_both F G
    have hq1 : true = vhas (vmax F G) F := (vhas_max_l F G).symm
    have hq2 : true = vhas (vmax F G) G := (vhas_max_r F G).symm
    have hq3 : true = vhas F (vmin F G) := (vhas_min_l F G).symm
    have hq4 : true = vhas G (vmin F G) := (vhas_min_r F G).symm
    have hq5 : true = vhas F F := (vhas_self F).symm
    have hq6 : true = vsame (vmax F G) (vmax G F) := (vmax_comm F G).symm
    have hq7 : true = vsame (vmin F G) (vmin G F) := (vmin_comm F G).symm
    have hx0 : vmax F G 0 = 0 := by rw [vmax_0]; exact HF0.out
    have hy0 : vmin F G 0 = 0 := by rw [vmin_0]; exact HF0.out
    have hx0' : vmax G F 0 = 0 := by rw [vmax_0]; exact HG0.out
    have hy0' : vmin G F 0 = 0 := by rw [vmin_0]; exact HG0.out
    have HP0 := Lib.hid hp0
    have HQ1 := Lib.hid hq1
    have HQ2 := Lib.hid hq2
    have HQ3 := Lib.hid hq3
    have HQ4 := Lib.hid hq4
    have HQ5 := Lib.hid hq5
    have HQ6 := Lib.hid hq6
    have HQ7 := Lib.hid hq7
    have HX0 := Lib.hid hx0
    have HY0 := Lib.hid hy0
    have HX0' := Lib.hid hx0'
    have HY0' := Lib.hid hy0'
    clear hp0 hq1 hq2 hq3 hq4 hq5 hq6 hq7 hx0 hy0 hx0' hy0' hR hV hW hK
    have hMax : ∀ W bs, Blk W bs (v6 F) 26 → Calls Try.prog 17 #[vec G, .slice (some ⟨bs, 0, none⟩) 1 1] W fun e w' => e = .returned (vec (vmax G F)) ∧ Keep [] W w' := fun W bs h => vMax_any G _ [F] (blk_vecs h) (by simp)
    have hMin : ∀ W bs, Blk W bs (v6 F) 26 → Calls Try.prog 18 #[vec G, .slice (some ⟨bs, 0, none⟩) 1 1] W fun e w' => e = .returned (vec (vmin G F)) ∧ Keep [] W w' := fun W bs h => vMin_any G _ [F] (blk_vecs h) (by simp)
    have HMax := Lib.hid hMax
    have HMin := Lib.hid hMin
    clear hMax hMin
    generalize vmax F G = X at *
    generalize vmin F G = Y at *
    generalize vmax G F = X' at *
    generalize vmin G F = Y' at *
    obtain ⟨a0, a1, a2, a3, a4, a5⟩ := v6_cells hV3
    obtain ⟨b0, b1, b2, b3, b4, b5⟩ := v6_cells hW3
    obtain ⟨r, hr⟩ : ∃ r, r = vsame F G := ⟨_, rfl⟩
    have HR := Lib.hid hr
    rw [← hr] at HP0
    have hp : ∀ p, p = vhas F G → ∀ q, q = vhas G F → (p && q) = r := fun p h1 q h2 => by rw [h1, h2]; exact HP0.out
    have HP := Lib.hid hp
    clear hr hp HP0
    go_upto_region 6 with fail
    go_cut [10] (fun s wc => s = .bool r ∧ Blk wc bv (v6 F) 26 ∧ Blk wc bw (v6 G) 26 ∧ Blk wc bx (v6 X) 26 ∧ Blk wc by_ (v6 Y) 26 ∧ Keep [] w wc)
    case first =>
      go_wp2_with fail
      refine (vHas_any F G _ rfl).mono ?_
      rintro e w4 ⟨rfl, k4⟩
      have hV4 := hV3.keep k4 (by simp)
      have hW4 := hW3.keep k4 (by simp)
      have hX4 := hX.keep k4 (by simp)
      have hY4 := hY.keep k4 (by simp)
      have K4 := K3.trans k4
      clear a0 a1 a2 a3 a4 a5 b0 b1 b2 b3 b4 b5
      obtain ⟨a0, a1, a2, a3, a4, a5⟩ := v6_cells hV4
      obtain ⟨b0, b1, b2, b3, b4, b5⟩ := v6_cells hW4
      have HP := Lib.hid (HP.out _ rfl)
      cases hv : vhas F G with
      | false =>
        rw [hv] at HP
        go_wp2_with fail
        go_meet
        exact ⟨by have := HP.out _ rfl; simp at this; rw [this], hV4, hW4, hX4, hY4, K4⟩
      | true =>
        rw [hv] at HP
        go_wp2_with fail
        refine (vHas_any G F _ rfl).mono ?_
        rintro e w5 ⟨rfl, k5⟩
        have hq := HP.out _ rfl
        simp only [Bool.true_and] at hq
        rw [hq]
        go_wp2_with fail
        go_meet
        exact ⟨rfl, hV4.keep k5 (by simp), hW4.keep k5 (by simp), hX4.keep k5 (by simp), hY4.keep k5 (by simp), K4.trans k5⟩
    case rest =>
      obtain ⟨rfl, hV4, hW4, hX4, hY4, K4⟩ := hcut
      clear a0 a1 a2 a3 a4 a5 b0 b1 b2 b3 b4 b5 hV3 hW3 hX hY K3 HP
      replace hV4 := hV4.drew
      replace hW4 := hW4.drew
      replace hX4 := hX4.drew
      replace hY4 := hY4.drew
      replace K4 := K4.drew
      obtain ⟨a0, a1, a2, a3, a4, a5⟩ := v6_cells hV4
      obtain ⟨b0, b1, b2, b3, b4, b5⟩ := v6_cells hW4
      obtain ⟨c0, c1, c2, c3, c4, c5⟩ := v6_cells hX4
      obtain ⟨d0, d1, d2, d3, d4, d5⟩ := v6_cells hY4
      have hrr : (r == r) = true := by simp
      go_wp2_with fail
      go_region_held3 (fun w' => w'.cell? ⟨bv, 0, none⟩ = some (.int .i64 (F 0)) ∧ w'.cell? ⟨bv, 1, none⟩ = some (.int .i64 (F 1)) ∧ w'.cell? ⟨bv, 2, none⟩ = some (.int .i64 (F 2)) ∧ w'.cell? ⟨bv, 3, none⟩ = some (.int .i64 (F 3)) ∧ w'.cell? ⟨bv, 4, none⟩ = some (.int .i64 (F 4)) ∧ w'.cell? ⟨bv, 5, none⟩ = some (.int .i64 (F 5)) ∧ w'.cell? ⟨bw, 0, none⟩ = some (.int .i64 (G 0)) ∧ w'.cell? ⟨bw, 1, none⟩ = some (.int .i64 (G 1)) ∧ w'.cell? ⟨bw, 2, none⟩ = some (.int .i64 (G 2)) ∧ w'.cell? ⟨bw, 3, none⟩ = some (.int .i64 (G 3)) ∧ w'.cell? ⟨bw, 4, none⟩ = some (.int .i64 (G 4)) ∧ w'.cell? ⟨bw, 5, none⟩ = some (.int .i64 (G 5)) ∧ w'.cell? ⟨bx, 0, none⟩ = some (.int .i64 (X 0)) ∧ w'.cell? ⟨bx, 1, none⟩ = some (.int .i64 (X 1)) ∧ w'.cell? ⟨bx, 2, none⟩ = some (.int .i64 (X 2)) ∧ w'.cell? ⟨bx, 3, none⟩ = some (.int .i64 (X 3)) ∧ w'.cell? ⟨bx, 4, none⟩ = some (.int .i64 (X 4)) ∧ w'.cell? ⟨bx, 5, none⟩ = some (.int .i64 (X 5)) ∧ w'.cell? ⟨by_, 0, none⟩ = some (.int .i64 (Y 0)) ∧ w'.cell? ⟨by_, 1, none⟩ = some (.int .i64 (Y 1)) ∧ w'.cell? ⟨by_, 2, none⟩ = some (.int .i64 (Y 2)) ∧ w'.cell? ⟨by_, 3, none⟩ = some (.int .i64 (Y 3)) ∧ w'.cell? ⟨by_, 4, none⟩ = some (.int .i64 (Y 4)) ∧ w'.cell? ⟨by_, 5, none⟩ = some (.int .i64 (Y 5)))
        (first | go_keep | (exact ⟨a0, a1, a2, a3, a4, a5, b0, b1, b2, b3, b4, b5, c0, c1, c2, c3, c4, c5, d0, d1, d2, d3, d4, d5⟩))
        (first
          | (go_at_call_of 20 (X 0); go_at_call_of 20 (F 0); refine (vHas_any X F true HQ1.out).mono ?_; rintro e wa ⟨rfl, ka⟩; have hV4 := (hV4).keep ka (by simp); have hW4 := (hW4).keep ka (by simp); have hX4 := (hX4).keep ka (by simp); have hY4 := (hY4).keep ka (by simp); have K4 := (K4).trans ka; clear a0 a1 a2 a3 a4 a5 b0 b1 b2 b3 b4 b5 c0 c1 c2 c3 c4 c5 d0 d1 d2 d3 d4 d5; obtain ⟨a0, a1, a2, a3, a4, a5⟩ := v6_cells hV4; obtain ⟨b0, b1, b2, b3, b4, b5⟩ := v6_cells hW4; obtain ⟨c0, c1, c2, c3, c4, c5⟩ := v6_cells hX4; obtain ⟨d0, d1, d2, d3, d4, d5⟩ := v6_cells hY4)
          | (go_at_call_of 20 (X 0); go_at_call_of 20 (G 0); refine (vHas_any X G true HQ2.out).mono ?_; rintro e wa ⟨rfl, ka⟩; have hV4 := (hV4).keep ka (by simp); have hW4 := (hW4).keep ka (by simp); have hX4 := (hX4).keep ka (by simp); have hY4 := (hY4).keep ka (by simp); have K4 := (K4).trans ka; clear a0 a1 a2 a3 a4 a5 b0 b1 b2 b3 b4 b5 c0 c1 c2 c3 c4 c5 d0 d1 d2 d3 d4 d5; obtain ⟨a0, a1, a2, a3, a4, a5⟩ := v6_cells hV4; obtain ⟨b0, b1, b2, b3, b4, b5⟩ := v6_cells hW4; obtain ⟨c0, c1, c2, c3, c4, c5⟩ := v6_cells hX4; obtain ⟨d0, d1, d2, d3, d4, d5⟩ := v6_cells hY4)
          | (go_at_call_of 20 (F 0); go_at_call_of 20 (Y 0); refine (vHas_any F Y true HQ3.out).mono ?_; rintro e wa ⟨rfl, ka⟩; have hV4 := (hV4).keep ka (by simp); have hW4 := (hW4).keep ka (by simp); have hX4 := (hX4).keep ka (by simp); have hY4 := (hY4).keep ka (by simp); have K4 := (K4).trans ka; clear a0 a1 a2 a3 a4 a5 b0 b1 b2 b3 b4 b5 c0 c1 c2 c3 c4 c5 d0 d1 d2 d3 d4 d5; obtain ⟨a0, a1, a2, a3, a4, a5⟩ := v6_cells hV4; obtain ⟨b0, b1, b2, b3, b4, b5⟩ := v6_cells hW4; obtain ⟨c0, c1, c2, c3, c4, c5⟩ := v6_cells hX4; obtain ⟨d0, d1, d2, d3, d4, d5⟩ := v6_cells hY4)
          | (go_at_call_of 20 (G 0); go_at_call_of 20 (Y 0); refine (vHas_any G Y true HQ4.out).mono ?_; rintro e wa ⟨rfl, ka⟩; have hV4 := (hV4).keep ka (by simp); have hW4 := (hW4).keep ka (by simp); have hX4 := (hX4).keep ka (by simp); have hY4 := (hY4).keep ka (by simp); have K4 := (K4).trans ka; clear a0 a1 a2 a3 a4 a5 b0 b1 b2 b3 b4 b5 c0 c1 c2 c3 c4 c5 d0 d1 d2 d3 d4 d5; obtain ⟨a0, a1, a2, a3, a4, a5⟩ := v6_cells hV4; obtain ⟨b0, b1, b2, b3, b4, b5⟩ := v6_cells hW4; obtain ⟨c0, c1, c2, c3, c4, c5⟩ := v6_cells hX4; obtain ⟨d0, d1, d2, d3, d4, d5⟩ := v6_cells hY4)
          | (go_at_call_of 20 (F 0); refine (vHas_any F F true HQ5.out).mono ?_; rintro e wa ⟨rfl, ka⟩; have hV4 := (hV4).keep ka (by simp); have hW4 := (hW4).keep ka (by simp); have hX4 := (hX4).keep ka (by simp); have hY4 := (hY4).keep ka (by simp); have K4 := (K4).trans ka; clear a0 a1 a2 a3 a4 a5 b0 b1 b2 b3 b4 b5 c0 c1 c2 c3 c4 c5 d0 d1 d2 d3 d4 d5; obtain ⟨a0, a1, a2, a3, a4, a5⟩ := v6_cells hV4; obtain ⟨b0, b1, b2, b3, b4, b5⟩ := v6_cells hW4; obtain ⟨c0, c1, c2, c3, c4, c5⟩ := v6_cells hX4; obtain ⟨d0, d1, d2, d3, d4, d5⟩ := v6_cells hY4)
          | (go_at_call 14; refine (hof _ (hr1.keep K4 (by simp))).mono ?_; rintro e wa ⟨rfl, ka⟩; have hV4 := (hV4).keep ka (by simp); have hW4 := (hW4).keep ka (by simp); have hX4 := (hX4).keep ka (by simp); have hY4 := (hY4).keep ka (by simp); have K4 := (K4).trans ka; clear a0 a1 a2 a3 a4 a5 b0 b1 b2 b3 b4 b5 c0 c1 c2 c3 c4 c5 d0 d1 d2 d3 d4 d5; obtain ⟨a0, a1, a2, a3, a4, a5⟩ := v6_cells hV4; obtain ⟨b0, b1, b2, b3, b4, b5⟩ := v6_cells hW4; obtain ⟨c0, c1, c2, c3, c4, c5⟩ := v6_cells hX4; obtain ⟨d0, d1, d2, d3, d4, d5⟩ := v6_cells hY4)
          | (go_at_call_of 16 (F 0); refine (same_any F G r HR.out HF0.out HG0.out).mono ?_; rintro e wa ⟨rfl, ka⟩; have hV4 := (hV4).keep ka (by simp); have hW4 := (hW4).keep ka (by simp); have hX4 := (hX4).keep ka (by simp); have hY4 := (hY4).keep ka (by simp); have K4 := (K4).trans ka; clear a0 a1 a2 a3 a4 a5 b0 b1 b2 b3 b4 b5 c0 c1 c2 c3 c4 c5 d0 d1 d2 d3 d4 d5; obtain ⟨a0, a1, a2, a3, a4, a5⟩ := v6_cells hV4; obtain ⟨b0, b1, b2, b3, b4, b5⟩ := v6_cells hW4; obtain ⟨c0, c1, c2, c3, c4, c5⟩ := v6_cells hX4; obtain ⟨d0, d1, d2, d3, d4, d5⟩ := v6_cells hY4)
          | (go_at_call 17; refine (HMax.out _ _ (Blk.new _ _ _)).mono ?_; rintro e wa ⟨rfl, ka⟩; have hV4 := (hV4.alloc _).keep ka (by simp); have hW4 := (hW4.alloc _).keep ka (by simp); have hX4 := (hX4.alloc _).keep ka (by simp); have hY4 := (hY4.alloc _).keep ka (by simp); have K4 := (K4.alloc _).trans ka; clear a0 a1 a2 a3 a4 a5 b0 b1 b2 b3 b4 b5 c0 c1 c2 c3 c4 c5 d0 d1 d2 d3 d4 d5; obtain ⟨a0, a1, a2, a3, a4, a5⟩ := v6_cells hV4; obtain ⟨b0, b1, b2, b3, b4, b5⟩ := v6_cells hW4; obtain ⟨c0, c1, c2, c3, c4, c5⟩ := v6_cells hX4; obtain ⟨d0, d1, d2, d3, d4, d5⟩ := v6_cells hY4)
          | (go_at_call_of 16 (X 0); refine (same_any X X' true HQ6.out HX0.out HX0'.out).mono ?_; rintro e wa ⟨rfl, ka⟩; have hV4 := (hV4).keep ka (by simp); have hW4 := (hW4).keep ka (by simp); have hX4 := (hX4).keep ka (by simp); have hY4 := (hY4).keep ka (by simp); have K4 := (K4).trans ka; clear a0 a1 a2 a3 a4 a5 b0 b1 b2 b3 b4 b5 c0 c1 c2 c3 c4 c5 d0 d1 d2 d3 d4 d5; obtain ⟨a0, a1, a2, a3, a4, a5⟩ := v6_cells hV4; obtain ⟨b0, b1, b2, b3, b4, b5⟩ := v6_cells hW4; obtain ⟨c0, c1, c2, c3, c4, c5⟩ := v6_cells hX4; obtain ⟨d0, d1, d2, d3, d4, d5⟩ := v6_cells hY4)
          | (go_at_call 18; refine (HMin.out _ _ (Blk.new _ _ _)).mono ?_; rintro e wa ⟨rfl, ka⟩; have hV4 := (hV4.alloc _).keep ka (by simp); have hW4 := (hW4.alloc _).keep ka (by simp); have hX4 := (hX4.alloc _).keep ka (by simp); have hY4 := (hY4.alloc _).keep ka (by simp); have K4 := (K4.alloc _).trans ka; clear a0 a1 a2 a3 a4 a5 b0 b1 b2 b3 b4 b5 c0 c1 c2 c3 c4 c5 d0 d1 d2 d3 d4 d5; obtain ⟨a0, a1, a2, a3, a4, a5⟩ := v6_cells hV4; obtain ⟨b0, b1, b2, b3, b4, b5⟩ := v6_cells hW4; obtain ⟨c0, c1, c2, c3, c4, c5⟩ := v6_cells hX4; obtain ⟨d0, d1, d2, d3, d4, d5⟩ := v6_cells hY4)
          | (go_at_call_of 16 (Y 0); refine (same_any Y Y' true HQ7.out HY0.out HY0'.out).mono ?_; rintro e wa ⟨rfl, ka⟩; have hV4 := (hV4).keep ka (by simp); have hW4 := (hW4).keep ka (by simp); have hX4 := (hX4).keep ka (by simp); have hY4 := (hY4).keep ka (by simp); have K4 := (K4).trans ka; clear a0 a1 a2 a3 a4 a5 b0 b1 b2 b3 b4 b5 c0 c1 c2 c3 c4 c5 d0 d1 d2 d3 d4 d5; obtain ⟨a0, a1, a2, a3, a4, a5⟩ := v6_cells hV4; obtain ⟨b0, b1, b2, b3, b4, b5⟩ := v6_cells hW4; obtain ⟨c0, c1, c2, c3, c4, c5⟩ := v6_cells hX4; obtain ⟨d0, d1, d2, d3, d4, d5⟩ := v6_cells hY4)
          | fail)
      all_goals
        go_wp2_with fail
        go_ret
        exact ⟨rfl, K4.below⟩
end Go.Proofs.Ytpibpgfadkfgbaa
