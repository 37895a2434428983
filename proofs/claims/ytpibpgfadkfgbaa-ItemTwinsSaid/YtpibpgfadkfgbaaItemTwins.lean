/- The law ItemTwins: its walk. -/
import Derived.Test.YtpibpgfadkfgbaaItemIn
namespace Go.Proofs.Ytpibpgfadkfgbaa
open Go.ChangeShapes Go.WideShapes Go.ChangeAt Go.RowKit
set_option linter.unusedVariables false
set_option linter.unusedSimpArgs false

def twinJ (w0 : World) (aa ba xa ya : Option Addr) (ac bc xc yc : Nat) (LA LB : List It) (X Y : List Nat) (SX SY : ByteArray) (q : Bool) (l : Nat → Bool) (x : Nat → Value) (w' : World) : Prop :=
  (IRd w' (.slice aa LA.length ac) LA) ∧
  (IRd w' (.slice ba LB.length bc) LB) ∧
  (Rd w' (.slice xa X.length xc) X) ∧
  (Rd w' (.slice ya Y.length yc) Y) ∧
  (Keep [] w0 w') ∧
  (l 0 = true → x 0 = .slice xa X.length xc) ∧
  (l 1 = true → x 1 = .string SX) ∧
  (l 2 = true → x 2 = .slice ya Y.length yc) ∧
  (l 3 = true → x 3 = .string SY) ∧
  (l 4 = true → x 4 = .bool q) ∧
  (l 5 = true → x 5 = .slice aa LA.length ac) ∧
  (l 6 = true → x 6 = .slice ba LB.length bc) ∧
  (l 7 = true → x 7 = .bool q) ∧
  (l 8 = true → x 8 = .bool true) ∧
  (l 9 = true → x 9 = .bool true)

set_option maxRecDepth 100000 in
set_option maxHeartbeats 8000000 in
theorem itemTwins_walk (av bv : Value) (w : World) (w0 : IsItems w av) (w1 : IsItems w bv) :
    Calls Try.prog 11 #[av, bv] w fun e w' => e = .returned (.bool true) ∧ Below w.heap.size w w' := by
  obtain ⟨la, hia, hla, hsa⟩ := w0
  obtain ⟨lb, hib, hlb, hsb⟩ := w1
  go_enter Try.func11, Try.ntmps11
  go_wp2_with fail
  refine (begun7 w).mono ?_
  rintro e w0 ⟨rfl, k0⟩
  go_wp2_with fail
  refine (Items_any av la 4 (hia.keep k0 (by simp)) hla (by omega) hsa).mono ?_
  rintro e w1 ⟨va, rfl, hA1, k1⟩
  have hib1 := hib.keep (k0.trans k1) (by simp)
  go_wp2_with fail
  refine (Items_any bv lb 4 hib1 hlb (by omega) hsb).mono ?_
  rintro e w2 ⟨vb, rfl, hB2, k2⟩
  have hA2 := hA1.keep k2 (by simp)
  have K2 := (k0.trans k1).trans k2
  have hszA := itCut_sizes la 4
  have hszB := itCut_sizes lb 4
  have hlA := itCut_len la 4
  have hlB := itCut_len lb 4
  clear hia hib hla hlb hsa hsb hib1 hA1 k0 k1 k2
  generalize (la.take 4).map itCut = LA at *
  generalize (lb.take 4).map itCut = LB at *
  have HSA := Lib.hid (show ∀ y ∈ LA, y.1.size ≤ 9223372036854775807 ∧ y.2.1.size ≤ 9223372036854775807 from fun y hy => by have := hszA y hy; omega)
  have HSB := Lib.hid (show ∀ y ∈ LB, y.1.size ≤ 9223372036854775807 ∧ y.2.1.size ≤ 9223372036854775807 from fun y hy => by have := hszB y hy; omega)
  have HLA := Lib.hid (show LA.length ≤ 9223372036854775807 by omega)
  have HLB := Lib.hid (show LB.length ≤ 9223372036854775807 by omega)
  clear hszA hszB
  obtain ⟨aa, ac, rfl⟩ := hA2.slice
  obtain ⟨ba, bc, rfl⟩ := hB2.slice
  go_wp2_with fail
  refine (itEncode_any _ LA hA2.rd (by omega) HSA.out).mono ?_
  rintro e w3 ⟨vx, rfl, ⟨hx3, _⟩, k3⟩
  have hA3 := hA2.keep k3 (by simp)
  have hB3 := hB2.keep k3 (by simp)
  have K3 := K2.trans k3
  clear hA2 hB2 K2 k3
  go_wp2_with fail
  refine (itEncode_any _ LB hB3.rd (by omega) HSB.out).mono ?_
  rintro e w4 ⟨vy, rfl, ⟨hy4, _⟩, k4⟩
  have hA4 := hA3.keep k4 (by simp)
  have hB4 := hB3.keep k4 (by simp)
  have hx4 := hx3.keep k4 (by simp)
  have K4 := K3.trans k4
  clear hA3 hB3 K3 k4 hx3
  have hXb := encIts_byte LA
  have hYb := encIts_byte LB
  have hinj := @encIts_inj LA LB
  have hfun : LA = LB → encIts LA = encIts LB := fun e => by rw [e]
  generalize encIts LA = X at *
  generalize encIts LB = Y at *
  obtain ⟨xa, xc, rfl⟩ := hx4.slice
  obtain ⟨ya, yc, rfl⟩ := hy4.slice
  by_cases hX : X.length = 0
  · have q0 : ((X.length : Int) == 0) = true := by simpa using hX
    clear hinj hfun
    rw [hX] at *
    go_wp2_with fail
    go_ret
    exact ⟨rfl, K4.below⟩
  by_cases hY : Y.length = 0
  · have q0 : ((X.length : Int) == 0) = false := by simpa using (by omega : ¬ (X.length : Int) = 0)
    have q1 : ((Y.length : Int) == 0) = true := by simpa using hY
    clear hinj hfun
    rw [hY] at *
    go_wp2_with fail
    go_ret
    exact ⟨rfl, K4.below⟩
  have q0 : ((X.length : Int) == 0) = false := by simpa using (by omega : ¬ (X.length : Int) = 0)
  have q1 : ((Y.length : Int) == 0) = false := by simpa using (by omega : ¬ (Y.length : Int) = 0)
  obtain ⟨q, hq⟩ : ∃ q, q = decide (LA = LB) := ⟨_, rfl⟩
  have hXY : X = Y ↔ LA = LB := ⟨fun e => hinj (fun h0 => hX (by rw [h0]; rfl)) e, hfun⟩
  have hqs : ((toStr X).toList == (toStr Y).toList) = q := by
    rw [hq]
    by_cases h : LA = LB
    · rw [hXY.2 h, decide_eq_true h]; simp
    · rw [decide_eq_false h]
      have := str_ne hXb hYb (fun e => h (hXY.1 e))
      simpa using this
  have HQ := Lib.hid hq
  have HXB := Lib.hid hXb
  have HYB := Lib.hid hYb
  obtain ⟨SX, hSX⟩ : ∃ S, toStr X = S := ⟨_, rfl⟩
  obtain ⟨SY, hSY⟩ : ∃ S, toStr Y = S := ⟨_, rfl⟩
  rw [hSX, hSY] at hqs
  have HSX := Lib.hid hSX
  have HSY := Lib.hid hSY
  have hia5 := hA4.rd
  have hib5 := hB4.rd
  have hx5 := hx4.rd
  have hy5 := hy4.rd
  clear hq hXY hinj hfun hXb hYb hSX hSY hX hY hA4 hB4 hx4 hy4
  go_wp2_with fail
  refine wp_region_inv (twinJ w4 aa ba xa ya ac bc xc yc LA LB X Y SX SY q) (by kernel_rfl) (by kernel_rfl) (by kernel_rfl) ?_ (Steps.cons 0 ?_ (Steps.cons 1 ?_ (Steps.cons 2 ?_ (Steps.cons 3 ?_ (Steps.cons 4 ?_ (Steps.cons 5 ?_ (Steps.cons 6 ?_ (Steps.cons 7 ?_ (Steps.cons 8 ?_ (Steps.cons 9 ?_ (Steps.nil 10))))))))))) 10 rfl ?_
  · intro x
    exact ⟨hia5.keep ((Keep.refl [] _).drew) (by simp), hib5.keep ((Keep.refl [] _).drew) (by simp), hx5.keep ((Keep.refl [] _).drew) (by simp), hy5.keep ((Keep.refl [] _).drew) (by simp), (Keep.refl _ _).drew, fun h => absurd h (by decide), fun h => absurd h (by decide), fun h => absurd h (by decide), fun h => absurd h (by decide), fun h => absurd h (by decide), fun h => absurd h (by decide), fun h => absurd h (by decide), fun h => absurd h (by decide), fun h => absurd h (by decide), fun h => absurd h (by decide)⟩
  · intro l x w' hJ hi hd
    obtain ⟨hia, hib, hrx, hry, hK, h0, h1, h2, h3, h4, h5, h6, h7, h8, h9⟩ := hJ
    refine Runs.of (b := ?bW0) ?eW0 ?_
    case eW0 => simp only [putV, Act.put, List.setIfInBounds_toArray, List.set_cons_zero, List.set_cons_succ]; rfl
    intro K' hK'
    go_simp
    exact hK'.go _ rfl ⟨hia, hib, hrx, hry, hK, fun _ => rfl, h1, h2, h3, h4, h5, h6, h7, h8, h9⟩
  · intro l x w' hJ hi hd
    obtain ⟨hia, hib, hrx, hry, hK, h0, h1, h2, h3, h4, h5, h6, h7, h8, h9⟩ := hJ
    have e0 := h0 (show l 0 = true by first | exact hd.1 rfl | exact hd.2.1 rfl | exact hd.2.2.1 rfl | exact hd.2.2.2.1 rfl | exact hd.2.2.2.2.1 rfl | exact hd.2.2.2.2.2.1 rfl)
    have hc := Rd.str (P := Try.prog) (dst := 9) hrx HXB.out Try.underlying33 Try.underlying5 Try.underlying9
    rw [HSX.out] at hc
    refine Runs.of (b := ?bW1) ?eW1 ?_
    case eW1 => simp only [putV, Act.put, List.setIfInBounds_toArray, List.set_cons_zero, List.set_cons_succ, e0]; rfl
    intro K' hK'
    go_simp
    exact hK'.go _ rfl ⟨hia, hib, hrx, hry, hK, h0, fun _ => rfl, h2, h3, h4, h5, h6, h7, h8, h9⟩
  · intro l x w' hJ hi hd
    obtain ⟨hia, hib, hrx, hry, hK, h0, h1, h2, h3, h4, h5, h6, h7, h8, h9⟩ := hJ
    refine Runs.of (b := ?bW2) ?eW2 ?_
    case eW2 => simp only [putV, Act.put, List.setIfInBounds_toArray, List.set_cons_zero, List.set_cons_succ]; rfl
    intro K' hK'
    go_simp
    exact hK'.go _ rfl ⟨hia, hib, hrx, hry, hK, h0, h1, fun _ => rfl, h3, h4, h5, h6, h7, h8, h9⟩
  · intro l x w' hJ hi hd
    obtain ⟨hia, hib, hrx, hry, hK, h0, h1, h2, h3, h4, h5, h6, h7, h8, h9⟩ := hJ
    have e2 := h2 (show l 2 = true by first | exact hd.1 rfl | exact hd.2.1 rfl | exact hd.2.2.1 rfl | exact hd.2.2.2.1 rfl | exact hd.2.2.2.2.1 rfl | exact hd.2.2.2.2.2.1 rfl)
    have hc := Rd.str (P := Try.prog) (dst := 9) hry HYB.out Try.underlying33 Try.underlying5 Try.underlying9
    rw [HSY.out] at hc
    refine Runs.of (b := ?bW3) ?eW3 ?_
    case eW3 => simp only [putV, Act.put, List.setIfInBounds_toArray, List.set_cons_zero, List.set_cons_succ, e2]; rfl
    intro K' hK'
    go_simp
    exact hK'.go _ rfl ⟨hia, hib, hrx, hry, hK, h0, h1, h2, fun _ => rfl, h4, h5, h6, h7, h8, h9⟩
  · intro l x w' hJ hi hd
    obtain ⟨hia, hib, hrx, hry, hK, h0, h1, h2, h3, h4, h5, h6, h7, h8, h9⟩ := hJ
    have e1 := h1 (show l 1 = true by first | exact hd.1 rfl | exact hd.2.1 rfl | exact hd.2.2.1 rfl | exact hd.2.2.2.1 rfl | exact hd.2.2.2.2.1 rfl | exact hd.2.2.2.2.2.1 rfl)
    have e3 := h3 (show l 3 = true by first | exact hd.1 rfl | exact hd.2.1 rfl | exact hd.2.2.1 rfl | exact hd.2.2.2.1 rfl | exact hd.2.2.2.2.1 rfl | exact hd.2.2.2.2.2.1 rfl)
    refine Runs.of (b := ?bW4) ?eW4 ?_
    case eW4 => simp only [putV, Act.put, List.setIfInBounds_toArray, List.set_cons_zero, List.set_cons_succ, e1, e3]; rfl
    intro K' hK'
    go_simp
    exact hK'.go _ rfl ⟨hia, hib, hrx, hry, hK, h0, h1, h2, h3, fun _ => rfl, h5, h6, h7, h8, h9⟩
  · intro l x w' hJ hi hd
    obtain ⟨hia, hib, hrx, hry, hK, h0, h1, h2, h3, h4, h5, h6, h7, h8, h9⟩ := hJ
    refine Runs.of (b := ?bW5) ?eW5 ?_
    case eW5 => simp only [putV, Act.put, List.setIfInBounds_toArray, List.set_cons_zero, List.set_cons_succ]; rfl
    intro K' hK'
    go_simp
    exact hK'.go _ rfl ⟨hia, hib, hrx, hry, hK, h0, h1, h2, h3, h4, fun _ => rfl, h6, h7, h8, h9⟩
  · intro l x w' hJ hi hd
    obtain ⟨hia, hib, hrx, hry, hK, h0, h1, h2, h3, h4, h5, h6, h7, h8, h9⟩ := hJ
    refine Runs.of (b := ?bW6) ?eW6 ?_
    case eW6 => simp only [putV, Act.put, List.setIfInBounds_toArray, List.set_cons_zero, List.set_cons_succ]; rfl
    intro K' hK'
    go_simp
    exact hK'.go _ rfl ⟨hia, hib, hrx, hry, hK, h0, h1, h2, h3, h4, h5, fun _ => rfl, h7, h8, h9⟩
  · intro l x w' hJ hi hd
    obtain ⟨hia, hib, hrx, hry, hK, h0, h1, h2, h3, h4, h5, h6, h7, h8, h9⟩ := hJ
    have e5 := h5 (show l 5 = true by first | exact hd.1 rfl | exact hd.2.1 rfl | exact hd.2.2.1 rfl | exact hd.2.2.2.1 rfl | exact hd.2.2.2.2.1 rfl | exact hd.2.2.2.2.2.1 rfl)
    have e6 := h6 (show l 6 = true by first | exact hd.1 rfl | exact hd.2.1 rfl | exact hd.2.2.1 rfl | exact hd.2.2.2.1 rfl | exact hd.2.2.2.2.1 rfl | exact hd.2.2.2.2.2.1 rfl)
    refine Runs.of (b := ?bW7) ?eW7 ?_
    case eW7 => simp only [putV, Act.put, List.setIfInBounds_toArray, List.set_cons_zero, List.set_cons_succ, e5, e6]; rfl
    intro K' hK'
    go_simp
    refine (EqItems_any _ _ LA LB hia hib HLA.out HLB.out q HQ.out).mono ?_
    rintro e w2 ⟨rfl, k2⟩
    go_simp
    exact hK'.go _ rfl ⟨hia.keep k2 (by simp), hib.keep k2 (by simp), hrx.keep k2 (by simp), hry.keep k2 (by simp), hK.trans k2, h0, h1, h2, h3, h4, h5, h6, fun _ => rfl, h8, h9⟩
  · intro l x w' hJ hi hd
    obtain ⟨hia, hib, hrx, hry, hK, h0, h1, h2, h3, h4, h5, h6, h7, h8, h9⟩ := hJ
    have e4 := h4 (show l 4 = true by first | exact hd.1 rfl | exact hd.2.1 rfl | exact hd.2.2.1 rfl | exact hd.2.2.2.1 rfl | exact hd.2.2.2.2.1 rfl | exact hd.2.2.2.2.2.1 rfl)
    have e7 := h7 (show l 7 = true by first | exact hd.1 rfl | exact hd.2.1 rfl | exact hd.2.2.1 rfl | exact hd.2.2.2.1 rfl | exact hd.2.2.2.2.1 rfl | exact hd.2.2.2.2.2.1 rfl)
    refine Runs.of (b := ?bW8) ?eW8 ?_
    case eW8 => simp only [putV, Act.put, List.setIfInBounds_toArray, List.set_cons_zero, List.set_cons_succ, e4, e7]; rfl
    intro K' hK'
    go_simp
    exact hK'.go _ rfl ⟨hia, hib, hrx, hry, hK, h0, h1, h2, h3, h4, h5, h6, h7, fun _ => rfl, h9⟩
  · intro l x w' hJ hi hd
    obtain ⟨hia, hib, hrx, hry, hK, h0, h1, h2, h3, h4, h5, h6, h7, h8, h9⟩ := hJ
    have e8 := h8 (show l 8 = true by first | exact hd.1 rfl | exact hd.2.1 rfl | exact hd.2.2.1 rfl | exact hd.2.2.2.1 rfl | exact hd.2.2.2.2.1 rfl | exact hd.2.2.2.2.2.1 rfl)
    refine Runs.of (b := ?bW9) ?eW9 ?_
    case eW9 => simp only [putV, Act.put, List.setIfInBounds_toArray, List.set_cons_zero, List.set_cons_succ, e8]; rfl
    intro K' hK'
    go_simp
    exact hK'.go _ rfl ⟨hia, hib, hrx, hry, hK, h0, h1, h2, h3, h4, h5, h6, h7, h8, fun _ => rfl⟩
  · intro l x w3 hJ hl
    obtain ⟨hia, hib, hrx, hry, hK, h0, h1, h2, h3, h4, h5, h6, h7, h8, h9⟩ := hJ
    have e9 := h9 (hl 9 (by decide))
    simp only [putV, Act.put, List.setIfInBounds_toArray, List.set_cons_zero, List.set_cons_succ, e9]
    have K := K4.trans hK
    clear h0 h1 h2 h3 h4 h5 h6 h7 h8 h9 e9 hl hia hib hrx hry hK hqs
    go_wp2_with fail
    go_ret
    exact ⟨rfl, K.below⟩
end Go.Proofs.Ytpibpgfadkfgbaa
