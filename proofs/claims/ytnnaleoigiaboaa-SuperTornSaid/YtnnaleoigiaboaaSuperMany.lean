/- The law SuperMany: its walk. -/
import Derived.Test.YtnnaleoigiaboaaSuper4
import Derived.Test.YtnnaleoigiaboaaBump
import Derived.Test.YtnnaleoigiaboaaRegInv
namespace Go.Proofs.Ytnnaleoigiaboaa
open Go.ChangeShapes Go.WideShapes Go.ChangeAt Go.RowKit
set_option linter.unusedVariables false
set_option linter.unusedSimpArgs false

theorem wrap_u8_small (j : Nat) (h : j ≤ 60) : IntKind.u8.wrap (j : Int) = (j : Int) := by rw [IntKind.wrap_u8]; omega
def manyJ (w0 : World) (d sb s : Nat) (L : List Sec) (c j slot : Nat) (text : List Nat) (l : Nat → Bool) (x : Nat → Value) (w' : World) : Prop :=
  ∃ B3 B19, (l 4 = false → IsDev w' d sb L c ∧ IsSup w' s d 0 (j + 1) text slot) ∧
  (l 4 = true → IsDev w' d sb ((L.map flushSec).set (0 + (1 - slot)) ⟨sImg (j + 1 + 1) [j], sImg (j + 1 + 1) [j], false⟩) (c + 2) ∧ IsSup w' s d 0 (j + 1 + 1) [j] (1 - slot)) ∧
  (Keep [d, sb, s] w0 w') ∧
  (l 0 = true → x 0 = .pointer (some ⟨s, 0, none⟩)) ∧
  (l 1 = true → x 1 = .int .i64 (j : Int)) ∧
  (l 2 = true → x 2 = .int .u8 (j : Int)) ∧
  (l 3 = true → x 3 = .slice (some ⟨B3, 0, none⟩) 1 1 ∧ Blk w' B3 (bcs [j]) 5) ∧
  (l 4 = true → x 4 = .int .i64 0) ∧
  (l 5 = true → x 5 = .bool false ∧ Hid (l 4 = true)) ∧
  (l 6 = true → x 6 = .bool false ∧ Hid (l 4 = true)) ∧
  (l 7 = true → x 7 = .pointer (some ⟨s, 0, none⟩)) ∧
  (l 8 = true → x 8 = .int .i64 ((j : Int) + 2)) ∧
  (l 9 = true → x 9 = .int .i64 (j : Int)) ∧
  (l 10 = true → x 10 = .int .i64 ((j : Int) + 2)) ∧
  (l 11 = true → x 11 = .bool false) ∧
  (l 12 = true → x 12 = .bool false ∧ Hid (l 4 = true)) ∧
  (l 13 = true → x 13 = .bool false ∧ Hid (l 4 = true)) ∧
  (l 14 = true → x 14 = .pointer (some ⟨s, 0, none⟩)) ∧
  (l 15 = true → Hid (l 4 = true) ∧ Buf w' 0 5 (x 15) [j]) ∧
  (l 16 = true → x 16 = .string (toStr [j])) ∧
  (l 17 = true → x 17 = .int .i64 (j : Int)) ∧
  (l 18 = true → x 18 = .int .u8 (j : Int)) ∧
  (l 19 = true → x 19 = .slice (some ⟨B19, 0, none⟩) 1 1 ∧ Blk w' B19 (bcs [j]) 5) ∧
  (l 20 = true → x 20 = .string (toStr [j])) ∧
  (l 21 = true → x 21 = .bool false) ∧
  (l 22 = true → x 22 = .bool false)

set_option maxRecDepth 100000 in
set_option maxHeartbeats 8000000 in
theorem superMany_walk (n : Int) (w : World) (_w0 : (Lit.int .i64 n).wf = true) :
    Calls Try.prog 8 #[.int .i64 n] w fun e w' => e = .returned (.bool true) ∧ Below w.heap.size w w' := by
  obtain ⟨i8, hi8, hz80, hz81, hz82⟩ := info_parts Try.info8
  go_enter Try.func8, Try.ntmps8
  go_wp2_with fail
  refine (begun5 w).mono ?_
  rintro e w0 ⟨rfl, k0⟩
  by_cases hn : n < 0 ∨ 60 < n
  · rcases hn with h | h
    · have h0 : decide (n < 0) = true := decide_eq_true h
      go_wp2_with fail
      go_ret
      exact ⟨rfl, k0.below⟩
    · have h0 : decide (n < 0) = false := decide_eq_false (by omega)
      have h1 : decide (60 < n) = true := decide_eq_true h
      go_wp2_with fail
      go_ret
      exact ⟨rfl, k0.below⟩
  obtain ⟨N, rfl⟩ : ∃ N : Nat, n = N := ⟨n.toNat, by omega⟩
  have q0 : decide ((N : Int) < 0) = false := decide_eq_false (by omega)
  have q1 : decide (60 < (N : Int)) = false := decide_eq_false (by omega)
  have hN : N ≤ 60 := by omega
  clear hn
  go_wp2_with fail
  refine (New_any 2 2 rfl).mono ?_
  rintro e w1 ⟨d, sb, rfl, hD1, k1, hb, hsb⟩
  have K1 := k0.trans k1
  have hw0 := k0.size
  go_wp2_with fail
  refine (Make_in hD1 0 (by decide) (.slice none 0 0) [] (Buf.nil w1 0 5).rd (by simp) (by decide) (by decide) (by intro b hb; cases hb)).mono ?_
  rintro e w2 ⟨s, rfl, hD2, hS2, hK2, hs2⟩
  have hP2 := Pair.make (List.replicate 2 zeroSec) 0 [] (by decide)
  have hL2 : ((((List.replicate 2 zeroSec).map flushSec).set (0 + 1) zeroSec).set 0 ⟨sImg 1 [], sImg 1 [], false⟩).length = 2 := by simp
  generalize (((List.replicate 2 zeroSec).map flushSec).set (0 + 1) zeroSec).set 0 ⟨sImg 1 [], sImg 1 [], false⟩ = L2 at *
  have K2 : Keep [] w w2 := K1.then hK2 (by intro x hx hlt; simp at hx; rcases hx with rfl | rfl <;> omega)
  have hlw : w.heap.size ≤ d ∧ w.heap.size ≤ sb ∧ w.heap.size ≤ s := by have := K1.size; omega
  have HLW := Lib.hid hlw
  clear hD1 k0 k1 K1 hK2 hb hsb hs2 hw0 hlw q0 q1
  go_wp2_with fail
  go_loopw [7] (fun i wr => ∃ (j c : Nat) (L : List Sec) (slot : Nat) (text : List Nat), j ≤ N ∧ i = .int .i64 j ∧ c = 5 + 2 * j ∧ slot ≤ 1 ∧ L.length = 2 ∧ IsDev wr d sb L c ∧ IsSup wr s d 0 (j + 1) text slot ∧ Pair L 0 slot (j + 1) text ∧ text.length ≤ 40 ∧ (∀ x ∈ text, x < 256) ∧ Keep [] w wr) (fun i _ => N - (intOf i).toNat)
  case atStart => exact ⟨0, 5, L2, 0, [], by omega, rfl, by omega, by omega, hL2, hD2, hS2, hP2, by simp, by simp, K2⟩
  case round =>
    clear hD2 hS2 hP2 hL2 K2
    obtain ⟨j, c, L, slot, text, hj, rfl, hc, hslot, hLn, hD, hS, hP, htl, htb, hK⟩ := hrel
    have HK := Lib.hid hK
    clear hK
    by_cases hlt : j < N
    · have q2 : (j : Int) < N := by omega
      have hj60 : j ≤ 60 := by omega
      go_wp2_with fail
      refine wp_region_inv (manyJ wr d sb s L c j slot text) (by kernel_rfl) (by kernel_rfl) (by kernel_rfl) ?_ (Steps.cons 0 ?_ (Steps.cons 1 ?_ (Steps.cons 2 ?_ (Steps.cons 3 ?_ (Steps.cons 4 ?_ (Steps.cons 5 ?_ (Steps.cons 6 ?_ (Steps.cons 7 ?_ (Steps.cons 8 ?_ (Steps.cons 9 ?_ (Steps.cons 10 ?_ (Steps.cons 11 ?_ (Steps.cons 12 ?_ (Steps.cons 13 ?_ (Steps.cons 14 ?_ (Steps.cons 15 ?_ (Steps.cons 16 ?_ (Steps.cons 17 ?_ (Steps.cons 18 ?_ (Steps.cons 19 ?_ (Steps.cons 20 ?_ (Steps.cons 21 ?_ (Steps.cons 22 ?_ (Steps.nil 23)))))))))))))))))))))))) 23 rfl ?_
      · intro x
        exact ⟨0, 0, fun _ => ⟨hD.keep ((Keep.refl [] _).drew) (by simp) (by simp), hS.keep ((Keep.refl [] _).drew) (by simp) (by simp)⟩, fun h => absurd h (by decide), (Keep.refl _ _).drew, fun h => absurd h (by decide), fun h => absurd h (by decide), fun h => absurd h (by decide), fun h => absurd h (by decide), fun h => absurd h (by decide), fun h => absurd h (by decide), fun h => absurd h (by decide), fun h => absurd h (by decide), fun h => absurd h (by decide), fun h => absurd h (by decide), fun h => absurd h (by decide), fun h => absurd h (by decide), fun h => absurd h (by decide), fun h => absurd h (by decide), fun h => absurd h (by decide), fun h => absurd h (by decide), fun h => absurd h (by decide), fun h => absurd h (by decide), fun h => absurd h (by decide), fun h => absurd h (by decide), fun h => absurd h (by decide), fun h => absurd h (by decide), fun h => absurd h (by decide)⟩
      · intro l x w' hJ hi hd
        obtain ⟨B3, B19, hst0, hst1, hK, h0, h1, h2, h3, h4, h5, h6, h7, h8, h9, h10, h11, h12, h13, h14, h15, h16, h17, h18, h19, h20, h21, h22⟩ := hJ
        refine Runs.of (b := ?b0) ?e0 ?_
        case e0 => simp only [putV, Act.put, List.setIfInBounds_toArray, List.set_cons_zero, List.set_cons_succ]; rfl
        intro K' hK'
        go_simp
        exact hK'.go _ rfl ⟨B3, B19, hst0, hst1, hK, fun _ => rfl, h1, h2, h3, h4, h5, h6, h7, h8, h9, h10, h11, h12, h13, h14, h15, h16, h17, h18, h19, h20, h21, h22⟩
      · intro l x w' hJ hi hd
        obtain ⟨B3, B19, hst0, hst1, hK, h0, h1, h2, h3, h4, h5, h6, h7, h8, h9, h10, h11, h12, h13, h14, h15, h16, h17, h18, h19, h20, h21, h22⟩ := hJ
        refine Runs.of (b := ?b1) ?e1 ?_
        case e1 => simp only [putV, Act.put, List.setIfInBounds_toArray, List.set_cons_zero, List.set_cons_succ]; rfl
        intro K' hK'
        go_simp
        exact hK'.go _ rfl ⟨B3, B19, hst0, hst1, hK, h0, fun _ => rfl, h2, h3, h4, h5, h6, h7, h8, h9, h10, h11, h12, h13, h14, h15, h16, h17, h18, h19, h20, h21, h22⟩
      · intro l x w' hJ hi hd
        obtain ⟨B3, B19, hst0, hst1, hK, h0, h1, h2, h3, h4, h5, h6, h7, h8, h9, h10, h11, h12, h13, h14, h15, h16, h17, h18, h19, h20, h21, h22⟩ := hJ
        have e1 := h1 (show l 1 = true by first | exact hd.1 rfl | exact hd.2.1 rfl | exact hd.2.2.1 rfl | exact hd.2.2.2.1 rfl | exact hd.2.2.2.2.1 rfl | exact hd.2.2.2.2.2.1 rfl)
        refine Runs.of (b := ?b2) ?e2 ?_
        case e2 => simp only [putV, Act.put, List.setIfInBounds_toArray, List.set_cons_zero, List.set_cons_succ, e1]; rfl
        intro K' hK'
        go_simp
        rw [wrap_u8_small j hj60]
        exact hK'.go _ rfl ⟨B3, B19, hst0, hst1, hK, h0, h1, fun _ => rfl, h3, h4, h5, h6, h7, h8, h9, h10, h11, h12, h13, h14, h15, h16, h17, h18, h19, h20, h21, h22⟩
      · intro l x w' hJ hi hd
        obtain ⟨B3, B19, hst0, hst1, hK, h0, h1, h2, h3, h4, h5, h6, h7, h8, h9, h10, h11, h12, h13, h14, h15, h16, h17, h18, h19, h20, h21, h22⟩ := hJ
        have e2 := h2 (show l 2 = true by first | exact hd.1 rfl | exact hd.2.1 rfl | exact hd.2.2.1 rfl | exact hd.2.2.2.1 rfl | exact hd.2.2.2.2.1 rfl | exact hd.2.2.2.2.2.1 rfl)
        refine Runs.of (b := ?b3) ?e3 ?_
        case e3 => simp only [putV, Act.put, List.setIfInBounds_toArray, List.set_cons_zero, List.set_cons_succ, e2]; rfl
        intro K' hK'
        go_simp
        exact hK'.go _ rfl ⟨w'.heap.size, B19, fun h => ⟨(hst0 h).1.keep ((Keep.refl [] _).alloc _) (by simp) (by simp), (hst0 h).2.keep ((Keep.refl [] _).alloc _) (by simp) (by simp)⟩, fun h => ⟨(hst1 h).1.keep ((Keep.refl [] _).alloc _) (by simp) (by simp), (hst1 h).2.keep ((Keep.refl [] _).alloc _) (by simp) (by simp)⟩, hK.alloc _, h0, h1, h2, fun _ => ⟨rfl, Blk.new _ (bcs [j]) _⟩, h4, h5, h6, h7, h8, h9, h10, h11, h12, h13, h14, fun h => ⟨(h15 h).1, (h15 h).2.alloc _⟩, h16, h17, h18, fun h => ⟨(h19 h).1, (h19 h).2.alloc _⟩, h20, h21, h22⟩
      · intro l x w' hJ hi hd
        obtain ⟨B3, B19, hst0, hst1, hK, h0, h1, h2, h3, h4, h5, h6, h7, h8, h9, h10, h11, h12, h13, h14, h15, h16, h17, h18, h19, h20, h21, h22⟩ := hJ
        have e0 := h0 (show l 0 = true by first | exact hd.1 rfl | exact hd.2.1 rfl | exact hd.2.2.1 rfl | exact hd.2.2.2.1 rfl | exact hd.2.2.2.2.1 rfl | exact hd.2.2.2.2.2.1 rfl)
        have e3 := h3 (show l 3 = true by first | exact hd.1 rfl | exact hd.2.1 rfl | exact hd.2.2.1 rfl | exact hd.2.2.2.1 rfl | exact hd.2.2.2.2.1 rfl | exact hd.2.2.2.2.2.1 rfl)
        refine Runs.of (b := ?b4) ?e4 ?_
        case e4 => simp only [putV, Act.put, List.setIfInBounds_toArray, List.set_cons_zero, List.set_cons_succ, e0, e3.1]; rfl
        intro K' hK'
        go_simp
        obtain ⟨hD, hS⟩ := hst0 hi
        have hne : ∀ b, Ty w' b 5 → b ∉ [d, sb, s] := fun b hb hm => by
          simp only [List.mem_cons, List.not_mem_nil, or_false] at hm
          rcases hm with rfl | rfl | rfl
          · exact hD.noU8.1 hb
          · exact hD.noU8.2 hb
          · exact hS.noU8 hb
        have hne3 : ∀ b, (Value.slice (some ⟨B3, 0, none⟩) 1 1).ownBlock = some b → 0 < ([j] : List Nat).length → b < w'.heap.size ∧ b ≠ d ∧ b ≠ sb ∧ b ≠ s := fun b hb _ => by
          obtain rfl : B3 = b := Option.some.inj hb
          have h1 := hne B3 e3.2.ty
          simp only [List.mem_cons, List.not_mem_nil, or_false, not_or] at h1
          exact ⟨e3.2.lt, h1.1, h1.2.1, h1.2.2⟩
        have hrd3 : Rd w' (.slice (some ⟨B3, 0, none⟩) 1 1) [j] := rv_blk e3.2 rfl
        refine (Save_in hD hS _ [j] hrd3 (by simp; omega) (by simp) hslot (by rw [hLn]; omega) (by omega) (by omega) hne3).mono ?_
        rintro e w2 ⟨rfl, hD2, hS2, k2⟩
        go_simp
        exact hK'.go _ rfl ⟨B3, B19, fun h => Bool.noConfusion (show true = false from h), fun _ => ⟨hD2, hS2⟩, hK.trans k2, h0, h1, h2, fun h => ⟨(h3 h).1, (h3 h).2.keep k2 (hne _ (h3 h).2.ty)⟩, fun _ => rfl, fun h => ⟨(h5 h).1, Lib.hid rfl⟩, fun h => ⟨(h6 h).1, Lib.hid rfl⟩, h7, h8, h9, h10, h11, fun h => ⟨(h12 h).1, Lib.hid rfl⟩, fun h => ⟨(h13 h).1, Lib.hid rfl⟩, h14, fun h => absurd ((h15 h).1.out.symm.trans hi) (by decide), h16, h17, h18, fun h => ⟨(h19 h).1, (h19 h).2.keep k2 (hne _ (h19 h).2.ty)⟩, h20, h21, h22⟩
      · intro l x w' hJ hi hd
        obtain ⟨B3, B19, hst0, hst1, hK, h0, h1, h2, h3, h4, h5, h6, h7, h8, h9, h10, h11, h12, h13, h14, h15, h16, h17, h18, h19, h20, h21, h22⟩ := hJ
        have e4 := h4 (show l 4 = true by first | exact hd.1 rfl | exact hd.2.1 rfl | exact hd.2.2.1 rfl | exact hd.2.2.2.1 rfl | exact hd.2.2.2.2.1 rfl | exact hd.2.2.2.2.2.1 rfl)
        have D4 : Hid (l 4 = true) := Lib.hid (by first | exact hd.1 rfl | exact hd.2.1 rfl | exact hd.2.2.1 rfl | exact hd.2.2.2.1 rfl | exact hd.2.2.2.2.1 rfl | exact hd.2.2.2.2.2.1 rfl)
        refine Runs.of (b := ?b5) ?e5 ?_
        case e5 => simp only [putV, Act.put, List.setIfInBounds_toArray, List.set_cons_zero, List.set_cons_succ, e4]; rfl
        intro K' hK'
        go_simp
        exact hK'.go _ rfl ⟨B3, B19, hst0, hst1, hK, h0, h1, h2, h3, h4, fun _ => ⟨rfl, D4⟩, h6, h7, h8, h9, h10, h11, h12, h13, h14, h15, h16, h17, h18, h19, h20, h21, h22⟩
      · intro l x w' hJ hi hd
        obtain ⟨B3, B19, hst0, hst1, hK, h0, h1, h2, h3, h4, h5, h6, h7, h8, h9, h10, h11, h12, h13, h14, h15, h16, h17, h18, h19, h20, h21, h22⟩ := hJ
        have e5 := h5 (show l 5 = true by first | exact hd.1 rfl | exact hd.2.1 rfl | exact hd.2.2.1 rfl | exact hd.2.2.2.1 rfl | exact hd.2.2.2.2.1 rfl | exact hd.2.2.2.2.2.1 rfl)
        refine Runs.of (b := ?b6) ?e6 ?_
        case e6 => simp only [putV, Act.put, List.setIfInBounds_toArray, List.set_cons_zero, List.set_cons_succ, e5.1]; rfl
        intro K' hK'
        go_simp
        exact hK'.go _ rfl ⟨B3, B19, hst0, hst1, hK, h0, h1, h2, h3, h4, h5, fun _ => ⟨rfl, e5.2⟩, h7, h8, h9, h10, h11, h12, h13, h14, h15, h16, h17, h18, h19, h20, h21, h22⟩
      · intro l x w' hJ hi hd
        obtain ⟨B3, B19, hst0, hst1, hK, h0, h1, h2, h3, h4, h5, h6, h7, h8, h9, h10, h11, h12, h13, h14, h15, h16, h17, h18, h19, h20, h21, h22⟩ := hJ
        have e6 := h6 (show l 6 = true by first | exact hd.1 rfl | exact hd.2.1 rfl | exact hd.2.2.1 rfl | exact hd.2.2.2.1 rfl | exact hd.2.2.2.2.1 rfl | exact hd.2.2.2.2.2.1 rfl)
        refine Runs.of (b := ?b7) ?e7 ?_
        case e7 => simp only [putV, Act.put, List.setIfInBounds_toArray, List.set_cons_zero, List.set_cons_succ, e6.1]; rfl
        intro K' hK'
        go_simp
        exact hK'.go _ rfl ⟨B3, B19, hst0, hst1, hK, h0, h1, h2, h3, h4, h5, h6, fun _ => rfl, h8, h9, h10, h11, h12, h13, h14, h15, h16, h17, h18, h19, h20, h21, h22⟩
      · intro l x w' hJ hi hd
        obtain ⟨B3, B19, hst0, hst1, hK, h0, h1, h2, h3, h4, h5, h6, h7, h8, h9, h10, h11, h12, h13, h14, h15, h16, h17, h18, h19, h20, h21, h22⟩ := hJ
        have e6 := h6 (show l 6 = true by first | exact hd.1 rfl | exact hd.2.1 rfl | exact hd.2.2.1 rfl | exact hd.2.2.2.1 rfl | exact hd.2.2.2.2.1 rfl | exact hd.2.2.2.2.2.1 rfl)
        have e7 := h7 (show l 7 = true by first | exact hd.1 rfl | exact hd.2.1 rfl | exact hd.2.2.1 rfl | exact hd.2.2.2.1 rfl | exact hd.2.2.2.2.1 rfl | exact hd.2.2.2.2.2.1 rfl)
        have hS := (hst1 e6.2.out).2
        refine Runs.of (b := ?b8) ?e8 ?_
        case e8 => simp only [putV, Act.put, List.setIfInBounds_toArray, List.set_cons_zero, List.set_cons_succ, e6.1, e7]; rfl
        intro K' hK'
        go_simp
        refine (Turn_any hS).mono ?_
        rintro e w2 ⟨rfl, rfl⟩
        rw [show ((j + 1 + 1 : Nat) : Int) = (j : Int) + 2 by omega]
        go_simp
        exact hK'.go _ rfl ⟨B3, B19, hst0, hst1, hK, h0, h1, h2, h3, h4, h5, h6, h7, fun _ => rfl, h9, h10, h11, h12, h13, h14, h15, h16, h17, h18, h19, h20, h21, h22⟩
      · intro l x w' hJ hi hd
        obtain ⟨B3, B19, hst0, hst1, hK, h0, h1, h2, h3, h4, h5, h6, h7, h8, h9, h10, h11, h12, h13, h14, h15, h16, h17, h18, h19, h20, h21, h22⟩ := hJ
        have e6 := h6 (show l 6 = true by first | exact hd.1 rfl | exact hd.2.1 rfl | exact hd.2.2.1 rfl | exact hd.2.2.2.1 rfl | exact hd.2.2.2.2.1 rfl | exact hd.2.2.2.2.2.1 rfl)
        refine Runs.of (b := ?b9) ?e9 ?_
        case e9 => simp only [putV, Act.put, List.setIfInBounds_toArray, List.set_cons_zero, List.set_cons_succ, e6.1]; rfl
        intro K' hK'
        go_simp
        exact hK'.go _ rfl ⟨B3, B19, hst0, hst1, hK, h0, h1, h2, h3, h4, h5, h6, h7, h8, fun _ => rfl, h10, h11, h12, h13, h14, h15, h16, h17, h18, h19, h20, h21, h22⟩
      · intro l x w' hJ hi hd
        obtain ⟨B3, B19, hst0, hst1, hK, h0, h1, h2, h3, h4, h5, h6, h7, h8, h9, h10, h11, h12, h13, h14, h15, h16, h17, h18, h19, h20, h21, h22⟩ := hJ
        have e6 := h6 (show l 6 = true by first | exact hd.1 rfl | exact hd.2.1 rfl | exact hd.2.2.1 rfl | exact hd.2.2.2.1 rfl | exact hd.2.2.2.2.1 rfl | exact hd.2.2.2.2.2.1 rfl)
        have e9 := h9 (show l 9 = true by first | exact hd.1 rfl | exact hd.2.1 rfl | exact hd.2.2.1 rfl | exact hd.2.2.2.1 rfl | exact hd.2.2.2.2.1 rfl | exact hd.2.2.2.2.2.1 rfl)
        refine Runs.of (b := ?b10) ?e10 ?_
        case e10 => simp only [putV, Act.put, List.setIfInBounds_toArray, List.set_cons_zero, List.set_cons_succ, e6.1, e9]; rfl
        intro K' hK'
        go_simp
        rw [show IntKind.i64.wrap ((j : Int) + 2) = (j : Int) + 2 by rw [IntKind.wrap_i64]; omega]
        exact hK'.go _ rfl ⟨B3, B19, hst0, hst1, hK, h0, h1, h2, h3, h4, h5, h6, h7, h8, h9, fun _ => rfl, h11, h12, h13, h14, h15, h16, h17, h18, h19, h20, h21, h22⟩
      · intro l x w' hJ hi hd
        obtain ⟨B3, B19, hst0, hst1, hK, h0, h1, h2, h3, h4, h5, h6, h7, h8, h9, h10, h11, h12, h13, h14, h15, h16, h17, h18, h19, h20, h21, h22⟩ := hJ
        have e6 := h6 (show l 6 = true by first | exact hd.1 rfl | exact hd.2.1 rfl | exact hd.2.2.1 rfl | exact hd.2.2.2.1 rfl | exact hd.2.2.2.2.1 rfl | exact hd.2.2.2.2.2.1 rfl)
        have e8 := h8 (show l 8 = true by first | exact hd.1 rfl | exact hd.2.1 rfl | exact hd.2.2.1 rfl | exact hd.2.2.2.1 rfl | exact hd.2.2.2.2.1 rfl | exact hd.2.2.2.2.2.1 rfl)
        have e10 := h10 (show l 10 = true by first | exact hd.1 rfl | exact hd.2.1 rfl | exact hd.2.2.1 rfl | exact hd.2.2.2.1 rfl | exact hd.2.2.2.2.1 rfl | exact hd.2.2.2.2.2.1 rfl)
        refine Runs.of (b := ?b11) ?e11 ?_
        case e11 => simp only [putV, Act.put, List.setIfInBounds_toArray, List.set_cons_zero, List.set_cons_succ, e6.1, e8, e10]; rfl
        intro K' hK'
        go_simp
        exact hK'.go _ rfl ⟨B3, B19, hst0, hst1, hK, h0, h1, h2, h3, h4, h5, h6, h7, h8, h9, h10, fun _ => rfl, h12, h13, h14, h15, h16, h17, h18, h19, h20, h21, h22⟩
      · intro l x w' hJ hi hd
        obtain ⟨B3, B19, hst0, hst1, hK, h0, h1, h2, h3, h4, h5, h6, h7, h8, h9, h10, h11, h12, h13, h14, h15, h16, h17, h18, h19, h20, h21, h22⟩ := hJ
        have e6 := h6 (show l 6 = true by first | exact hd.1 rfl | exact hd.2.1 rfl | exact hd.2.2.1 rfl | exact hd.2.2.2.1 rfl | exact hd.2.2.2.2.1 rfl | exact hd.2.2.2.2.2.1 rfl)
        have e11 := h11 (show l 11 = true by first | exact hd.1 rfl | exact hd.2.1 rfl | exact hd.2.2.1 rfl | exact hd.2.2.2.1 rfl | exact hd.2.2.2.2.1 rfl | exact hd.2.2.2.2.2.1 rfl)
        refine Runs.of (b := ?b12) ?e12 ?_
        case e12 => simp only [putV, Act.put, List.setIfInBounds_toArray, List.set_cons_zero, List.set_cons_succ, e6.1, e11]; rfl
        intro K' hK'
        go_simp
        exact hK'.go _ rfl ⟨B3, B19, hst0, hst1, hK, h0, h1, h2, h3, h4, h5, h6, h7, h8, h9, h10, h11, fun _ => ⟨rfl, e6.2⟩, h13, h14, h15, h16, h17, h18, h19, h20, h21, h22⟩
      · intro l x w' hJ hi hd
        obtain ⟨B3, B19, hst0, hst1, hK, h0, h1, h2, h3, h4, h5, h6, h7, h8, h9, h10, h11, h12, h13, h14, h15, h16, h17, h18, h19, h20, h21, h22⟩ := hJ
        have e12 := h12 (show l 12 = true by first | exact hd.1 rfl | exact hd.2.1 rfl | exact hd.2.2.1 rfl | exact hd.2.2.2.1 rfl | exact hd.2.2.2.2.1 rfl | exact hd.2.2.2.2.2.1 rfl)
        refine Runs.of (b := ?b13) ?e13 ?_
        case e13 => simp only [putV, Act.put, List.setIfInBounds_toArray, List.set_cons_zero, List.set_cons_succ, e12.1]; rfl
        intro K' hK'
        go_simp
        exact hK'.go _ rfl ⟨B3, B19, hst0, hst1, hK, h0, h1, h2, h3, h4, h5, h6, h7, h8, h9, h10, h11, h12, fun _ => ⟨rfl, e12.2⟩, h14, h15, h16, h17, h18, h19, h20, h21, h22⟩
      · intro l x w' hJ hi hd
        obtain ⟨B3, B19, hst0, hst1, hK, h0, h1, h2, h3, h4, h5, h6, h7, h8, h9, h10, h11, h12, h13, h14, h15, h16, h17, h18, h19, h20, h21, h22⟩ := hJ
        have e13 := h13 (show l 13 = true by first | exact hd.1 rfl | exact hd.2.1 rfl | exact hd.2.2.1 rfl | exact hd.2.2.2.1 rfl | exact hd.2.2.2.2.1 rfl | exact hd.2.2.2.2.2.1 rfl)
        refine Runs.of (b := ?b14) ?e14 ?_
        case e14 => simp only [putV, Act.put, List.setIfInBounds_toArray, List.set_cons_zero, List.set_cons_succ, e13.1]; rfl
        intro K' hK'
        go_simp
        exact hK'.go _ rfl ⟨B3, B19, hst0, hst1, hK, h0, h1, h2, h3, h4, h5, h6, h7, h8, h9, h10, h11, h12, h13, fun _ => rfl, h15, h16, h17, h18, h19, h20, h21, h22⟩
      · intro l x w' hJ hi hd
        obtain ⟨B3, B19, hst0, hst1, hK, h0, h1, h2, h3, h4, h5, h6, h7, h8, h9, h10, h11, h12, h13, h14, h15, h16, h17, h18, h19, h20, h21, h22⟩ := hJ
        have e13 := h13 (show l 13 = true by first | exact hd.1 rfl | exact hd.2.1 rfl | exact hd.2.2.1 rfl | exact hd.2.2.2.1 rfl | exact hd.2.2.2.2.1 rfl | exact hd.2.2.2.2.2.1 rfl)
        have e14 := h14 (show l 14 = true by first | exact hd.1 rfl | exact hd.2.1 rfl | exact hd.2.2.1 rfl | exact hd.2.2.2.1 rfl | exact hd.2.2.2.2.1 rfl | exact hd.2.2.2.2.2.1 rfl)
        have hS := (hst1 e13.2.out).2
        refine Runs.of (b := ?b15) ?e15 ?_
        case e15 => simp only [putV, Act.put, List.setIfInBounds_toArray, List.set_cons_zero, List.set_cons_succ, e13.1, e14]; rfl
        intro K' hK'
        go_simp
        refine (Text_any hS (by simp)).mono ?_
        rintro e w2 ⟨v2, rfl, hb2, k2⟩
        go_simp
        exact hK'.go v2 rfl ⟨B3, B19, fun h => ⟨(hst0 h).1.keep k2 (by simp) (by simp), (hst0 h).2.keep k2 (by simp) (by simp)⟩, fun h => ⟨(hst1 h).1.keep k2 (by simp) (by simp), (hst1 h).2.keep k2 (by simp) (by simp)⟩, hK.trans (k2.mono (by simp)), h0, h1, h2, fun h => ⟨(h3 h).1, (h3 h).2.keep k2 (by simp)⟩, h4, h5, h6, h7, h8, h9, h10, h11, h12, h13, h14, fun _ => ⟨e13.2, hb2.mono (by omega)⟩, h16, h17, h18, fun h => ⟨(h19 h).1, (h19 h).2.keep k2 (by simp)⟩, h20, h21, h22⟩
      · intro l x w' hJ hi hd
        obtain ⟨B3, B19, hst0, hst1, hK, h0, h1, h2, h3, h4, h5, h6, h7, h8, h9, h10, h11, h12, h13, h14, h15, h16, h17, h18, h19, h20, h21, h22⟩ := hJ
        have e13 := h13 (show l 13 = true by first | exact hd.1 rfl | exact hd.2.1 rfl | exact hd.2.2.1 rfl | exact hd.2.2.2.1 rfl | exact hd.2.2.2.2.1 rfl | exact hd.2.2.2.2.2.1 rfl)
        have e15 := h15 (show l 15 = true by first | exact hd.1 rfl | exact hd.2.1 rfl | exact hd.2.2.1 rfl | exact hd.2.2.2.1 rfl | exact hd.2.2.2.2.1 rfl | exact hd.2.2.2.2.2.1 rfl)
        have hc := Rd.str (P := Try.prog) (dst := 9) e15.2.rd (by simp; omega) Try.underlying22 Try.underlying5 Try.underlying9
        obtain ⟨ta, tcap, ht⟩ := e15.2.slice
        rw [ht] at hc
        simp only [List.length_cons, List.length_nil, Nat.zero_add] at hc ht
        refine Runs.of (b := ?b16) ?e16 ?_
        case e16 => simp only [putV, Act.put, List.setIfInBounds_toArray, List.set_cons_zero, List.set_cons_succ, e13.1, ht]; rfl
        intro K' hK'
        go_simp
        exact hK'.go _ rfl ⟨B3, B19, hst0, hst1, hK, h0, h1, h2, h3, h4, h5, h6, h7, h8, h9, h10, h11, h12, h13, h14, h15, fun _ => rfl, h17, h18, h19, h20, h21, h22⟩
      · intro l x w' hJ hi hd
        obtain ⟨B3, B19, hst0, hst1, hK, h0, h1, h2, h3, h4, h5, h6, h7, h8, h9, h10, h11, h12, h13, h14, h15, h16, h17, h18, h19, h20, h21, h22⟩ := hJ
        have e13 := h13 (show l 13 = true by first | exact hd.1 rfl | exact hd.2.1 rfl | exact hd.2.2.1 rfl | exact hd.2.2.2.1 rfl | exact hd.2.2.2.2.1 rfl | exact hd.2.2.2.2.2.1 rfl)
        refine Runs.of (b := ?b17) ?e17 ?_
        case e17 => simp only [putV, Act.put, List.setIfInBounds_toArray, List.set_cons_zero, List.set_cons_succ, e13.1]; rfl
        intro K' hK'
        go_simp
        exact hK'.go _ rfl ⟨B3, B19, hst0, hst1, hK, h0, h1, h2, h3, h4, h5, h6, h7, h8, h9, h10, h11, h12, h13, h14, h15, h16, fun _ => rfl, h18, h19, h20, h21, h22⟩
      · intro l x w' hJ hi hd
        obtain ⟨B3, B19, hst0, hst1, hK, h0, h1, h2, h3, h4, h5, h6, h7, h8, h9, h10, h11, h12, h13, h14, h15, h16, h17, h18, h19, h20, h21, h22⟩ := hJ
        have e13 := h13 (show l 13 = true by first | exact hd.1 rfl | exact hd.2.1 rfl | exact hd.2.2.1 rfl | exact hd.2.2.2.1 rfl | exact hd.2.2.2.2.1 rfl | exact hd.2.2.2.2.2.1 rfl)
        have e17 := h17 (show l 17 = true by first | exact hd.1 rfl | exact hd.2.1 rfl | exact hd.2.2.1 rfl | exact hd.2.2.2.1 rfl | exact hd.2.2.2.2.1 rfl | exact hd.2.2.2.2.2.1 rfl)
        refine Runs.of (b := ?b18) ?e18 ?_
        case e18 => simp only [putV, Act.put, List.setIfInBounds_toArray, List.set_cons_zero, List.set_cons_succ, e13.1, e17]; rfl
        intro K' hK'
        go_simp
        rw [wrap_u8_small j hj60]
        exact hK'.go _ rfl ⟨B3, B19, hst0, hst1, hK, h0, h1, h2, h3, h4, h5, h6, h7, h8, h9, h10, h11, h12, h13, h14, h15, h16, h17, fun _ => rfl, h19, h20, h21, h22⟩
      · intro l x w' hJ hi hd
        obtain ⟨B3, B19, hst0, hst1, hK, h0, h1, h2, h3, h4, h5, h6, h7, h8, h9, h10, h11, h12, h13, h14, h15, h16, h17, h18, h19, h20, h21, h22⟩ := hJ
        have e13 := h13 (show l 13 = true by first | exact hd.1 rfl | exact hd.2.1 rfl | exact hd.2.2.1 rfl | exact hd.2.2.2.1 rfl | exact hd.2.2.2.2.1 rfl | exact hd.2.2.2.2.2.1 rfl)
        have e18 := h18 (show l 18 = true by first | exact hd.1 rfl | exact hd.2.1 rfl | exact hd.2.2.1 rfl | exact hd.2.2.2.1 rfl | exact hd.2.2.2.2.1 rfl | exact hd.2.2.2.2.2.1 rfl)
        refine Runs.of (b := ?b19) ?e19 ?_
        case e19 => simp only [putV, Act.put, List.setIfInBounds_toArray, List.set_cons_zero, List.set_cons_succ, e13.1, e18]; rfl
        intro K' hK'
        go_simp
        exact hK'.go _ rfl ⟨B3, w'.heap.size, fun h => ⟨(hst0 h).1.keep ((Keep.refl [] _).alloc _) (by simp) (by simp), (hst0 h).2.keep ((Keep.refl [] _).alloc _) (by simp) (by simp)⟩, fun h => ⟨(hst1 h).1.keep ((Keep.refl [] _).alloc _) (by simp) (by simp), (hst1 h).2.keep ((Keep.refl [] _).alloc _) (by simp) (by simp)⟩, hK.alloc _, h0, h1, h2, fun h => ⟨(h3 h).1, (h3 h).2.alloc _⟩, h4, h5, h6, h7, h8, h9, h10, h11, h12, h13, h14, fun h => ⟨(h15 h).1, (h15 h).2.alloc _⟩, h16, h17, h18, fun _ => ⟨rfl, Blk.new _ (bcs [j]) _⟩, h20, h21, h22⟩
      · intro l x w' hJ hi hd
        obtain ⟨B3, B19, hst0, hst1, hK, h0, h1, h2, h3, h4, h5, h6, h7, h8, h9, h10, h11, h12, h13, h14, h15, h16, h17, h18, h19, h20, h21, h22⟩ := hJ
        have e13 := h13 (show l 13 = true by first | exact hd.1 rfl | exact hd.2.1 rfl | exact hd.2.2.1 rfl | exact hd.2.2.2.1 rfl | exact hd.2.2.2.2.1 rfl | exact hd.2.2.2.2.2.1 rfl)
        have e19 := h19 (show l 19 = true by first | exact hd.1 rfl | exact hd.2.1 rfl | exact hd.2.2.1 rfl | exact hd.2.2.2.1 rfl | exact hd.2.2.2.2.1 rfl | exact hd.2.2.2.2.2.1 rfl)
        have hc := Rd.str (P := Try.prog) (dst := 9) (show Rd w' (.slice (some ⟨B19, 0, none⟩) 1 1) [j] from rv_blk e19.2 rfl) (by simp; omega) Try.underlying22 Try.underlying5 Try.underlying9
        refine Runs.of (b := ?b20) ?e20 ?_
        case e20 => simp only [putV, Act.put, List.setIfInBounds_toArray, List.set_cons_zero, List.set_cons_succ, e13.1, e19.1]; rfl
        intro K' hK'
        go_simp
        exact hK'.go _ rfl ⟨B3, B19, hst0, hst1, hK, h0, h1, h2, h3, h4, h5, h6, h7, h8, h9, h10, h11, h12, h13, h14, h15, h16, h17, h18, h19, fun _ => rfl, h21, h22⟩
      · intro l x w' hJ hi hd
        obtain ⟨B3, B19, hst0, hst1, hK, h0, h1, h2, h3, h4, h5, h6, h7, h8, h9, h10, h11, h12, h13, h14, h15, h16, h17, h18, h19, h20, h21, h22⟩ := hJ
        have e13 := h13 (show l 13 = true by first | exact hd.1 rfl | exact hd.2.1 rfl | exact hd.2.2.1 rfl | exact hd.2.2.2.1 rfl | exact hd.2.2.2.2.1 rfl | exact hd.2.2.2.2.2.1 rfl)
        have e16 := h16 (show l 16 = true by first | exact hd.1 rfl | exact hd.2.1 rfl | exact hd.2.2.1 rfl | exact hd.2.2.2.1 rfl | exact hd.2.2.2.2.1 rfl | exact hd.2.2.2.2.2.1 rfl)
        have e20 := h20 (show l 20 = true by first | exact hd.1 rfl | exact hd.2.1 rfl | exact hd.2.2.1 rfl | exact hd.2.2.2.1 rfl | exact hd.2.2.2.2.1 rfl | exact hd.2.2.2.2.2.1 rfl)
        refine Runs.of (b := ?b21) ?e21 ?_
        case e21 => simp only [putV, Act.put, List.setIfInBounds_toArray, List.set_cons_zero, List.set_cons_succ, e13.1, e16, e20]; rfl
        intro K' hK'
        go_simp
        exact hK'.go _ rfl ⟨B3, B19, hst0, hst1, hK, h0, h1, h2, h3, h4, h5, h6, h7, h8, h9, h10, h11, h12, h13, h14, h15, h16, h17, h18, h19, h20, fun _ => rfl, h22⟩
      · intro l x w' hJ hi hd
        obtain ⟨B3, B19, hst0, hst1, hK, h0, h1, h2, h3, h4, h5, h6, h7, h8, h9, h10, h11, h12, h13, h14, h15, h16, h17, h18, h19, h20, h21, h22⟩ := hJ
        have e13 := h13 (show l 13 = true by first | exact hd.1 rfl | exact hd.2.1 rfl | exact hd.2.2.1 rfl | exact hd.2.2.2.1 rfl | exact hd.2.2.2.2.1 rfl | exact hd.2.2.2.2.2.1 rfl)
        have e21 := h21 (show l 21 = true by first | exact hd.1 rfl | exact hd.2.1 rfl | exact hd.2.2.1 rfl | exact hd.2.2.2.1 rfl | exact hd.2.2.2.2.1 rfl | exact hd.2.2.2.2.2.1 rfl)
        refine Runs.of (b := ?b22) ?e22 ?_
        case e22 => simp only [putV, Act.put, List.setIfInBounds_toArray, List.set_cons_zero, List.set_cons_succ, e13.1, e21]; rfl
        intro K' hK'
        go_simp
        exact hK'.go _ rfl ⟨B3, B19, hst0, hst1, hK, h0, h1, h2, h3, h4, h5, h6, h7, h8, h9, h10, h11, h12, h13, h14, h15, h16, h17, h18, h19, h20, h21, fun _ => rfl⟩
      · intro l x w3 hJ hl
        obtain ⟨B3, B19, hst0, hst1, hK, h0, h1, h2, h3, h4, h5, h6, h7, h8, h9, h10, h11, h12, h13, h14, h15, h16, h17, h18, h19, h20, h21, h22⟩ := hJ
        have e22 := h22 (hl 22 (by decide))
        obtain ⟨hD2, hS2⟩ := hst1 (hl 4 (by decide))
        simp only [putV, Act.put, List.setIfInBounds_toArray, List.set_cons_zero, List.set_cons_succ, e22]
        have hP2 := hP.save hslot (by omega) [j]
        have hLn2 : ((L.map flushSec).set (0 + (1 - slot)) ⟨sImg (j + 1 + 1) [j], sImg (j + 1 + 1) [j], false⟩).length = 2 := by simpa using hLn
        have hK2 := HK.out.then hK (by intro y hy hlt2; have := HLW.out; simp at hy; omega)
        clear h0 h1 h2 h3 h4 h5 h6 h7 h8 h9 h10 h11 h12 h13 h14 h15 h16 h17 h18 h19 h20 h21 h22 e22 hl hst0 hst1 hK
        go_wp2_with fail
        go_roundw
        case rel => exact ⟨j + 1, c + 2, _, 1 - slot, [j], by omega, by go_num, by omega, by omega, hLn2, hD2, hS2, hP2, by simp, by simp; omega, hK2⟩
        case measure => simp [intOf]; omega
    · obtain rfl : N = j := by omega
      have hkv : Rv wr 1 (.slice none 0 0) ([] : List Bool).length (bools []) := Rv.nil wr 1
      go_wp2_with fail
      refine (Crash_any hD (.slice none 0 0) [] hkv (by simp)).mono ?_
      rintro e w3 ⟨d', sb', rfl, hD3, k3, hb3, hsb3⟩
      have hP3 := hP.crash []
      have K3 := HK.out.trans k3
      go_wp2_with fail
      refine (Open_pair hD3 hP3 hslot htl htb (by omega) (by omega)).mono ?_
      rintro e w4 ⟨o, rfl, ho, hO4, k4⟩
      have K4 := K3.trans k4
      have hjj : ((N + 1 : Nat) : Int) = (N : Int) + 1 := by omega
      go_wp2_with fail
      refine (Turn_any hO4).mono ?_
      rintro e w5 ⟨rfl, rfl⟩
      rw [hjj]
      go_wp2_with fail
      go_ret
      exact ⟨rfl, K4.below⟩
end Go.Proofs.Ytnnaleoigiaboaa
