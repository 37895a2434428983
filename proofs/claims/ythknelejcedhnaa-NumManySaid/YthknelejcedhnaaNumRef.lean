/- The contracts of the reference's Get, GetText, Put, PutText, and of Short. -/
import Derived.Test.YthknelejcedhnaaNumBegun
namespace Go.Proofs.Ythknelejcedhnaa
open Go.ChangeShapes Go.WideShapes Go.ChangeAt Go.RowKit
set_option linter.unusedVariables false
set_option linter.unusedSimpArgs false

/-- Short: no more than n bytes. -/
theorem Short_any {w : World} (v : Value) (l : List Nat) (n : Nat) (h : Rd w v l) (hn : n ≤ 1000000) (hl : l.length ≤ 9223372036854775807) :
    Calls Try.prog 15 #[v, .int .i64 n] w fun e w' => ∃ v', e = .returned v' ∧ w = w' ∧ Rd w v' (l.take n) ∧ v'.ownBlock = v.ownBlock := by
  obtain ⟨i0, hi, hz0, hz1, hz2⟩ := info_parts Try.info8
  have h2 := h
  obtain ⟨_, a, cap, rfl, hcap, _⟩ := h
  by_cases hln : n < l.length
  · have q1 : (n : Int) < l.length := by omega
    go_enter Try.func15, Try.ntmps15
    go_wp2_with (refine wpList_slice_to _ _ _ _ _ _ _ 5 i0 Try.underlying22 hi hz1 _ _ _ _ n rfl rfl rfl h2 (by omega) ?_; intro v1 hv1 ho1)
    go_ret
    refine ⟨v1, rfl, rfl, ?_, ho1⟩
    have e : (bcs l).take n = bcs (l.take n) := by simp [bcs, List.map_take]
    rw [e] at hv1
    unfold Rd
    rw [List.length_take, Nat.min_eq_left (by omega)]
    exact hv1
  · go_enter Try.func15, Try.ntmps15
    go_wp2_with fail
    go_ret
    exact ⟨_, rfl, rfl, by rw [List.take_of_length_le (by omega)]; exact h2, rfl⟩

set_option maxRecDepth 100000 in
set_option maxHeartbeats 2000000 in
theorem refGet_any {w : World} (v : Value) (l : List Nat) (h : Rd w v l) (hb : ∀ c ∈ l, c < 256) (hl : l.length ≤ 9223372036854775807) (r : Int × Nat × Nat) (hr : r = get l) :
    Calls Try.prog 23 #[v] w (GotN w r) := by
  have h2 := h
  obtain ⟨_, a, cap, rfl, _, _⟩ := h
  have HR := Lib.hid hr
  clear hr
  go_enter Try.func23, Try.ntmps23
  go_wp2_with fail
  go_loop [5, 6, 7] (fun u ww i => ∃ (k U : Nat), k ≤ l.length ∧ k ≤ 9 ∧ i = .int .i64 k ∧ u = .int .u64 U ∧ ww = .int .u64 ((128 ^ k : Nat) : Int) ∧ U < 128 ^ k ∧ get l = getGo (l.drop k) k U) (fun _ _ i => l.length - (intOf i).toNat)
  case atStart => exact ⟨0, 0, by omega, by omega, rfl, rfl, rfl, by simp, by simp [get]⟩
  case round =>
    obtain ⟨k, U, hk, hk9, rfl, rfl, rfl, hU, hE⟩ := hrel
    by_cases hlt : k < l.length
    · obtain ⟨sb0, so, cap3, he, _, hsb, hat⟩ := h2.at1 (by omega)
      simp only [Value.slice.injEq] at he
      obtain ⟨rfl, _, rfl⟩ := he
      have g4 := hat k hlt
      rw [bcs_at l k hlt] at g4
      have hc : l.getD k 0 < 256 := hb _ (by simp [List.getD_eq_getElem?_getD, hlt])
      have hd : l.drop k = l.getD k 0 :: l.drop (k + 1) := by rw [List.drop_eq_getElem_cons hlt]; simp [List.getD_eq_getElem?_getD, hlt]
      rw [hd] at hE
      have HE := Lib.hid hE
      have HU := Lib.hid hU
      clear hE hd hat h2 hb hU
      generalize l.getD k 0 = c at *
      unfold bc at g4
      have q0 : (k : Int) < l.length := by omega
      have ha := and8 c hc
      obtain ⟨W, hW⟩ : ∃ W : Nat, W = 128 ^ k := ⟨_, rfl⟩
      rw [← hW]
      have hWb : (k ≤ 8 → U + c % 128 * W < 18446744073709551616 ∧ c % 128 * W < 18446744073709551616 ∧ U + c % 128 * W < 128 * W ∧ W * 128 < 18446744073709551616) ∧ (c ≤ 1 → U + c % 128 * W < 18446744073709551616 ∧ c % 128 * W < 18446744073709551616) ∧ 0 < W := by
        have hU := HU.out
        rw [hW]
        refine ⟨fun h8 => ?_, fun h1 => ?_, Nat.pow_pos (by omega)⟩
        · have := pow128_le k h8 c
          have h3 : c % 128 * 128 ^ k ≤ 127 * 128 ^ k := Nat.mul_le_mul_right _ (by omega)
          have hp : (128 : Nat) ^ k ≤ 128 ^ 8 := Nat.pow_le_pow_right (by decide) h8
          have e8 : (128 : Nat) ^ 8 = 72057594037927936 := rfl
          rw [e8] at hp
          omega
        · by_cases h99 : k = 9
          · subst h99; have := pow128_9 c h1; omega
          · have := pow128_le k (by omega) c; omega
      have HW := Lib.hid hW
      have HWb := Lib.hid hWb
      clear hW hWb
      have hcase : (k = 9 ∧ 1 < c) ∨ (¬ (k = 9 ∧ 1 < c) ∧ 127 < c) ∨ (¬ (k = 9 ∧ 1 < c) ∧ c ≤ 127 ∧ 0 < k ∧ c = 0) ∨ (¬ (k = 9 ∧ 1 < c) ∧ c ≤ 127 ∧ ¬ (0 < k ∧ c = 0)) := by omega
      rcases hcase with ⟨h99, h1⟩ | ⟨h9, h1⟩ | ⟨h9, h1, h3, h4⟩ | ⟨h9, h1, h3⟩
      · have q1 : (1 : Int) < c := by omega
        have q2 : ((k : Int) == 9) = true := by simp; omega
        have H99 := Lib.hid h99
        clear h99
        go_wp2_with fail
        go_ret3
        refine ⟨?_, rfl⟩
        rw [HR.out, HE.out]
        have h9 := H99.out
        subst h9
        simp [getGo, h1]
      · have q1 : (127 : Int) < c := by omega
        have hk8 : k ≤ 8 := by omega
        have q2 : ((k : Int) == 9) = false := by simp; omega
        have q3 : ((c : Int) == 0) = false := by simp; omega
        obtain ⟨b1, b2, b3, b4⟩ := HWb.out.1 hk8
        obtain ⟨V, hV⟩ : ∃ V : Nat, V = c % 128 * W := ⟨_, rfl⟩
        rw [← hV] at b1 b2 b3
        have hv1 : (c : Int) % 128 * (W : Int) = (V : Int) := by rw [hV]; simp [Int.natCast_mul]
        have HV := Lib.hid hV
        clear hV
        go_wp2_with fail
        all_goals
          go_round
          case rel =>
            have hpw : (W : Int) * 128 = ((128 ^ (k + 1) : Nat) : Int) := by
              rw [Nat.pow_succ, ← HW.out]; simp
            refine ⟨k + 1, U + V, by omega, by omega, by go_num, by go_num, by rw [hpw], ?_, ?_⟩
            · rw [Nat.pow_succ, ← HW.out]; omega
            · rw [HE.out]
              simp only [getGo, h9, if_false, h1, if_true]
              rw [HV.out, HW.out]
          case measure => simp [intOf]; omega
      · have q5 : ((c : Int) == 0) = true := by simpa using h4
        have q3 : (0 : Int) < k := by omega
        have q6 : ¬ ((1 : Int) < c) := by omega
        have H4 := Lib.hid h4
        clear h4
        by_cases h99 : k = 9
        all_goals
          first
          | (have q2 : ((k : Int) == 9) = true := by simp; omega)
          | (have q2 : ((k : Int) == 9) = false := by simp; omega)
          have H99 := Lib.hid h99
          clear h99
          go_wp2_with fail
          go_ret3
          refine ⟨?_, rfl⟩
          rw [HR.out, HE.out]
          simp only [getGo, h9, if_false]
          rw [if_neg (by omega), if_pos ⟨h3, H4.out⟩]
          rfl
      · have hcm : c % 128 = c := by omega
        have hb2 : U + c % 128 * W < 18446744073709551616 ∧ c % 128 * W < 18446744073709551616 := by
          by_cases h8 : k ≤ 8
          · exact ⟨(HWb.out.1 h8).1, (HWb.out.1 h8).2.1⟩
          · exact HWb.out.2.1 (by omega)
        obtain ⟨b1, b2⟩ := hb2
        obtain ⟨V, hV⟩ : ∃ V : Nat, V = c % 128 * W := ⟨_, rfl⟩
        rw [← hV] at b1 b2
        have hv1 : (c : Int) % 128 * (W : Int) = (V : Int) := by rw [hV]; simp [Int.natCast_mul]
        have hfin : GotN w r (.returned (.tuple #[.int .i64 (unzz (U + V)), .int .i64 ((k : Int) + 1), .int .i64 0])) w := by
          refine ⟨?_, rfl⟩
          rw [HR.out, HE.out]
          simp only [getGo, h9, if_false]
          rw [if_neg (by omega), if_neg h3, hV, HW.out, hcm]
          rfl
        have HF := Lib.hid hfin
        have HC := Lib.hid hcm
        have HV := Lib.hid hV
        clear hfin hV hcm
        have q6 : (c : Int) < 128 := by omega
        have hpar : (((U : Int) + (V : Int)) % 2 == 1) = true ∨ (((U : Int) + (V : Int)) % 2 == 1) = false := by
          cases (((U : Int) + (V : Int)) % 2 == 1) <;> simp
        have hk3 : (((k : Int) == 9) = true ∧ decide (0 < k) = true ∧ ((c : Int) == 0) = false ∧ ¬ ((1 : Int) < c)) ∨ (((k : Int) == 9) = false ∧ decide (0 < k) = true ∧ ((c : Int) == 0) = false) ∨ (((k : Int) == 9) = false ∧ decide (0 < k) = false) := by
          simp; omega
        have H3 := Lib.hid h3
        have H9 := Lib.hid h9
        clear h3 h9
        rcases hk3 with ⟨a1, a2, a3, a4⟩ | ⟨a1, a2, a3⟩ | ⟨a1, a2⟩
        all_goals
          rcases hpar with hp | hp
          all_goals
            go_wp2_with fail
            go_ret3
            have hF := HF.out
            unfold unzz at hF
            simp only [beq_iff_eq, beq_eq_false_iff_ne] at hp
            first
            | (have hp' : (U + V) % 2 = 1 := by omega
               rw [if_pos hp'] at hF
               refine got_eq ?_ hF
               omega)
            | (have hp' : ¬ (U + V) % 2 = 1 := by omega
               rw [if_neg hp'] at hF
               refine got_eq ?_ hF
               omega)
    · go_wp2_with fail
      go_ret3
      obtain rfl : k = l.length := by omega
      refine ⟨?_, rfl⟩
      rw [HR.out, hE, List.drop_length]
      simp [getGo]
set_option maxHeartbeats 1000000 in
theorem refGetText_any {w : World} (v : Value) (l : List Nat) (h : Rd w v l) (hb : ∀ c ∈ l, c < 256) (hl : l.length ≤ 4611686018427387904) (r : List Nat × Nat × Nat) (hr : r = getText l) :
    Calls Try.prog 24 #[v] w (GotT w r) := by
  have h2 := h
  obtain ⟨_, a, cap, rfl, hcap, h3⟩ := h
  have hf := getGo_facts l 0 0 (by omega) (by simp) hb
  unfold getText at hr
  have hG : get l = getGo l 0 0 := rfl
  rw [← hG] at hf
  have HT := Lib.hid h2
  clear h2
  generalize hg : get l = g at *
  obtain ⟨n, k, e⟩ := g
  simp only at hf hr
  have HR := Lib.hid hr
  have HGG := Lib.hid hg
  clear hr hG hg
  rcases hf with ⟨rfl, hk0, hkl, hk10, hn0, hn1⟩ | ⟨he, he2, rfl, rfl⟩
  · have hcase : n < 0 ∨ 65536 < n ∨ (0 ≤ n ∧ n ≤ 65536 ∧ ((l.length - k : Nat) : Int) < n) ∨ (0 ≤ n ∧ n ≤ 65536 ∧ n ≤ ((l.length - k : Nat) : Int)) := by omega
    rcases hcase with h4 | h4 | ⟨h4, h5, h6⟩ | ⟨h4, h5, h6⟩
    · go_enter Try.func24, Try.ntmps24
      go_wp2_with fail
      refine (refGet_any _ l HT.out hb (by omega) _ HGG.out.symm).mono ?_
      rintro e w' ⟨rfl, rfl⟩
      go_wp2_with fail
      go_ret3
      refine ⟨?_, rfl⟩
      rw [HR.out, if_neg (by simp), if_pos (.inl h4)]
      rfl
    · go_enter Try.func24, Try.ntmps24
      go_wp2_with fail
      refine (refGet_any _ l HT.out hb (by omega) _ HGG.out.symm).mono ?_
      rintro e w' ⟨rfl, rfl⟩
      go_wp2_with fail
      go_ret3
      refine ⟨?_, rfl⟩
      rw [HR.out, if_neg (by simp), if_pos (.inr h4)]
      rfl
    · have h7 : (l.length : Int) - k < n := by omega
      go_enter Try.func24, Try.ntmps24
      go_wp2_with fail
      refine (refGet_any _ l HT.out hb (by omega) _ HGG.out.symm).mono ?_
      rintro e w' ⟨rfl, rfl⟩
      go_wp2_with fail
      go_ret3
      refine ⟨?_, rfl⟩
      rw [HR.out, if_neg (by simp), if_neg (by omega), if_pos h6]
      rfl
    · obtain ⟨N, rfl⟩ := Int.eq_ofNat_of_zero_le h4
      have h7 : (N : Int) ≤ (l.length : Int) - k := by omega
      obtain ⟨sb, so, rfl, hsb, hat⟩ := h3 (by simp; omega)
      have hres : r = ((l.drop k).take N, k + N, 0) := by
        rw [HR.out, if_neg (by simp), if_neg (by omega), if_neg (by omega)]
        simp
      have HS := Lib.hid hres
      clear hat h3
      by_cases hkc : k = cap
      · have hN : N = 0 := by omega
        subst hN
        have hcv : ∀ (a : Option Addr) (c : Nat), Sem.run Try.prog (convert 22 9 (.slice a 0 c)) w = .ok (.string (toStr [])) w := fun a c =>
          Rd.str (P := Try.prog) (Rv.empty w 1 a c) (by simp) Try.underlying22 Try.underlying5 Try.underlying9
        go_enter Try.func24, Try.ntmps24
        go_wp2_with fail
        refine (refGet_any _ l HT.out hb (by omega) _ HGG.out.symm).mono ?_
        rintro e w' ⟨rfl, rfl⟩
        go_wp2_with fail
        go_ret3
        refine ⟨?_, rfl⟩
        rw [HS.out]
        simp [hkc]
      · have hsub : Rd w (.slice (some ⟨sb, so + k, none⟩) N (cap - k)) ((l.drop k).take N) := by
          have := HT.out.sub k N (cap - k) (by omega) (by omega)
          rw [bcs_part] at this
          have hlen : ((l.drop k).take N).length = N := by simp; omega
          unfold Rd
          rw [hlen]
          exact this
        have hcv := hsub.str (P := Try.prog) (src := 22) (dst := 9) (fun c hc => hb c (List.mem_of_mem_drop (List.mem_of_mem_take hc))) Try.underlying22 Try.underlying5 Try.underlying9
        go_enter Try.func24, Try.ntmps24
        go_wp2_with fail
        refine (refGet_any _ l HT.out hb (by omega) _ HGG.out.symm).mono ?_
        rintro e w' ⟨rfl, rfl⟩
        go_wp2_with fail
        go_ret3
        refine ⟨?_, rfl⟩
        rw [HS.out]
        simp
  · have q1 : ((e : Int) != 0) = true := by simp; omega
    go_enter Try.func24, Try.ntmps24
    go_wp2_with fail
    refine (refGet_any _ l HT.out hb (by omega) _ HGG.out.symm).mono ?_
    rintro e w' ⟨rfl, rfl⟩
    go_wp2_with fail
    go_ret3
    refine ⟨?_, rfl⟩
    rw [HR.out, if_pos he]
    rfl
end Go.Proofs.Ythknelejcedhnaa
