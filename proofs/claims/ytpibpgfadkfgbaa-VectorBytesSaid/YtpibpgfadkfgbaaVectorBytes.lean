/- The law VectorBytes: its walk. -/
import Derived.Test.YtpibpgfadkfgbaaVectorLaws
import Derived.Test.YtpibpgfadkfgbaaRefPut
import Derived.Test.YtpibpgfadkfgbaaShort
import Derived.Test.YtpibpgfadkfgbaaBump
import Derived.Laws.BitsAllLaws
namespace Go.Proofs.Ytpibpgfadkfgbaa
open Go.ChangeShapes Go.WideShapes Go.ChangeAt Go.RowKit
set_option linter.unusedVariables false
set_option linter.unusedSimpArgs false

set_option maxRecDepth 100000 in
set_option maxHeartbeats 4000000 in
theorem tells_any {w : World} (bv : Value) (l : List Nat) (h : Rd w bv l) (hb : ∀ c ∈ l, c < 256) (hl : l.length ≤ 1000000) :
    Calls Try.prog 24 #[bv] w fun e w' => e = .returned (.bool true) ∧ Keep [] w w' := by
  obtain ⟨_, ba, bcap, rfl, _, _⟩ := id h
  have hz6 : ∀ W, (Instr.build 24 #[]).run Try.prog W = .ok (vec fun _ => 0) W := fun W => run_build W _ _ _ (by kernel_rfl)
  have HD := Lib.hid (vDecode_any (w := w) (.slice ba l.length bcap) l h hb (by omega))
  go_enter Try.func24, Try.ntmps24
  go_wp2_with fail
  refine HD.out.mono ?_
  rintro e w1 hG
  clear HD
  obtain ⟨k1, ⟨⟨_, hv, hpl⟩, rfl⟩ | ⟨hn, rfl⟩⟩ := hG
  · generalize ofVals (getMany l 5).1 = V at *
    go_wp2_with fail
    have hVb : Blk (w1.alloc (.cells (v6 V).toArray 26)) w1.heap.size (v6 V) 26 := Blk.new _ _ _
    have kx : Keep [] w (w1.alloc (.cells (v6 V).toArray 26)) := k1.alloc _
    obtain ⟨wx, hwx⟩ : ∃ wx, wx = w1.alloc (.cells (v6 V).toArray 26) := ⟨_, rfl⟩
    change Code.wp _ _ _ _ (w1.alloc (.cells (v6 V).toArray 26))
    rw [← hwx] at hVb kx ⊢
    clear hwx k1
    generalize w1.heap.size = bx at *
    obtain ⟨c0, c1, c2, c3, c4, c5⟩ := v6_cells hVb.drew
    have hx := h.keep kx.drew (by simp)
    have hc0 := Rd.str (P := Try.prog) (dst := 9) hx hb Try.underlying33 Try.underlying5 Try.underlying9
    have HX := Lib.hid hx
    have HV := Lib.hid hv
    have HPL := Lib.hid hpl
    have HB := Lib.hid hb
    have HK := Lib.hid kx
    clear hv hpl hb h hx kx hVb
    go_region_with
      (first
        | (go_at_call 22; refine (vEncode_any V).mono ?_; rintro e w2 ⟨ev, rfl, k2, hcs⟩; have hcs2 := hcs.resolve_right (fun h => absurd HV.out h.1); have hbf := hcs2.2; rw [HPL.out] at hbf; have hc1 := Rd.str (P := Try.prog) (dst := 9) hbf.rd HB.out Try.underlying33 Try.underlying5 Try.underlying9; have hc2 := Rd.str (P := Try.prog) (dst := 9) (Rv.keep HX.out k2 (by simp)) HB.out Try.underlying33 Try.underlying5 Try.underlying9; obtain ⟨ea, ecap, rfl⟩ := hbf.slice; clear hcs hcs2 hbf)
        | fail)
    all_goals
      go_wp2_with fail
      go_ret
      exact ⟨rfl, HK.out.drew.trans k2⟩
  · have hz0 : (fun _ : Nat => (0 : Int)) 0 = 0 := rfl
    go_wp2_with fail
    refine (same_any (fun _ => 0) (fun _ => 0) true (vsame_self _).symm rfl rfl).mono ?_
    rintro e w2 ⟨rfl, k2⟩
    go_wp2_with fail
    go_ret
    exact ⟨rfl, (k1.alloc _).trans k2⟩

def wantN (F : Nat → Int) (j : Nat) : List Nat := putAll ((vnums F).take (j - 1))
def goodN (F : Nat → Int) : Nat → Bool
  | 0 => true
  | 1 => true
  | j + 2 => goodN F (j + 1) && decide (F (j + 1) ≤ 1099511627776)
theorem goodN_succ (F : Nat → Int) (j : Nat) (h : 1 ≤ j) : goodN F (j + 1) = (goodN F j && decide (F j ≤ 1099511627776)) := by
  obtain ⟨k, rfl⟩ : ∃ k, j = k + 1 := ⟨j - 1, by omega⟩
  rfl
theorem goodN_six (F : Nat → Int) (h0 : ∀ i, 0 ≤ F i) : goodN F 6 = true ↔ VOk F := by
  simp only [goodN, Bool.and_eq_true, decide_eq_true_eq, Bool.true_and, and_true]
  unfold VOk
  constructor
  · rintro ⟨⟨⟨⟨h1, h2⟩, h3⟩, h4⟩, h5⟩ i hi hi5
    have : i = 1 ∨ i = 2 ∨ i = 3 ∨ i = 4 ∨ i = 5 := by omega
    rcases this with rfl | rfl | rfl | rfl | rfl
    · exact ⟨h0 _, h1⟩
    · exact ⟨h0 _, h2⟩
    · exact ⟨h0 _, h3⟩
    · exact ⟨h0 _, h4⟩
    · exact ⟨h0 _, h5⟩
  · intro h
    exact ⟨⟨⟨⟨(h 1 (by omega) (by omega)).2, (h 2 (by omega) (by omega)).2⟩, (h 3 (by omega) (by omega)).2⟩, (h 4 (by omega) (by omega)).2⟩, (h 5 (by omega) (by omega)).2⟩
theorem wantN_succ (F : Nat → Int) (j : Nat) (h1 : 1 ≤ j) (h5 : j < 6) : wantN F (j + 1) = wantN F j ++ leb (zz (F j)) := by
  unfold wantN
  rw [← putAll_snoc]
  have : j = 1 ∨ j = 2 ∨ j = 3 ∨ j = 4 ∨ j = 5 := by omega
  rcases this with rfl | rfl | rfl | rfl | rfl <;> rfl
theorem vof_i64 (zs : List Int) (h : ∀ n ∈ zs, (Lit.int .i64 n).wf = true) (i : Nat) : -9223372036854775808 ≤ vof zs i ∧ vof zs i ≤ 9223372036854775807 := by
  unfold vof
  split
  · have hz : zs.getD (i - 1) 0 ≤ 9223372036854775807 := by
      rw [List.getD_eq_getElem?_getD]
      cases he : zs[i - 1]? with
      | none => simp
      | some x =>
        have := i64_wf (h x (List.mem_of_getElem? he))
        simp; omega
    omega
  · omega
set_option maxRecDepth 100000 in
set_option maxHeartbeats 8000000 in
theorem vectorBytes_walk (a0 : Option Addr) (len0 cap0 : Nat) (z0 : List Int) (at_ x : Int) (a3 : Option Addr) (len3 cap3 : Nat) (z3 : List Int) (w : World)
    (w0 : IsRow .i64 w a0 len0 cap0 z0) (_w1 : (Lit.int .i64 at_).wf = true) (_w2 : (Lit.int .u8 x).wf = true) (w3 : IsRow .u8 w a3 len3 cap3 z3) :
    Calls Try.prog 4 #[.slice a0 len0 cap0, .int .i64 at_, .int .u8 x, .slice a3 len3 cap3] w fun e w' => e = .returned (.bool true) ∧ Below w.heap.size w w' := by
  obtain ⟨i0, hi, hz0, hz1, hz2⟩ := info_parts Try.info8
  obtain ⟨hzl, hmax, hr, hwf⟩ := w0.rv
  obtain ⟨raw, hrl, hrm, hraw, hrb⟩ := w3.rd
  clear w0 w3
  generalize z0.take len0 = zs at *
  obtain rfl := hzl
  obtain rfl := hrl
  go_enter Try.func4, Try.ntmps4
  go_wp2_with fail
  refine (begun11 w).mono ?_
  rintro e w0 ⟨rfl, k0⟩
  go_wp2_with fail
  refine (vOf_any _ zs (hr.keep k0 (by simp)) (by omega)).mono ?_
  rintro e w1 ⟨rfl, k1⟩
  have K1 := k0.trans k1
  go_wp2_with fail
  have hV0 : Blk (w1.alloc (.cells (v6 (vof zs)).toArray 26)) w1.heap.size (v6 (vof zs)) 26 := Blk.new _ _ _
  have K2 : Keep [] w (w1.alloc (.cells (v6 (vof zs)).toArray 26)) := K1.alloc _
  refine (of_any _ zs (hr.keep K2 (by simp)) (by omega)).mono ?_
  rintro e w2 ⟨rfl, k2⟩
  have hV2 := hV0.keep k2 (by simp)
  have K3 := K2.trans k2
  have hlw1 := K1.size
  clear k0 k1 k2 K1 K2 hV0
  generalize w1.heap.size = bv at *
  have HF0 := Lib.hid (vof_zero zs)
  have HFn := Lib.hid (vof_nonneg zs)
  have HFi := Lib.hid (vof_i64 zs hwf)
  generalize vof zs = F at *
  go_wp2_with fail
  have hX : Blk (w2.alloc (.cells (v6 F).toArray 24)) w2.heap.size (v6 F) 24 := Blk.new _ _ _
  have hV := hV2.alloc (.cells (v6 F).toArray 24)
  have K4 := K3.alloc (.cells (v6 F).toArray 24)
  obtain ⟨w4, hw4⟩ : ∃ W, W = w2.alloc (.cells (v6 F).toArray 24) := ⟨_, rfl⟩
  change Code.wp _ _ _ _ (w2.alloc (.cells (v6 F).toArray 24))
  rw [← hw4] at hX hV K4 ⊢
  clear hw4 hV2 K3
  generalize w2.heap.size = bx at *
  go_loopw [12, 13, 14] (fun wv gv i wr => ∃ j : Nat, 1 ≤ j ∧ j ≤ 6 ∧ i = .int .i64 j ∧ gv = .bool (goodN F j) ∧ Buf wr w4.heap.size 5 wv (wantN F j) ∧ Keep [] w4 wr ∧ (wantN F j).length ≤ 10 * j) (fun _ _ i _ => 6 - (intOf i).toNat)
  case atStart => exact ⟨1, by omega, by omega, rfl, rfl, Buf.nil _ _ _, Keep.refl _ _, by simp [wantN, putAll]⟩
  case round =>
    obtain ⟨j, hj1, hj6, rfl, rfl, hB, hKr, hlen⟩ := hrel
    by_cases hj : j < 6
    · have q1 : (j : Int) < 6 := by omega
      have q2 : (0 : Int) ≤ j := by omega
      have cX := (hX.keep hKr (by simp)).cell j
      rw [v6_at _ _ hj] at cX
      obtain ⟨wa, wcap, rfl⟩ := hB.slice
      have hws := wantN_succ F j hj1 hj
      have hgs := goodN_succ F j hj1
      have hz : decide (F j ≤ (1099511627776 : Int)) = true ∨ decide (F j ≤ (1099511627776 : Int)) = false := by cases decide (F j ≤ (1099511627776 : Int)) <;> simp
      generalize hgb : goodN F j = gb at *
      have HWS := Lib.hid hws
      have HGS := Lib.hid hgs
      clear hws hgs hgb
      have hgb : gb = false ∨ (gb = true ∧ decide (F j ≤ (1099511627776 : Int)) = true) ∨ (gb = true ∧ decide (F j ≤ (1099511627776 : Int)) = false) := by
        cases gb
        · exact .inl rfl
        · exact .inr (hz.imp (fun h => ⟨rfl, h⟩) (fun h => ⟨rfl, h⟩))
      clear hz
      rcases hgb with rfl | ⟨rfl, hz⟩ | ⟨rfl, hz⟩
      all_goals
        go_wp2_with fail
        refine (refPut_any (F j) (HFi.out j).1 (HFi.out j).2).mono ?_
        rintro e w5 ⟨pv, rfl, hO⟩
        have k5 : Keep [] wr w5 := hO.keep.mono (by intro k hk _; have e : (none : Option Nat) = some k := Option.mem_toList.1 hk; cases e)
        have hB5 := hB.keep k5 (by simp)
        have hpl := leb_len 10 (zz (F j)) (by have := HFi.out j; unfold zz; split <;> omega) (by omega)
        have cX5 := (hX.keep (hKr.trans k5) (by simp)).cell j
        rw [v6_at _ _ hj] at cX5
        clear cX
        obtain ⟨pa, pcap, rfl⟩ := hO.buf.slice
        have hsrc := Rd.src hO.buf.rd Try.underlying33
        have hsz5 : w4.heap.size ≤ w5.heap.size := by have := hKr.size; have := k5.size; omega
        have hBX := hX.keep (hKr.trans k5) (by simp)
        have hne : ∀ y, (Value.slice wa (wantN F j).length wcap).ownBlock = some y → y ≠ bx := fun y e => by have := (hB.lt _ e).1; have := hX.lt; omega
        go_wp2_with (at_builtin; refine wpList_append_src _ rfl _ _ 33 33 rfl w4.heap.size 5 i0 (.int .u8 0) 1 1 Try.underlying33 hi hz0 hz1 hz2 rfl (by decide) _ _ _ rfl hB5 _ _ _ rfl hsrc (by unfold maxLen; omega) (by omega) hsz5 ?_; intro v1 w6 h1 h2 h4 h3; have cX6 := (hBX.keep (Keep.grown h2) (by intro hm; exact hne _ (Option.mem_toList.1 hm) rfl)).cell j; rw [v6_at _ _ hj] at cX6)
        have hk6 := Keep.grown h2
        go_roundw
        case rel =>
          refine ⟨j + 1, by omega, by omega, by go_num, by rw [HGS.out]; first | rfl | rw [hz]; rfl, ?_, (hKr.trans k5).then hk6 ?_, by rw [HWS.out, List.length_append]; omega⟩
          · rw [HWS.out]
            unfold Buf
            rw [List.length_append, bcs_append]
            exact h1
          · intro y hy hlt
            have e : (Value.slice wa (wantN F j).length wcap).ownBlock = some y := Option.mem_toList.1 hy
            have := (hB.lt _ e).1
            omega
        case measure => simp [intOf]; omega
    · obtain rfl : j = 6 := by omega
      have hbk : ∀ h : VOk F, _ := fun h => vec_back h
      have hL : wantN F 6 = putAll (vnums F) := rfl
      rw [hL] at hB hlen
      have hLb := putAll_byte (vnums F)
      have hG := goodN_six F HFn.out
      have hE := fun W => vEncode_any (w := W) F
      have hon : ofVals (vnums F) = vcut F := ofVals_nums F
      have hLp : 0 < (putAll (vnums F)).length := by
        have := leb_ne (zz (F 1))
        unfold vnums
        rw [putAll_cons', List.length_append]
        cases hx : leb (zz (F 1)) with
        | nil => exact absurd hx this
        | cons _ _ => simp; omega
      have HLP := Lib.hid hLp
      clear hLp
      generalize hLL : putAll (vnums F) = L at *
      have HG := Lib.hid hG
      have HE := Lib.hid hE
      have HLB := Lib.hid hLb
      clear hG hE hLL hL hLb
      generalize goodN F 6 = gd at *
      have hVr := hV.keep hKr (by simp)
      have hXr := hX.keep hKr (by simp)
      have Kr := K4.trans hKr
      have hszr := hKr.size
      have hlx := hX.lt
      obtain ⟨wa, wcap, rfl⟩ := hB.slice
      obtain ⟨c0, c1, c2, c3, c4, c5⟩ := v6_cells hVr
      clear hV hX hKr K4
      by_cases hok : VOk F
      · obtain rfl : gd = true := HG.out.2 hok
        have hb := hbk hok
        obtain ⟨hb1, hb2⟩ := hb
        have hb3 : ofVals (getMany L 5).1 = vcut F := by rw [hb1]; exact hon
        have HOK := Lib.hid hok
        have HB1 := Lib.hid hb3
        clear hb3 hon
        have HB2 := Lib.hid hb2
        clear hb1 hb2 hok hbk
        go_wp2_with fail
        refine (HE.out wr).mono ?_
        rintro e w5 ⟨ev, rfl, k5, hcs⟩
        have hbf := (hcs.resolve_right (fun h => absurd HOK.out h.1)).2
        clear hcs
        obtain ⟨ea, ecap, rfl⟩ := hbf.slice
        have hX5 := hXr.keep k5 (by simp)
        have hB5 := hB.keep k5 (by simp)
        have K5 := Kr.trans k5
        clear c0 c1 c2 c3 c4 c5
        go_wp2_with fail
        refine (vDecode_any _ L hbf.rd HLB.out (by omega)).mono ?_
        rintro e w6 ⟨k6, ⟨_, rfl⟩ | ⟨hn, _⟩⟩
        case inr => exact absurd HB2.out hn
        rw [HB1.out]
        have hb6 := hbf.keep k6 (by simp)
        have hw6 := hB5.keep k6 (by simp)
        have hX6 := hX5.keep k6 (by simp)
        have K6 := K5.trans k6
        have hcv1 : Sem.run Try.prog (convert 33 9 (.slice ea L.length ecap)) (w6.alloc (.cells #[.int .i64 (vcut F 0), .int .i64 (vcut F 1), .int .i64 (vcut F 2), .int .i64 (vcut F 3), .int .i64 (vcut F 4), .int .i64 (vcut F 5)] 26)) = .ok (.string (toStr L)) (w6.alloc (.cells #[.int .i64 (vcut F 0), .int .i64 (vcut F 1), .int .i64 (vcut F 2), .int .i64 (vcut F 3), .int .i64 (vcut F 4), .int .i64 (vcut F 5)] 26)) := Rd.str (P := Try.prog) (hb6.rd.alloc _) HLB.out Try.underlying33 Try.underlying5 Try.underlying9
        have hcv2 : Sem.run Try.prog (convert 33 9 (.slice wa L.length wcap)) (w6.alloc (.cells #[.int .i64 (vcut F 0), .int .i64 (vcut F 1), .int .i64 (vcut F 2), .int .i64 (vcut F 3), .int .i64 (vcut F 4), .int .i64 (vcut F 5)] 26)) = .ok (.string (toStr L)) (w6.alloc (.cells #[.int .i64 (vcut F 0), .int .i64 (vcut F 1), .int .i64 (vcut F 2), .int .i64 (vcut F 3), .int .i64 (vcut F 4), .int .i64 (vcut F 5)] 26)) := Rd.str (P := Try.prog) (hw6.rd.alloc _) HLB.out Try.underlying33 Try.underlying5 Try.underlying9
        have hU : Blk (w6.alloc (.cells #[.int .i64 (vcut F 0), .int .i64 (vcut F 1), .int .i64 (vcut F 2), .int .i64 (vcut F 3), .int .i64 (vcut F 4), .int .i64 (vcut F 5)] 26)) w6.heap.size (v6 (vcut F)) 26 := Blk.new _ _ _
        have hX7 := hX6.alloc (.cells #[.int .i64 (vcut F 0), .int .i64 (vcut F 1), .int .i64 (vcut F 2), .int .i64 (vcut F 3), .int .i64 (vcut F 4), .int .i64 (vcut F 5)] 26)
        have hb7 := hb6.alloc (.cells #[.int .i64 (vcut F 0), .int .i64 (vcut F 1), .int .i64 (vcut F 2), .int .i64 (vcut F 3), .int .i64 (vcut F 4), .int .i64 (vcut F 5)] 26)
        have K7 := K6.alloc (.cells #[.int .i64 (vcut F 0), .int .i64 (vcut F 1), .int .i64 (vcut F 2), .int .i64 (vcut F 3), .int .i64 (vcut F 4), .int .i64 (vcut F 5)] 26)
        have hsame : true = vsame (vcut F) F := ((vsame_iff _ _).2 (fun i h1 h2 => by unfold vcut; rw [if_pos ⟨h1, h2⟩])).symm
        have hu0 : vcut F 0 = 0 := by unfold vcut; rw [if_neg (by omega)]
        have HSM := Lib.hid hsame
        have HU0 := Lib.hid hu0
        clear hsame hu0 hB5 hX5 hbf hb6 hw6 hX6 K5 K6 k5 k6
        generalize vcut F = U at *
        obtain ⟨wy, hwy⟩ : ∃ wy, wy = w6.alloc (.cells #[.int .i64 (U 0), .int .i64 (U 1), .int .i64 (U 2), .int .i64 (U 3), .int .i64 (U 4), .int .i64 (U 5)] 26) := ⟨_, rfl⟩
        rw [← hwy] at hU hX7 hb7 K7
        obtain ⟨c0, c1, c2, c3, c4, c5⟩ := v6_cells hU
        obtain ⟨d0, d1, d2, d3, d4, d5⟩ := v6_cells hX7
        rw [hwy] at c0 c1 c2 c3 c4 c5 d0 d1 d2 d3 d4 d5
        go_wp2_with fail
        rw [← hwy]
        refine (same_any U F true HSM.out HU0.out HF0.out).mono ?_
        rintro e w8 ⟨rfl, k8⟩
        have hb8 := hb7.keep k8 (by simp)
        have K8 := K7.trans k8
        clear hcv1 hcv2 c0 c1 c2 c3 c4 c5 d0 d1 d2 d3 d4 d5 hU hX7 hb7 K7 k8 hwy
        have hsrc := Rd.src hb8.rd Try.underlying33
        have hLl : L.length ≤ 60 := hlen
        have hRAW := fun W => Short_any (w := W) (.slice a3 raw.length cap3) raw 30
        have hszK := K8.size
        have hL0 : 0 < L.length := HLP.out
        by_cases hat : at_ < 0
        · have p1 : decide ((0 : Int) ≤ at_) = false := decide_eq_false (by omega)
          go_wp2_with (at_builtin; refine wpList_append_src _ rfl _ _ 33 33 rfl w8.heap.size 5 i0 (.int .u8 0) 1 1 Try.underlying33 hi hz0 hz1 hz2 rfl (by decide) _ 0 [] rfl (Buf.nil _ _ _) _ _ _ rfl hsrc (by unfold maxLen; omega) (by omega) (Nat.le_refl _) ?_; intro v1 w9 h1 h2 h4 h3)
          have hC : Buf w9 w8.heap.size 5 v1 L := by
            unfold Buf
            have := h1
            rwa [List.nil_append, Nat.zero_add] at this
          have K9 : Keep [] w w9 := K8.trans ((Keep.grown h2).mono (by intro y hy _; cases hy))
          clear h1 h2 h3 h4
          refine (tells_any v1 L hC.rd HLB.out (by omega)).mono ?_
          rintro e w10 ⟨rfl, k10⟩
          have K10 := K9.trans k10
          have hr10 := hraw.keep K10 (by simp)
          go_wp2_with fail
          refine (Short_any _ raw 30 hr10 (by omega) (by omega)).mono ?_
          rintro e w11 ⟨v', rfl, rfl, hr11, ho⟩
          go_wp2_with fail
          refine (tells_any v' _ hr11 (fun c hc => hrb c (List.mem_of_mem_take hc)) (by simp; omega)).mono ?_
          rintro e w12 ⟨rfl, k12⟩
          go_wp2_with fail
          go_ret
          exact ⟨rfl, (K10.trans k12).below⟩
        · have p1 : decide ((0 : Int) ≤ at_) = true := decide_eq_true (by omega)
          obtain ⟨A, rfl⟩ : ∃ A : Nat, at_ = (A : Int) := ⟨at_.toNat, by omega⟩
          have hxw : 0 ≤ x ∧ x < 256 := by
            have := _w2
            simp [Lit.wf, IntKind.min, IntKind.max, IntKind.signed, IntKind.bits] at this
            omega
          obtain ⟨y, rfl⟩ : ∃ y : Nat, x = (y : Int) := ⟨x.toNat, by omega⟩
          have hy : y < 256 := by omega
          obtain ⟨j, hj⟩ : ∃ j, j = A % L.length := ⟨_, rfl⟩
          have hjl : j < L.length := by rw [hj]; exact Nat.mod_lt _ hL0
          have hrem : (A : Int).tmod (L.length : Int) = (j : Int) := by rw [Int.tmod_eq_emod_of_nonneg (by omega), hj]; omega
          have hne0 : ((L.length : Int) == 0) = false := by simpa using (by omega : ¬ (L.length : Int) = 0)
          clear hj
          obtain ⟨o, ho⟩ : ∃ o, o = L.getD j 0 := ⟨_, rfl⟩
          have ho8 : o < 256 := by
            rw [ho, List.getD_eq_getElem?_getD, List.getElem?_eq_getElem hjl]
            exact HLB.out _ (List.getElem_mem hjl)
          have hxor := u8_xor_nat o y ho8 hy
          have hr256 : o ^^^ y < 256 := Nat.xor_lt_two_pow (n := 8) (by omega) (by omega)
          generalize o ^^^ y = r at *
          have HO := Lib.hid ho
          clear ho
          have q3 : (j : Int) < L.length := by omega
          go_wp2_with (at_builtin; refine wpList_append_src _ rfl _ _ 33 33 rfl w8.heap.size 5 i0 (.int .u8 0) 1 1 Try.underlying33 hi hz0 hz1 hz2 rfl (by decide) _ 0 [] rfl (Buf.nil _ _ _) _ _ _ rfl hsrc (by unfold maxLen; omega) (by omega) (Nat.le_refl _) ?_; intro v1 w9 h1 h2 h4 h3; have hC : Buf w9 w8.heap.size 5 v1 L := (by rw [List.nil_append, Nat.zero_add] at h1; exact h1); have K9 : Keep [] w w9 := K8.trans ((Keep.grown h2).mono (by intro z hz _; cases hz)); obtain ⟨g, ccap, rfl, _, hg1, hg2⟩ := hC.at' hL0; obtain ⟨b1, b2, b3, b4⟩ := hC.bump rfl j hjl r; rw [← HO.out] at b1; clear h1 h2 h3 h4)
          have hb3r : Rd (w9.setCell ⟨g, j, none⟩ (.int .u8 (r : Int))) (.slice (some ⟨g, 0, none⟩) L.length ccap) (L.set j r) := b3.rd
          have hK9 : Keep [] w (w9.setCell ⟨g, j, none⟩ (.int .u8 (r : Int))) := K9.then b4 (by intro z hz hlt; simp at hz; omega)
          have hsl : (L.set j r).length = L.length := List.length_set
          refine (tells_any _ (L.set j r) hb3r (set_byte L j r HLB.out hr256) (by rw [hsl]; omega)).mono ?_
          rintro e w10 ⟨rfl, k10⟩
          have K10 := hK9.trans k10
          have hr10 := hraw.keep K10 (by simp)
          go_wp2_with fail
          refine (Short_any _ raw 30 hr10 (by omega) (by omega)).mono ?_
          rintro e w11 ⟨v', rfl, rfl, hr11, ho⟩
          go_wp2_with fail
          refine (tells_any v' _ hr11 (fun c hc => hrb c (List.mem_of_mem_take hc)) (by simp; omega)).mono ?_
          rintro e w12 ⟨rfl, k12⟩
          go_wp2_with fail
          go_ret
          exact ⟨rfl, (K10.trans k12).below⟩
      · obtain rfl : gd = false := by
          cases gd with
          | false => rfl
          | true => exact absurd (HG.out.1 rfl) hok
        go_wp2_with fail
        refine (HE.out wr).mono ?_
        rintro e w5 ⟨ev, rfl, k5, hcs⟩
        obtain ⟨_, rfl⟩ := hcs.resolve_left (fun h => absurd h.1 hok)
        go_wp2_with fail
        go_ret
        exact ⟨rfl, (Kr.trans k5).below⟩
end Go.Proofs.Ytpibpgfadkfgbaa
