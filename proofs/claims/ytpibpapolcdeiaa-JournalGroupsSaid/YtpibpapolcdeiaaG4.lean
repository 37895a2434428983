/- Sl4c, Sl5, Sl6 -/
import Derived.Test.YtpibpapolcdeiaaG2
import Derived.Test.YtpibpapolcdeiaaG3
/- slog: a sector is taken: it is the next one. -/
namespace Go.Proofs.Ytpibpapolcdeiaa
open Go.ChangeShapes Go.WideShapes Go.ChangeAt Go.RowKit
set_option linter.unusedVariables false
set_option linter.unusedSimpArgs false
set_option maxRecDepth 100000

set_option maxHeartbeats 8000000 in
theorem take_ok {w : World} {p xb xc gen0 base0 : Nat} {run0 : Int} {vb vr : Value} {buf X : List Nat} {SN FN GN RN BN i0 cl i : Nat} (hF : Fld X SN FN GN RN BN i0 cl) (hxc : 64 ≤ xc) (hs0 : Blk w p (sgC gen0 base0 run0 vb vr) 80) (hB0 : Buf w 0 5 vb buf) (hX0 : Buf w 0 5 (.slice (some ⟨xb, 0, none⟩) 64 xc) X)
    (hi : i < 8) (gen2 base2 : Nat) (h2 : (i = 0 ∧ gen2 = GN ∧ base2 = BN) ∨ (0 < i ∧ gen2 = gen0 ∧ base2 = base0)) (hok : SN = FN) (hg2 : GN = gen2) (hrun : run0 ≤ (RN : Int)) (hi0 : i = i0) (hcw : cl ≤ sgW i) (hbl : buf.length = st0 i) (hne : ∀ q, vb.ownBlock = some q → q ≠ xb) :
    Calls Try.prog 43 #[.pointer (some ⟨p, 0, none⟩), .int .i64 (i : Int), .slice (some ⟨xb, 0, none⟩) 64 xc] w fun e w' => e = .returned (.bool true) ∧ ∃ vb' : Value, Blk w' p (sgC gen2 base2 RN vb' vr) 80 ∧ Buf w' 0 5 vb' (buf ++ sgPart X i cl) ∧ (∀ k, vb'.ownBlock = some k → vb.ownBlock = some k ∨ w.heap.size ≤ k) ∧ Keep (p :: vb.ownBlock.toList) w w' := by
  have Q26 : Hid (decide ((RN : Int) < run0) = false) := Lib.hid (decide_eq_false (by omega))
  have Q43 : Hid (decide (sgW i < cl) = false ∧ decide ((sgW i : Int) < (cl : Int)) = false) := Lib.hid ⟨decide_eq_false (by omega), decide_eq_false (by omega)⟩
  have Q53 : Hid (((buf.length : Int) != (st0 i : Int)) = false ∧ (buf.length != st0 i) = false) := Lib.hid ⟨by simp; omega, by simp; omega⟩
  have HBLI := Lib.hid hbl
  have HCW := Lib.hid hcw
  subst hok hi0
  subst hg2
  clear hrun hcw hbl
  obtain ⟨i8, hi8, hz80, hz81, hz82⟩ := info_parts Try.info8
  obtain ⟨hl64, hby, hSN, hFN, hGN, hRN, hBN, hi14, hc15⟩ := hF
  obtain ⟨ba, bcap, rfl⟩ := hB0.slice
  have HRD : Hid (∀ W : World, Buf W 0 5 (.slice (some ⟨xb, 0, none⟩) 64 xc) X → Rv W 1 (.slice (some ⟨xb, 0, none⟩) 64 xc) 64 (bcs X)) := Lib.hid (fun W h => by have := h.rd; unfold Rd at this; rw [hl64] at this; exact this)
  obtain ⟨S410, hC410, hS410, _⟩ := cutE_both (P := Try.prog) 30 5 i8 Try.underlying30 hi8 hz81 (some ⟨xb, 0, none⟩) 64 xc (bcs X) 4 10 4 10 rfl rfl (by omega) (by omega) hxc
  obtain ⟨S1014, hC1014, hS1014, _⟩ := cutE_both (P := Try.prog) 30 5 i8 Try.underlying30 hi8 hz81 (some ⟨xb, 0, none⟩) 64 xc (bcs X) 10 14 10 14 rfl rfl (by omega) (by omega) hxc
  obtain ⟨S4, hC4, hS4, _⟩ := cutE_lo (P := Try.prog) 30 5 i8 Try.underlying30 hi8 hz81 (some ⟨xb, 0, none⟩) 64 xc (bcs X) 4 4 rfl (by omega)
  obtain ⟨S04, hC04, hS04, _⟩ := cutE_hi (P := Try.prog) 30 5 i8 Try.underlying30 hi8 hz81 (some ⟨xb, 0, none⟩) 64 xc (bcs X) 4 4 rfl (by omega) hxc
  obtain ⟨T0, hC16, hT0, hT0o⟩ := cutE_lo (P := Try.prog) 30 5 i8 Try.underlying30 hi8 hz81 (some ⟨xb, 0, none⟩) 64 xc (bcs X) 16 16 rfl (by omega)
  have bdr : ∀ k, (bcs X).drop k = bcs (X.drop k) := bcsD X
  have btk : ∀ k, (bcs X).take k = bcs (X.take k) := bcsT X
  have HS410 : Hid (∀ W : World, Rv W 1 (.slice (some ⟨xb, 0, none⟩) 64 xc) 64 (bcs X) → Rv W 1 S410 6 (bcs ((X.drop 4).take 6))) := Lib.hid (fun W h => by have := hS410 W h; rw [bcs_part] at this; exact this)
  have HS1014 : Hid (∀ W : World, Rv W 1 (.slice (some ⟨xb, 0, none⟩) 64 xc) 64 (bcs X) → Rv W 1 S1014 4 (bcs ((X.drop 10).take 4))) := Lib.hid (fun W h => by have := hS1014 W h; rw [bcs_part] at this; exact this)
  have HS4 : Hid (∀ W : World, Rv W 1 (.slice (some ⟨xb, 0, none⟩) 64 xc) 64 (bcs X) → Rv W 1 S4 60 (bcs (X.drop 4))) := Lib.hid (fun W h => by have := hS4 W h; rw [bdr] at this; exact this)
  obtain ⟨_, s4a, s4c, hs4e, _, _⟩ := id (HS4.out w (HRD.out w hX0))
  subst hs4e
  have HS04 : Hid (∀ W : World, Rv W 1 (.slice (some ⟨xb, 0, none⟩) 64 xc) 64 (bcs X) → Rv W 1 S04 4 (bcs (X.take 4))) := Lib.hid (fun W h => by have := hS04 W h; rw [btk] at this; exact this)
  have HT0 : Hid (∀ W : World, Rv W 1 (.slice (some ⟨xb, 0, none⟩) 64 xc) 64 (bcs X) → Rv W 1 T0 48 (bcs (X.drop 16))) := Lib.hid (fun W h => by have := hT0 W h; rw [bdr] at this; exact this)
  obtain ⟨_, ta, tcap, hte, htc, _⟩ := id (HT0.out w (HRD.out w hX0))
  subst hte
  have bd16 : ∀ k, (bcs (X.drop 16)).drop k = bcs ((X.drop 16).drop k) := bcsD _
  have bt16 : ∀ k, (bcs (X.drop 16)).take k = bcs ((X.drop 16).take k) := bcsT _
  obtain ⟨T6, hCT6, hT6, _⟩ := cutE_hi (P := Try.prog) 30 5 i8 Try.underlying30 hi8 hz81 ta 48 tcap (bcs (X.drop 16)) 6 6 rfl (by omega) htc
  obtain ⟨T6b, hCT6b, hT6b, hT6bo⟩ := cutE_lo (P := Try.prog) 30 5 i8 Try.underlying30 hi8 hz81 ta 48 tcap (bcs (X.drop 16)) 6 6 rfl (by omega)
  have HT6 : Hid (∀ W : World, Rv W 1 (.slice ta 48 tcap) 48 (bcs (X.drop 16)) → Rv W 1 T6 6 (bcs ((X.drop 16).take 6))) := Lib.hid (fun W h => by have := hT6 W h; rw [bt16] at this; exact this)
  have HT6b : Hid (∀ W : World, Rv W 1 (.slice ta 48 tcap) 48 (bcs (X.drop 16)) → Rv W 1 T6b 42 (bcs (X.drop 22))) := Lib.hid (fun W h => by have := hT6b W h; rw [bd16, List.drop_drop] at this; exact this)
  obtain ⟨_, tb, tcb, htbe, _, _⟩ := id (HT6b.out w (HT0.out w (HRD.out w hX0)))
  subst htbe
  have HC410 := Lib.hid hC410
  have HC4 := Lib.hid hC4
  have HC04 := Lib.hid hC04
  have HCT6 := Lib.hid hCT6
  have HCT6b := Lib.hid hCT6b
  have HTO := Lib.hid (show (Value.slice ta 48 tcap).ownBlock = some xb ∧ (Value.slice tb 42 tcb).ownBlock = some xb from ⟨hT0o, hT6bo.trans hT0o⟩)
  have hsub : ∀ (Y : List Nat), (∀ c ∈ Y, c ∈ X) → ∀ c ∈ Y, c < 256 := fun Y h c hc => hby c (h c hc)
  have HYg : Hid (∀ c ∈ (X.drop 4).take 6, c < 256) := Lib.hid (fun c hc => hby c (List.mem_of_mem_drop (List.mem_of_mem_take hc)))
  have HYr : Hid (∀ c ∈ (X.drop 10).take 4, c < 256) := Lib.hid (fun c hc => hby c (List.mem_of_mem_drop (List.mem_of_mem_take hc)))
  have HYb : Hid (∀ c ∈ (X.drop 16).take 6, c < 256) := Lib.hid (fun c hc => hby c (List.mem_of_mem_drop (List.mem_of_mem_take hc)))
  have HYd : Hid (∀ c ∈ X.drop 4, c < 256) := Lib.hid (fun c hc => hby c (List.mem_of_mem_drop hc))
  have HYf : Hid (∀ c ∈ X.take 4, c < 256) := Lib.hid (fun c hc => hby c (List.mem_of_mem_take hc))
  have HLg : Hid (((X.drop 4).take 6).length = 6) := Lib.hid (by rw [List.length_take, List.length_drop]; omega)
  have HLr : Hid (((X.drop 10).take 4).length = 4) := Lib.hid (by rw [List.length_take, List.length_drop]; omega)
  have HLb : Hid (((X.drop 16).take 6).length = 6) := Lib.hid (by rw [List.length_take, List.length_drop]; omega)
  have HL4 : Hid ((X.drop 4).length = 60) := Lib.hid (by rw [List.length_drop]; omega)
  have HLf : Hid ((X.take 4).length = 4) := Lib.hid (by rw [List.length_take]; omega)
  have hgn : GN < 281474976710656 := by rw [hGN]; exact unbe_le _ 6 (by rw [HLg.out]; omega) HYg.out
  have hrn : RN < 4294967296 := by rw [hRN]; exact unbe_le _ 4 (by rw [HLr.out]; omega) HYr.out
  have hbn : BN < 281474976710656 := by rw [hBN]; exact unbe_le _ 6 (by rw [HLb.out]; omega) HYb.out
  have hsn : SN < 4294967296 := by rw [hSN]; exact sumLt _ HYd.out
  have hcl : cl < 256 := by
    rw [hc15, List.getD_eq_getElem?_getD, List.getElem?_eq_getElem (by omega)]
    exact hby _ (List.getElem_mem _)
  have HGN := Lib.hid hGN
  have HRN := Lib.hid hRN
  have HBN := Lib.hid hBN
  have HSN := Lib.hid hSN
  have HFN := Lib.hid hFN
  have HWGN : Hid (IntKind.i64.wrap (GN : Int) = (GN : Int)) := Lib.hid (by rw [IntKind.wrap_i64]; omega)
  have HWBN : Hid (IntKind.i64.wrap (BN : Int) = (BN : Int)) := Lib.hid (by rw [IntKind.wrap_i64]; omega)
  have HWSN : Hid (IntKind.u64.wrap (SN : Int) = (SN : Int)) := Lib.hid (by simp [IntKind.wrap, IntKind.bits, IntKind.signed]; omega)
  have HWcl : Hid (IntKind.i64.wrap (cl : Int) = (cl : Int)) := Lib.hid (by rw [IntKind.wrap_i64]; omega)
  have HWi : Hid (IntKind.i64.wrap (i : Int) = (i : Int)) := Lib.hid (by rw [IntKind.wrap_i64]; omega)
  have HCL := Lib.hid hcl
  have HI8 := Lib.hid hi
  have H14 : Hid (∀ W : World, Buf W 0 5 (.slice (some ⟨xb, 0, none⟩) 64 xc) X → W.cell? ⟨xb, 14, none⟩ = some (.int .u8 (i : Int))) := Lib.hid (fun W h => by
    have h1 := (h.own.cell (n := 64) (by rw [bcs_length, hl64]) 14 (by omega)).1
    rw [h1, bcs_at X 14 (by omega), ← hi14]
    rfl)
  have H15 : Hid (∀ W : World, Buf W 0 5 (.slice (some ⟨xb, 0, none⟩) 64 xc) X → W.cell? ⟨xb, 15, none⟩ = some (.int .u8 (cl : Int))) := Lib.hid (fun W h => by
    have h1 := (h.own.cell (n := 64) (by rw [bcs_length, hl64]) 15 (by omega)).1
    rw [h1, bcs_at X 15 (by omega), ← hc15]
    rfl)
  have HXP : Hid (∀ q, (Value.slice (some ⟨xb, 0, none⟩) 64 xc).ownBlock = some q → q ∉ [p]) := Lib.hid (fun q hq hm => by
    simp only [List.mem_singleton] at hm
    subst hm
    exact (hX0.ty' _ hq).ne hs0.ty (by decide) rfl)
  have HBP : Hid (∀ q, (Value.slice ba buf.length bcap).ownBlock = some q → q ∉ [p]) := Lib.hid (fun q hq hm => by
    simp only [List.mem_singleton] at hm
    subst hm
    exact (hB0.ty' _ hq).ne hs0.ty (by decide) rfl)
  have H2 := Lib.hid h2
  clear hC410 hC4 hC04 hCT6 hCT6b hS410 hS1014 hS4 hS04 hT0 hT6 hT6b bdr btk bd16 bt16 hGN hRN hBN hSN hFN hi14 hc15 h2 hT0o hT6bo htc hsub hi
  go_enter Try.func43, Try.ntmps43
  go_upto_if 12 with fail
  go_cut [7] (fun s7 wc => ∃ ta tcap, s7 = .slice ta (sgW i) tcap ∧ (Value.slice ta (sgW i) tcap).ownBlock = some xb ∧ Rv wc 1 (.slice ta (sgW i) tcap) (sgW i) (bcs (X.drop (64 - sgW i))) ∧ Blk wc p (sgC GN base2 run0 (.slice ba buf.length bcap) vr) 80 ∧ Buf wc 0 5 (.slice (some ⟨xb, 0, none⟩) 64 xc) X ∧ Buf wc 0 5 (.slice ba buf.length bcap) buf ∧ Keep [p] w wc)
  case first =>
    rcases H2.out with ⟨h0, eg, eb⟩ | ⟨h0, eg, eb⟩
    · subst h0
      have EG := Lib.hid eg
      have EB := Lib.hid eb
      clear eg eb
      have HW42 : Hid (sgW 0 = 42) := Lib.hid rfl
      clear hC16
      go_wp2_with fail
      refine wp_region_inv (takeJ3 w p xb xc tcap GN BN run0 (.slice ba buf.length bcap) vr S410 T6 ta buf X) (by kernel_rfl) (by kernel_rfl) (by kernel_rfl) ?_ (Steps.cons 0 ?_ (Steps.cons 1 ?_ (Steps.cons 2 ?_ (Steps.cons 3 ?_ (Steps.cons 4 ?_ (Steps.cons 5 ?_ (Steps.cons 6 ?_ (Steps.cons 7 ?_ (Steps.cons 8 ?_ (Steps.cons 9 ?_ (Steps.cons 10 ?_ (Steps.cons 11 ?_ (Steps.cons 12 ?_ (Steps.cons 13 ?_ (Steps.cons 14 ?_ (Steps.cons 15 ?_ (Steps.nil 16))))))))))))))))) 16 rfl ?_
      · intro x
        exact ⟨_, _, hs0.drew, fun h => absurd h (by decide), fun h => absurd h (by decide), hX0.keep (Keep.refl [] _).drew (by simp), hB0.keep (Keep.refl [] _).drew (by simp), (Keep.refl _ _).drew, fun h => absurd h (by decide), fun h => absurd h (by decide), fun h => absurd h (by decide), fun h => absurd h (by decide), fun h => absurd h (by decide), fun h => absurd h (by decide), fun h => absurd h (by decide), fun h => absurd h (by decide), fun h => absurd h (by decide), fun h => absurd h (by decide), fun h => absurd h (by decide), fun h => absurd h (by decide), fun h => absurd h (by decide), fun h => absurd h (by decide), fun h => absurd h (by decide), fun h => absurd h (by decide)⟩
      · intro l x w' hJ hi hd
        obtain ⟨gx, bx, hS, hg, hb, hX, hB, hK, h0, h1, h2, h3, h4, h5, h6, h7, h8, h9, h10, h11, h12, h13, h14, h15⟩ := hJ
        refine Runs.of (b := ?bA0) ?eA0 ?_
        case eA0 => simp only [putV, Act.put, List.setIfInBounds_toArray, List.set_cons_zero, List.set_cons_succ]; rfl
        intro K' hK'
        go_simp
        exact hK'.go _ rfl ⟨gx, bx, hS, hg, hb, hX, hB, hK, fun _ => rfl, h1, h2, h3, h4, h5, h6, h7, h8, h9, h10, h11, h12, h13, h14, h15⟩
      · intro l x w' hJ hi hd
        obtain ⟨gx, bx, hS, hg, hb, hX, hB, hK, h0, h1, h2, h3, h4, h5, h6, h7, h8, h9, h10, h11, h12, h13, h14, h15⟩ := hJ
        refine Runs.of (b := ?bA1) ?eA1 ?_
        case eA1 => simp only [putV, Act.put, List.setIfInBounds_toArray, List.set_cons_zero, List.set_cons_succ]; rfl
        intro K' hK'
        go_simp
        exact hK'.go _ rfl ⟨gx, bx, hS, hg, hb, hX, hB, hK, h0, fun _ => rfl, h2, h3, h4, h5, h6, h7, h8, h9, h10, h11, h12, h13, h14, h15⟩
      · intro l x w' hJ hi hd
        obtain ⟨gx, bx, hS, hg, hb, hX, hB, hK, h0, h1, h2, h3, h4, h5, h6, h7, h8, h9, h10, h11, h12, h13, h14, h15⟩ := hJ
        refine Runs.of (b := ?bA2) ?eA2 ?_
        case eA2 => simp only [putV, Act.put, List.setIfInBounds_toArray, List.set_cons_zero, List.set_cons_succ]; rfl
        intro K' hK'
        go_simp
        exact hK'.go _ rfl ⟨gx, bx, hS, hg, hb, hX, hB, hK, h0, h1, fun _ => rfl, h3, h4, h5, h6, h7, h8, h9, h10, h11, h12, h13, h14, h15⟩
      · intro l x w' hJ hi hd
        obtain ⟨gx, bx, hS, hg, hb, hX, hB, hK, h0, h1, h2, h3, h4, h5, h6, h7, h8, h9, h10, h11, h12, h13, h14, h15⟩ := hJ
        have e2 := h2 (show l 2 = true by first | exact hd.1 rfl | exact hd.2.1 rfl | exact hd.2.2.1 rfl | exact hd.2.2.2.1 rfl | exact hd.2.2.2.2.1 rfl | exact hd.2.2.2.2.2.1 rfl)
        have hcut := HC410.out
        refine Runs.of (b := ?bA3) ?eA3 ?_
        case eA3 => simp only [putV, Act.put, List.setIfInBounds_toArray, List.set_cons_zero, List.set_cons_succ, e2]; rfl
        intro K' hK'
        go_simp
        exact hK'.go _ rfl ⟨gx, bx, hS, hg, hb, hX, hB, hK, h0, h1, h2, fun _ => rfl, h4, h5, h6, h7, h8, h9, h10, h11, h12, h13, h14, h15⟩
      · intro l x w' hJ hi hd
        obtain ⟨gx, bx, hS, hg, hb, hX, hB, hK, h0, h1, h2, h3, h4, h5, h6, h7, h8, h9, h10, h11, h12, h13, h14, h15⟩ := hJ
        have e3 := h3 (show l 3 = true by first | exact hd.1 rfl | exact hd.2.1 rfl | exact hd.2.2.1 rfl | exact hd.2.2.2.1 rfl | exact hd.2.2.2.2.1 rfl | exact hd.2.2.2.2.2.1 rfl)
        refine Runs.of (b := ?bA4) ?eA4 ?_
        case eA4 => simp only [putV, Act.put, List.setIfInBounds_toArray, List.set_cons_zero, List.set_cons_succ, e3]; rfl
        intro K' hK'
        go_simp
        refine (sget_any S410 ((X.drop 4).take 6) (Rv.rd (HS410.out w' (HRD.out w' hX)) HLg.out) HYg.out (by rw [HLg.out]; omega) GN HGN.out).mono ?_
        rintro e w2 ⟨rfl, rfl⟩
        go_simp
        exact hK'.go _ rfl ⟨gx, bx, hS, hg, hb, hX, hB, hK, h0, h1, h2, h3, fun _ => rfl, h5, h6, h7, h8, h9, h10, h11, h12, h13, h14, h15⟩
      · intro l x w' hJ hi hd
        obtain ⟨gx, bx, hS, hg, hb, hX, hB, hK, h0, h1, h2, h3, h4, h5, h6, h7, h8, h9, h10, h11, h12, h13, h14, h15⟩ := hJ
        have e4 := h4 (show l 4 = true by first | exact hd.1 rfl | exact hd.2.1 rfl | exact hd.2.2.1 rfl | exact hd.2.2.2.1 rfl | exact hd.2.2.2.2.1 rfl | exact hd.2.2.2.2.2.1 rfl)
        refine Runs.of (b := ?bA5) ?eA5 ?_
        case eA5 => simp only [putV, Act.put, List.setIfInBounds_toArray, List.set_cons_zero, List.set_cons_succ, e4]; rfl
        intro K' hK'
        go_simp
        exact hK'.go _ rfl ⟨gx, bx, hS, hg, hb, hX, hB, hK, h0, h1, h2, h3, h4, fun _ => (by first | rfl | exact congrArg (Value.int .i64) HWGN.out), h6, h7, h8, h9, h10, h11, h12, h13, h14, h15⟩
      · intro l x w' hJ hi hd
        obtain ⟨gx, bx, hS, hg, hb, hX, hB, hK, h0, h1, h2, h3, h4, h5, h6, h7, h8, h9, h10, h11, h12, h13, h14, h15⟩ := hJ
        refine Runs.of (b := ?bA6) ?eA6 ?_
        case eA6 => simp only [putV, Act.put, List.setIfInBounds_toArray, List.set_cons_zero, List.set_cons_succ]; rfl
        intro K' hK'
        go_simp
        exact hK'.go _ rfl ⟨gx, bx, hS, hg, hb, hX, hB, hK, h0, h1, h2, h3, h4, h5, fun _ => rfl, h7, h8, h9, h10, h11, h12, h13, h14, h15⟩
      · intro l x w' hJ hi hd
        obtain ⟨gx, bx, hS, hg, hb, hX, hB, hK, h0, h1, h2, h3, h4, h5, h6, h7, h8, h9, h10, h11, h12, h13, h14, h15⟩ := hJ
        have e6 := h6 (show l 6 = true by first | exact hd.1 rfl | exact hd.2.1 rfl | exact hd.2.2.1 rfl | exact hd.2.2.2.1 rfl | exact hd.2.2.2.2.1 rfl | exact hd.2.2.2.2.2.1 rfl)
        have hcut := HCT6.out
        refine Runs.of (b := ?bA7) ?eA7 ?_
        case eA7 => simp only [putV, Act.put, List.setIfInBounds_toArray, List.set_cons_zero, List.set_cons_succ, e6]; rfl
        intro K' hK'
        go_simp
        exact hK'.go _ rfl ⟨gx, bx, hS, hg, hb, hX, hB, hK, h0, h1, h2, h3, h4, h5, h6, fun _ => rfl, h8, h9, h10, h11, h12, h13, h14, h15⟩
      · intro l x w' hJ hi hd
        obtain ⟨gx, bx, hS, hg, hb, hX, hB, hK, h0, h1, h2, h3, h4, h5, h6, h7, h8, h9, h10, h11, h12, h13, h14, h15⟩ := hJ
        have e7 := h7 (show l 7 = true by first | exact hd.1 rfl | exact hd.2.1 rfl | exact hd.2.2.1 rfl | exact hd.2.2.2.1 rfl | exact hd.2.2.2.2.1 rfl | exact hd.2.2.2.2.2.1 rfl)
        refine Runs.of (b := ?bA8) ?eA8 ?_
        case eA8 => simp only [putV, Act.put, List.setIfInBounds_toArray, List.set_cons_zero, List.set_cons_succ, e7]; rfl
        intro K' hK'
        go_simp
        refine (sget_any T6 ((X.drop 16).take 6) (Rv.rd (HT6.out w' (HT0.out w' (HRD.out w' hX))) HLb.out) HYb.out (by rw [HLb.out]; omega) BN HBN.out).mono ?_
        rintro e w2 ⟨rfl, rfl⟩
        go_simp
        exact hK'.go _ rfl ⟨gx, bx, hS, hg, hb, hX, hB, hK, h0, h1, h2, h3, h4, h5, h6, h7, fun _ => rfl, h9, h10, h11, h12, h13, h14, h15⟩
      · intro l x w' hJ hi hd
        obtain ⟨gx, bx, hS, hg, hb, hX, hB, hK, h0, h1, h2, h3, h4, h5, h6, h7, h8, h9, h10, h11, h12, h13, h14, h15⟩ := hJ
        have e8 := h8 (show l 8 = true by first | exact hd.1 rfl | exact hd.2.1 rfl | exact hd.2.2.1 rfl | exact hd.2.2.2.1 rfl | exact hd.2.2.2.2.1 rfl | exact hd.2.2.2.2.2.1 rfl)
        refine Runs.of (b := ?bA9) ?eA9 ?_
        case eA9 => simp only [putV, Act.put, List.setIfInBounds_toArray, List.set_cons_zero, List.set_cons_succ, e8]; rfl
        intro K' hK'
        go_simp
        exact hK'.go _ rfl ⟨gx, bx, hS, hg, hb, hX, hB, hK, h0, h1, h2, h3, h4, h5, h6, h7, h8, fun _ => (by first | rfl | exact congrArg (Value.int .i64) HWBN.out), h10, h11, h12, h13, h14, h15⟩
      · intro l x w' hJ hi hd
        obtain ⟨gx, bx, hS, hg, hb, hX, hB, hK, h0, h1, h2, h3, h4, h5, h6, h7, h8, h9, h10, h11, h12, h13, h14, h15⟩ := hJ
        have e0 := h0 (show l 0 = true by first | exact hd.1 rfl | exact hd.2.1 rfl | exact hd.2.2.1 rfl | exact hd.2.2.2.1 rfl | exact hd.2.2.2.2.1 rfl | exact hd.2.2.2.2.2.1 rfl)
        refine Runs.of (b := ?bA10) ?eA10 ?_
        case eA10 => simp only [putV, Act.put, List.setIfInBounds_toArray, List.set_cons_zero, List.set_cons_succ, e0]; rfl
        intro K' hK'
        go_simp
        exact hK'.go _ rfl ⟨gx, bx, hS, hg, hb, hX, hB, hK, h0, h1, h2, h3, h4, h5, h6, h7, h8, h9, fun _ => rfl, h11, h12, h13, h14, h15⟩
      · intro l x w' hJ hi hd
        obtain ⟨gx, bx, hS, hg, hb, hX, hB, hK, h0, h1, h2, h3, h4, h5, h6, h7, h8, h9, h10, h11, h12, h13, h14, h15⟩ := hJ
        have e10 := h10 (show l 10 = true by first | exact hd.1 rfl | exact hd.2.1 rfl | exact hd.2.2.1 rfl | exact hd.2.2.2.1 rfl | exact hd.2.2.2.2.1 rfl | exact hd.2.2.2.2.2.1 rfl)
        refine Runs.of (b := ?bA11) ?eA11 ?_
        case eA11 => simp only [putV, Act.put, List.setIfInBounds_toArray, List.set_cons_zero, List.set_cons_succ, e10]; rfl
        intro K' hK'
        go_simp
        exact hK'.go _ rfl ⟨gx, bx, hS, hg, hb, hX, hB, hK, h0, h1, h2, h3, h4, h5, h6, h7, h8, h9, h10, fun _ => rfl, h12, h13, h14, h15⟩
      · intro l x w' hJ hi hd
        obtain ⟨gx, bx, hS, hg, hb, hX, hB, hK, h0, h1, h2, h3, h4, h5, h6, h7, h8, h9, h10, h11, h12, h13, h14, h15⟩ := hJ
        have e5 := h5 (show l 5 = true by first | exact hd.1 rfl | exact hd.2.1 rfl | exact hd.2.2.1 rfl | exact hd.2.2.2.1 rfl | exact hd.2.2.2.2.1 rfl | exact hd.2.2.2.2.2.1 rfl)
        have e11 := h11 (show l 11 = true by first | exact hd.1 rfl | exact hd.2.1 rfl | exact hd.2.2.1 rfl | exact hd.2.2.2.1 rfl | exact hd.2.2.2.2.1 rfl | exact hd.2.2.2.2.2.1 rfl)
        have f0 := seg_0 hS
        have f1 := hS.free 0
        refine Runs.of (b := ?bA12) ?eA12 ?_
        case eA12 => simp only [putV, Act.put, List.setIfInBounds_toArray, List.set_cons_zero, List.set_cons_succ, e5, e11]; rfl
        intro K' hK'
        go_simp
        have k2 : Keep [p] w' (w'.setCell ⟨p, 0, none⟩ (.int .i64 (GN : Int))) := (Keep.refl _ _).setCell (.inl (by simp)) _
        exact hK'.go undef rfl ⟨(GN : Int), bx, hS.set 0 _, fun _ => rfl, hb, hX.keep k2 (fun q hq => HXP.out q hq), hB.keep k2 (fun q hq => HBP.out q hq), hK.trans k2, h0, h1, h2, h3, h4, h5, h6, h7, h8, h9, h10, h11, fun _ => trivial, h13, h14, h15⟩
      · intro l x w' hJ hi hd
        obtain ⟨gx, bx, hS, hg, hb, hX, hB, hK, h0, h1, h2, h3, h4, h5, h6, h7, h8, h9, h10, h11, h12, h13, h14, h15⟩ := hJ
        have e1 := h1 (show l 1 = true by first | exact hd.1 rfl | exact hd.2.1 rfl | exact hd.2.2.1 rfl | exact hd.2.2.2.1 rfl | exact hd.2.2.2.2.1 rfl | exact hd.2.2.2.2.2.1 rfl)
        refine Runs.of (b := ?bA13) ?eA13 ?_
        case eA13 => simp only [putV, Act.put, List.setIfInBounds_toArray, List.set_cons_zero, List.set_cons_succ, e1]; rfl
        intro K' hK'
        go_simp
        exact hK'.go _ rfl ⟨gx, bx, hS, hg, hb, hX, hB, hK, h0, h1, h2, h3, h4, h5, h6, h7, h8, h9, h10, h11, h12, fun _ => rfl, h14, h15⟩
      · intro l x w' hJ hi hd
        obtain ⟨gx, bx, hS, hg, hb, hX, hB, hK, h0, h1, h2, h3, h4, h5, h6, h7, h8, h9, h10, h11, h12, h13, h14, h15⟩ := hJ
        have e13 := h13 (show l 13 = true by first | exact hd.1 rfl | exact hd.2.1 rfl | exact hd.2.2.1 rfl | exact hd.2.2.2.1 rfl | exact hd.2.2.2.2.1 rfl | exact hd.2.2.2.2.2.1 rfl)
        refine Runs.of (b := ?bA14) ?eA14 ?_
        case eA14 => simp only [putV, Act.put, List.setIfInBounds_toArray, List.set_cons_zero, List.set_cons_succ, e13]; rfl
        intro K' hK'
        go_simp
        exact hK'.go _ rfl ⟨gx, bx, hS, hg, hb, hX, hB, hK, h0, h1, h2, h3, h4, h5, h6, h7, h8, h9, h10, h11, h12, h13, fun _ => rfl, h15⟩
      · intro l x w' hJ hi hd
        obtain ⟨gx, bx, hS, hg, hb, hX, hB, hK, h0, h1, h2, h3, h4, h5, h6, h7, h8, h9, h10, h11, h12, h13, h14, h15⟩ := hJ
        have e9 := h9 (show l 9 = true by first | exact hd.1 rfl | exact hd.2.1 rfl | exact hd.2.2.1 rfl | exact hd.2.2.2.1 rfl | exact hd.2.2.2.2.1 rfl | exact hd.2.2.2.2.2.1 rfl)
        have e14 := h14 (show l 14 = true by first | exact hd.1 rfl | exact hd.2.1 rfl | exact hd.2.2.1 rfl | exact hd.2.2.2.1 rfl | exact hd.2.2.2.2.1 rfl | exact hd.2.2.2.2.2.1 rfl)
        have f0 := seg_1 hS
        have f1 := hS.free 1
        refine Runs.of (b := ?bA15) ?eA15 ?_
        case eA15 => simp only [putV, Act.put, List.setIfInBounds_toArray, List.set_cons_zero, List.set_cons_succ, e9, e14]; rfl
        intro K' hK'
        go_simp
        have k2 : Keep [p] w' (w'.setCell ⟨p, 1, none⟩ (.int .i64 (BN : Int))) := (Keep.refl _ _).setCell (.inl (by simp)) _
        exact hK'.go undef rfl ⟨gx, (BN : Int), hS.set 1 _, hg, fun _ => rfl, hX.keep k2 (fun q hq => HXP.out q hq), hB.keep k2 (fun q hq => HBP.out q hq), hK.trans k2, h0, h1, h2, h3, h4, h5, h6, h7, h8, h9, h10, h11, h12, h13, h14, fun _ => trivial⟩
      · intro l x w3 hJ hl
        obtain ⟨gx, bx, hS, hg, hb, hX, hB, hK, h0, h1, h2, h3, h4, h5, h6, h7, h8, h9, h10, h11, h12, h13, h14, h15⟩ := hJ
        have eg := hg (hl 12 (by decide))
        have eb := hb (hl 15 (by decide))
        subst eg eb
        clear h0 h1 h2 h3 h4 h5 h6 h7 h8 h9 h10 h11 h12 h13 h14 h15 hg hb hl
        simp only [putV, Act.put, List.setIfInBounds_toArray, List.set_cons_zero, List.set_cons_succ]
        simp only [Nat.zero_add, Nat.reduceAdd]
        have HS := Lib.hid hS
        have HX := Lib.hid hX
        have HB := Lib.hid hB
        have HK := Lib.hid hK
        have hcut := HCT6b.out
        clear hS hX hB hK hs0 hX0 hB0
        go_wp2_with fail
        go_meet
        exact ⟨tb, tcb, rfl, HTO.out.2, HT6b.out _ (HT0.out _ (HRD.out _ HX.out)), (by rw [EB.out]; exact HS.out), HX.out, HB.out, HK.out⟩
    · have q : ((i : Int) == 0) = false := by simp; omega
      have hw : sgW i = 48 := by unfold sgW; rw [if_neg (by omega)]
      have HW := Lib.hid hw
      have EG := Lib.hid eg
      have EB := Lib.hid eb
      clear hw hC16 h0 eg eb
      go_wp2_with fail
      go_meet
      refine ⟨ta, tcap, by rw [HW.out], by rw [HW.out]; exact HTO.out.1, ?_, by rw [EG.out, EB.out]; exact hs0, hX0, hB0, Keep.refl _ _⟩
      rw [HW.out]
      exact HT0.out w (HRD.out w hX0)
  case rest =>
  clear hs0 hX0 hB0 hC16 HT0 HT6 HT6b HCT6 HCT6b HTO
  obtain ⟨ta, tcap, rfl, hto, hT1, hs1', hX1', hB1, K1⟩ := hcut
  have HTOX := Lib.hid hto
  clear hto
  generalize hwc : wc = wq at *
  clear hwc
  have HXR := Lib.hid (HRD.out wq hX1')
  go_wp2_with fail
  refine (sget_any S1014 ((X.drop 10).take 4) (Rv.rd (HS1014.out wq HXR.out) HLr.out) HYr.out (by rw [HLr.out]; omega) RN HRN.out).mono ?_
  rintro e w1 ⟨rfl, rfl⟩
  have hs1 := hs1'
  have hX1 := hX1'
  clear hs1' hX1' hC1014 HXR
  go_wp2_with fail
  refine wp_region_inv (takeJok wq p xb xc tcap bcap SN SN GN RN GN base2 i cl run0 vr (.slice s4a 60 s4c) S04 S410 ta ba buf X) (by kernel_rfl) (by kernel_rfl) (by kernel_rfl) ?_ (Steps.cons 0 ?_ (Steps.cons 1 ?_ (Steps.cons 2 ?_ (Steps.cons 3 ?_ (Steps.cons 4 ?_ (Steps.cons 5 ?_ (Steps.cons 6 ?_ (Steps.cons 7 ?_ (Steps.cons 8 ?_ (Steps.cons 9 ?_ (Steps.cons 10 ?_ (Steps.cons 11 ?_ (Steps.cons 12 ?_ (Steps.cons 13 ?_ (Steps.cons 14 ?_ (Steps.cons 15 ?_ (Steps.cons 16 ?_ (Steps.cons 17 ?_ (Steps.cons 18 ?_ (Steps.cons 19 ?_ (Steps.cons 20 ?_ (Steps.cons 21 ?_ (Steps.cons 22 ?_ (Steps.cons 23 ?_ (Steps.cons 24 ?_ (Steps.cons 25 ?_ (Steps.cons 26 ?_ (Steps.cons 27 ?_ (Steps.cons 28 ?_ (Steps.cons 29 ?_ (Steps.cons 30 ?_ (Steps.cons 31 ?_ (Steps.cons 32 ?_ (Steps.cons 33 ?_ (Steps.cons 34 ?_ (Steps.cons 35 ?_ (Steps.cons 36 ?_ (Steps.cons 37 ?_ (Steps.cons 38 ?_ (Steps.cons 39 ?_ (Steps.cons 40 ?_ (Steps.cons 41 ?_ (Steps.cons 42 ?_ (Steps.cons 43 ?_ (Steps.cons 44 ?_ (Steps.cons 45 ?_ (Steps.cons 46 ?_ (Steps.cons 47 ?_ (Steps.cons 48 ?_ (Steps.cons 49 ?_ (Steps.cons 50 ?_ (Steps.cons 51 ?_ (Steps.cons 52 ?_ (Steps.cons 53 ?_ (Steps.cons 54 ?_ (Steps.nil 55)))))))))))))))))))))))))))))))))))))))))))))))))))))))) 55 rfl ?_
  · intro x
    exact ⟨0, hs1.drew, hX1.keep (Keep.refl [] _).drew (by simp), (Keep.refl _ _).drew, fun h => absurd h (by decide), fun h => absurd h (by decide), fun h => absurd h (by decide), fun h => absurd h (by decide), fun h => absurd h (by decide), fun h => absurd h (by decide), fun h => absurd h (by decide), fun h => absurd h (by decide), fun h => absurd h (by decide), fun h => absurd h (by decide), fun h => absurd h (by decide), fun h => absurd h (by decide), fun h => absurd h (by decide), fun h => absurd h (by decide), fun h => absurd h (by decide), fun h => absurd h (by decide), fun h => absurd h (by decide), fun h => absurd h (by decide), fun h => absurd h (by decide), fun h => absurd h (by decide), fun h => absurd h (by decide), fun h => absurd h (by decide), fun h => absurd h (by decide), fun h => absurd h (by decide), fun h => absurd h (by decide), fun h => absurd h (by decide), fun h => absurd h (by decide), fun h => absurd h (by decide), fun h => absurd h (by decide), fun h => absurd h (by decide), fun h => absurd h (by decide), fun h => absurd h (by decide), fun h => absurd h (by decide), fun h => absurd h (by decide), fun h => absurd h (by decide), fun h => absurd h (by decide), fun h => absurd h (by decide), fun h => absurd h (by decide), fun h => absurd h (by decide), fun h => absurd h (by decide), fun h => absurd h (by decide), fun h => absurd h (by decide), fun h => absurd h (by decide), fun h => absurd h (by decide), fun h => absurd h (by decide), fun h => absurd h (by decide), fun h => absurd h (by decide), fun h => absurd h (by decide), fun h => absurd h (by decide), fun h => absurd h (by decide), fun h => absurd h (by decide), fun h => absurd h (by decide), fun h => absurd h (by decide), fun h => absurd h (by decide), fun h => absurd h (by decide)⟩
  · intro l x w' hJ hi hd
    obtain ⟨B2, hS, hX, hK, h0, h1, h2, h3, h4, h5, h6, h7, h8, h9, h10, h11, h12, h13, h14, h15, h16, h17, h18, h19, h20, h21, h22, h23, h24, h25, h26, h27, h28, h29, h30, h31, h32, h33, h34, h35, h36, h37, h38, h39, h40, h41, h42, h43, h44, h45, h46, h47, h48, h49, h50, h51, h52, h53, h54⟩ := hJ
    refine Runs.of (b := ?bB0) ?eB0 ?_
    case eB0 => simp only [putV, Act.put, List.setIfInBounds_toArray, List.set_cons_zero, List.set_cons_succ]; rfl
    intro K' hK'
    go_simp
    exact hK'.go _ rfl ⟨B2, hS, hX, hK, fun _ => rfl, h1, h2, h3, h4, h5, h6, h7, h8, h9, h10, h11, h12, h13, h14, h15, h16, h17, h18, h19, h20, h21, h22, h23, h24, h25, h26, h27, h28, h29, h30, h31, h32, h33, h34, h35, h36, h37, h38, h39, h40, h41, h42, h43, h44, h45, h46, h47, h48, h49, h50, h51, h52, h53, h54⟩
  · intro l x w' hJ hi hd
    obtain ⟨B2, hS, hX, hK, h0, h1, h2, h3, h4, h5, h6, h7, h8, h9, h10, h11, h12, h13, h14, h15, h16, h17, h18, h19, h20, h21, h22, h23, h24, h25, h26, h27, h28, h29, h30, h31, h32, h33, h34, h35, h36, h37, h38, h39, h40, h41, h42, h43, h44, h45, h46, h47, h48, h49, h50, h51, h52, h53, h54⟩ := hJ
    have e0 := h0 (show l 0 = true by first | exact hd.1 rfl | exact hd.2.1 rfl | exact hd.2.2.1 rfl | exact hd.2.2.2.1 rfl | exact hd.2.2.2.2.1 rfl | exact hd.2.2.2.2.2.1 rfl)
    have hcut := HC4.out
    refine Runs.of (b := ?bB1) ?eB1 ?_
    case eB1 => simp only [putV, Act.put, List.setIfInBounds_toArray, List.set_cons_zero, List.set_cons_succ, e0]; rfl
    intro K' hK'
    go_simp
    exact hK'.go _ rfl ⟨B2, hS, hX, hK, h0, fun _ => rfl, h2, h3, h4, h5, h6, h7, h8, h9, h10, h11, h12, h13, h14, h15, h16, h17, h18, h19, h20, h21, h22, h23, h24, h25, h26, h27, h28, h29, h30, h31, h32, h33, h34, h35, h36, h37, h38, h39, h40, h41, h42, h43, h44, h45, h46, h47, h48, h49, h50, h51, h52, h53, h54⟩
  · intro l x w' hJ hi hd
    obtain ⟨B2, hS, hX, hK, h0, h1, h2, h3, h4, h5, h6, h7, h8, h9, h10, h11, h12, h13, h14, h15, h16, h17, h18, h19, h20, h21, h22, h23, h24, h25, h26, h27, h28, h29, h30, h31, h32, h33, h34, h35, h36, h37, h38, h39, h40, h41, h42, h43, h44, h45, h46, h47, h48, h49, h50, h51, h52, h53, h54⟩ := hJ
    have e1 := h1 (show l 1 = true by first | exact hd.1 rfl | exact hd.2.1 rfl | exact hd.2.2.1 rfl | exact hd.2.2.2.1 rfl | exact hd.2.2.2.2.1 rfl | exact hd.2.2.2.2.2.1 rfl)
    refine Runs.of (b := ?bB2) ?eB2 ?_
    case eB2 => simp only [putV, Act.put, List.setIfInBounds_toArray, List.set_cons_zero, List.set_cons_succ, e1]; rfl
    intro K' hK'
    go_simp
    exact hK'.go _ rfl ⟨w'.heap.size, hS.alloc _, hX.alloc _, hK.alloc _, h0, h1, fun _ => ⟨rfl, Blk.new _ [_] _⟩, h3, h4, h5, h6, h7, h8, h9, h10, h11, h12, h13, h14, h15, h16, h17, h18, h19, h20, h21, h22, h23, h24, h25, h26, h27, h28, h29, h30, h31, h32, h33, h34, h35, h36, h37, h38, h39, h40, h41, h42, h43, h44, h45, h46, h47, h48, h49, h50, h51, h52, h53, h54⟩
  · intro l x w' hJ hi hd
    obtain ⟨B2, hS, hX, hK, h0, h1, h2, h3, h4, h5, h6, h7, h8, h9, h10, h11, h12, h13, h14, h15, h16, h17, h18, h19, h20, h21, h22, h23, h24, h25, h26, h27, h28, h29, h30, h31, h32, h33, h34, h35, h36, h37, h38, h39, h40, h41, h42, h43, h44, h45, h46, h47, h48, h49, h50, h51, h52, h53, h54⟩ := hJ
    have e2 := h2 (show l 2 = true by first | exact hd.1 rfl | exact hd.2.1 rfl | exact hd.2.2.1 rfl | exact hd.2.2.2.1 rfl | exact hd.2.2.2.2.1 rfl | exact hd.2.2.2.2.2.1 rfl)
    refine Runs.of (b := ?bB3) ?eB3 ?_
    case eB3 => simp only [putV, Act.put, List.setIfInBounds_toArray, List.set_cons_zero, List.set_cons_succ, e2.1]; rfl
    intro K' hK'
    go_simp
    refine (Sum_one _ _ _ (X.drop 4) (rv_blk e2.2 rfl) (Rv.rd (HS4.out w' (HRD.out w' hX)) HL4.out) HYd.out (by rw [HL4.out]; omega) SN HSN.out).mono ?_
    rintro e w2 ⟨rfl, rfl⟩
    go_simp
    exact hK'.go _ rfl ⟨B2, hS, hX, hK, h0, h1, h2, fun _ => rfl, h4, h5, h6, h7, h8, h9, h10, h11, h12, h13, h14, h15, h16, h17, h18, h19, h20, h21, h22, h23, h24, h25, h26, h27, h28, h29, h30, h31, h32, h33, h34, h35, h36, h37, h38, h39, h40, h41, h42, h43, h44, h45, h46, h47, h48, h49, h50, h51, h52, h53, h54⟩
  · intro l x w' hJ hi hd
    obtain ⟨B2, hS, hX, hK, h0, h1, h2, h3, h4, h5, h6, h7, h8, h9, h10, h11, h12, h13, h14, h15, h16, h17, h18, h19, h20, h21, h22, h23, h24, h25, h26, h27, h28, h29, h30, h31, h32, h33, h34, h35, h36, h37, h38, h39, h40, h41, h42, h43, h44, h45, h46, h47, h48, h49, h50, h51, h52, h53, h54⟩ := hJ
    have e3 := h3 (show l 3 = true by first | exact hd.1 rfl | exact hd.2.1 rfl | exact hd.2.2.1 rfl | exact hd.2.2.2.1 rfl | exact hd.2.2.2.2.1 rfl | exact hd.2.2.2.2.2.1 rfl)
    refine Runs.of (b := ?bB4) ?eB4 ?_
    case eB4 => simp only [putV, Act.put, List.setIfInBounds_toArray, List.set_cons_zero, List.set_cons_succ, e3]; rfl
    intro K' hK'
    go_simp
    exact hK'.go _ rfl ⟨B2, hS, hX, hK, h0, h1, h2, h3, fun _ => (by first | rfl | exact congrArg (Value.int .u64) HWSN.out), h5, h6, h7, h8, h9, h10, h11, h12, h13, h14, h15, h16, h17, h18, h19, h20, h21, h22, h23, h24, h25, h26, h27, h28, h29, h30, h31, h32, h33, h34, h35, h36, h37, h38, h39, h40, h41, h42, h43, h44, h45, h46, h47, h48, h49, h50, h51, h52, h53, h54⟩
  · intro l x w' hJ hi hd
    obtain ⟨B2, hS, hX, hK, h0, h1, h2, h3, h4, h5, h6, h7, h8, h9, h10, h11, h12, h13, h14, h15, h16, h17, h18, h19, h20, h21, h22, h23, h24, h25, h26, h27, h28, h29, h30, h31, h32, h33, h34, h35, h36, h37, h38, h39, h40, h41, h42, h43, h44, h45, h46, h47, h48, h49, h50, h51, h52, h53, h54⟩ := hJ
    refine Runs.of (b := ?bB5) ?eB5 ?_
    case eB5 => simp only [putV, Act.put, List.setIfInBounds_toArray, List.set_cons_zero, List.set_cons_succ]; rfl
    intro K' hK'
    go_simp
    exact hK'.go _ rfl ⟨B2, hS, hX, hK, h0, h1, h2, h3, h4, fun _ => rfl, h6, h7, h8, h9, h10, h11, h12, h13, h14, h15, h16, h17, h18, h19, h20, h21, h22, h23, h24, h25, h26, h27, h28, h29, h30, h31, h32, h33, h34, h35, h36, h37, h38, h39, h40, h41, h42, h43, h44, h45, h46, h47, h48, h49, h50, h51, h52, h53, h54⟩
  · intro l x w' hJ hi hd
    obtain ⟨B2, hS, hX, hK, h0, h1, h2, h3, h4, h5, h6, h7, h8, h9, h10, h11, h12, h13, h14, h15, h16, h17, h18, h19, h20, h21, h22, h23, h24, h25, h26, h27, h28, h29, h30, h31, h32, h33, h34, h35, h36, h37, h38, h39, h40, h41, h42, h43, h44, h45, h46, h47, h48, h49, h50, h51, h52, h53, h54⟩ := hJ
    have e5 := h5 (show l 5 = true by first | exact hd.1 rfl | exact hd.2.1 rfl | exact hd.2.2.1 rfl | exact hd.2.2.2.1 rfl | exact hd.2.2.2.2.1 rfl | exact hd.2.2.2.2.2.1 rfl)
    have hcut := HC04.out
    refine Runs.of (b := ?bB6) ?eB6 ?_
    case eB6 => simp only [putV, Act.put, List.setIfInBounds_toArray, List.set_cons_zero, List.set_cons_succ, e5]; rfl
    intro K' hK'
    go_simp
    exact hK'.go _ rfl ⟨B2, hS, hX, hK, h0, h1, h2, h3, h4, h5, fun _ => rfl, h7, h8, h9, h10, h11, h12, h13, h14, h15, h16, h17, h18, h19, h20, h21, h22, h23, h24, h25, h26, h27, h28, h29, h30, h31, h32, h33, h34, h35, h36, h37, h38, h39, h40, h41, h42, h43, h44, h45, h46, h47, h48, h49, h50, h51, h52, h53, h54⟩
  · intro l x w' hJ hi hd
    obtain ⟨B2, hS, hX, hK, h0, h1, h2, h3, h4, h5, h6, h7, h8, h9, h10, h11, h12, h13, h14, h15, h16, h17, h18, h19, h20, h21, h22, h23, h24, h25, h26, h27, h28, h29, h30, h31, h32, h33, h34, h35, h36, h37, h38, h39, h40, h41, h42, h43, h44, h45, h46, h47, h48, h49, h50, h51, h52, h53, h54⟩ := hJ
    have e6 := h6 (show l 6 = true by first | exact hd.1 rfl | exact hd.2.1 rfl | exact hd.2.2.1 rfl | exact hd.2.2.2.1 rfl | exact hd.2.2.2.2.1 rfl | exact hd.2.2.2.2.2.1 rfl)
    refine Runs.of (b := ?bB7) ?eB7 ?_
    case eB7 => simp only [putV, Act.put, List.setIfInBounds_toArray, List.set_cons_zero, List.set_cons_succ, e6]; rfl
    intro K' hK'
    go_simp
    refine (sget_any S04 (X.take 4) (Rv.rd (HS04.out w' (HRD.out w' hX)) HLf.out) HYf.out (by rw [HLf.out]; omega) SN HFN.out).mono ?_
    rintro e w2 ⟨rfl, rfl⟩
    go_simp
    exact hK'.go _ rfl ⟨B2, hS, hX, hK, h0, h1, h2, h3, h4, h5, h6, fun _ => rfl, h8, h9, h10, h11, h12, h13, h14, h15, h16, h17, h18, h19, h20, h21, h22, h23, h24, h25, h26, h27, h28, h29, h30, h31, h32, h33, h34, h35, h36, h37, h38, h39, h40, h41, h42, h43, h44, h45, h46, h47, h48, h49, h50, h51, h52, h53, h54⟩
  · intro l x w' hJ hi hd
    obtain ⟨B2, hS, hX, hK, h0, h1, h2, h3, h4, h5, h6, h7, h8, h9, h10, h11, h12, h13, h14, h15, h16, h17, h18, h19, h20, h21, h22, h23, h24, h25, h26, h27, h28, h29, h30, h31, h32, h33, h34, h35, h36, h37, h38, h39, h40, h41, h42, h43, h44, h45, h46, h47, h48, h49, h50, h51, h52, h53, h54⟩ := hJ
    have e4 := h4 (show l 4 = true by first | exact hd.1 rfl | exact hd.2.1 rfl | exact hd.2.2.1 rfl | exact hd.2.2.2.1 rfl | exact hd.2.2.2.2.1 rfl | exact hd.2.2.2.2.2.1 rfl)
    have e7 := h7 (show l 7 = true by first | exact hd.1 rfl | exact hd.2.1 rfl | exact hd.2.2.1 rfl | exact hd.2.2.2.1 rfl | exact hd.2.2.2.2.1 rfl | exact hd.2.2.2.2.2.1 rfl)
    refine Runs.of (b := ?bB8) ?eB8 ?_
    case eB8 => simp only [putV, Act.put, List.setIfInBounds_toArray, List.set_cons_zero, List.set_cons_succ, e4, e7]; rfl
    intro K' hK'
    go_simp
    exact hK'.go _ rfl ⟨B2, hS, hX, hK, h0, h1, h2, h3, h4, h5, h6, h7, fun _ => rfl, h9, h10, h11, h12, h13, h14, h15, h16, h17, h18, h19, h20, h21, h22, h23, h24, h25, h26, h27, h28, h29, h30, h31, h32, h33, h34, h35, h36, h37, h38, h39, h40, h41, h42, h43, h44, h45, h46, h47, h48, h49, h50, h51, h52, h53, h54⟩
  · intro l x w' hJ hi hd
    obtain ⟨B2, hS, hX, hK, h0, h1, h2, h3, h4, h5, h6, h7, h8, h9, h10, h11, h12, h13, h14, h15, h16, h17, h18, h19, h20, h21, h22, h23, h24, h25, h26, h27, h28, h29, h30, h31, h32, h33, h34, h35, h36, h37, h38, h39, h40, h41, h42, h43, h44, h45, h46, h47, h48, h49, h50, h51, h52, h53, h54⟩ := hJ
    have e8 := h8 (show l 8 = true by first | exact hd.1 rfl | exact hd.2.1 rfl | exact hd.2.2.1 rfl | exact hd.2.2.2.1 rfl | exact hd.2.2.2.2.1 rfl | exact hd.2.2.2.2.2.1 rfl)
    refine Runs.of (b := ?bB9) ?eB9 ?_
    case eB9 => simp only [putV, Act.put, List.setIfInBounds_toArray, List.set_cons_zero, List.set_cons_succ, e8]; rfl
    intro K' hK'
    go_simp
    exact hK'.go _ rfl ⟨B2, hS, hX, hK, h0, h1, h2, h3, h4, h5, h6, h7, h8, fun _ => rfl, h10, h11, h12, h13, h14, h15, h16, h17, h18, h19, h20, h21, h22, h23, h24, h25, h26, h27, h28, h29, h30, h31, h32, h33, h34, h35, h36, h37, h38, h39, h40, h41, h42, h43, h44, h45, h46, h47, h48, h49, h50, h51, h52, h53, h54⟩
  · intro l x w' hJ hi hd
    obtain ⟨B2, hS, hX, hK, h0, h1, h2, h3, h4, h5, h6, h7, h8, h9, h10, h11, h12, h13, h14, h15, h16, h17, h18, h19, h20, h21, h22, h23, h24, h25, h26, h27, h28, h29, h30, h31, h32, h33, h34, h35, h36, h37, h38, h39, h40, h41, h42, h43, h44, h45, h46, h47, h48, h49, h50, h51, h52, h53, h54⟩ := hJ
    have e9 := h9 (show l 9 = true by first | exact hd.1 rfl | exact hd.2.1 rfl | exact hd.2.2.1 rfl | exact hd.2.2.2.1 rfl | exact hd.2.2.2.2.1 rfl | exact hd.2.2.2.2.2.1 rfl)
    refine Runs.of (b := ?bB10) ?eB10 ?_
    case eB10 => simp only [putV, Act.put, List.setIfInBounds_toArray, List.set_cons_zero, List.set_cons_succ, e9]; rfl
    intro K' hK'
    go_simp
    exact hK'.go _ rfl ⟨B2, hS, hX, hK, h0, h1, h2, h3, h4, h5, h6, h7, h8, h9, fun _ => rfl, h11, h12, h13, h14, h15, h16, h17, h18, h19, h20, h21, h22, h23, h24, h25, h26, h27, h28, h29, h30, h31, h32, h33, h34, h35, h36, h37, h38, h39, h40, h41, h42, h43, h44, h45, h46, h47, h48, h49, h50, h51, h52, h53, h54⟩
  · intro l x w' hJ hi hd
    obtain ⟨B2, hS, hX, hK, h0, h1, h2, h3, h4, h5, h6, h7, h8, h9, h10, h11, h12, h13, h14, h15, h16, h17, h18, h19, h20, h21, h22, h23, h24, h25, h26, h27, h28, h29, h30, h31, h32, h33, h34, h35, h36, h37, h38, h39, h40, h41, h42, h43, h44, h45, h46, h47, h48, h49, h50, h51, h52, h53, h54⟩ := hJ
    have e9 := h9 (show l 9 = true by first | exact hd.1 rfl | exact hd.2.1 rfl | exact hd.2.2.1 rfl | exact hd.2.2.2.1 rfl | exact hd.2.2.2.2.1 rfl | exact hd.2.2.2.2.2.1 rfl)
    have e10 := h10 (show l 10 = true by first | exact hd.1 rfl | exact hd.2.1 rfl | exact hd.2.2.1 rfl | exact hd.2.2.2.1 rfl | exact hd.2.2.2.2.1 rfl | exact hd.2.2.2.2.2.1 rfl)
    have hcut := HC410.out
    refine Runs.of (b := ?bB11) ?eB11 ?_
    case eB11 => simp only [putV, Act.put, List.setIfInBounds_toArray, List.set_cons_zero, List.set_cons_succ, e9, e10]; rfl
    intro K' hK'
    go_simp
    exact hK'.go _ rfl ⟨B2, hS, hX, hK, h0, h1, h2, h3, h4, h5, h6, h7, h8, h9, h10, fun _ => rfl, h12, h13, h14, h15, h16, h17, h18, h19, h20, h21, h22, h23, h24, h25, h26, h27, h28, h29, h30, h31, h32, h33, h34, h35, h36, h37, h38, h39, h40, h41, h42, h43, h44, h45, h46, h47, h48, h49, h50, h51, h52, h53, h54⟩
  · intro l x w' hJ hi hd
    obtain ⟨B2, hS, hX, hK, h0, h1, h2, h3, h4, h5, h6, h7, h8, h9, h10, h11, h12, h13, h14, h15, h16, h17, h18, h19, h20, h21, h22, h23, h24, h25, h26, h27, h28, h29, h30, h31, h32, h33, h34, h35, h36, h37, h38, h39, h40, h41, h42, h43, h44, h45, h46, h47, h48, h49, h50, h51, h52, h53, h54⟩ := hJ
    have e9 := h9 (show l 9 = true by first | exact hd.1 rfl | exact hd.2.1 rfl | exact hd.2.2.1 rfl | exact hd.2.2.2.1 rfl | exact hd.2.2.2.2.1 rfl | exact hd.2.2.2.2.2.1 rfl)
    have e11 := h11 (show l 11 = true by first | exact hd.1 rfl | exact hd.2.1 rfl | exact hd.2.2.1 rfl | exact hd.2.2.2.1 rfl | exact hd.2.2.2.2.1 rfl | exact hd.2.2.2.2.2.1 rfl)
    refine Runs.of (b := ?bB12) ?eB12 ?_
    case eB12 => simp only [putV, Act.put, List.setIfInBounds_toArray, List.set_cons_zero, List.set_cons_succ, e9, e11]; rfl
    intro K' hK'
    go_simp
    refine (sget_any S410 ((X.drop 4).take 6) (Rv.rd (HS410.out w' (HRD.out w' hX)) HLg.out) HYg.out (by rw [HLg.out]; omega) GN HGN.out).mono ?_
    rintro e w2 ⟨rfl, rfl⟩
    go_simp
    exact hK'.go _ rfl ⟨B2, hS, hX, hK, h0, h1, h2, h3, h4, h5, h6, h7, h8, h9, h10, h11, fun _ => rfl, h13, h14, h15, h16, h17, h18, h19, h20, h21, h22, h23, h24, h25, h26, h27, h28, h29, h30, h31, h32, h33, h34, h35, h36, h37, h38, h39, h40, h41, h42, h43, h44, h45, h46, h47, h48, h49, h50, h51, h52, h53, h54⟩
  · intro l x w' hJ hi hd
    obtain ⟨B2, hS, hX, hK, h0, h1, h2, h3, h4, h5, h6, h7, h8, h9, h10, h11, h12, h13, h14, h15, h16, h17, h18, h19, h20, h21, h22, h23, h24, h25, h26, h27, h28, h29, h30, h31, h32, h33, h34, h35, h36, h37, h38, h39, h40, h41, h42, h43, h44, h45, h46, h47, h48, h49, h50, h51, h52, h53, h54⟩ := hJ
    have e9 := h9 (show l 9 = true by first | exact hd.1 rfl | exact hd.2.1 rfl | exact hd.2.2.1 rfl | exact hd.2.2.2.1 rfl | exact hd.2.2.2.2.1 rfl | exact hd.2.2.2.2.2.1 rfl)
    have e12 := h12 (show l 12 = true by first | exact hd.1 rfl | exact hd.2.1 rfl | exact hd.2.2.1 rfl | exact hd.2.2.2.1 rfl | exact hd.2.2.2.2.1 rfl | exact hd.2.2.2.2.2.1 rfl)
    refine Runs.of (b := ?bB13) ?eB13 ?_
    case eB13 => simp only [putV, Act.put, List.setIfInBounds_toArray, List.set_cons_zero, List.set_cons_succ, e9, e12]; rfl
    intro K' hK'
    go_simp
    exact hK'.go _ rfl ⟨B2, hS, hX, hK, h0, h1, h2, h3, h4, h5, h6, h7, h8, h9, h10, h11, h12, fun _ => (by first | rfl | exact congrArg (Value.int .i64) HWGN.out), h14, h15, h16, h17, h18, h19, h20, h21, h22, h23, h24, h25, h26, h27, h28, h29, h30, h31, h32, h33, h34, h35, h36, h37, h38, h39, h40, h41, h42, h43, h44, h45, h46, h47, h48, h49, h50, h51, h52, h53, h54⟩
  · intro l x w' hJ hi hd
    obtain ⟨B2, hS, hX, hK, h0, h1, h2, h3, h4, h5, h6, h7, h8, h9, h10, h11, h12, h13, h14, h15, h16, h17, h18, h19, h20, h21, h22, h23, h24, h25, h26, h27, h28, h29, h30, h31, h32, h33, h34, h35, h36, h37, h38, h39, h40, h41, h42, h43, h44, h45, h46, h47, h48, h49, h50, h51, h52, h53, h54⟩ := hJ
    have e9 := h9 (show l 9 = true by first | exact hd.1 rfl | exact hd.2.1 rfl | exact hd.2.2.1 rfl | exact hd.2.2.2.1 rfl | exact hd.2.2.2.2.1 rfl | exact hd.2.2.2.2.2.1 rfl)
    refine Runs.of (b := ?bB14) ?eB14 ?_
    case eB14 => simp only [putV, Act.put, List.setIfInBounds_toArray, List.set_cons_zero, List.set_cons_succ, e9]; rfl
    intro K' hK'
    go_simp
    exact hK'.go _ rfl ⟨B2, hS, hX, hK, h0, h1, h2, h3, h4, h5, h6, h7, h8, h9, h10, h11, h12, h13, fun _ => rfl, h15, h16, h17, h18, h19, h20, h21, h22, h23, h24, h25, h26, h27, h28, h29, h30, h31, h32, h33, h34, h35, h36, h37, h38, h39, h40, h41, h42, h43, h44, h45, h46, h47, h48, h49, h50, h51, h52, h53, h54⟩
  · intro l x w' hJ hi hd
    obtain ⟨B2, hS, hX, hK, h0, h1, h2, h3, h4, h5, h6, h7, h8, h9, h10, h11, h12, h13, h14, h15, h16, h17, h18, h19, h20, h21, h22, h23, h24, h25, h26, h27, h28, h29, h30, h31, h32, h33, h34, h35, h36, h37, h38, h39, h40, h41, h42, h43, h44, h45, h46, h47, h48, h49, h50, h51, h52, h53, h54⟩ := hJ
    have e9 := h9 (show l 9 = true by first | exact hd.1 rfl | exact hd.2.1 rfl | exact hd.2.2.1 rfl | exact hd.2.2.2.1 rfl | exact hd.2.2.2.2.1 rfl | exact hd.2.2.2.2.2.1 rfl)
    have e14 := h14 (show l 14 = true by first | exact hd.1 rfl | exact hd.2.1 rfl | exact hd.2.2.1 rfl | exact hd.2.2.2.1 rfl | exact hd.2.2.2.2.1 rfl | exact hd.2.2.2.2.2.1 rfl)
    refine Runs.of (b := ?bB15) ?eB15 ?_
    case eB15 => simp only [putV, Act.put, List.setIfInBounds_toArray, List.set_cons_zero, List.set_cons_succ, e9, e14]; rfl
    intro K' hK'
    go_simp
    exact hK'.go _ rfl ⟨B2, hS, hX, hK, h0, h1, h2, h3, h4, h5, h6, h7, h8, h9, h10, h11, h12, h13, h14, fun _ => rfl, h16, h17, h18, h19, h20, h21, h22, h23, h24, h25, h26, h27, h28, h29, h30, h31, h32, h33, h34, h35, h36, h37, h38, h39, h40, h41, h42, h43, h44, h45, h46, h47, h48, h49, h50, h51, h52, h53, h54⟩
  · intro l x w' hJ hi hd
    obtain ⟨B2, hS, hX, hK, h0, h1, h2, h3, h4, h5, h6, h7, h8, h9, h10, h11, h12, h13, h14, h15, h16, h17, h18, h19, h20, h21, h22, h23, h24, h25, h26, h27, h28, h29, h30, h31, h32, h33, h34, h35, h36, h37, h38, h39, h40, h41, h42, h43, h44, h45, h46, h47, h48, h49, h50, h51, h52, h53, h54⟩ := hJ
    have e9 := h9 (show l 9 = true by first | exact hd.1 rfl | exact hd.2.1 rfl | exact hd.2.2.1 rfl | exact hd.2.2.2.1 rfl | exact hd.2.2.2.2.1 rfl | exact hd.2.2.2.2.2.1 rfl)
    have e15 := h15 (show l 15 = true by first | exact hd.1 rfl | exact hd.2.1 rfl | exact hd.2.2.1 rfl | exact hd.2.2.2.1 rfl | exact hd.2.2.2.2.1 rfl | exact hd.2.2.2.2.2.1 rfl)
    refine Runs.of (b := ?bB16) ?eB16 ?_
    case eB16 => simp only [putV, Act.put, List.setIfInBounds_toArray, List.set_cons_zero, List.set_cons_succ, e9, e15]; rfl
    intro K' hK'
    go_simp
    exact hK'.go _ rfl ⟨B2, hS, hX, hK, h0, h1, h2, h3, h4, h5, h6, h7, h8, h9, h10, h11, h12, h13, h14, h15, fun _ => rfl, h17, h18, h19, h20, h21, h22, h23, h24, h25, h26, h27, h28, h29, h30, h31, h32, h33, h34, h35, h36, h37, h38, h39, h40, h41, h42, h43, h44, h45, h46, h47, h48, h49, h50, h51, h52, h53, h54⟩
  · intro l x w' hJ hi hd
    obtain ⟨B2, hS, hX, hK, h0, h1, h2, h3, h4, h5, h6, h7, h8, h9, h10, h11, h12, h13, h14, h15, h16, h17, h18, h19, h20, h21, h22, h23, h24, h25, h26, h27, h28, h29, h30, h31, h32, h33, h34, h35, h36, h37, h38, h39, h40, h41, h42, h43, h44, h45, h46, h47, h48, h49, h50, h51, h52, h53, h54⟩ := hJ
    have e9 := h9 (show l 9 = true by first | exact hd.1 rfl | exact hd.2.1 rfl | exact hd.2.2.1 rfl | exact hd.2.2.2.1 rfl | exact hd.2.2.2.2.1 rfl | exact hd.2.2.2.2.2.1 rfl)
    have e16 := h16 (show l 16 = true by first | exact hd.1 rfl | exact hd.2.1 rfl | exact hd.2.2.1 rfl | exact hd.2.2.2.1 rfl | exact hd.2.2.2.2.1 rfl | exact hd.2.2.2.2.2.1 rfl)
    have c0 := seg_0 hS
    refine Runs.of (b := ?bB17) ?eB17 ?_
    case eB17 => simp only [putV, Act.put, List.setIfInBounds_toArray, List.set_cons_zero, List.set_cons_succ, e9, e16]; rfl
    intro K' hK'
    go_simp
    exact hK'.go _ rfl ⟨B2, hS, hX, hK, h0, h1, h2, h3, h4, h5, h6, h7, h8, h9, h10, h11, h12, h13, h14, h15, h16, fun _ => rfl, h18, h19, h20, h21, h22, h23, h24, h25, h26, h27, h28, h29, h30, h31, h32, h33, h34, h35, h36, h37, h38, h39, h40, h41, h42, h43, h44, h45, h46, h47, h48, h49, h50, h51, h52, h53, h54⟩
  · intro l x w' hJ hi hd
    obtain ⟨B2, hS, hX, hK, h0, h1, h2, h3, h4, h5, h6, h7, h8, h9, h10, h11, h12, h13, h14, h15, h16, h17, h18, h19, h20, h21, h22, h23, h24, h25, h26, h27, h28, h29, h30, h31, h32, h33, h34, h35, h36, h37, h38, h39, h40, h41, h42, h43, h44, h45, h46, h47, h48, h49, h50, h51, h52, h53, h54⟩ := hJ
    have e9 := h9 (show l 9 = true by first | exact hd.1 rfl | exact hd.2.1 rfl | exact hd.2.2.1 rfl | exact hd.2.2.2.1 rfl | exact hd.2.2.2.2.1 rfl | exact hd.2.2.2.2.2.1 rfl)
    have e13 := h13 (show l 13 = true by first | exact hd.1 rfl | exact hd.2.1 rfl | exact hd.2.2.1 rfl | exact hd.2.2.2.1 rfl | exact hd.2.2.2.2.1 rfl | exact hd.2.2.2.2.2.1 rfl)
    have e17 := h17 (show l 17 = true by first | exact hd.1 rfl | exact hd.2.1 rfl | exact hd.2.2.1 rfl | exact hd.2.2.2.1 rfl | exact hd.2.2.2.2.1 rfl | exact hd.2.2.2.2.2.1 rfl)
    refine Runs.of (b := ?bB18) ?eB18 ?_
    case eB18 => simp only [putV, Act.put, List.setIfInBounds_toArray, List.set_cons_zero, List.set_cons_succ, e9, e13, e17]; rfl
    intro K' hK'
    go_simp
    exact hK'.go _ rfl ⟨B2, hS, hX, hK, h0, h1, h2, h3, h4, h5, h6, h7, h8, h9, h10, h11, h12, h13, h14, h15, h16, h17, fun _ => rfl, h19, h20, h21, h22, h23, h24, h25, h26, h27, h28, h29, h30, h31, h32, h33, h34, h35, h36, h37, h38, h39, h40, h41, h42, h43, h44, h45, h46, h47, h48, h49, h50, h51, h52, h53, h54⟩
  · intro l x w' hJ hi hd
    obtain ⟨B2, hS, hX, hK, h0, h1, h2, h3, h4, h5, h6, h7, h8, h9, h10, h11, h12, h13, h14, h15, h16, h17, h18, h19, h20, h21, h22, h23, h24, h25, h26, h27, h28, h29, h30, h31, h32, h33, h34, h35, h36, h37, h38, h39, h40, h41, h42, h43, h44, h45, h46, h47, h48, h49, h50, h51, h52, h53, h54⟩ := hJ
    have e9 := h9 (show l 9 = true by first | exact hd.1 rfl | exact hd.2.1 rfl | exact hd.2.2.1 rfl | exact hd.2.2.2.1 rfl | exact hd.2.2.2.2.1 rfl | exact hd.2.2.2.2.2.1 rfl)
    have e18 := h18 (show l 18 = true by first | exact hd.1 rfl | exact hd.2.1 rfl | exact hd.2.2.1 rfl | exact hd.2.2.2.1 rfl | exact hd.2.2.2.2.1 rfl | exact hd.2.2.2.2.2.1 rfl)
    refine Runs.of (b := ?bB19) ?eB19 ?_
    case eB19 => simp only [putV, Act.put, List.setIfInBounds_toArray, List.set_cons_zero, List.set_cons_succ, e9, e18]; rfl
    intro K' hK'
    go_simp
    exact hK'.go _ rfl ⟨B2, hS, hX, hK, h0, h1, h2, h3, h4, h5, h6, h7, h8, h9, h10, h11, h12, h13, h14, h15, h16, h17, h18, fun _ => rfl, h20, h21, h22, h23, h24, h25, h26, h27, h28, h29, h30, h31, h32, h33, h34, h35, h36, h37, h38, h39, h40, h41, h42, h43, h44, h45, h46, h47, h48, h49, h50, h51, h52, h53, h54⟩
  · intro l x w' hJ hi hd
    obtain ⟨B2, hS, hX, hK, h0, h1, h2, h3, h4, h5, h6, h7, h8, h9, h10, h11, h12, h13, h14, h15, h16, h17, h18, h19, h20, h21, h22, h23, h24, h25, h26, h27, h28, h29, h30, h31, h32, h33, h34, h35, h36, h37, h38, h39, h40, h41, h42, h43, h44, h45, h46, h47, h48, h49, h50, h51, h52, h53, h54⟩ := hJ
    have e19 := h19 (show l 19 = true by first | exact hd.1 rfl | exact hd.2.1 rfl | exact hd.2.2.1 rfl | exact hd.2.2.2.1 rfl | exact hd.2.2.2.2.1 rfl | exact hd.2.2.2.2.2.1 rfl)
    refine Runs.of (b := ?bB20) ?eB20 ?_
    case eB20 => simp only [putV, Act.put, List.setIfInBounds_toArray, List.set_cons_zero, List.set_cons_succ, e19]; rfl
    intro K' hK'
    go_simp
    exact hK'.go _ rfl ⟨B2, hS, hX, hK, h0, h1, h2, h3, h4, h5, h6, h7, h8, h9, h10, h11, h12, h13, h14, h15, h16, h17, h18, h19, fun _ => rfl, h21, h22, h23, h24, h25, h26, h27, h28, h29, h30, h31, h32, h33, h34, h35, h36, h37, h38, h39, h40, h41, h42, h43, h44, h45, h46, h47, h48, h49, h50, h51, h52, h53, h54⟩
  · intro l x w' hJ hi hd
    obtain ⟨B2, hS, hX, hK, h0, h1, h2, h3, h4, h5, h6, h7, h8, h9, h10, h11, h12, h13, h14, h15, h16, h17, h18, h19, h20, h21, h22, h23, h24, h25, h26, h27, h28, h29, h30, h31, h32, h33, h34, h35, h36, h37, h38, h39, h40, h41, h42, h43, h44, h45, h46, h47, h48, h49, h50, h51, h52, h53, h54⟩ := hJ
    have e20 := h20 (show l 20 = true by first | exact hd.1 rfl | exact hd.2.1 rfl | exact hd.2.2.1 rfl | exact hd.2.2.2.1 rfl | exact hd.2.2.2.2.1 rfl | exact hd.2.2.2.2.2.1 rfl)
    refine Runs.of (b := ?bB21) ?eB21 ?_
    case eB21 => simp only [putV, Act.put, List.setIfInBounds_toArray, List.set_cons_zero, List.set_cons_succ, e20]; rfl
    intro K' hK'
    go_simp
    exact hK'.go _ rfl ⟨B2, hS, hX, hK, h0, h1, h2, h3, h4, h5, h6, h7, h8, h9, h10, h11, h12, h13, h14, h15, h16, h17, h18, h19, h20, fun _ => rfl, h22, h23, h24, h25, h26, h27, h28, h29, h30, h31, h32, h33, h34, h35, h36, h37, h38, h39, h40, h41, h42, h43, h44, h45, h46, h47, h48, h49, h50, h51, h52, h53, h54⟩
  · intro l x w' hJ hi hd
    obtain ⟨B2, hS, hX, hK, h0, h1, h2, h3, h4, h5, h6, h7, h8, h9, h10, h11, h12, h13, h14, h15, h16, h17, h18, h19, h20, h21, h22, h23, h24, h25, h26, h27, h28, h29, h30, h31, h32, h33, h34, h35, h36, h37, h38, h39, h40, h41, h42, h43, h44, h45, h46, h47, h48, h49, h50, h51, h52, h53, h54⟩ := hJ
    have e20 := h20 (show l 20 = true by first | exact hd.1 rfl | exact hd.2.1 rfl | exact hd.2.2.1 rfl | exact hd.2.2.2.1 rfl | exact hd.2.2.2.2.1 rfl | exact hd.2.2.2.2.2.1 rfl)
    refine Runs.of (b := ?bB22) ?eB22 ?_
    case eB22 => simp only [putV, Act.put, List.setIfInBounds_toArray, List.set_cons_zero, List.set_cons_succ, e20]; rfl
    intro K' hK'
    go_simp
    exact hK'.go _ rfl ⟨B2, hS, hX, hK, h0, h1, h2, h3, h4, h5, h6, h7, h8, h9, h10, h11, h12, h13, h14, h15, h16, h17, h18, h19, h20, h21, fun _ => rfl, h23, h24, h25, h26, h27, h28, h29, h30, h31, h32, h33, h34, h35, h36, h37, h38, h39, h40, h41, h42, h43, h44, h45, h46, h47, h48, h49, h50, h51, h52, h53, h54⟩
  · intro l x w' hJ hi hd
    obtain ⟨B2, hS, hX, hK, h0, h1, h2, h3, h4, h5, h6, h7, h8, h9, h10, h11, h12, h13, h14, h15, h16, h17, h18, h19, h20, h21, h22, h23, h24, h25, h26, h27, h28, h29, h30, h31, h32, h33, h34, h35, h36, h37, h38, h39, h40, h41, h42, h43, h44, h45, h46, h47, h48, h49, h50, h51, h52, h53, h54⟩ := hJ
    have e20 := h20 (show l 20 = true by first | exact hd.1 rfl | exact hd.2.1 rfl | exact hd.2.2.1 rfl | exact hd.2.2.2.1 rfl | exact hd.2.2.2.2.1 rfl | exact hd.2.2.2.2.2.1 rfl)
    have e22 := h22 (show l 22 = true by first | exact hd.1 rfl | exact hd.2.1 rfl | exact hd.2.2.1 rfl | exact hd.2.2.2.1 rfl | exact hd.2.2.2.2.1 rfl | exact hd.2.2.2.2.2.1 rfl)
    refine Runs.of (b := ?bB23) ?eB23 ?_
    case eB23 => simp only [putV, Act.put, List.setIfInBounds_toArray, List.set_cons_zero, List.set_cons_succ, e20, e22]; rfl
    intro K' hK'
    go_simp
    exact hK'.go _ rfl ⟨B2, hS, hX, hK, h0, h1, h2, h3, h4, h5, h6, h7, h8, h9, h10, h11, h12, h13, h14, h15, h16, h17, h18, h19, h20, h21, h22, fun _ => rfl, h24, h25, h26, h27, h28, h29, h30, h31, h32, h33, h34, h35, h36, h37, h38, h39, h40, h41, h42, h43, h44, h45, h46, h47, h48, h49, h50, h51, h52, h53, h54⟩
  · intro l x w' hJ hi hd
    obtain ⟨B2, hS, hX, hK, h0, h1, h2, h3, h4, h5, h6, h7, h8, h9, h10, h11, h12, h13, h14, h15, h16, h17, h18, h19, h20, h21, h22, h23, h24, h25, h26, h27, h28, h29, h30, h31, h32, h33, h34, h35, h36, h37, h38, h39, h40, h41, h42, h43, h44, h45, h46, h47, h48, h49, h50, h51, h52, h53, h54⟩ := hJ
    have e20 := h20 (show l 20 = true by first | exact hd.1 rfl | exact hd.2.1 rfl | exact hd.2.2.1 rfl | exact hd.2.2.2.1 rfl | exact hd.2.2.2.2.1 rfl | exact hd.2.2.2.2.2.1 rfl)
    have e23 := h23 (show l 23 = true by first | exact hd.1 rfl | exact hd.2.1 rfl | exact hd.2.2.1 rfl | exact hd.2.2.2.1 rfl | exact hd.2.2.2.2.1 rfl | exact hd.2.2.2.2.2.1 rfl)
    refine Runs.of (b := ?bB24) ?eB24 ?_
    case eB24 => simp only [putV, Act.put, List.setIfInBounds_toArray, List.set_cons_zero, List.set_cons_succ, e20, e23]; rfl
    intro K' hK'
    go_simp
    exact hK'.go _ rfl ⟨B2, hS, hX, hK, h0, h1, h2, h3, h4, h5, h6, h7, h8, h9, h10, h11, h12, h13, h14, h15, h16, h17, h18, h19, h20, h21, h22, h23, fun _ => rfl, h25, h26, h27, h28, h29, h30, h31, h32, h33, h34, h35, h36, h37, h38, h39, h40, h41, h42, h43, h44, h45, h46, h47, h48, h49, h50, h51, h52, h53, h54⟩
  · intro l x w' hJ hi hd
    obtain ⟨B2, hS, hX, hK, h0, h1, h2, h3, h4, h5, h6, h7, h8, h9, h10, h11, h12, h13, h14, h15, h16, h17, h18, h19, h20, h21, h22, h23, h24, h25, h26, h27, h28, h29, h30, h31, h32, h33, h34, h35, h36, h37, h38, h39, h40, h41, h42, h43, h44, h45, h46, h47, h48, h49, h50, h51, h52, h53, h54⟩ := hJ
    have e20 := h20 (show l 20 = true by first | exact hd.1 rfl | exact hd.2.1 rfl | exact hd.2.2.1 rfl | exact hd.2.2.2.1 rfl | exact hd.2.2.2.2.1 rfl | exact hd.2.2.2.2.2.1 rfl)
    have e24 := h24 (show l 24 = true by first | exact hd.1 rfl | exact hd.2.1 rfl | exact hd.2.2.1 rfl | exact hd.2.2.2.1 rfl | exact hd.2.2.2.2.1 rfl | exact hd.2.2.2.2.2.1 rfl)
    have c2 := seg_2 hS
    refine Runs.of (b := ?bB25) ?eB25 ?_
    case eB25 => simp only [putV, Act.put, List.setIfInBounds_toArray, List.set_cons_zero, List.set_cons_succ, e20, e24]; rfl
    intro K' hK'
    go_simp
    exact hK'.go _ rfl ⟨B2, hS, hX, hK, h0, h1, h2, h3, h4, h5, h6, h7, h8, h9, h10, h11, h12, h13, h14, h15, h16, h17, h18, h19, h20, h21, h22, h23, h24, fun _ => rfl, h26, h27, h28, h29, h30, h31, h32, h33, h34, h35, h36, h37, h38, h39, h40, h41, h42, h43, h44, h45, h46, h47, h48, h49, h50, h51, h52, h53, h54⟩
  · intro l x w' hJ hi hd
    obtain ⟨B2, hS, hX, hK, h0, h1, h2, h3, h4, h5, h6, h7, h8, h9, h10, h11, h12, h13, h14, h15, h16, h17, h18, h19, h20, h21, h22, h23, h24, h25, h26, h27, h28, h29, h30, h31, h32, h33, h34, h35, h36, h37, h38, h39, h40, h41, h42, h43, h44, h45, h46, h47, h48, h49, h50, h51, h52, h53, h54⟩ := hJ
    have e20 := h20 (show l 20 = true by first | exact hd.1 rfl | exact hd.2.1 rfl | exact hd.2.2.1 rfl | exact hd.2.2.2.1 rfl | exact hd.2.2.2.2.1 rfl | exact hd.2.2.2.2.2.1 rfl)
    have e21 := h21 (show l 21 = true by first | exact hd.1 rfl | exact hd.2.1 rfl | exact hd.2.2.1 rfl | exact hd.2.2.2.1 rfl | exact hd.2.2.2.2.1 rfl | exact hd.2.2.2.2.2.1 rfl)
    have e25 := h25 (show l 25 = true by first | exact hd.1 rfl | exact hd.2.1 rfl | exact hd.2.2.1 rfl | exact hd.2.2.2.1 rfl | exact hd.2.2.2.2.1 rfl | exact hd.2.2.2.2.2.1 rfl)
    have q := Q26.out
    refine Runs.of (b := ?bB26) ?eB26 ?_
    case eB26 => simp only [putV, Act.put, List.setIfInBounds_toArray, List.set_cons_zero, List.set_cons_succ, e20, e21, e25]; rfl
    intro K' hK'
    go_simp
    exact hK'.go _ rfl ⟨B2, hS, hX, hK, h0, h1, h2, h3, h4, h5, h6, h7, h8, h9, h10, h11, h12, h13, h14, h15, h16, h17, h18, h19, h20, h21, h22, h23, h24, h25, fun _ => rfl, h27, h28, h29, h30, h31, h32, h33, h34, h35, h36, h37, h38, h39, h40, h41, h42, h43, h44, h45, h46, h47, h48, h49, h50, h51, h52, h53, h54⟩
  · intro l x w' hJ hi hd
    obtain ⟨B2, hS, hX, hK, h0, h1, h2, h3, h4, h5, h6, h7, h8, h9, h10, h11, h12, h13, h14, h15, h16, h17, h18, h19, h20, h21, h22, h23, h24, h25, h26, h27, h28, h29, h30, h31, h32, h33, h34, h35, h36, h37, h38, h39, h40, h41, h42, h43, h44, h45, h46, h47, h48, h49, h50, h51, h52, h53, h54⟩ := hJ
    have e20 := h20 (show l 20 = true by first | exact hd.1 rfl | exact hd.2.1 rfl | exact hd.2.2.1 rfl | exact hd.2.2.2.1 rfl | exact hd.2.2.2.2.1 rfl | exact hd.2.2.2.2.2.1 rfl)
    have e26 := h26 (show l 26 = true by first | exact hd.1 rfl | exact hd.2.1 rfl | exact hd.2.2.1 rfl | exact hd.2.2.2.1 rfl | exact hd.2.2.2.2.1 rfl | exact hd.2.2.2.2.2.1 rfl)
    refine Runs.of (b := ?bB27) ?eB27 ?_
    case eB27 => simp only [putV, Act.put, List.setIfInBounds_toArray, List.set_cons_zero, List.set_cons_succ, e20, e26]; rfl
    intro K' hK'
    go_simp
    exact hK'.go _ rfl ⟨B2, hS, hX, hK, h0, h1, h2, h3, h4, h5, h6, h7, h8, h9, h10, h11, h12, h13, h14, h15, h16, h17, h18, h19, h20, h21, h22, h23, h24, h25, h26, fun _ => rfl, h28, h29, h30, h31, h32, h33, h34, h35, h36, h37, h38, h39, h40, h41, h42, h43, h44, h45, h46, h47, h48, h49, h50, h51, h52, h53, h54⟩
  · intro l x w' hJ hi hd
    obtain ⟨B2, hS, hX, hK, h0, h1, h2, h3, h4, h5, h6, h7, h8, h9, h10, h11, h12, h13, h14, h15, h16, h17, h18, h19, h20, h21, h22, h23, h24, h25, h26, h27, h28, h29, h30, h31, h32, h33, h34, h35, h36, h37, h38, h39, h40, h41, h42, h43, h44, h45, h46, h47, h48, h49, h50, h51, h52, h53, h54⟩ := hJ
    have e27 := h27 (show l 27 = true by first | exact hd.1 rfl | exact hd.2.1 rfl | exact hd.2.2.1 rfl | exact hd.2.2.2.1 rfl | exact hd.2.2.2.2.1 rfl | exact hd.2.2.2.2.2.1 rfl)
    refine Runs.of (b := ?bB28) ?eB28 ?_
    case eB28 => simp only [putV, Act.put, List.setIfInBounds_toArray, List.set_cons_zero, List.set_cons_succ, e27]; rfl
    intro K' hK'
    go_simp
    exact hK'.go _ rfl ⟨B2, hS, hX, hK, h0, h1, h2, h3, h4, h5, h6, h7, h8, h9, h10, h11, h12, h13, h14, h15, h16, h17, h18, h19, h20, h21, h22, h23, h24, h25, h26, h27, fun _ => rfl, h29, h30, h31, h32, h33, h34, h35, h36, h37, h38, h39, h40, h41, h42, h43, h44, h45, h46, h47, h48, h49, h50, h51, h52, h53, h54⟩
  · intro l x w' hJ hi hd
    obtain ⟨B2, hS, hX, hK, h0, h1, h2, h3, h4, h5, h6, h7, h8, h9, h10, h11, h12, h13, h14, h15, h16, h17, h18, h19, h20, h21, h22, h23, h24, h25, h26, h27, h28, h29, h30, h31, h32, h33, h34, h35, h36, h37, h38, h39, h40, h41, h42, h43, h44, h45, h46, h47, h48, h49, h50, h51, h52, h53, h54⟩ := hJ
    have e28 := h28 (show l 28 = true by first | exact hd.1 rfl | exact hd.2.1 rfl | exact hd.2.2.1 rfl | exact hd.2.2.2.1 rfl | exact hd.2.2.2.2.1 rfl | exact hd.2.2.2.2.2.1 rfl)
    refine Runs.of (b := ?bB29) ?eB29 ?_
    case eB29 => simp only [putV, Act.put, List.setIfInBounds_toArray, List.set_cons_zero, List.set_cons_succ, e28]; rfl
    intro K' hK'
    go_simp
    exact hK'.go _ rfl ⟨B2, hS, hX, hK, h0, h1, h2, h3, h4, h5, h6, h7, h8, h9, h10, h11, h12, h13, h14, h15, h16, h17, h18, h19, h20, h21, h22, h23, h24, h25, h26, h27, h28, fun _ => rfl, h30, h31, h32, h33, h34, h35, h36, h37, h38, h39, h40, h41, h42, h43, h44, h45, h46, h47, h48, h49, h50, h51, h52, h53, h54⟩
  · intro l x w' hJ hi hd
    obtain ⟨B2, hS, hX, hK, h0, h1, h2, h3, h4, h5, h6, h7, h8, h9, h10, h11, h12, h13, h14, h15, h16, h17, h18, h19, h20, h21, h22, h23, h24, h25, h26, h27, h28, h29, h30, h31, h32, h33, h34, h35, h36, h37, h38, h39, h40, h41, h42, h43, h44, h45, h46, h47, h48, h49, h50, h51, h52, h53, h54⟩ := hJ
    have e28 := h28 (show l 28 = true by first | exact hd.1 rfl | exact hd.2.1 rfl | exact hd.2.2.1 rfl | exact hd.2.2.2.1 rfl | exact hd.2.2.2.2.1 rfl | exact hd.2.2.2.2.2.1 rfl)
    have e29 := h29 (show l 29 = true by first | exact hd.1 rfl | exact hd.2.1 rfl | exact hd.2.2.1 rfl | exact hd.2.2.2.1 rfl | exact hd.2.2.2.2.1 rfl | exact hd.2.2.2.2.2.1 rfl)
    refine Runs.of (b := ?bB30) ?eB30 ?_
    case eB30 => simp only [putV, Act.put, List.setIfInBounds_toArray, List.set_cons_zero, List.set_cons_succ, e28, e29]; rfl
    intro K' hK'
    go_simp
    exact hK'.go _ rfl ⟨B2, hS, hX, hK, h0, h1, h2, h3, h4, h5, h6, h7, h8, h9, h10, h11, h12, h13, h14, h15, h16, h17, h18, h19, h20, h21, h22, h23, h24, h25, h26, h27, h28, h29, fun _ => rfl, h31, h32, h33, h34, h35, h36, h37, h38, h39, h40, h41, h42, h43, h44, h45, h46, h47, h48, h49, h50, h51, h52, h53, h54⟩
  · intro l x w' hJ hi hd
    obtain ⟨B2, hS, hX, hK, h0, h1, h2, h3, h4, h5, h6, h7, h8, h9, h10, h11, h12, h13, h14, h15, h16, h17, h18, h19, h20, h21, h22, h23, h24, h25, h26, h27, h28, h29, h30, h31, h32, h33, h34, h35, h36, h37, h38, h39, h40, h41, h42, h43, h44, h45, h46, h47, h48, h49, h50, h51, h52, h53, h54⟩ := hJ
    have e28 := h28 (show l 28 = true by first | exact hd.1 rfl | exact hd.2.1 rfl | exact hd.2.2.1 rfl | exact hd.2.2.2.1 rfl | exact hd.2.2.2.2.1 rfl | exact hd.2.2.2.2.2.1 rfl)
    have e30 := h30 (show l 30 = true by first | exact hd.1 rfl | exact hd.2.1 rfl | exact hd.2.2.1 rfl | exact hd.2.2.2.1 rfl | exact hd.2.2.2.2.1 rfl | exact hd.2.2.2.2.2.1 rfl)
    have c14 := H14.out w' hX
    refine Runs.of (b := ?bB31) ?eB31 ?_
    case eB31 => simp only [putV, Act.put, List.setIfInBounds_toArray, List.set_cons_zero, List.set_cons_succ, e28, e30]; rfl
    intro K' hK'
    go_simp
    exact hK'.go _ rfl ⟨B2, hS, hX, hK, h0, h1, h2, h3, h4, h5, h6, h7, h8, h9, h10, h11, h12, h13, h14, h15, h16, h17, h18, h19, h20, h21, h22, h23, h24, h25, h26, h27, h28, h29, h30, fun _ => rfl, h32, h33, h34, h35, h36, h37, h38, h39, h40, h41, h42, h43, h44, h45, h46, h47, h48, h49, h50, h51, h52, h53, h54⟩
  · intro l x w' hJ hi hd
    obtain ⟨B2, hS, hX, hK, h0, h1, h2, h3, h4, h5, h6, h7, h8, h9, h10, h11, h12, h13, h14, h15, h16, h17, h18, h19, h20, h21, h22, h23, h24, h25, h26, h27, h28, h29, h30, h31, h32, h33, h34, h35, h36, h37, h38, h39, h40, h41, h42, h43, h44, h45, h46, h47, h48, h49, h50, h51, h52, h53, h54⟩ := hJ
    have e28 := h28 (show l 28 = true by first | exact hd.1 rfl | exact hd.2.1 rfl | exact hd.2.2.1 rfl | exact hd.2.2.2.1 rfl | exact hd.2.2.2.2.1 rfl | exact hd.2.2.2.2.2.1 rfl)
    have e31 := h31 (show l 31 = true by first | exact hd.1 rfl | exact hd.2.1 rfl | exact hd.2.2.1 rfl | exact hd.2.2.2.1 rfl | exact hd.2.2.2.2.1 rfl | exact hd.2.2.2.2.2.1 rfl)
    refine Runs.of (b := ?bB32) ?eB32 ?_
    case eB32 => simp only [putV, Act.put, List.setIfInBounds_toArray, List.set_cons_zero, List.set_cons_succ, e28, e31]; rfl
    intro K' hK'
    go_simp
    exact hK'.go _ rfl ⟨B2, hS, hX, hK, h0, h1, h2, h3, h4, h5, h6, h7, h8, h9, h10, h11, h12, h13, h14, h15, h16, h17, h18, h19, h20, h21, h22, h23, h24, h25, h26, h27, h28, h29, h30, h31, fun _ => (by first | rfl | exact congrArg (Value.int .i64) HWi.out), h33, h34, h35, h36, h37, h38, h39, h40, h41, h42, h43, h44, h45, h46, h47, h48, h49, h50, h51, h52, h53, h54⟩
  · intro l x w' hJ hi hd
    obtain ⟨B2, hS, hX, hK, h0, h1, h2, h3, h4, h5, h6, h7, h8, h9, h10, h11, h12, h13, h14, h15, h16, h17, h18, h19, h20, h21, h22, h23, h24, h25, h26, h27, h28, h29, h30, h31, h32, h33, h34, h35, h36, h37, h38, h39, h40, h41, h42, h43, h44, h45, h46, h47, h48, h49, h50, h51, h52, h53, h54⟩ := hJ
    have e28 := h28 (show l 28 = true by first | exact hd.1 rfl | exact hd.2.1 rfl | exact hd.2.2.1 rfl | exact hd.2.2.2.1 rfl | exact hd.2.2.2.2.1 rfl | exact hd.2.2.2.2.2.1 rfl)
    refine Runs.of (b := ?bB33) ?eB33 ?_
    case eB33 => simp only [putV, Act.put, List.setIfInBounds_toArray, List.set_cons_zero, List.set_cons_succ, e28]; rfl
    intro K' hK'
    go_simp
    exact hK'.go _ rfl ⟨B2, hS, hX, hK, h0, h1, h2, h3, h4, h5, h6, h7, h8, h9, h10, h11, h12, h13, h14, h15, h16, h17, h18, h19, h20, h21, h22, h23, h24, h25, h26, h27, h28, h29, h30, h31, h32, fun _ => rfl, h34, h35, h36, h37, h38, h39, h40, h41, h42, h43, h44, h45, h46, h47, h48, h49, h50, h51, h52, h53, h54⟩
  · intro l x w' hJ hi hd
    obtain ⟨B2, hS, hX, hK, h0, h1, h2, h3, h4, h5, h6, h7, h8, h9, h10, h11, h12, h13, h14, h15, h16, h17, h18, h19, h20, h21, h22, h23, h24, h25, h26, h27, h28, h29, h30, h31, h32, h33, h34, h35, h36, h37, h38, h39, h40, h41, h42, h43, h44, h45, h46, h47, h48, h49, h50, h51, h52, h53, h54⟩ := hJ
    have e28 := h28 (show l 28 = true by first | exact hd.1 rfl | exact hd.2.1 rfl | exact hd.2.2.1 rfl | exact hd.2.2.2.1 rfl | exact hd.2.2.2.2.1 rfl | exact hd.2.2.2.2.2.1 rfl)
    have e32 := h32 (show l 32 = true by first | exact hd.1 rfl | exact hd.2.1 rfl | exact hd.2.2.1 rfl | exact hd.2.2.2.1 rfl | exact hd.2.2.2.2.1 rfl | exact hd.2.2.2.2.2.1 rfl)
    have e33 := h33 (show l 33 = true by first | exact hd.1 rfl | exact hd.2.1 rfl | exact hd.2.2.1 rfl | exact hd.2.2.2.1 rfl | exact hd.2.2.2.2.1 rfl | exact hd.2.2.2.2.2.1 rfl)
    refine Runs.of (b := ?bB34) ?eB34 ?_
    case eB34 => simp only [putV, Act.put, List.setIfInBounds_toArray, List.set_cons_zero, List.set_cons_succ, e28, e32, e33]; rfl
    intro K' hK'
    go_simp
    exact hK'.go _ rfl ⟨B2, hS, hX, hK, h0, h1, h2, h3, h4, h5, h6, h7, h8, h9, h10, h11, h12, h13, h14, h15, h16, h17, h18, h19, h20, h21, h22, h23, h24, h25, h26, h27, h28, h29, h30, h31, h32, h33, fun _ => rfl, h35, h36, h37, h38, h39, h40, h41, h42, h43, h44, h45, h46, h47, h48, h49, h50, h51, h52, h53, h54⟩
  · intro l x w' hJ hi hd
    obtain ⟨B2, hS, hX, hK, h0, h1, h2, h3, h4, h5, h6, h7, h8, h9, h10, h11, h12, h13, h14, h15, h16, h17, h18, h19, h20, h21, h22, h23, h24, h25, h26, h27, h28, h29, h30, h31, h32, h33, h34, h35, h36, h37, h38, h39, h40, h41, h42, h43, h44, h45, h46, h47, h48, h49, h50, h51, h52, h53, h54⟩ := hJ
    have e28 := h28 (show l 28 = true by first | exact hd.1 rfl | exact hd.2.1 rfl | exact hd.2.2.1 rfl | exact hd.2.2.2.1 rfl | exact hd.2.2.2.2.1 rfl | exact hd.2.2.2.2.2.1 rfl)
    have e34 := h34 (show l 34 = true by first | exact hd.1 rfl | exact hd.2.1 rfl | exact hd.2.2.1 rfl | exact hd.2.2.2.1 rfl | exact hd.2.2.2.2.1 rfl | exact hd.2.2.2.2.2.1 rfl)
    refine Runs.of (b := ?bB35) ?eB35 ?_
    case eB35 => simp only [putV, Act.put, List.setIfInBounds_toArray, List.set_cons_zero, List.set_cons_succ, e28, e34]; rfl
    intro K' hK'
    go_simp
    exact hK'.go _ rfl ⟨B2, hS, hX, hK, h0, h1, h2, h3, h4, h5, h6, h7, h8, h9, h10, h11, h12, h13, h14, h15, h16, h17, h18, h19, h20, h21, h22, h23, h24, h25, h26, h27, h28, h29, h30, h31, h32, h33, h34, fun _ => rfl, h36, h37, h38, h39, h40, h41, h42, h43, h44, h45, h46, h47, h48, h49, h50, h51, h52, h53, h54⟩
  · intro l x w' hJ hi hd
    obtain ⟨B2, hS, hX, hK, h0, h1, h2, h3, h4, h5, h6, h7, h8, h9, h10, h11, h12, h13, h14, h15, h16, h17, h18, h19, h20, h21, h22, h23, h24, h25, h26, h27, h28, h29, h30, h31, h32, h33, h34, h35, h36, h37, h38, h39, h40, h41, h42, h43, h44, h45, h46, h47, h48, h49, h50, h51, h52, h53, h54⟩ := hJ
    have e35 := h35 (show l 35 = true by first | exact hd.1 rfl | exact hd.2.1 rfl | exact hd.2.2.1 rfl | exact hd.2.2.2.1 rfl | exact hd.2.2.2.2.1 rfl | exact hd.2.2.2.2.2.1 rfl)
    refine Runs.of (b := ?bB36) ?eB36 ?_
    case eB36 => simp only [putV, Act.put, List.setIfInBounds_toArray, List.set_cons_zero, List.set_cons_succ, e35]; rfl
    intro K' hK'
    go_simp
    exact hK'.go _ rfl ⟨B2, hS, hX, hK, h0, h1, h2, h3, h4, h5, h6, h7, h8, h9, h10, h11, h12, h13, h14, h15, h16, h17, h18, h19, h20, h21, h22, h23, h24, h25, h26, h27, h28, h29, h30, h31, h32, h33, h34, h35, fun _ => rfl, h37, h38, h39, h40, h41, h42, h43, h44, h45, h46, h47, h48, h49, h50, h51, h52, h53, h54⟩
  · intro l x w' hJ hi hd
    obtain ⟨B2, hS, hX, hK, h0, h1, h2, h3, h4, h5, h6, h7, h8, h9, h10, h11, h12, h13, h14, h15, h16, h17, h18, h19, h20, h21, h22, h23, h24, h25, h26, h27, h28, h29, h30, h31, h32, h33, h34, h35, h36, h37, h38, h39, h40, h41, h42, h43, h44, h45, h46, h47, h48, h49, h50, h51, h52, h53, h54⟩ := hJ
    have e36 := h36 (show l 36 = true by first | exact hd.1 rfl | exact hd.2.1 rfl | exact hd.2.2.1 rfl | exact hd.2.2.2.1 rfl | exact hd.2.2.2.2.1 rfl | exact hd.2.2.2.2.2.1 rfl)
    refine Runs.of (b := ?bB37) ?eB37 ?_
    case eB37 => simp only [putV, Act.put, List.setIfInBounds_toArray, List.set_cons_zero, List.set_cons_succ, e36]; rfl
    intro K' hK'
    go_simp
    exact hK'.go _ rfl ⟨B2, hS, hX, hK, h0, h1, h2, h3, h4, h5, h6, h7, h8, h9, h10, h11, h12, h13, h14, h15, h16, h17, h18, h19, h20, h21, h22, h23, h24, h25, h26, h27, h28, h29, h30, h31, h32, h33, h34, h35, h36, fun _ => rfl, h38, h39, h40, h41, h42, h43, h44, h45, h46, h47, h48, h49, h50, h51, h52, h53, h54⟩
  · intro l x w' hJ hi hd
    obtain ⟨B2, hS, hX, hK, h0, h1, h2, h3, h4, h5, h6, h7, h8, h9, h10, h11, h12, h13, h14, h15, h16, h17, h18, h19, h20, h21, h22, h23, h24, h25, h26, h27, h28, h29, h30, h31, h32, h33, h34, h35, h36, h37, h38, h39, h40, h41, h42, h43, h44, h45, h46, h47, h48, h49, h50, h51, h52, h53, h54⟩ := hJ
    have e36 := h36 (show l 36 = true by first | exact hd.1 rfl | exact hd.2.1 rfl | exact hd.2.2.1 rfl | exact hd.2.2.2.1 rfl | exact hd.2.2.2.2.1 rfl | exact hd.2.2.2.2.2.1 rfl)
    have e37 := h37 (show l 37 = true by first | exact hd.1 rfl | exact hd.2.1 rfl | exact hd.2.2.1 rfl | exact hd.2.2.2.1 rfl | exact hd.2.2.2.2.1 rfl | exact hd.2.2.2.2.2.1 rfl)
    refine Runs.of (b := ?bB38) ?eB38 ?_
    case eB38 => simp only [putV, Act.put, List.setIfInBounds_toArray, List.set_cons_zero, List.set_cons_succ, e36, e37]; rfl
    intro K' hK'
    go_simp
    exact hK'.go _ rfl ⟨B2, hS, hX, hK, h0, h1, h2, h3, h4, h5, h6, h7, h8, h9, h10, h11, h12, h13, h14, h15, h16, h17, h18, h19, h20, h21, h22, h23, h24, h25, h26, h27, h28, h29, h30, h31, h32, h33, h34, h35, h36, h37, fun _ => rfl, h39, h40, h41, h42, h43, h44, h45, h46, h47, h48, h49, h50, h51, h52, h53, h54⟩
  · intro l x w' hJ hi hd
    obtain ⟨B2, hS, hX, hK, h0, h1, h2, h3, h4, h5, h6, h7, h8, h9, h10, h11, h12, h13, h14, h15, h16, h17, h18, h19, h20, h21, h22, h23, h24, h25, h26, h27, h28, h29, h30, h31, h32, h33, h34, h35, h36, h37, h38, h39, h40, h41, h42, h43, h44, h45, h46, h47, h48, h49, h50, h51, h52, h53, h54⟩ := hJ
    have e36 := h36 (show l 36 = true by first | exact hd.1 rfl | exact hd.2.1 rfl | exact hd.2.2.1 rfl | exact hd.2.2.2.1 rfl | exact hd.2.2.2.2.1 rfl | exact hd.2.2.2.2.2.1 rfl)
    have e38 := h38 (show l 38 = true by first | exact hd.1 rfl | exact hd.2.1 rfl | exact hd.2.2.1 rfl | exact hd.2.2.2.1 rfl | exact hd.2.2.2.2.1 rfl | exact hd.2.2.2.2.2.1 rfl)
    have c15 := H15.out w' hX
    refine Runs.of (b := ?bB39) ?eB39 ?_
    case eB39 => simp only [putV, Act.put, List.setIfInBounds_toArray, List.set_cons_zero, List.set_cons_succ, e36, e38]; rfl
    intro K' hK'
    go_simp
    exact hK'.go _ rfl ⟨B2, hS, hX, hK, h0, h1, h2, h3, h4, h5, h6, h7, h8, h9, h10, h11, h12, h13, h14, h15, h16, h17, h18, h19, h20, h21, h22, h23, h24, h25, h26, h27, h28, h29, h30, h31, h32, h33, h34, h35, h36, h37, h38, fun _ => rfl, h40, h41, h42, h43, h44, h45, h46, h47, h48, h49, h50, h51, h52, h53, h54⟩
  · intro l x w' hJ hi hd
    obtain ⟨B2, hS, hX, hK, h0, h1, h2, h3, h4, h5, h6, h7, h8, h9, h10, h11, h12, h13, h14, h15, h16, h17, h18, h19, h20, h21, h22, h23, h24, h25, h26, h27, h28, h29, h30, h31, h32, h33, h34, h35, h36, h37, h38, h39, h40, h41, h42, h43, h44, h45, h46, h47, h48, h49, h50, h51, h52, h53, h54⟩ := hJ
    have e36 := h36 (show l 36 = true by first | exact hd.1 rfl | exact hd.2.1 rfl | exact hd.2.2.1 rfl | exact hd.2.2.2.1 rfl | exact hd.2.2.2.2.1 rfl | exact hd.2.2.2.2.2.1 rfl)
    have e39 := h39 (show l 39 = true by first | exact hd.1 rfl | exact hd.2.1 rfl | exact hd.2.2.1 rfl | exact hd.2.2.2.1 rfl | exact hd.2.2.2.2.1 rfl | exact hd.2.2.2.2.2.1 rfl)
    refine Runs.of (b := ?bB40) ?eB40 ?_
    case eB40 => simp only [putV, Act.put, List.setIfInBounds_toArray, List.set_cons_zero, List.set_cons_succ, e36, e39]; rfl
    intro K' hK'
    go_simp
    exact hK'.go _ rfl ⟨B2, hS, hX, hK, h0, h1, h2, h3, h4, h5, h6, h7, h8, h9, h10, h11, h12, h13, h14, h15, h16, h17, h18, h19, h20, h21, h22, h23, h24, h25, h26, h27, h28, h29, h30, h31, h32, h33, h34, h35, h36, h37, h38, h39, fun _ => (by first | rfl | exact congrArg (Value.int .i64) HWcl.out), h41, h42, h43, h44, h45, h46, h47, h48, h49, h50, h51, h52, h53, h54⟩
  · intro l x w' hJ hi hd
    obtain ⟨B2, hS, hX, hK, h0, h1, h2, h3, h4, h5, h6, h7, h8, h9, h10, h11, h12, h13, h14, h15, h16, h17, h18, h19, h20, h21, h22, h23, h24, h25, h26, h27, h28, h29, h30, h31, h32, h33, h34, h35, h36, h37, h38, h39, h40, h41, h42, h43, h44, h45, h46, h47, h48, h49, h50, h51, h52, h53, h54⟩ := hJ
    have e36 := h36 (show l 36 = true by first | exact hd.1 rfl | exact hd.2.1 rfl | exact hd.2.2.1 rfl | exact hd.2.2.2.1 rfl | exact hd.2.2.2.2.1 rfl | exact hd.2.2.2.2.2.1 rfl)
    refine Runs.of (b := ?bB41) ?eB41 ?_
    case eB41 => simp only [putV, Act.put, List.setIfInBounds_toArray, List.set_cons_zero, List.set_cons_succ, e36]; rfl
    intro K' hK'
    go_simp
    exact hK'.go _ rfl ⟨B2, hS, hX, hK, h0, h1, h2, h3, h4, h5, h6, h7, h8, h9, h10, h11, h12, h13, h14, h15, h16, h17, h18, h19, h20, h21, h22, h23, h24, h25, h26, h27, h28, h29, h30, h31, h32, h33, h34, h35, h36, h37, h38, h39, h40, fun _ => rfl, h42, h43, h44, h45, h46, h47, h48, h49, h50, h51, h52, h53, h54⟩
  · intro l x w' hJ hi hd
    obtain ⟨B2, hS, hX, hK, h0, h1, h2, h3, h4, h5, h6, h7, h8, h9, h10, h11, h12, h13, h14, h15, h16, h17, h18, h19, h20, h21, h22, h23, h24, h25, h26, h27, h28, h29, h30, h31, h32, h33, h34, h35, h36, h37, h38, h39, h40, h41, h42, h43, h44, h45, h46, h47, h48, h49, h50, h51, h52, h53, h54⟩ := hJ
    have e36 := h36 (show l 36 = true by first | exact hd.1 rfl | exact hd.2.1 rfl | exact hd.2.2.1 rfl | exact hd.2.2.2.1 rfl | exact hd.2.2.2.2.1 rfl | exact hd.2.2.2.2.2.1 rfl)
    have e41 := h41 (show l 41 = true by first | exact hd.1 rfl | exact hd.2.1 rfl | exact hd.2.2.1 rfl | exact hd.2.2.2.1 rfl | exact hd.2.2.2.2.1 rfl | exact hd.2.2.2.2.2.1 rfl)
    refine Runs.of (b := ?bB42) ?eB42 ?_
    case eB42 => simp only [putV, Act.put, List.setIfInBounds_toArray, List.set_cons_zero, List.set_cons_succ, e36, e41]; rfl
    intro K' hK'
    go_simp
    exact hK'.go _ rfl ⟨B2, hS, hX, hK, h0, h1, h2, h3, h4, h5, h6, h7, h8, h9, h10, h11, h12, h13, h14, h15, h16, h17, h18, h19, h20, h21, h22, h23, h24, h25, h26, h27, h28, h29, h30, h31, h32, h33, h34, h35, h36, h37, h38, h39, h40, h41, fun _ => rfl, h43, h44, h45, h46, h47, h48, h49, h50, h51, h52, h53, h54⟩
  · intro l x w' hJ hi hd
    obtain ⟨B2, hS, hX, hK, h0, h1, h2, h3, h4, h5, h6, h7, h8, h9, h10, h11, h12, h13, h14, h15, h16, h17, h18, h19, h20, h21, h22, h23, h24, h25, h26, h27, h28, h29, h30, h31, h32, h33, h34, h35, h36, h37, h38, h39, h40, h41, h42, h43, h44, h45, h46, h47, h48, h49, h50, h51, h52, h53, h54⟩ := hJ
    have e36 := h36 (show l 36 = true by first | exact hd.1 rfl | exact hd.2.1 rfl | exact hd.2.2.1 rfl | exact hd.2.2.2.1 rfl | exact hd.2.2.2.2.1 rfl | exact hd.2.2.2.2.2.1 rfl)
    have e40 := h40 (show l 40 = true by first | exact hd.1 rfl | exact hd.2.1 rfl | exact hd.2.2.1 rfl | exact hd.2.2.2.1 rfl | exact hd.2.2.2.2.1 rfl | exact hd.2.2.2.2.2.1 rfl)
    have e42 := h42 (show l 42 = true by first | exact hd.1 rfl | exact hd.2.1 rfl | exact hd.2.2.1 rfl | exact hd.2.2.2.1 rfl | exact hd.2.2.2.2.1 rfl | exact hd.2.2.2.2.2.1 rfl)
    have q := Q43.out.1
    have q' := Q43.out.2
    refine Runs.of (b := ?bB43) ?eB43 ?_
    case eB43 => simp only [putV, Act.put, List.setIfInBounds_toArray, List.set_cons_zero, List.set_cons_succ, e36, e40, e42]; rfl
    intro K' hK'
    go_simp
    exact hK'.go _ rfl ⟨B2, hS, hX, hK, h0, h1, h2, h3, h4, h5, h6, h7, h8, h9, h10, h11, h12, h13, h14, h15, h16, h17, h18, h19, h20, h21, h22, h23, h24, h25, h26, h27, h28, h29, h30, h31, h32, h33, h34, h35, h36, h37, h38, h39, h40, h41, h42, fun _ => rfl, h44, h45, h46, h47, h48, h49, h50, h51, h52, h53, h54⟩
  · intro l x w' hJ hi hd
    obtain ⟨B2, hS, hX, hK, h0, h1, h2, h3, h4, h5, h6, h7, h8, h9, h10, h11, h12, h13, h14, h15, h16, h17, h18, h19, h20, h21, h22, h23, h24, h25, h26, h27, h28, h29, h30, h31, h32, h33, h34, h35, h36, h37, h38, h39, h40, h41, h42, h43, h44, h45, h46, h47, h48, h49, h50, h51, h52, h53, h54⟩ := hJ
    have e36 := h36 (show l 36 = true by first | exact hd.1 rfl | exact hd.2.1 rfl | exact hd.2.2.1 rfl | exact hd.2.2.2.1 rfl | exact hd.2.2.2.2.1 rfl | exact hd.2.2.2.2.2.1 rfl)
    have e43 := h43 (show l 43 = true by first | exact hd.1 rfl | exact hd.2.1 rfl | exact hd.2.2.1 rfl | exact hd.2.2.2.1 rfl | exact hd.2.2.2.2.1 rfl | exact hd.2.2.2.2.2.1 rfl)
    refine Runs.of (b := ?bB44) ?eB44 ?_
    case eB44 => simp only [putV, Act.put, List.setIfInBounds_toArray, List.set_cons_zero, List.set_cons_succ, e36, e43]; rfl
    intro K' hK'
    go_simp
    exact hK'.go _ rfl ⟨B2, hS, hX, hK, h0, h1, h2, h3, h4, h5, h6, h7, h8, h9, h10, h11, h12, h13, h14, h15, h16, h17, h18, h19, h20, h21, h22, h23, h24, h25, h26, h27, h28, h29, h30, h31, h32, h33, h34, h35, h36, h37, h38, h39, h40, h41, h42, h43, fun _ => rfl, h45, h46, h47, h48, h49, h50, h51, h52, h53, h54⟩
  · intro l x w' hJ hi hd
    obtain ⟨B2, hS, hX, hK, h0, h1, h2, h3, h4, h5, h6, h7, h8, h9, h10, h11, h12, h13, h14, h15, h16, h17, h18, h19, h20, h21, h22, h23, h24, h25, h26, h27, h28, h29, h30, h31, h32, h33, h34, h35, h36, h37, h38, h39, h40, h41, h42, h43, h44, h45, h46, h47, h48, h49, h50, h51, h52, h53, h54⟩ := hJ
    have e44 := h44 (show l 44 = true by first | exact hd.1 rfl | exact hd.2.1 rfl | exact hd.2.2.1 rfl | exact hd.2.2.2.1 rfl | exact hd.2.2.2.2.1 rfl | exact hd.2.2.2.2.2.1 rfl)
    refine Runs.of (b := ?bB45) ?eB45 ?_
    case eB45 => simp only [putV, Act.put, List.setIfInBounds_toArray, List.set_cons_zero, List.set_cons_succ, e44]; rfl
    intro K' hK'
    go_simp
    exact hK'.go _ rfl ⟨B2, hS, hX, hK, h0, h1, h2, h3, h4, h5, h6, h7, h8, h9, h10, h11, h12, h13, h14, h15, h16, h17, h18, h19, h20, h21, h22, h23, h24, h25, h26, h27, h28, h29, h30, h31, h32, h33, h34, h35, h36, h37, h38, h39, h40, h41, h42, h43, h44, fun _ => rfl, h46, h47, h48, h49, h50, h51, h52, h53, h54⟩
  · intro l x w' hJ hi hd
    obtain ⟨B2, hS, hX, hK, h0, h1, h2, h3, h4, h5, h6, h7, h8, h9, h10, h11, h12, h13, h14, h15, h16, h17, h18, h19, h20, h21, h22, h23, h24, h25, h26, h27, h28, h29, h30, h31, h32, h33, h34, h35, h36, h37, h38, h39, h40, h41, h42, h43, h44, h45, h46, h47, h48, h49, h50, h51, h52, h53, h54⟩ := hJ
    have e45 := h45 (show l 45 = true by first | exact hd.1 rfl | exact hd.2.1 rfl | exact hd.2.2.1 rfl | exact hd.2.2.2.1 rfl | exact hd.2.2.2.2.1 rfl | exact hd.2.2.2.2.2.1 rfl)
    refine Runs.of (b := ?bB46) ?eB46 ?_
    case eB46 => simp only [putV, Act.put, List.setIfInBounds_toArray, List.set_cons_zero, List.set_cons_succ, e45]; rfl
    intro K' hK'
    go_simp
    exact hK'.go _ rfl ⟨B2, hS, hX, hK, h0, h1, h2, h3, h4, h5, h6, h7, h8, h9, h10, h11, h12, h13, h14, h15, h16, h17, h18, h19, h20, h21, h22, h23, h24, h25, h26, h27, h28, h29, h30, h31, h32, h33, h34, h35, h36, h37, h38, h39, h40, h41, h42, h43, h44, h45, fun _ => rfl, h47, h48, h49, h50, h51, h52, h53, h54⟩
  · intro l x w' hJ hi hd
    obtain ⟨B2, hS, hX, hK, h0, h1, h2, h3, h4, h5, h6, h7, h8, h9, h10, h11, h12, h13, h14, h15, h16, h17, h18, h19, h20, h21, h22, h23, h24, h25, h26, h27, h28, h29, h30, h31, h32, h33, h34, h35, h36, h37, h38, h39, h40, h41, h42, h43, h44, h45, h46, h47, h48, h49, h50, h51, h52, h53, h54⟩ := hJ
    have e45 := h45 (show l 45 = true by first | exact hd.1 rfl | exact hd.2.1 rfl | exact hd.2.2.1 rfl | exact hd.2.2.2.1 rfl | exact hd.2.2.2.2.1 rfl | exact hd.2.2.2.2.2.1 rfl)
    have e46 := h46 (show l 46 = true by first | exact hd.1 rfl | exact hd.2.1 rfl | exact hd.2.2.1 rfl | exact hd.2.2.2.1 rfl | exact hd.2.2.2.2.1 rfl | exact hd.2.2.2.2.2.1 rfl)
    refine Runs.of (b := ?bB47) ?eB47 ?_
    case eB47 => simp only [putV, Act.put, List.setIfInBounds_toArray, List.set_cons_zero, List.set_cons_succ, e45, e46]; rfl
    intro K' hK'
    go_simp
    exact hK'.go _ rfl ⟨B2, hS, hX, hK, h0, h1, h2, h3, h4, h5, h6, h7, h8, h9, h10, h11, h12, h13, h14, h15, h16, h17, h18, h19, h20, h21, h22, h23, h24, h25, h26, h27, h28, h29, h30, h31, h32, h33, h34, h35, h36, h37, h38, h39, h40, h41, h42, h43, h44, h45, h46, fun _ => rfl, h48, h49, h50, h51, h52, h53, h54⟩
  · intro l x w' hJ hi hd
    obtain ⟨B2, hS, hX, hK, h0, h1, h2, h3, h4, h5, h6, h7, h8, h9, h10, h11, h12, h13, h14, h15, h16, h17, h18, h19, h20, h21, h22, h23, h24, h25, h26, h27, h28, h29, h30, h31, h32, h33, h34, h35, h36, h37, h38, h39, h40, h41, h42, h43, h44, h45, h46, h47, h48, h49, h50, h51, h52, h53, h54⟩ := hJ
    have e45 := h45 (show l 45 = true by first | exact hd.1 rfl | exact hd.2.1 rfl | exact hd.2.2.1 rfl | exact hd.2.2.2.1 rfl | exact hd.2.2.2.2.1 rfl | exact hd.2.2.2.2.2.1 rfl)
    have e47 := h47 (show l 47 = true by first | exact hd.1 rfl | exact hd.2.1 rfl | exact hd.2.2.1 rfl | exact hd.2.2.2.1 rfl | exact hd.2.2.2.2.1 rfl | exact hd.2.2.2.2.2.1 rfl)
    refine Runs.of (b := ?bB48) ?eB48 ?_
    case eB48 => simp only [putV, Act.put, List.setIfInBounds_toArray, List.set_cons_zero, List.set_cons_succ, e45, e47]; rfl
    intro K' hK'
    go_simp
    exact hK'.go _ rfl ⟨B2, hS, hX, hK, h0, h1, h2, h3, h4, h5, h6, h7, h8, h9, h10, h11, h12, h13, h14, h15, h16, h17, h18, h19, h20, h21, h22, h23, h24, h25, h26, h27, h28, h29, h30, h31, h32, h33, h34, h35, h36, h37, h38, h39, h40, h41, h42, h43, h44, h45, h46, h47, fun _ => rfl, h49, h50, h51, h52, h53, h54⟩
  · intro l x w' hJ hi hd
    obtain ⟨B2, hS, hX, hK, h0, h1, h2, h3, h4, h5, h6, h7, h8, h9, h10, h11, h12, h13, h14, h15, h16, h17, h18, h19, h20, h21, h22, h23, h24, h25, h26, h27, h28, h29, h30, h31, h32, h33, h34, h35, h36, h37, h38, h39, h40, h41, h42, h43, h44, h45, h46, h47, h48, h49, h50, h51, h52, h53, h54⟩ := hJ
    have e45 := h45 (show l 45 = true by first | exact hd.1 rfl | exact hd.2.1 rfl | exact hd.2.2.1 rfl | exact hd.2.2.2.1 rfl | exact hd.2.2.2.2.1 rfl | exact hd.2.2.2.2.2.1 rfl)
    have e48 := h48 (show l 48 = true by first | exact hd.1 rfl | exact hd.2.1 rfl | exact hd.2.2.1 rfl | exact hd.2.2.2.1 rfl | exact hd.2.2.2.2.1 rfl | exact hd.2.2.2.2.2.1 rfl)
    have c3 := seg_3 hS
    refine Runs.of (b := ?bB49) ?eB49 ?_
    case eB49 => simp only [putV, Act.put, List.setIfInBounds_toArray, List.set_cons_zero, List.set_cons_succ, e45, e48]; rfl
    intro K' hK'
    go_simp
    exact hK'.go _ rfl ⟨B2, hS, hX, hK, h0, h1, h2, h3, h4, h5, h6, h7, h8, h9, h10, h11, h12, h13, h14, h15, h16, h17, h18, h19, h20, h21, h22, h23, h24, h25, h26, h27, h28, h29, h30, h31, h32, h33, h34, h35, h36, h37, h38, h39, h40, h41, h42, h43, h44, h45, h46, h47, h48, fun _ => rfl, h50, h51, h52, h53, h54⟩
  · intro l x w' hJ hi hd
    obtain ⟨B2, hS, hX, hK, h0, h1, h2, h3, h4, h5, h6, h7, h8, h9, h10, h11, h12, h13, h14, h15, h16, h17, h18, h19, h20, h21, h22, h23, h24, h25, h26, h27, h28, h29, h30, h31, h32, h33, h34, h35, h36, h37, h38, h39, h40, h41, h42, h43, h44, h45, h46, h47, h48, h49, h50, h51, h52, h53, h54⟩ := hJ
    have e45 := h45 (show l 45 = true by first | exact hd.1 rfl | exact hd.2.1 rfl | exact hd.2.2.1 rfl | exact hd.2.2.2.1 rfl | exact hd.2.2.2.2.1 rfl | exact hd.2.2.2.2.2.1 rfl)
    have e49 := h49 (show l 49 = true by first | exact hd.1 rfl | exact hd.2.1 rfl | exact hd.2.2.1 rfl | exact hd.2.2.2.1 rfl | exact hd.2.2.2.2.1 rfl | exact hd.2.2.2.2.2.1 rfl)
    refine Runs.of (b := ?bB50) ?eB50 ?_
    case eB50 => simp only [putV, Act.put, List.setIfInBounds_toArray, List.set_cons_zero, List.set_cons_succ, e45, e49]; rfl
    intro K' hK'
    go_simp
    exact hK'.go _ rfl ⟨B2, hS, hX, hK, h0, h1, h2, h3, h4, h5, h6, h7, h8, h9, h10, h11, h12, h13, h14, h15, h16, h17, h18, h19, h20, h21, h22, h23, h24, h25, h26, h27, h28, h29, h30, h31, h32, h33, h34, h35, h36, h37, h38, h39, h40, h41, h42, h43, h44, h45, h46, h47, h48, h49, fun _ => rfl, h51, h52, h53, h54⟩
  · intro l x w' hJ hi hd
    obtain ⟨B2, hS, hX, hK, h0, h1, h2, h3, h4, h5, h6, h7, h8, h9, h10, h11, h12, h13, h14, h15, h16, h17, h18, h19, h20, h21, h22, h23, h24, h25, h26, h27, h28, h29, h30, h31, h32, h33, h34, h35, h36, h37, h38, h39, h40, h41, h42, h43, h44, h45, h46, h47, h48, h49, h50, h51, h52, h53, h54⟩ := hJ
    have e45 := h45 (show l 45 = true by first | exact hd.1 rfl | exact hd.2.1 rfl | exact hd.2.2.1 rfl | exact hd.2.2.2.1 rfl | exact hd.2.2.2.2.1 rfl | exact hd.2.2.2.2.2.1 rfl)
    refine Runs.of (b := ?bB51) ?eB51 ?_
    case eB51 => simp only [putV, Act.put, List.setIfInBounds_toArray, List.set_cons_zero, List.set_cons_succ, e45]; rfl
    intro K' hK'
    go_simp
    exact hK'.go _ rfl ⟨B2, hS, hX, hK, h0, h1, h2, h3, h4, h5, h6, h7, h8, h9, h10, h11, h12, h13, h14, h15, h16, h17, h18, h19, h20, h21, h22, h23, h24, h25, h26, h27, h28, h29, h30, h31, h32, h33, h34, h35, h36, h37, h38, h39, h40, h41, h42, h43, h44, h45, h46, h47, h48, h49, h50, fun _ => rfl, h52, h53, h54⟩
  · intro l x w' hJ hi hd
    obtain ⟨B2, hS, hX, hK, h0, h1, h2, h3, h4, h5, h6, h7, h8, h9, h10, h11, h12, h13, h14, h15, h16, h17, h18, h19, h20, h21, h22, h23, h24, h25, h26, h27, h28, h29, h30, h31, h32, h33, h34, h35, h36, h37, h38, h39, h40, h41, h42, h43, h44, h45, h46, h47, h48, h49, h50, h51, h52, h53, h54⟩ := hJ
    have e45 := h45 (show l 45 = true by first | exact hd.1 rfl | exact hd.2.1 rfl | exact hd.2.2.1 rfl | exact hd.2.2.2.1 rfl | exact hd.2.2.2.2.1 rfl | exact hd.2.2.2.2.2.1 rfl)
    have e51 := h51 (show l 51 = true by first | exact hd.1 rfl | exact hd.2.1 rfl | exact hd.2.2.1 rfl | exact hd.2.2.2.1 rfl | exact hd.2.2.2.2.1 rfl | exact hd.2.2.2.2.2.1 rfl)
    refine Runs.of (b := ?bB52) ?eB52 ?_
    case eB52 => simp only [putV, Act.put, List.setIfInBounds_toArray, List.set_cons_zero, List.set_cons_succ, e45, e51]; rfl
    intro K' hK'
    go_simp
    refine (start_any i (by have := HI8.out; omega) (st0 i : Int) rfl).mono ?_
    rintro e w2 ⟨rfl, rfl⟩
    go_simp
    exact hK'.go _ rfl ⟨B2, hS, hX, hK, h0, h1, h2, h3, h4, h5, h6, h7, h8, h9, h10, h11, h12, h13, h14, h15, h16, h17, h18, h19, h20, h21, h22, h23, h24, h25, h26, h27, h28, h29, h30, h31, h32, h33, h34, h35, h36, h37, h38, h39, h40, h41, h42, h43, h44, h45, h46, h47, h48, h49, h50, h51, fun _ => rfl, h53, h54⟩
  · intro l x w' hJ hi hd
    obtain ⟨B2, hS, hX, hK, h0, h1, h2, h3, h4, h5, h6, h7, h8, h9, h10, h11, h12, h13, h14, h15, h16, h17, h18, h19, h20, h21, h22, h23, h24, h25, h26, h27, h28, h29, h30, h31, h32, h33, h34, h35, h36, h37, h38, h39, h40, h41, h42, h43, h44, h45, h46, h47, h48, h49, h50, h51, h52, h53, h54⟩ := hJ
    have e45 := h45 (show l 45 = true by first | exact hd.1 rfl | exact hd.2.1 rfl | exact hd.2.2.1 rfl | exact hd.2.2.2.1 rfl | exact hd.2.2.2.2.1 rfl | exact hd.2.2.2.2.2.1 rfl)
    have e50 := h50 (show l 50 = true by first | exact hd.1 rfl | exact hd.2.1 rfl | exact hd.2.2.1 rfl | exact hd.2.2.2.1 rfl | exact hd.2.2.2.2.1 rfl | exact hd.2.2.2.2.2.1 rfl)
    have e52 := h52 (show l 52 = true by first | exact hd.1 rfl | exact hd.2.1 rfl | exact hd.2.2.1 rfl | exact hd.2.2.2.1 rfl | exact hd.2.2.2.2.1 rfl | exact hd.2.2.2.2.2.1 rfl)
    have q := Q53.out.1
    have q' := Q53.out.2
    refine Runs.of (b := ?bB53) ?eB53 ?_
    case eB53 => simp only [putV, Act.put, List.setIfInBounds_toArray, List.set_cons_zero, List.set_cons_succ, e45, e50, e52]; rfl
    intro K' hK'
    go_simp
    exact hK'.go _ rfl ⟨B2, hS, hX, hK, h0, h1, h2, h3, h4, h5, h6, h7, h8, h9, h10, h11, h12, h13, h14, h15, h16, h17, h18, h19, h20, h21, h22, h23, h24, h25, h26, h27, h28, h29, h30, h31, h32, h33, h34, h35, h36, h37, h38, h39, h40, h41, h42, h43, h44, h45, h46, h47, h48, h49, h50, h51, h52, fun _ => rfl, h54⟩
  · intro l x w' hJ hi hd
    obtain ⟨B2, hS, hX, hK, h0, h1, h2, h3, h4, h5, h6, h7, h8, h9, h10, h11, h12, h13, h14, h15, h16, h17, h18, h19, h20, h21, h22, h23, h24, h25, h26, h27, h28, h29, h30, h31, h32, h33, h34, h35, h36, h37, h38, h39, h40, h41, h42, h43, h44, h45, h46, h47, h48, h49, h50, h51, h52, h53, h54⟩ := hJ
    have e45 := h45 (show l 45 = true by first | exact hd.1 rfl | exact hd.2.1 rfl | exact hd.2.2.1 rfl | exact hd.2.2.2.1 rfl | exact hd.2.2.2.2.1 rfl | exact hd.2.2.2.2.2.1 rfl)
    have e53 := h53 (show l 53 = true by first | exact hd.1 rfl | exact hd.2.1 rfl | exact hd.2.2.1 rfl | exact hd.2.2.2.1 rfl | exact hd.2.2.2.2.1 rfl | exact hd.2.2.2.2.2.1 rfl)
    refine Runs.of (b := ?bB54) ?eB54 ?_
    case eB54 => simp only [putV, Act.put, List.setIfInBounds_toArray, List.set_cons_zero, List.set_cons_succ, e45, e53]; rfl
    intro K' hK'
    go_simp
    exact hK'.go _ rfl ⟨B2, hS, hX, hK, h0, h1, h2, h3, h4, h5, h6, h7, h8, h9, h10, h11, h12, h13, h14, h15, h16, h17, h18, h19, h20, h21, h22, h23, h24, h25, h26, h27, h28, h29, h30, h31, h32, h33, h34, h35, h36, h37, h38, h39, h40, h41, h42, h43, h44, h45, h46, h47, h48, h49, h50, h51, h52, h53, fun _ => rfl⟩
  · intro l x w3 hJ hl
    obtain ⟨B2, hS, hX, hK, h0, h1, h2, h3, h4, h5, h6, h7, h8, h9, h10, h11, h12, h13, h14, h15, h16, h17, h18, h19, h20, h21, h22, h23, h24, h25, h26, h27, h28, h29, h30, h31, h32, h33, h34, h35, h36, h37, h38, h39, h40, h41, h42, h43, h44, h45, h46, h47, h48, h49, h50, h51, h52, h53, h54⟩ := hJ
    have e54 := h54 (hl 54 (by decide))
    simp only [putV, Act.put, List.setIfInBounds_toArray, List.set_cons_zero, List.set_cons_succ, e54]
    simp only [Nat.zero_add, Nat.reduceAdd]
    have c2 := seg_2 hS
    have f2 := hS.free 2
    have hs9 : Blk (w3.setCell ⟨p, 2, none⟩ (.int .i64 (RN : Int))) p (sgC (GN : Int) (base2 : Int) (RN : Int) (.slice ba buf.length bcap) vr) 80 := hS.set 2 _
    have k8 : Keep [p] w3 (w3.setCell ⟨p, 2, none⟩ (.int .i64 (RN : Int))) := (Keep.refl _ _).setCell (.inl (by simp)) _
    have hX9 := hX.keep k8 (fun q hq => HXP.out q hq)
    have hB9 := (hB1.keep hK (by simp)).keep k8 (fun q hq => HBP.out q hq)
    have hxp : xb ∉ [p] := HXP.out xb rfl
    have hT9 := Rv.keep (Rv.keep hT1 hK (by simp)) k8 (fun b hb _ => by rw [HTOX.out] at hb; injection hb with hb; subst hb; exact hxp)
    have K9 := (K1.trans (hK.mono (by simp))).trans k8
    have HXN := Lib.hid hne
    clear hS hK hX hs1 hX1 hB1 hT1 K1 e54 hl h0 h1 h2 h3 h4 h5 h6 h7 h8 h9 h10 h11 h12 h13 h14 h15 h16 h17 h18 h19 h20 h21 h22 h23 h24 h25 h26 h27 h28 h29 h30 h31 h32 h33 h34 h35 h36 h37 h38 h39 h40 h41 h42 h43 h44 h45 h46 h47 h48 h49 h50 h51 h52 h53 h54 k8
    go_upto_region 9 with fail
    generalize w3.setCell ⟨p, 2, none⟩ (.int .i64 (RN : Int)) = w9 at *
    clear c2 f2
    obtain ⟨T8, hCT8, hT8, _⟩ := cutE_hi8 (P := Try.prog) 30 5 i8 Try.underlying30 hi8 hz81 ta (sgW i) tcap (bcs (X.drop (64 - sgW i))) (cl : Int) cl rfl (by have := HCW.out; omega) (by obtain ⟨_, a, c, he, hc, _⟩ := hT9; injection he with _ _ h3; omega)
    have HCT8 := Lib.hid hCT8
    have HT8 : Hid (∀ W : World, Rv W 1 (.slice ta (sgW i) tcap) (sgW i) (bcs (X.drop (64 - sgW i))) → Rv W 1 T8 cl (bcs (sgPart X i cl))) := Lib.hid (fun W h => by have := hT8 W h; rw [bcsT] at this; exact this)
    have hpl : (sgPart X i cl).length = cl := by unfold sgPart; rw [List.length_take, List.length_drop]; have := HCW.out; have := sgW_le i; omega
    have HAP : Hid (∀ (W : World) (v : Value), W.ownsRow 0 5 1 v (buf.length + cl) (bcs buf ++ bcs (sgPart X i cl)) → Buf W 0 5 v (buf ++ sgPart X i cl)) := Lib.hid (fun W v h => by unfold Buf; rw [List.length_append, hpl, bcs_append]; exact h)
    have HBL : Hid (buf.length ≤ 1000) := Lib.hid (by have := HBLI.out; have := HI8.out; unfold st0 at *; omega)
    have HPV : Hid (p ∉ (Value.slice ba buf.length bcap).ownBlock.toList) := Lib.hid (fun hm => HBP.out p (Option.mem_toList.1 hm) (by simp))
    have HXV : Hid (∀ q, (Value.slice (some ⟨xb, 0, none⟩) 64 xc).ownBlock = some q → q ∉ (Value.slice ba buf.length bcap).ownBlock.toList) := Lib.hid (fun q hq hm => by injection hq with hq; exact HXN.out q (Option.mem_toList.1 hm) hq.symm)
    have HTV : Hid (∀ b, (Value.slice ta (sgW i) tcap).ownBlock = some b → ∀ {n : Nat}, b < n → b ∉ (Value.slice ba buf.length bcap).ownBlock.toList) := Lib.hid (fun b hb _ _ hm => by rw [HTOX.out] at hb; injection hb with hb; exact HXN.out b (Option.mem_toList.1 hm) hb.symm)
    have HTP : Hid (∀ b, (Value.slice ta (sgW i) tcap).ownBlock = some b → ∀ {n : Nat}, b < n → b ∉ [p]) := Lib.hid (fun b hb _ _ => by rw [HTOX.out] at hb; injection hb with hb; subst hb; exact hxp)
    clear hCT8 hT8 hpl hxp
    refine wp_region_inv (takeJ9 w9 p xb xc tcap bcap i cl GN base2 RN vr T8 ta ba buf X) (by kernel_rfl) (by kernel_rfl) (by kernel_rfl) ?_ (Steps.cons 0 ?_ (Steps.cons 1 ?_ (Steps.cons 2 ?_ (Steps.cons 3 ?_ (Steps.cons 4 ?_ (Steps.cons 5 ?_ (Steps.cons 6 ?_ (Steps.cons 7 ?_ (Steps.cons 8 ?_ (Steps.cons 9 ?_ (Steps.cons 10 ?_ (Steps.cons 11 ?_ (Steps.cons 12 ?_ (Steps.cons 13 ?_ (Steps.nil 14))))))))))))))) 14 rfl ?_
    · intro x
      exact ⟨none, 0, fun _ => hs9.drew, fun h => absurd h (by decide), fun h => absurd h (by decide), fun _ => hB9.keep (Keep.refl [] _).drew (by simp), fun h => absurd h (by decide), hX9.keep (Keep.refl [] _).drew (by simp), Rv.keep hT9 (Keep.refl [] _).drew (by simp), (Keep.refl _ _).drew, fun h => absurd h (by decide), fun h => absurd h (by decide), fun h => absurd h (by decide), fun h => absurd h (by decide), fun h => absurd h (by decide), fun h => absurd h (by decide), fun h => absurd h (by decide), fun h => absurd h (by decide), fun h => absurd h (by decide), fun h => absurd h (by decide), fun h => absurd h (by decide), fun h => absurd h (by decide), fun h => absurd h (by decide), fun h => absurd h (by decide)⟩
    · intro l x w' hJ hi hd
      obtain ⟨va, vcap, hS0, hS1, h134, hO0, hO1, hX, hT, hK, h0, h1, h2, h3, h4, h5, h6, h7, h8, h9, h10, h11, h12, h13⟩ := hJ
      refine Runs.of (b := ?bC0) ?eC0 ?_
      case eC0 => simp only [putV, Act.put, List.setIfInBounds_toArray, List.set_cons_zero, List.set_cons_succ]; rfl
      intro K' hK'
      go_simp
      exact hK'.go _ rfl ⟨va, vcap, hS0, hS1, h134, hO0, hO1, hX, hT, hK, fun _ => rfl, h1, h2, h3, h4, h5, h6, h7, h8, h9, h10, h11, h12, h13⟩
    · intro l x w' hJ hi hd
      obtain ⟨va, vcap, hS0, hS1, h134, hO0, hO1, hX, hT, hK, h0, h1, h2, h3, h4, h5, h6, h7, h8, h9, h10, h11, h12, h13⟩ := hJ
      refine Runs.of (b := ?bC1) ?eC1 ?_
      case eC1 => simp only [putV, Act.put, List.setIfInBounds_toArray, List.set_cons_zero, List.set_cons_succ]; rfl
      intro K' hK'
      go_simp
      exact hK'.go _ rfl ⟨va, vcap, hS0, hS1, h134, hO0, hO1, hX, hT, hK, h0, fun _ => rfl, h2, h3, h4, h5, h6, h7, h8, h9, h10, h11, h12, h13⟩
    · intro l x w' hJ hi hd
      obtain ⟨va, vcap, hS0, hS1, h134, hO0, hO1, hX, hT, hK, h0, h1, h2, h3, h4, h5, h6, h7, h8, h9, h10, h11, h12, h13⟩ := hJ
      have e1 := h1 (show l 1 = true by first | exact hd.1 rfl | exact hd.2.1 rfl | exact hd.2.2.1 rfl | exact hd.2.2.2.1 rfl | exact hd.2.2.2.2.1 rfl | exact hd.2.2.2.2.2.1 rfl)
      refine Runs.of (b := ?bC2) ?eC2 ?_
      case eC2 => simp only [putV, Act.put, List.setIfInBounds_toArray, List.set_cons_zero, List.set_cons_succ, e1]; rfl
      intro K' hK'
      go_simp
      exact hK'.go _ rfl ⟨va, vcap, hS0, hS1, h134, hO0, hO1, hX, hT, hK, h0, h1, fun _ => rfl, h3, h4, h5, h6, h7, h8, h9, h10, h11, h12, h13⟩
    · intro l x w' hJ hi hd
      obtain ⟨va, vcap, hS0, hS1, h134, hO0, hO1, hX, hT, hK, h0, h1, h2, h3, h4, h5, h6, h7, h8, h9, h10, h11, h12, h13⟩ := hJ
      have e2 := h2 (show l 2 = true by first | exact hd.1 rfl | exact hd.2.1 rfl | exact hd.2.2.1 rfl | exact hd.2.2.2.1 rfl | exact hd.2.2.2.2.1 rfl | exact hd.2.2.2.2.2.1 rfl)
      refine Runs.of (b := ?bC3) ?eC3 ?_
      case eC3 => simp only [putV, Act.put, List.setIfInBounds_toArray, List.set_cons_zero, List.set_cons_succ, e2]; rfl
      intro K' hK'
      go_simp
      exact hK'.go _ rfl ⟨va, vcap, hS0, hS1, h134, hO0, hO1, hX, hT, hK, h0, h1, h2, fun _ => rfl, h4, h5, h6, h7, h8, h9, h10, h11, h12, h13⟩
    · intro l x w' hJ hi hd
      obtain ⟨va, vcap, hS0, hS1, h134, hO0, hO1, hX, hT, hK, h0, h1, h2, h3, h4, h5, h6, h7, h8, h9, h10, h11, h12, h13⟩ := hJ
      have e3 := h3 (show l 3 = true by first | exact hd.1 rfl | exact hd.2.1 rfl | exact hd.2.2.1 rfl | exact hd.2.2.2.1 rfl | exact hd.2.2.2.2.1 rfl | exact hd.2.2.2.2.2.1 rfl)
      have c3 := seg_3 (hS0 (by cases hq : l 13 with | false => rfl | true => exact absurd (h134 hq).1 (by simp [hi])))
      refine Runs.of (b := ?bC4) ?eC4 ?_
      case eC4 => simp only [putV, Act.put, List.setIfInBounds_toArray, List.set_cons_zero, List.set_cons_succ, e3]; rfl
      intro K' hK'
      go_simp
      exact hK'.go _ rfl ⟨va, vcap, hS0, hS1, fun h => ⟨rfl, (h134 h).2⟩, hO0, hO1, hX, hT, hK, h0, h1, h2, h3, fun _ => rfl, h5, h6, h7, h8, h9, fun h => ⟨(h10 h).1, Lib.hid rfl⟩, h11, h12, h13⟩
    · intro l x w' hJ hi hd
      obtain ⟨va, vcap, hS0, hS1, h134, hO0, hO1, hX, hT, hK, h0, h1, h2, h3, h4, h5, h6, h7, h8, h9, h10, h11, h12, h13⟩ := hJ
      refine Runs.of (b := ?bC5) ?eC5 ?_
      case eC5 => simp only [putV, Act.put, List.setIfInBounds_toArray, List.set_cons_zero, List.set_cons_succ]; rfl
      intro K' hK'
      go_simp
      exact hK'.go _ rfl ⟨va, vcap, hS0, hS1, h134, hO0, hO1, hX, hT, hK, h0, h1, h2, h3, h4, fun _ => rfl, h6, h7, h8, h9, h10, h11, h12, h13⟩
    · intro l x w' hJ hi hd
      obtain ⟨va, vcap, hS0, hS1, h134, hO0, hO1, hX, hT, hK, h0, h1, h2, h3, h4, h5, h6, h7, h8, h9, h10, h11, h12, h13⟩ := hJ
      refine Runs.of (b := ?bC6) ?eC6 ?_
      case eC6 => simp only [putV, Act.put, List.setIfInBounds_toArray, List.set_cons_zero, List.set_cons_succ]; rfl
      intro K' hK'
      go_simp
      exact hK'.go _ rfl ⟨va, vcap, hS0, hS1, h134, hO0, hO1, hX, hT, hK, h0, h1, h2, h3, h4, h5, fun _ => rfl, h7, h8, h9, h10, h11, h12, h13⟩
    · intro l x w' hJ hi hd
      obtain ⟨va, vcap, hS0, hS1, h134, hO0, hO1, hX, hT, hK, h0, h1, h2, h3, h4, h5, h6, h7, h8, h9, h10, h11, h12, h13⟩ := hJ
      have e6 := h6 (show l 6 = true by first | exact hd.1 rfl | exact hd.2.1 rfl | exact hd.2.2.1 rfl | exact hd.2.2.2.1 rfl | exact hd.2.2.2.2.1 rfl | exact hd.2.2.2.2.2.1 rfl)
      refine Runs.of (b := ?bC7) ?eC7 ?_
      case eC7 => simp only [putV, Act.put, List.setIfInBounds_toArray, List.set_cons_zero, List.set_cons_succ, e6]; rfl
      intro K' hK'
      go_simp
      exact hK'.go _ rfl ⟨va, vcap, hS0, hS1, h134, hO0, hO1, hX, hT, hK, h0, h1, h2, h3, h4, h5, h6, fun _ => rfl, h8, h9, h10, h11, h12, h13⟩
    · intro l x w' hJ hi hd
      obtain ⟨va, vcap, hS0, hS1, h134, hO0, hO1, hX, hT, hK, h0, h1, h2, h3, h4, h5, h6, h7, h8, h9, h10, h11, h12, h13⟩ := hJ
      have e7 := h7 (show l 7 = true by first | exact hd.1 rfl | exact hd.2.1 rfl | exact hd.2.2.1 rfl | exact hd.2.2.2.1 rfl | exact hd.2.2.2.2.1 rfl | exact hd.2.2.2.2.2.1 rfl)
      have c15 := H15.out w' hX
      refine Runs.of (b := ?bC8) ?eC8 ?_
      case eC8 => simp only [putV, Act.put, List.setIfInBounds_toArray, List.set_cons_zero, List.set_cons_succ, e7]; rfl
      intro K' hK'
      go_simp
      exact hK'.go _ rfl ⟨va, vcap, hS0, hS1, h134, hO0, hO1, hX, hT, hK, h0, h1, h2, h3, h4, h5, h6, h7, fun _ => rfl, h9, h10, h11, h12, h13⟩
    · intro l x w' hJ hi hd
      obtain ⟨va, vcap, hS0, hS1, h134, hO0, hO1, hX, hT, hK, h0, h1, h2, h3, h4, h5, h6, h7, h8, h9, h10, h11, h12, h13⟩ := hJ
      have e5 := h5 (show l 5 = true by first | exact hd.1 rfl | exact hd.2.1 rfl | exact hd.2.2.1 rfl | exact hd.2.2.2.1 rfl | exact hd.2.2.2.2.1 rfl | exact hd.2.2.2.2.2.1 rfl)
      have e8 := h8 (show l 8 = true by first | exact hd.1 rfl | exact hd.2.1 rfl | exact hd.2.2.1 rfl | exact hd.2.2.2.1 rfl | exact hd.2.2.2.2.1 rfl | exact hd.2.2.2.2.2.1 rfl)
      have hcut := HCT8.out
      refine Runs.of (b := ?bC9) ?eC9 ?_
      case eC9 => simp only [putV, Act.put, List.setIfInBounds_toArray, List.set_cons_zero, List.set_cons_succ, e5, e8]; rfl
      intro K' hK'
      go_simp
      exact hK'.go _ rfl ⟨va, vcap, hS0, hS1, h134, hO0, hO1, hX, hT, hK, h0, h1, h2, h3, h4, h5, h6, h7, h8, fun _ => rfl, h10, h11, h12, h13⟩
    · intro l x w' hJ hi hd
      obtain ⟨va, vcap, hS0, hS1, h134, hO0, hO1, hX, hT, hK, h0, h1, h2, h3, h4, h5, h6, h7, h8, h9, h10, h11, h12, h13⟩ := hJ
      have e4 := h4 (show l 4 = true by first | exact hd.1 rfl | exact hd.2.1 rfl | exact hd.2.2.1 rfl | exact hd.2.2.2.1 rfl | exact hd.2.2.2.2.1 rfl | exact hd.2.2.2.2.2.1 rfl)
      have e9 := h9 (show l 9 = true by first | exact hd.1 rfl | exact hd.2.1 rfl | exact hd.2.2.1 rfl | exact hd.2.2.2.1 rfl | exact hd.2.2.2.2.1 rfl | exact hd.2.2.2.2.2.1 rfl)
      have HL4 : Hid (l 4 = true) := Lib.hid (by first | exact hd.1 rfl | exact hd.2.1 rfl | exact hd.2.2.1 rfl | exact hd.2.2.2.1 rfl | exact hd.2.2.2.2.1 rfl | exact hd.2.2.2.2.2.1 rfl)
      refine Runs.of (b := ?bC10) ?eC10 ?_
      case eC10 => simp only [putV, Act.put, List.setIfInBounds_toArray, List.set_cons_zero, List.set_cons_succ, e4, e9]; rfl
      intro K' hK'
      refine step_append_src _ rfl (.tmp 96) (.tmp 101) 30 30 rfl 0 5 i8 (.int .u8 0) 1 1 Try.underlying30 hi8 hz80 hz81 hz82 rfl (by decide) (.slice ba buf.length bcap) buf.length (bcs buf) rfl (hO0 hi) T8 cl (bcs (sgPart X i cl)) rfl (Rv.src (HT8.out w' hT) Try.underlying30 (bcs_one _)) (by unfold maxLen; have := HBL.out; have := Q43.out.1; omega) (by have := HBL.out; have := HCL.out; omega) (by omega) ?_
      intro v2 w2 g2 g3 _ g4
      obtain ⟨v2a, v2c, rfl⟩ := ownsRow_slice g2
      have k2 : Keep (.slice ba buf.length bcap : Value).ownBlock.toList w' w2 := Keep.grown g3
      have hO2 : Buf w2 0 5 (.slice v2a (buf.length + cl) v2c) (buf ++ sgPart X i cl) := HAP.out w2 _ g2
      exact hK'.go (.slice v2a (buf.length + cl) v2c) rfl ⟨v2a, v2c, fun h => (hS0 h).keep k2 HPV.out, fun h => absurd (h134 h).2 (by simp [hi]), fun h => ⟨(h134 h).1, rfl⟩, fun h => Bool.noConfusion (show true = false from h), fun _ => ⟨hO2, fun k hk => (g4 k hk).imp id (fun h => Nat.le_trans hK.size h)⟩, hX.keep k2 HXV.out, Rv.keep hT k2 (fun b hb hl => HTV.out b hb hl), hK.trans (k2.mono (fun q hq _ => List.mem_cons_of_mem _ hq)), h0, h1, h2, h3, h4, h5, h6, h7, h8, h9, fun _ => ⟨rfl, HL4⟩, h11, h12, h13⟩
    · intro l x w' hJ hi hd
      obtain ⟨va, vcap, hS0, hS1, h134, hO0, hO1, hX, hT, hK, h0, h1, h2, h3, h4, h5, h6, h7, h8, h9, h10, h11, h12, h13⟩ := hJ
      have e0 := h0 (show l 0 = true by first | exact hd.1 rfl | exact hd.2.1 rfl | exact hd.2.2.1 rfl | exact hd.2.2.2.1 rfl | exact hd.2.2.2.2.1 rfl | exact hd.2.2.2.2.2.1 rfl)
      refine Runs.of (b := ?bC11) ?eC11 ?_
      case eC11 => simp only [putV, Act.put, List.setIfInBounds_toArray, List.set_cons_zero, List.set_cons_succ, e0]; rfl
      intro K' hK'
      go_simp
      exact hK'.go _ rfl ⟨va, vcap, hS0, hS1, h134, hO0, hO1, hX, hT, hK, h0, h1, h2, h3, h4, h5, h6, h7, h8, h9, h10, fun _ => rfl, h12, h13⟩
    · intro l x w' hJ hi hd
      obtain ⟨va, vcap, hS0, hS1, h134, hO0, hO1, hX, hT, hK, h0, h1, h2, h3, h4, h5, h6, h7, h8, h9, h10, h11, h12, h13⟩ := hJ
      have e11 := h11 (show l 11 = true by first | exact hd.1 rfl | exact hd.2.1 rfl | exact hd.2.2.1 rfl | exact hd.2.2.2.1 rfl | exact hd.2.2.2.2.1 rfl | exact hd.2.2.2.2.2.1 rfl)
      refine Runs.of (b := ?bC12) ?eC12 ?_
      case eC12 => simp only [putV, Act.put, List.setIfInBounds_toArray, List.set_cons_zero, List.set_cons_succ, e11]; rfl
      intro K' hK'
      go_simp
      exact hK'.go _ rfl ⟨va, vcap, hS0, hS1, h134, hO0, hO1, hX, hT, hK, h0, h1, h2, h3, h4, h5, h6, h7, h8, h9, h10, h11, fun _ => rfl, h13⟩
    · intro l x w' hJ hi hd
      obtain ⟨va, vcap, hS0, hS1, h134, hO0, hO1, hX, hT, hK, h0, h1, h2, h3, h4, h5, h6, h7, h8, h9, h10, h11, h12, h13⟩ := hJ
      have e10 := h10 (show l 10 = true by first | exact hd.1 rfl | exact hd.2.1 rfl | exact hd.2.2.1 rfl | exact hd.2.2.2.1 rfl | exact hd.2.2.2.2.1 rfl | exact hd.2.2.2.2.2.1 rfl)
      have e12 := h12 (show l 12 = true by first | exact hd.1 rfl | exact hd.2.1 rfl | exact hd.2.2.1 rfl | exact hd.2.2.2.1 rfl | exact hd.2.2.2.2.1 rfl | exact hd.2.2.2.2.2.1 rfl)
      have c3 := seg_3 (hS0 hi)
      have f3 := (hS0 hi).free 3
      have HL10 : Hid (l 10 = true) := Lib.hid (by first | exact hd.1 rfl | exact hd.2.1 rfl | exact hd.2.2.1 rfl | exact hd.2.2.2.1 rfl | exact hd.2.2.2.2.1 rfl | exact hd.2.2.2.2.2.1 rfl)
      refine Runs.of (b := ?bC13) ?eC13 ?_
      case eC13 => simp only [putV, Act.put, List.setIfInBounds_toArray, List.set_cons_zero, List.set_cons_succ, e10.1, e12]; rfl
      intro K' hK'
      have HL4 := e10.2
      have e10 := e10.1
      go_simp
      have k2 : Keep [p] w' (w'.setCell ⟨p, 3, none⟩ (.slice va (buf.length + cl) vcap)) := (Keep.refl _ _).setCell (.inl (by simp)) _
      obtain ⟨hOb, hOo⟩ := hO1 HL10.out
      have hS2 := (hS0 hi).set 3 (.slice va (buf.length + cl) vcap)
      exact hK'.go undef rfl ⟨va, vcap, fun h => Bool.noConfusion (show true = false from h), fun _ => hS2, fun _ => ⟨HL4.out, HL10.out⟩, fun h => absurd HL10.out (by simp [show l 10 = false from h]), fun _ => ⟨hOb.keep k2 (fun q hq hm => (hOb.ty' q hq).ne (hS0 hi).ty (by decide) (by simpa using hm)), hOo⟩, hX.keep k2 (fun q hq => HXP.out q hq), Rv.keep hT k2 (fun b hb hl => HTP.out b hb hl), hK.trans (k2.mono (by simp)), h0, h1, h2, h3, h4, h5, h6, h7, h8, h9, h10, h11, h12, fun _ => trivial⟩
    · intro l x w3 hJ hl
      obtain ⟨va, vcap, hS0, hS1, h134, hO0, hO1, hX, hT, hK, h0, h1, h2, h3, h4, h5, h6, h7, h8, h9, h10, h11, h12, h13⟩ := hJ
      have hS := hS1 (hl 13 (by decide))
      obtain ⟨hOb, hOo⟩ := hO1 (hl 10 (by decide))
      simp only [putV, Act.put, List.setIfInBounds_toArray, List.set_cons_zero, List.set_cons_succ]
      simp only [Nat.zero_add, Nat.reduceAdd]
      have HS := Lib.hid hS
      have HOB := Lib.hid hOb
      have HOO := Lib.hid hOo
      have HK := Lib.hid hK
      have HK9 := Lib.hid K9
      clear h0 h1 h2 h3 h4 h5 h6 h7 h8 h9 h10 h11 h12 h13 hS0 hS1 h134 hO0 hO1 hX hT hK hl hs9 hX9 hB9 hT9 K9 hS hOb hOo
      go_wp2_with fail
      go_ret
      refine ⟨rfl, _, HS.out, HOB.out, fun k hk => (HOO.out k hk).imp id (fun h => Nat.le_trans HK9.out.size h), (HK9.out.mono (by simp)).trans HK.out⟩
end Go.Proofs.Ytpibpapolcdeiaa
/- slog: the records of a segment. -/
namespace Go.Proofs.Ytpibpapolcdeiaa
open Go.ChangeShapes Go.WideShapes Go.ChangeAt Go.RowKit
set_option linter.unusedVariables false
set_option linter.unusedSimpArgs false
set_option maxRecDepth 100000

/-- A record: its position, its body. -/
abbrev Rcd := Nat × List Nat
def encR (r : Rcd) : List Nat := be 2 r.2.length ++ (be 6 r.1 ++ r.2)
def encRs (l : List Rcd) : List Nat := (l.map encR).flatten
def Rcd.ok (r : Rcd) : Prop := 1 ≤ r.2.length ∧ r.2.length ≤ 300 ∧ r.1 < 281474976710656 ∧ ∀ c ∈ r.2, c < 256
theorem encR_len (r : Rcd) : (encR r).length = 8 + r.2.length := by unfold encR; simp; omega
theorem encR_byte (r : Rcd) (h : r.ok) : ∀ c ∈ encR r, c < 256 := by
  intro c hc
  unfold encR at hc
  rcases List.mem_append.1 hc with h1 | h1
  · exact be_byte _ _ c h1
  · rcases List.mem_append.1 h1 with h2 | h2
    · exact be_byte _ _ c h2
    · exact h.2.2.2 c h2
theorem encRs_byte (l : List Rcd) (h : ∀ r ∈ l, r.ok) : ∀ c ∈ encRs l, c < 256 := by
  intro c hc
  unfold encRs at hc
  obtain ⟨x, hx, hcx⟩ := List.mem_flatten.1 hc
  obtain ⟨r, hr, rfl⟩ := List.mem_map.1 hx
  exact encR_byte r (h r hr) c hcx
theorem encRs_snoc (l : List Rcd) (r : Rcd) : encRs (l ++ [r]) = encRs l ++ encR r := by unfold encRs; simp
theorem encRs_app (l m : List Rcd) : encRs (l ++ m) = encRs l ++ encRs m := by unfold encRs; simp
/-- A record as it lies in memory. -/
structure Rc where
  r : Rcd
  v : Value
def rcC (y : Rc) : List Value := [.int .i64 (y.r.1 : Int), y.v]
def rcCs (L : List Rc) : List Value := (L.map rcC).flatten
theorem rcCs_snoc (L : List Rc) (y : Rc) : rcCs (L ++ [y]) = rcCs L ++ rcC y := by unfold rcCs; simp
structure RRow (w : World) (base : Nat) (v : Value) (L : List Rc) : Prop where
  own : w.ownsRow base 57 2 v L.length (rcCs L)
  ok : ∀ y ∈ L, Buf w base 5 y.v y.r.2 ∧ y.v.oneCell' = true
/-- The blocks of a row of records. -/
def rcF (v : Value) (L : List Rc) : List Nat := v.ownBlock.toList ++ L.flatMap (fun y => y.v.ownBlock.toList)
theorem RRow.nil (w : World) (base : Nat) : RRow w base (.slice none 0 0) [] := ⟨⟨rfl, .inl ⟨rfl, rfl⟩⟩, by simp⟩
theorem RRow.slice {w : World} {base : Nat} {v : Value} {L : List Rc} (h : RRow w base v L) : ∃ a cap, v = .slice a L.length cap := ownsRow_slice h.own
theorem RRow.mono {w : World} {base base' : Nat} {v : Value} {L : List Rc} (h : RRow w base v L) (hb : base' ≤ base) : RRow w base' v L := by
  refine ⟨⟨h.own.1, ?_⟩, fun y hy => ⟨(h.ok y hy).1.mono hb, (h.ok y hy).2⟩⟩
  rcases h.own.2 with h2 | ⟨g, cap, cur, r1, r2, r3⟩
  · exact .inl h2
  · exact .inr ⟨g, cap, cur, r1, Nat.le_trans hb r2, r3⟩
theorem RRow.lt {w : World} {base : Nat} {v : Value} {L : List Rc} (h : RRow w base v L) : ∀ q ∈ rcF v L, base ≤ q ∧ q < w.heap.size := by
  intro q hq
  unfold rcF at hq
  rcases List.mem_append.1 hq with hq | hq
  · rcases h.own.2 with ⟨rfl, _⟩ | ⟨g, cap, cur, rfl, hb, hg, _⟩
    · cases hq
    · simp [Value.ownBlock] at hq
      subst hq
      exact ⟨hb, (Array.getElem?_eq_some_iff.1 hg).1⟩
  · obtain ⟨y, hy, hq⟩ := List.mem_flatMap.1 hq
    exact (h.ok y hy).1.lt q (Option.mem_toList.1 hq)
theorem RRow.keep {w w' : World} {base : Nat} {v : Value} {L : List Rc} {S : List Nat} (h : RRow w base v L) (k : Keep S w w') (hS : ∀ q ∈ rcF v L, q ∉ S) : RRow w' base v L := by
  refine ⟨⟨h.own.1, ?_⟩, fun y hy => ⟨(h.ok y hy).1.keep k (fun b hb => hS b (List.mem_append_right _ (List.mem_flatMap.2 ⟨y, hy, Option.mem_toList.2 hb⟩))), (h.ok y hy).2⟩⟩
  rcases h.own.2 with h2 | ⟨g, cap, cur, rfl, hb, hg, r⟩
  · exact .inl h2
  · refine .inr ⟨g, cap, cur, rfl, hb, ?_, r⟩
    rw [k.block g (Array.getElem?_eq_some_iff.1 hg).1 (hS g (List.mem_append_left _ (by simp [Value.ownBlock])))]
    exact hg
theorem RRow.still {w w' : World} {base : Nat} {v : Value} {L : List Rc} (h : RRow w base v L) (k : Keep [] w w') : RRow w' base v L := h.keep k (by simp)
theorem RRow.ty {w : World} {base : Nat} {v : Value} {L : List Rc} (h : RRow w base v L) : ∀ q ∈ rcF v L, Ty w q 57 ∨ Ty w q 5 := by
  intro q hq
  unfold rcF at hq
  rcases List.mem_append.1 hq with hq | hq
  · rcases h.own.2 with ⟨rfl, _⟩ | ⟨g, cap, cur, rfl, hb, hg, _⟩
    · cases hq
    · simp [Value.ownBlock] at hq
      subst hq
      exact .inl ⟨_, _, hg⟩
  · obtain ⟨y, hy, hq⟩ := List.mem_flatMap.1 hq
    exact .inr ((h.ok y hy).1.own.ty q (Option.mem_toList.1 hq))
end Go.Proofs.Ytpibpapolcdeiaa
/- slog: the records of a segment: the walk. -/
namespace Go.Proofs.Ytpibpapolcdeiaa
open Go.ChangeShapes Go.WideShapes Go.ChangeAt Go.RowKit
set_option linter.unusedVariables false
set_option linter.unusedSimpArgs false
set_option maxRecDepth 100000

theorem Try.infoRec : (Try.prog.info? 57).map (fun i => (i.zero, i.size, i.bytes)) = some (some (.agg #[.int .i64 0, .slice none 0 0]), 2, 32) := by kernel_rfl
theorem RRow.rty {w : World} {base : Nat} {v : Value} {L : List Rc} (h : RRow w base v L) {q : Nat} {T : TypeId} (ht : Ty w q T) (hT : T ≠ 57) : q ∉ v.ownBlock.toList := by
  intro hm
  rcases h.own.2 with ⟨rfl, _⟩ | ⟨g, cap, cur, rfl, hb, hg, _⟩
  · cases hm
  · simp [Value.ownBlock] at hm
    subst hm
    exact ht.ne ⟨_, _, hg⟩ hT rfl
theorem RRow.snoc {w w' : World} {base : Nat} {v v' : Value} {L : List Rc} (h : RRow w base v L) (y : Rc) (hb : Buf w base 5 y.v y.r.2) (h1 : y.v.oneCell' = true) (ho : w'.ownsRow base 57 2 v' (L.length + 1) (rcCs L ++ rcC y)) (k : Keep v.ownBlock.toList w w') : RRow w' base v' (L ++ [y]) := by
  refine ⟨by rw [List.length_append, rcCs_snoc]; exact ho, fun z hz => ?_⟩
  rcases List.mem_append.1 hz with hz | hz
  · exact ⟨(h.ok z hz).1.keep k (fun b hb => h.rty ((h.ok z hz).1.own.ty b hb) (by decide)), (h.ok z hz).2⟩
  · simp only [List.mem_cons, List.not_mem_nil, or_false] at hz
    subst hz
    exact ⟨hb.keep k (fun b hb2 => h.rty (hb.own.ty b hb2) (by decide)), h1⟩
theorem srcRec {P : Program} {t : TypeId} {e : TypeId} (w : World) (b : Nat) (n : Int) (v : Value) (hb : Blk w b [.int .i64 n, v] e) (ht : P.underlying t = some (.slice e)) (h1 : v.oneCell' = true) :
    Src P 2 t (.slice (some ⟨b, 0, none⟩) 1 1) 1 [.int .i64 n, v] w := by
  refine Src.ofSlice _ ht ⟨b, 0, none⟩ 1 1 [.int .i64 n, v] rfl (fun j x hj => ?_) (fun u hu => ?_)
  · rw [Addr.add_lit, Nat.zero_add, hb.cell, hj]
  · simp only [List.mem_cons, List.not_mem_nil, or_false] at hu
    rcases hu with rfl | rfl
    · rfl
    · exact h1
def recJ (w0 : World) (B0 p N bcap rcap pos A : Nat) (gen base run : Int) (SB : Value) (ba ra : Option Addr) (L0 : List Rc) (body buf : List Nat) (l : Nat → Bool) (x : Nat → Value) (w' : World) : Prop :=
  ∃ ca ccap va vcap B19, (l 23 = false → Blk w' p (sgC gen base run (.slice ba N bcap) (.slice ra L0.length rcap)) 80) ∧
  (l 23 = true → Blk w' p (sgC gen base run (.slice ba N bcap) (.slice va (L0.length + 1) vcap)) 80) ∧
  (l 23 = true → l 4 = true ∧ l 20 = true) ∧
  (l 20 = true → l 17 = true) ∧
  (l 20 = false → RRow w' B0 (.slice ra L0.length rcap) L0) ∧
  (l 20 = true → RRow w' B0 (.slice va (L0.length + 1) vcap) (L0 ++ [⟨(pos, body), .slice ca body.length ccap⟩])) ∧
  (Buf w' 0 5 (.slice ba N bcap) buf) ∧
  (Keep (p :: (.slice ra L0.length rcap : Value).ownBlock.toList) w0 w') ∧
  (l 0 = true → x 0 = .pointer (some ⟨p, 0, none⟩)) ∧
  (l 1 = true → x 1 = .pointer (some ⟨p, 0, none⟩)) ∧
  (l 2 = true → x 2 = .pointer (some ⟨p, 0, none⟩)) ∧
  (l 3 = true → x 3 = .pointer (some ⟨p, 4, none⟩)) ∧
  (l 4 = true → x 4 = .slice ra L0.length rcap) ∧
  (l 5 = true → x 5 = .int .i64 (pos : Int)) ∧
  (l 6 = true → x 6 = .pointer (some ⟨p, 0, none⟩)) ∧
  (l 7 = true → x 7 = .pointer (some ⟨p, 0, none⟩)) ∧
  (l 8 = true → x 8 = .pointer (some ⟨p, 3, none⟩)) ∧
  (l 9 = true → x 9 = .slice ba N bcap) ∧
  (l 10 = true → x 10 = .int .i64 (A : Int)) ∧
  (l 11 = true → x 11 = .int .i64 ((A : Int) + 8)) ∧
  (l 12 = true → x 12 = .int .i64 (A : Int)) ∧
  (l 13 = true → x 13 = .int .i64 ((A : Int) + 8)) ∧
  (l 14 = true → x 14 = .int .i64 (body.length : Int)) ∧
  (l 15 = true → x 15 = .int .i64 ((A : Int) + 8 + (body.length : Int))) ∧
  (l 16 = true → x 16 = SB) ∧
  (l 17 = true → x 17 = .slice ca body.length ccap ∧ (l 20 = false → Buf w' w0.heap.size 5 (.slice ca body.length ccap) body) ∧ ∀ q, (.slice ca body.length ccap : Value).ownBlock = some q → w0.heap.size ≤ q) ∧
  (l 18 = true → x 18 = .agg #[.int .i64 (pos : Int), .slice ca body.length ccap] ∧ Hid (l 17 = true)) ∧
  (l 19 = true → x 19 = .slice (some ⟨B19, 0, none⟩) 1 1 ∧ (l 20 = false → Blk w' B19 [.int .i64 (pos : Int), .slice ca body.length ccap] 57) ∧ Hid (l 17 = true)) ∧
  (l 20 = true → x 20 = .slice va (L0.length + 1) vcap ∧ Hid (l 4 = true)) ∧
  (l 21 = true → x 21 = .pointer (some ⟨p, 0, none⟩)) ∧
  (l 22 = true → x 22 = .pointer (some ⟨p, 4, none⟩)) ∧
  (l 23 = true → True)
theorem encRs_drop (rs : List Rcd) (j : Nat) (r : Rcd) (h : rs[j]? = some r) : encRs rs = encRs (rs.take j) ++ (encR r ++ encRs (rs.drop (j + 1))) := by
  have hj := (List.getElem?_eq_some_iff.1 h)
  have e : rs = rs.take j ++ r :: rs.drop (j + 1) := by
    obtain ⟨h1, h2⟩ := hj
    rw [← h2]
    exact (List.take_append_drop j rs).symm.trans (by rw [List.drop_eq_getElem_cons h1])
  conv => lhs; rw [e]
  unfold encRs
  simp
theorem ge8 (N A : Nat) (h : A + 8 ≤ N) : decide ((8 : Int) ≤ (N : Int) - (A : Int)) = true := decide_eq_true (by omega)
set_option maxHeartbeats 8000000 in
theorem records_any {w : World} {p : Nat} (gen base run : Int) (vb : Value) (rs : List Rcd) (hok : ∀ r ∈ rs, r.ok) (hs : Blk w p (sgC gen base run vb (.slice none 0 0)) 80) (hB : Buf w 0 5 vb (encRs rs)) (hN : (encRs rs).length ≤ 1000) :
    Calls Try.prog 44 #[.pointer (some ⟨p, 0, none⟩)] w fun e w' => e = .returned (.tuple #[]) ∧ ∃ vr L, L.map (·.r) = rs ∧ Blk w' p (sgC gen base run vb vr) 80 ∧ RRow w' w.heap.size vr L ∧ (rcF vr L).Nodup ∧ Keep [p] w w' := by
  obtain ⟨i8, hi8, hz80, hz81, hz82⟩ := info_parts Try.info8
  obtain ⟨iR, hiR, hzR0, hzR1, hzR2⟩ := info_parts Try.infoRec
  obtain ⟨ba, bcap, rfl⟩ := hB.slice
  obtain ⟨N, hNd⟩ : ∃ N, N = (encRs rs).length := ⟨_, rfl⟩
  rw [← hNd] at hs hB hN ⊢
  have hbcap : N ≤ bcap := by obtain ⟨_, a, c, he, hc, _⟩ := hB.rd; injection he with _ h2 h3; omega
  have HB := Lib.hid hB
  have HOK := Lib.hid hok
  have HND := Lib.hid hNd
  have HPLT := Lib.hid hs.lt
  have HPT := Lib.hid hs.ty
  have hall : ∀ W : World, (Instr.sliceAt 30 (.slice ba N bcap) none (some (.int .i64 (N : Int))) none).run Try.prog W = .ok (.slice ba N bcap) W := fun W => by
    rw [run_cut_hi (P := Try.prog) (w := W) 30 5 i8 Try.underlying30 hi8 hz81 ba N bcap N hbcap]
    have : (if bcap = 0 then ba else ba.map (·.add 0)) = ba := by
      split
      · rfl
      · cases ba with
        | none => rfl
        | some a => obtain ⟨b, o, q⟩ := a; simp [Addr.add]
    rw [this, Nat.sub_zero, Nat.sub_zero]
  clear hB hok hNd
  go_enter Try.func44, Try.ntmps44
  go_wp2_with fail
  go_loopw [2] (fun x wr => ∃ (j : Nat) (L : List Rc) (vr : Value), j ≤ rs.length ∧ x = .int .i64 (((encRs (rs.take j)).length : Nat) : Int) ∧ L.map (·.r) = rs.take j ∧ Blk wr p (sgC gen base run (.slice ba N bcap) vr) 80 ∧ RRow wr w.heap.size vr L ∧ (rcF vr L).Nodup ∧ Keep [p] w wr) (fun x _ => N + 1 - (intOf x).toNat)
  case atStart => exact ⟨0, [], _, by omega, rfl, rfl, hs, RRow.nil _ _, by simp [rcF, Value.ownBlock], Keep.refl _ _⟩
  case round =>
    clear hs
    obtain ⟨j, L, vr, hj, rfl, hL, hSr, hRr, hNr, hKr⟩ := hrel
    obtain ⟨ra, rcap, rfl⟩ := hRr.slice
    have c3 := seg_3 hSr
    by_cases hlt : j < rs.length
    · obtain ⟨r, hr⟩ : ∃ r, rs[j]? = some r := ⟨_, List.getElem?_eq_getElem hlt⟩
      have hrok := HOK.out r (List.mem_of_getElem? hr)
      have hdr := encRs_drop rs j r hr
      obtain ⟨pos, body⟩ := r
      obtain ⟨k1, k2, k3, k4⟩ : 1 ≤ body.length ∧ body.length ≤ 300 ∧ pos < 281474976710656 ∧ ∀ c ∈ body, c < 256 := hrok
      have hnx : encRs (rs.take (j + 1)) = encRs (rs.take j) ++ encR (pos, body) := by rw [List.take_add_one, hr]; simp [encRs_snoc]
      have hLn : L.length = j := by have := congrArg List.length hL; simp at this; omega
      obtain ⟨A, hA⟩ : ∃ A, A = (encRs (rs.take j)).length := ⟨_, rfl⟩
      have hNA : A + 8 + body.length ≤ N := by
        have h1 := HND.out
        rw [hdr, List.length_append, List.length_append, encR_len] at h1
        simp only at h1
        omega
      have hnl : (encRs (rs.take (j + 1))).length = A + 8 + body.length := by rw [hnx, List.length_append, encR_len, hA]; simp only; omega
      have hgt : (encRs rs).drop A = be 2 body.length ++ (be 6 pos ++ (body ++ encRs (rs.drop (j + 1)))) := by
        rw [hdr, hA, List.drop_left]
        unfold encR
        simp
      have hd2 : (encRs rs).drop (A + 2) = be 6 pos ++ (body ++ encRs (rs.drop (j + 1))) := by
        rw [← List.drop_drop, hgt, List.drop_left' (by simp)]
      have hd8 : (encRs rs).drop (A + 8) = body ++ encRs (rs.drop (j + 1)) := by
        rw [show A + 8 = A + 2 + 6 by omega, ← List.drop_drop, hd2, List.drop_left' (by simp)]
      rw [← hA]
      have hby := encRs_byte rs HOK.out
      -- the three cuts
      obtain ⟨S2, hC2, hS2, _⟩ := cutE_both (P := Try.prog) 30 5 i8 Try.underlying30 hi8 hz81 ba N bcap (bcs (encRs rs)) (A : Int) ((A : Int) + 2) A (A + 2) rfl (by omega) (by omega) (by omega) hbcap
      obtain ⟨S6, hC6, hS6, _⟩ := cutE_both (P := Try.prog) 30 5 i8 Try.underlying30 hi8 hz81 ba N bcap (bcs (encRs rs)) ((A : Int) + 2) ((A : Int) + 8) (A + 2) (A + 8) (by omega) (by omega) (by omega) (by omega) hbcap
      obtain ⟨SB, hCB, hSB, _⟩ := cutE_both (P := Try.prog) 30 5 i8 Try.underlying30 hi8 hz81 ba N bcap (bcs (encRs rs)) ((A : Int) + 8) ((A : Int) + 8 + (body.length : Int)) (A + 8) (A + 8 + body.length) (by omega) (by omega) (by omega) (by omega) hbcap
      have hrdB : ∀ W : World, Buf W 0 5 (.slice ba N bcap) (encRs rs) → Rv W 1 (.slice ba N bcap) N (bcs (encRs rs)) := fun W h => by have := h.rd; unfold Rd at this; rw [← HND.out] at this; exact this
      have HS2 : Hid (∀ W : World, Buf W 0 5 (.slice ba N bcap) (encRs rs) → Rd W S2 (be 2 body.length)) := Lib.hid (fun W h => by
        have h1 := hS2 W (hrdB W h)
        rw [bcs_part, hgt, show A + 2 - A = 2 by omega, List.take_left' (by simp)] at h1
        exact Rv.rd h1 (by simp))
      have HS6 : Hid (∀ W : World, Buf W 0 5 (.slice ba N bcap) (encRs rs) → Rd W S6 (be 6 pos)) := Lib.hid (fun W h => by
        have h1 := hS6 W (hrdB W h)
        rw [bcs_part, hd2, show A + 8 - (A + 2) = 6 by omega, List.take_left' (by simp)] at h1
        exact Rv.rd h1 (by simp))
      have HSB : Hid (∀ W : World, Buf W 0 5 (.slice ba N bcap) (encRs rs) → Rd W SB body) := Lib.hid (fun W h => by
        have h1 := hSB W (hrdB W h)
        rw [bcs_part, hd8, show A + 8 + body.length - (A + 8) = body.length by omega, List.take_left' rfl] at h1
        exact Rv.rd h1 rfl)
      have HU2 : Hid (body.length = unbe (be 2 body.length)) := Lib.hid (by rw [unbe_be, Nat.mod_eq_of_lt (by omega)])
      have HU6 : Hid (pos = unbe (be 6 pos)) := Lib.hid (by rw [unbe_be, Nat.mod_eq_of_lt (by omega)])
      have HCB := Lib.hid hCB
      have hBw : Buf wr 0 5 (.slice ba N bcap) (encRs rs) := HB.out.keep hKr (fun q hq hm => by simp only [List.mem_singleton] at hm; subst hm; exact (HB.out.ty' _ hq).ne HPT.out (by decide) rfl)
      have HBW := Lib.hid hBw
      have HBD := Lib.hid (show body.length ≤ 300 ∧ A + 8 + body.length ≤ N ∧ N ≤ 1000 ∧ j < 1000 ∧ L.length ≤ 1000 by
        have : j ≤ (encRs (rs.take j)).length := by
          have h9 : ∀ l : List Rcd, l.length ≤ (encRs l).length := fun l => by
            induction l with
            | nil => simp
            | cons a t ih => have := encR_len a; unfold encRs at ih ⊢; simp only [List.map_cons, List.flatten_cons, List.length_append, List.length_cons]; omega
          have := h9 (rs.take j)
          rw [List.length_take] at this
          omega
        omega)
      have HA8 : Hid (IntKind.i64.wrap ((A : Int) + 8) = (A : Int) + 8) := Lib.hid (by rw [IntKind.wrap_i64]; omega)
      have HA8n : Hid (IntKind.i64.wrap ((A : Int) + 8 + (body.length : Int)) = (A : Int) + 8 + (body.length : Int)) := Lib.hid (by rw [IntKind.wrap_i64]; omega)
      have HJ := Lib.hid (show j < rs.length ∧ L.length = j from ⟨hlt, hLn⟩)
      have HL := Lib.hid hL
      have HNX := Lib.hid hnl
      have HNR := Lib.hid hNr
      have HKR := Lib.hid hKr
      have HTK : Hid (rs.take (j + 1) = rs.take j ++ [(pos, body)]) := Lib.hid (by rw [List.take_add_one, hr]; simp)
      have HB0 := Lib.hid hKr.size
      have q0 := ge8 N A (by omega)
      have q1 : decide ((body.length : Int) < 1) = false := decide_eq_false (by omega)
      have q1' : decide (body.length < 1) = false := decide_eq_false (by omega)
      have q2 : decide ((300 : Int) < (body.length : Int)) = false := decide_eq_false (by omega)
      have q2' : decide (300 < body.length) = false := decide_eq_false (by omega)
      have q3 : decide ((N : Int) - (A : Int) - 8 < (body.length : Int)) = false := decide_eq_false (by omega)
      have hAN : A ≤ 1000 := by omega
      have hb300 : body.length ≤ 300 := by omega
      clear hS2 hS6 hSB hrdB hCB hgt hd2 hd8 hnx hdr hA hL hNr hKr hby hr hLn hBw k4
      go_wp2_with fail
      refine (sget_any S2 (be 2 body.length) (HS2.out wr HBW.out) (be_byte _ _) (by simp) body.length HU2.out).mono ?_
      rintro e w1 ⟨rfl, rfl⟩
      go_wp2_with fail
      refine (sget_any S6 (be 6 pos) (HS6.out wr HBW.out) (be_byte _ _) (by simp) pos HU6.out).mono ?_
      rintro e w1 ⟨rfl, rfl⟩
      have hpI : (pos : Int) < 281474976710656 := by omega
      go_wp2_with fail
      have hBr := HBW.out
      clear hC2 hC6 hpI
      refine wp_region_inv (recJ wr w.heap.size p N bcap rcap pos A gen base run SB ba ra L body (encRs rs)) (by kernel_rfl) (by kernel_rfl) (by kernel_rfl) ?_ (Steps.cons 0 ?_ (Steps.cons 1 ?_ (Steps.cons 2 ?_ (Steps.cons 3 ?_ (Steps.cons 4 ?_ (Steps.cons 5 ?_ (Steps.cons 6 ?_ (Steps.cons 7 ?_ (Steps.cons 8 ?_ (Steps.cons 9 ?_ (Steps.cons 10 ?_ (Steps.cons 11 ?_ (Steps.cons 12 ?_ (Steps.cons 13 ?_ (Steps.cons 14 ?_ (Steps.cons 15 ?_ (Steps.cons 16 ?_ (Steps.cons 17 ?_ (Steps.cons 18 ?_ (Steps.cons 19 ?_ (Steps.cons 20 ?_ (Steps.cons 21 ?_ (Steps.cons 22 ?_ (Steps.cons 23 ?_ (Steps.nil 24))))))))))))))))))))))))) 24 rfl ?_
      · intro x
        exact ⟨none, 0, none, 0, 0, fun _ => hSr.drew, fun h => absurd h (by decide), fun h => absurd h (by decide), fun h => absurd h (by decide), fun _ => hRr.still (Keep.refl [] _).drew, fun h => absurd h (by decide), hBr.keep (Keep.refl [] _).drew (by simp), (Keep.refl _ _).drew, fun h => absurd h (by decide), fun h => absurd h (by decide), fun h => absurd h (by decide), fun h => absurd h (by decide), fun h => absurd h (by decide), fun h => absurd h (by decide), fun h => absurd h (by decide), fun h => absurd h (by decide), fun h => absurd h (by decide), fun h => absurd h (by decide), fun h => absurd h (by decide), fun h => absurd h (by decide), fun h => absurd h (by decide), fun h => absurd h (by decide), fun h => absurd h (by decide), fun h => absurd h (by decide), fun h => absurd h (by decide), fun h => absurd h (by decide), fun h => absurd h (by decide), fun h => absurd h (by decide), fun h => absurd h (by decide), fun h => absurd h (by decide), fun h => absurd h (by decide), fun h => absurd h (by decide)⟩
      · intro l x w' hJ hi hd
        obtain ⟨ca, ccap, va, vcap, B19, hS0, hS1, h234, h2017, hR0, hR1, hB, hK, h0, h1, h2, h3, h4, h5, h6, h7, h8, h9, h10, h11, h12, h13, h14, h15, h16, h17, h18, h19, h20, h21, h22, h23⟩ := hJ
        refine Runs.of (b := ?bR0) ?eR0 ?_
        case eR0 => simp only [putV, Act.put, List.setIfInBounds_toArray, List.set_cons_zero, List.set_cons_succ]; rfl
        intro K' hK'
        go_simp
        exact hK'.go _ rfl ⟨ca, ccap, va, vcap, B19, hS0, hS1, h234, h2017, hR0, hR1, hB, hK, fun _ => rfl, h1, h2, h3, h4, h5, h6, h7, h8, h9, h10, h11, h12, h13, h14, h15, h16, h17, h18, h19, h20, h21, h22, h23⟩
      · intro l x w' hJ hi hd
        obtain ⟨ca, ccap, va, vcap, B19, hS0, hS1, h234, h2017, hR0, hR1, hB, hK, h0, h1, h2, h3, h4, h5, h6, h7, h8, h9, h10, h11, h12, h13, h14, h15, h16, h17, h18, h19, h20, h21, h22, h23⟩ := hJ
        refine Runs.of (b := ?bR1) ?eR1 ?_
        case eR1 => simp only [putV, Act.put, List.setIfInBounds_toArray, List.set_cons_zero, List.set_cons_succ]; rfl
        intro K' hK'
        go_simp
        exact hK'.go _ rfl ⟨ca, ccap, va, vcap, B19, hS0, hS1, h234, h2017, hR0, hR1, hB, hK, h0, fun _ => rfl, h2, h3, h4, h5, h6, h7, h8, h9, h10, h11, h12, h13, h14, h15, h16, h17, h18, h19, h20, h21, h22, h23⟩
      · intro l x w' hJ hi hd
        obtain ⟨ca, ccap, va, vcap, B19, hS0, hS1, h234, h2017, hR0, hR1, hB, hK, h0, h1, h2, h3, h4, h5, h6, h7, h8, h9, h10, h11, h12, h13, h14, h15, h16, h17, h18, h19, h20, h21, h22, h23⟩ := hJ
        have e1 := h1 (show l 1 = true by first | exact hd.1 rfl | exact hd.2.1 rfl | exact hd.2.2.1 rfl | exact hd.2.2.2.1 rfl | exact hd.2.2.2.2.1 rfl | exact hd.2.2.2.2.2.1 rfl)
        refine Runs.of (b := ?bR2) ?eR2 ?_
        case eR2 => simp only [putV, Act.put, List.setIfInBounds_toArray, List.set_cons_zero, List.set_cons_succ, e1]; rfl
        intro K' hK'
        go_simp
        exact hK'.go _ rfl ⟨ca, ccap, va, vcap, B19, hS0, hS1, h234, h2017, hR0, hR1, hB, hK, h0, h1, fun _ => rfl, h3, h4, h5, h6, h7, h8, h9, h10, h11, h12, h13, h14, h15, h16, h17, h18, h19, h20, h21, h22, h23⟩
      · intro l x w' hJ hi hd
        obtain ⟨ca, ccap, va, vcap, B19, hS0, hS1, h234, h2017, hR0, hR1, hB, hK, h0, h1, h2, h3, h4, h5, h6, h7, h8, h9, h10, h11, h12, h13, h14, h15, h16, h17, h18, h19, h20, h21, h22, h23⟩ := hJ
        have e2 := h2 (show l 2 = true by first | exact hd.1 rfl | exact hd.2.1 rfl | exact hd.2.2.1 rfl | exact hd.2.2.2.1 rfl | exact hd.2.2.2.2.1 rfl | exact hd.2.2.2.2.2.1 rfl)
        refine Runs.of (b := ?bR3) ?eR3 ?_
        case eR3 => simp only [putV, Act.put, List.setIfInBounds_toArray, List.set_cons_zero, List.set_cons_succ, e2]; rfl
        intro K' hK'
        go_simp
        exact hK'.go _ rfl ⟨ca, ccap, va, vcap, B19, hS0, hS1, h234, h2017, hR0, hR1, hB, hK, h0, h1, h2, fun _ => rfl, h4, h5, h6, h7, h8, h9, h10, h11, h12, h13, h14, h15, h16, h17, h18, h19, h20, h21, h22, h23⟩
      · intro l x w' hJ hi hd
        obtain ⟨ca, ccap, va, vcap, B19, hS0, hS1, h234, h2017, hR0, hR1, hB, hK, h0, h1, h2, h3, h4, h5, h6, h7, h8, h9, h10, h11, h12, h13, h14, h15, h16, h17, h18, h19, h20, h21, h22, h23⟩ := hJ
        have e3 := h3 (show l 3 = true by first | exact hd.1 rfl | exact hd.2.1 rfl | exact hd.2.2.1 rfl | exact hd.2.2.2.1 rfl | exact hd.2.2.2.2.1 rfl | exact hd.2.2.2.2.2.1 rfl)
        have c4 := seg_4 (hS0 (by cases hq : l 23 with | false => rfl | true => exact absurd (h234 hq).1 (by simp [hi])))
        refine Runs.of (b := ?bR4) ?eR4 ?_
        case eR4 => simp only [putV, Act.put, List.setIfInBounds_toArray, List.set_cons_zero, List.set_cons_succ, e3]; rfl
        intro K' hK'
        go_simp
        exact hK'.go _ rfl ⟨ca, ccap, va, vcap, B19, hS0, hS1, fun h => ⟨rfl, (h234 h).2⟩, h2017, hR0, hR1, hB, hK, h0, h1, h2, h3, fun _ => rfl, h5, h6, h7, h8, h9, h10, h11, h12, h13, h14, h15, h16, h17, h18, h19, fun h => ⟨(h20 h).1, Lib.hid rfl⟩, h21, h22, h23⟩
      · intro l x w' hJ hi hd
        obtain ⟨ca, ccap, va, vcap, B19, hS0, hS1, h234, h2017, hR0, hR1, hB, hK, h0, h1, h2, h3, h4, h5, h6, h7, h8, h9, h10, h11, h12, h13, h14, h15, h16, h17, h18, h19, h20, h21, h22, h23⟩ := hJ
        refine Runs.of (b := ?bR5) ?eR5 ?_
        case eR5 => simp only [putV, Act.put, List.setIfInBounds_toArray, List.set_cons_zero, List.set_cons_succ]; rfl
        intro K' hK'
        go_simp
        exact hK'.go _ rfl ⟨ca, ccap, va, vcap, B19, hS0, hS1, h234, h2017, hR0, hR1, hB, hK, h0, h1, h2, h3, h4, fun _ => rfl, h6, h7, h8, h9, h10, h11, h12, h13, h14, h15, h16, h17, h18, h19, h20, h21, h22, h23⟩
      · intro l x w' hJ hi hd
        obtain ⟨ca, ccap, va, vcap, B19, hS0, hS1, h234, h2017, hR0, hR1, hB, hK, h0, h1, h2, h3, h4, h5, h6, h7, h8, h9, h10, h11, h12, h13, h14, h15, h16, h17, h18, h19, h20, h21, h22, h23⟩ := hJ
        refine Runs.of (b := ?bR6) ?eR6 ?_
        case eR6 => simp only [putV, Act.put, List.setIfInBounds_toArray, List.set_cons_zero, List.set_cons_succ]; rfl
        intro K' hK'
        go_simp
        exact hK'.go _ rfl ⟨ca, ccap, va, vcap, B19, hS0, hS1, h234, h2017, hR0, hR1, hB, hK, h0, h1, h2, h3, h4, h5, fun _ => rfl, h7, h8, h9, h10, h11, h12, h13, h14, h15, h16, h17, h18, h19, h20, h21, h22, h23⟩
      · intro l x w' hJ hi hd
        obtain ⟨ca, ccap, va, vcap, B19, hS0, hS1, h234, h2017, hR0, hR1, hB, hK, h0, h1, h2, h3, h4, h5, h6, h7, h8, h9, h10, h11, h12, h13, h14, h15, h16, h17, h18, h19, h20, h21, h22, h23⟩ := hJ
        have e6 := h6 (show l 6 = true by first | exact hd.1 rfl | exact hd.2.1 rfl | exact hd.2.2.1 rfl | exact hd.2.2.2.1 rfl | exact hd.2.2.2.2.1 rfl | exact hd.2.2.2.2.2.1 rfl)
        refine Runs.of (b := ?bR7) ?eR7 ?_
        case eR7 => simp only [putV, Act.put, List.setIfInBounds_toArray, List.set_cons_zero, List.set_cons_succ, e6]; rfl
        intro K' hK'
        go_simp
        exact hK'.go _ rfl ⟨ca, ccap, va, vcap, B19, hS0, hS1, h234, h2017, hR0, hR1, hB, hK, h0, h1, h2, h3, h4, h5, h6, fun _ => rfl, h8, h9, h10, h11, h12, h13, h14, h15, h16, h17, h18, h19, h20, h21, h22, h23⟩
      · intro l x w' hJ hi hd
        obtain ⟨ca, ccap, va, vcap, B19, hS0, hS1, h234, h2017, hR0, hR1, hB, hK, h0, h1, h2, h3, h4, h5, h6, h7, h8, h9, h10, h11, h12, h13, h14, h15, h16, h17, h18, h19, h20, h21, h22, h23⟩ := hJ
        have e7 := h7 (show l 7 = true by first | exact hd.1 rfl | exact hd.2.1 rfl | exact hd.2.2.1 rfl | exact hd.2.2.2.1 rfl | exact hd.2.2.2.2.1 rfl | exact hd.2.2.2.2.2.1 rfl)
        refine Runs.of (b := ?bR8) ?eR8 ?_
        case eR8 => simp only [putV, Act.put, List.setIfInBounds_toArray, List.set_cons_zero, List.set_cons_succ, e7]; rfl
        intro K' hK'
        go_simp
        exact hK'.go _ rfl ⟨ca, ccap, va, vcap, B19, hS0, hS1, h234, h2017, hR0, hR1, hB, hK, h0, h1, h2, h3, h4, h5, h6, h7, fun _ => rfl, h9, h10, h11, h12, h13, h14, h15, h16, h17, h18, h19, h20, h21, h22, h23⟩
      · intro l x w' hJ hi hd
        obtain ⟨ca, ccap, va, vcap, B19, hS0, hS1, h234, h2017, hR0, hR1, hB, hK, h0, h1, h2, h3, h4, h5, h6, h7, h8, h9, h10, h11, h12, h13, h14, h15, h16, h17, h18, h19, h20, h21, h22, h23⟩ := hJ
        have e8 := h8 (show l 8 = true by first | exact hd.1 rfl | exact hd.2.1 rfl | exact hd.2.2.1 rfl | exact hd.2.2.2.1 rfl | exact hd.2.2.2.2.1 rfl | exact hd.2.2.2.2.2.1 rfl)
        have c3 : w'.cell? ⟨p, 3, none⟩ = some (.slice ba N bcap) := by cases hq : l 23 with | false => exact seg_3 (hS0 hq) | true => exact seg_3 (hS1 hq)
        refine Runs.of (b := ?bR9) ?eR9 ?_
        case eR9 => simp only [putV, Act.put, List.setIfInBounds_toArray, List.set_cons_zero, List.set_cons_succ, e8]; rfl
        intro K' hK'
        go_simp
        exact hK'.go _ rfl ⟨ca, ccap, va, vcap, B19, hS0, hS1, h234, h2017, hR0, hR1, hB, hK, h0, h1, h2, h3, h4, h5, h6, h7, h8, fun _ => rfl, h10, h11, h12, h13, h14, h15, h16, h17, h18, h19, h20, h21, h22, h23⟩
      · intro l x w' hJ hi hd
        obtain ⟨ca, ccap, va, vcap, B19, hS0, hS1, h234, h2017, hR0, hR1, hB, hK, h0, h1, h2, h3, h4, h5, h6, h7, h8, h9, h10, h11, h12, h13, h14, h15, h16, h17, h18, h19, h20, h21, h22, h23⟩ := hJ
        refine Runs.of (b := ?bR10) ?eR10 ?_
        case eR10 => simp only [putV, Act.put, List.setIfInBounds_toArray, List.set_cons_zero, List.set_cons_succ]; rfl
        intro K' hK'
        go_simp
        exact hK'.go _ rfl ⟨ca, ccap, va, vcap, B19, hS0, hS1, h234, h2017, hR0, hR1, hB, hK, h0, h1, h2, h3, h4, h5, h6, h7, h8, h9, fun _ => rfl, h11, h12, h13, h14, h15, h16, h17, h18, h19, h20, h21, h22, h23⟩
      · intro l x w' hJ hi hd
        obtain ⟨ca, ccap, va, vcap, B19, hS0, hS1, h234, h2017, hR0, hR1, hB, hK, h0, h1, h2, h3, h4, h5, h6, h7, h8, h9, h10, h11, h12, h13, h14, h15, h16, h17, h18, h19, h20, h21, h22, h23⟩ := hJ
        have e10 := h10 (show l 10 = true by first | exact hd.1 rfl | exact hd.2.1 rfl | exact hd.2.2.1 rfl | exact hd.2.2.2.1 rfl | exact hd.2.2.2.2.1 rfl | exact hd.2.2.2.2.2.1 rfl)
        refine Runs.of (b := ?bR11) ?eR11 ?_
        case eR11 => simp only [putV, Act.put, List.setIfInBounds_toArray, List.set_cons_zero, List.set_cons_succ, e10]; rfl
        intro K' hK'
        go_simp
        exact hK'.go _ rfl ⟨ca, ccap, va, vcap, B19, hS0, hS1, h234, h2017, hR0, hR1, hB, hK, h0, h1, h2, h3, h4, h5, h6, h7, h8, h9, h10, fun _ => (by first | rfl | exact congrArg (Value.int .i64) HA8.out), h12, h13, h14, h15, h16, h17, h18, h19, h20, h21, h22, h23⟩
      · intro l x w' hJ hi hd
        obtain ⟨ca, ccap, va, vcap, B19, hS0, hS1, h234, h2017, hR0, hR1, hB, hK, h0, h1, h2, h3, h4, h5, h6, h7, h8, h9, h10, h11, h12, h13, h14, h15, h16, h17, h18, h19, h20, h21, h22, h23⟩ := hJ
        refine Runs.of (b := ?bR12) ?eR12 ?_
        case eR12 => simp only [putV, Act.put, List.setIfInBounds_toArray, List.set_cons_zero, List.set_cons_succ]; rfl
        intro K' hK'
        go_simp
        exact hK'.go _ rfl ⟨ca, ccap, va, vcap, B19, hS0, hS1, h234, h2017, hR0, hR1, hB, hK, h0, h1, h2, h3, h4, h5, h6, h7, h8, h9, h10, h11, fun _ => rfl, h13, h14, h15, h16, h17, h18, h19, h20, h21, h22, h23⟩
      · intro l x w' hJ hi hd
        obtain ⟨ca, ccap, va, vcap, B19, hS0, hS1, h234, h2017, hR0, hR1, hB, hK, h0, h1, h2, h3, h4, h5, h6, h7, h8, h9, h10, h11, h12, h13, h14, h15, h16, h17, h18, h19, h20, h21, h22, h23⟩ := hJ
        have e12 := h12 (show l 12 = true by first | exact hd.1 rfl | exact hd.2.1 rfl | exact hd.2.2.1 rfl | exact hd.2.2.2.1 rfl | exact hd.2.2.2.2.1 rfl | exact hd.2.2.2.2.2.1 rfl)
        refine Runs.of (b := ?bR13) ?eR13 ?_
        case eR13 => simp only [putV, Act.put, List.setIfInBounds_toArray, List.set_cons_zero, List.set_cons_succ, e12]; rfl
        intro K' hK'
        go_simp
        exact hK'.go _ rfl ⟨ca, ccap, va, vcap, B19, hS0, hS1, h234, h2017, hR0, hR1, hB, hK, h0, h1, h2, h3, h4, h5, h6, h7, h8, h9, h10, h11, h12, fun _ => (by first | rfl | exact congrArg (Value.int .i64) HA8.out), h14, h15, h16, h17, h18, h19, h20, h21, h22, h23⟩
      · intro l x w' hJ hi hd
        obtain ⟨ca, ccap, va, vcap, B19, hS0, hS1, h234, h2017, hR0, hR1, hB, hK, h0, h1, h2, h3, h4, h5, h6, h7, h8, h9, h10, h11, h12, h13, h14, h15, h16, h17, h18, h19, h20, h21, h22, h23⟩ := hJ
        refine Runs.of (b := ?bR14) ?eR14 ?_
        case eR14 => simp only [putV, Act.put, List.setIfInBounds_toArray, List.set_cons_zero, List.set_cons_succ]; rfl
        intro K' hK'
        go_simp
        exact hK'.go _ rfl ⟨ca, ccap, va, vcap, B19, hS0, hS1, h234, h2017, hR0, hR1, hB, hK, h0, h1, h2, h3, h4, h5, h6, h7, h8, h9, h10, h11, h12, h13, fun _ => rfl, h15, h16, h17, h18, h19, h20, h21, h22, h23⟩
      · intro l x w' hJ hi hd
        obtain ⟨ca, ccap, va, vcap, B19, hS0, hS1, h234, h2017, hR0, hR1, hB, hK, h0, h1, h2, h3, h4, h5, h6, h7, h8, h9, h10, h11, h12, h13, h14, h15, h16, h17, h18, h19, h20, h21, h22, h23⟩ := hJ
        have e13 := h13 (show l 13 = true by first | exact hd.1 rfl | exact hd.2.1 rfl | exact hd.2.2.1 rfl | exact hd.2.2.2.1 rfl | exact hd.2.2.2.2.1 rfl | exact hd.2.2.2.2.2.1 rfl)
        have e14 := h14 (show l 14 = true by first | exact hd.1 rfl | exact hd.2.1 rfl | exact hd.2.2.1 rfl | exact hd.2.2.2.1 rfl | exact hd.2.2.2.2.1 rfl | exact hd.2.2.2.2.2.1 rfl)
        refine Runs.of (b := ?bR15) ?eR15 ?_
        case eR15 => simp only [putV, Act.put, List.setIfInBounds_toArray, List.set_cons_zero, List.set_cons_succ, e13, e14]; rfl
        intro K' hK'
        go_simp
        exact hK'.go _ rfl ⟨ca, ccap, va, vcap, B19, hS0, hS1, h234, h2017, hR0, hR1, hB, hK, h0, h1, h2, h3, h4, h5, h6, h7, h8, h9, h10, h11, h12, h13, h14, fun _ => (by first | rfl | exact congrArg (Value.int .i64) HA8n.out), h16, h17, h18, h19, h20, h21, h22, h23⟩
      · intro l x w' hJ hi hd
        obtain ⟨ca, ccap, va, vcap, B19, hS0, hS1, h234, h2017, hR0, hR1, hB, hK, h0, h1, h2, h3, h4, h5, h6, h7, h8, h9, h10, h11, h12, h13, h14, h15, h16, h17, h18, h19, h20, h21, h22, h23⟩ := hJ
        have e9 := h9 (show l 9 = true by first | exact hd.1 rfl | exact hd.2.1 rfl | exact hd.2.2.1 rfl | exact hd.2.2.2.1 rfl | exact hd.2.2.2.2.1 rfl | exact hd.2.2.2.2.2.1 rfl)
        have e11 := h11 (show l 11 = true by first | exact hd.1 rfl | exact hd.2.1 rfl | exact hd.2.2.1 rfl | exact hd.2.2.2.1 rfl | exact hd.2.2.2.2.1 rfl | exact hd.2.2.2.2.2.1 rfl)
        have e15 := h15 (show l 15 = true by first | exact hd.1 rfl | exact hd.2.1 rfl | exact hd.2.2.1 rfl | exact hd.2.2.2.1 rfl | exact hd.2.2.2.2.1 rfl | exact hd.2.2.2.2.2.1 rfl)
        have hcut := HCB.out
        refine Runs.of (b := ?bR16) ?eR16 ?_
        case eR16 => simp only [putV, Act.put, List.setIfInBounds_toArray, List.set_cons_zero, List.set_cons_succ, e9, e11, e15]; rfl
        intro K' hK'
        go_simp
        exact hK'.go _ rfl ⟨ca, ccap, va, vcap, B19, hS0, hS1, h234, h2017, hR0, hR1, hB, hK, h0, h1, h2, h3, h4, h5, h6, h7, h8, h9, h10, h11, h12, h13, h14, h15, fun _ => rfl, h17, h18, h19, h20, h21, h22, h23⟩
      · intro l x w' hJ hi hd
        obtain ⟨ca, ccap, va, vcap, B19, hS0, hS1, h234, h2017, hR0, hR1, hB, hK, h0, h1, h2, h3, h4, h5, h6, h7, h8, h9, h10, h11, h12, h13, h14, h15, h16, h17, h18, h19, h20, h21, h22, h23⟩ := hJ
        have e16 := h16 (show l 16 = true by first | exact hd.1 rfl | exact hd.2.1 rfl | exact hd.2.2.1 rfl | exact hd.2.2.2.1 rfl | exact hd.2.2.2.2.1 rfl | exact hd.2.2.2.2.2.1 rfl)
        refine Runs.of (b := ?bR17) ?eR17 ?_
        case eR17 => simp only [putV, Act.put, List.setIfInBounds_toArray, List.set_cons_zero, List.set_cons_succ, e16]; rfl
        intro K' hK'
        go_simp
        refine (Clone_any SB body (HSB.out w' hB) (by have := HBD.out; omega)).mono ?_
        rintro e w2 ⟨v2, rfl, hB2, k2⟩
        obtain ⟨c2, c3, rfl⟩ := hB2.slice
        have HB2 := Lib.hid (hB2.mono hK.size)
        clear hB2
        go_simp
        exact hK'.go (.slice c2 body.length c3) rfl ⟨c2, c3, va, vcap, B19, fun h => (hS0 h).keep k2 (by simp), fun h => (hS1 h).keep k2 (by simp), h234, fun _ => rfl, fun h => (hR0 h).still k2, fun h => absurd (h2017 h) (by simp [hi]), hB.keep k2 (by simp), hK.trans (k2.mono (by simp)), h0, h1, h2, h3, h4, h5, h6, h7, h8, h9, h10, h11, h12, h13, h14, h15, h16, fun _ => ⟨rfl, fun _ => HB2.out, fun q hq => (HB2.out.lt q hq).1⟩, fun h => absurd (h18 h).2.out (by simp [hi]), fun h => absurd (h19 h).2.2.out (by simp [hi]), h20, h21, h22, h23⟩
      · intro l x w' hJ hi hd
        obtain ⟨ca, ccap, va, vcap, B19, hS0, hS1, h234, h2017, hR0, hR1, hB, hK, h0, h1, h2, h3, h4, h5, h6, h7, h8, h9, h10, h11, h12, h13, h14, h15, h16, h17, h18, h19, h20, h21, h22, h23⟩ := hJ
        have e5 := h5 (show l 5 = true by first | exact hd.1 rfl | exact hd.2.1 rfl | exact hd.2.2.1 rfl | exact hd.2.2.2.1 rfl | exact hd.2.2.2.2.1 rfl | exact hd.2.2.2.2.2.1 rfl)
        have e17 := h17 (show l 17 = true by first | exact hd.1 rfl | exact hd.2.1 rfl | exact hd.2.2.1 rfl | exact hd.2.2.2.1 rfl | exact hd.2.2.2.2.1 rfl | exact hd.2.2.2.2.2.1 rfl)
        have HL17 : Hid (l 17 = true) := Lib.hid (by first | exact hd.1 rfl | exact hd.2.1 rfl | exact hd.2.2.1 rfl | exact hd.2.2.2.1 rfl | exact hd.2.2.2.2.1 rfl | exact hd.2.2.2.2.2.1 rfl)
        refine Runs.of (b := ?bR18) ?eR18 ?_
        case eR18 => simp only [putV, Act.put, List.setIfInBounds_toArray, List.set_cons_zero, List.set_cons_succ, e5, e17.1]; rfl
        intro K' hK'
        go_simp
        exact hK'.go _ rfl ⟨ca, ccap, va, vcap, B19, hS0, hS1, h234, h2017, hR0, hR1, hB, hK, h0, h1, h2, h3, h4, h5, h6, h7, h8, h9, h10, h11, h12, h13, h14, h15, h16, h17, fun _ => ⟨rfl, HL17⟩, h19, h20, h21, h22, h23⟩
      · intro l x w' hJ hi hd
        obtain ⟨ca, ccap, va, vcap, B19, hS0, hS1, h234, h2017, hR0, hR1, hB, hK, h0, h1, h2, h3, h4, h5, h6, h7, h8, h9, h10, h11, h12, h13, h14, h15, h16, h17, h18, h19, h20, h21, h22, h23⟩ := hJ
        have e18 := h18 (show l 18 = true by first | exact hd.1 rfl | exact hd.2.1 rfl | exact hd.2.2.1 rfl | exact hd.2.2.2.1 rfl | exact hd.2.2.2.2.1 rfl | exact hd.2.2.2.2.2.1 rfl)
        refine Runs.of (b := ?bR19) ?eR19 ?_
        case eR19 => simp only [putV, Act.put, List.setIfInBounds_toArray, List.set_cons_zero, List.set_cons_succ, e18.1]; rfl
        intro K' hK'
        go_simp
        exact hK'.go _ rfl ⟨ca, ccap, va, vcap, w'.heap.size, fun h => (hS0 h).alloc _, fun h => (hS1 h).alloc _, h234, h2017, fun h => (hR0 h).still ((Keep.refl [] _).alloc _), fun h => (hR1 h).still ((Keep.refl [] _).alloc _), hB.alloc _, hK.alloc _, h0, h1, h2, h3, h4, h5, h6, h7, h8, h9, h10, h11, h12, h13, h14, h15, h16, fun h => ⟨(h17 h).1, fun h2 => ((h17 h).2.1 h2).alloc _, (h17 h).2.2⟩, h18, fun _ => ⟨rfl, fun _ => Blk.new _ [.int .i64 (pos : Int), .slice ca body.length ccap] _, e18.2⟩, h20, h21, h22, h23⟩
      · intro l x w' hJ hi hd
        obtain ⟨ca, ccap, va, vcap, B19, hS0, hS1, h234, h2017, hR0, hR1, hB, hK, h0, h1, h2, h3, h4, h5, h6, h7, h8, h9, h10, h11, h12, h13, h14, h15, h16, h17, h18, h19, h20, h21, h22, h23⟩ := hJ
        have e4 := h4 (show l 4 = true by first | exact hd.1 rfl | exact hd.2.1 rfl | exact hd.2.2.1 rfl | exact hd.2.2.2.1 rfl | exact hd.2.2.2.2.1 rfl | exact hd.2.2.2.2.2.1 rfl)
        have e19 := h19 (show l 19 = true by first | exact hd.1 rfl | exact hd.2.1 rfl | exact hd.2.2.1 rfl | exact hd.2.2.2.1 rfl | exact hd.2.2.2.2.1 rfl | exact hd.2.2.2.2.2.1 rfl)
        have HL4 : Hid (l 4 = true) := Lib.hid (by first | exact hd.1 rfl | exact hd.2.1 rfl | exact hd.2.2.1 rfl | exact hd.2.2.2.1 rfl | exact hd.2.2.2.2.1 rfl | exact hd.2.2.2.2.2.1 rfl)
        have HL17 := e19.2.2
        have hbd := (h17 HL17.out).2.1 hi
        have hblk := e19.2.1 hi
        refine Runs.of (b := ?bR20) ?eR20 ?_
        case eR20 => simp only [putV, Act.put, List.setIfInBounds_toArray, List.set_cons_zero, List.set_cons_succ, e4, e19.1]; rfl
        intro K' hK'
        refine step_append_src _ rfl (.tmp 56) (.tmp 71) 54 54 rfl w.heap.size 57 iR _ 2 32 Try.underlying54 hiR hzR0 hzR1 hzR2 rfl (by decide) (.slice ra L.length rcap) L.length (rcCs L) rfl (hR0 hi).own _ 1 [.int .i64 (pos : Int), .slice ca body.length ccap] rfl (srcRec w' B19 _ _ hblk Try.underlying54 rfl) (by unfold maxLen; have := HBD.out; omega) (by have := HBD.out; omega) (Nat.le_trans HB0.out hK.size) ?_
        intro v2 w2 g2 g3 _ g4
        obtain ⟨v2a, v2c, rfl⟩ := ownsRow_slice g2
        have k2 : Keep (.slice ra L.length rcap : Value).ownBlock.toList w' w2 := Keep.grown g3
        have hR2 : RRow w2 w.heap.size (.slice v2a (L.length + 1) v2c) (L ++ [⟨(pos, body), .slice ca body.length ccap⟩]) := (hR0 hi).snoc ⟨(pos, body), .slice ca body.length ccap⟩ (hbd.mono HB0.out) rfl g2 k2
        have hty := (hR0 hi).ty
        exact hK'.go (.slice v2a (L.length + 1) v2c) rfl ⟨ca, ccap, v2a, v2c, B19, fun h => (hS0 h).keep k2 (fun hm => (hR0 hi).rty (hS0 h).ty (by decide) hm), fun h => absurd (h234 h).2 (by simp [hi]), fun h => ⟨(h234 h).1, rfl⟩, fun _ => HL17.out, fun h => Bool.noConfusion (show true = false from h), fun _ => hR2, hB.keep k2 (fun q hq hm => (hR0 hi).rty (hB.ty' q hq) (by decide) hm), hK.trans (k2.mono (fun q hq _ => List.mem_cons_of_mem _ hq)), h0, h1, h2, h3, h4, h5, h6, h7, h8, h9, h10, h11, h12, h13, h14, h15, h16, fun h => ⟨(h17 h).1, fun h2 => Bool.noConfusion (show true = false from h2), (h17 h).2.2⟩, h18, fun h => ⟨(h19 h).1, fun h2 => Bool.noConfusion (show true = false from h2), (h19 h).2.2⟩, fun _ => ⟨rfl, HL4⟩, h21, h22, h23⟩
      · intro l x w' hJ hi hd
        obtain ⟨ca, ccap, va, vcap, B19, hS0, hS1, h234, h2017, hR0, hR1, hB, hK, h0, h1, h2, h3, h4, h5, h6, h7, h8, h9, h10, h11, h12, h13, h14, h15, h16, h17, h18, h19, h20, h21, h22, h23⟩ := hJ
        have e0 := h0 (show l 0 = true by first | exact hd.1 rfl | exact hd.2.1 rfl | exact hd.2.2.1 rfl | exact hd.2.2.2.1 rfl | exact hd.2.2.2.2.1 rfl | exact hd.2.2.2.2.2.1 rfl)
        refine Runs.of (b := ?bR21) ?eR21 ?_
        case eR21 => simp only [putV, Act.put, List.setIfInBounds_toArray, List.set_cons_zero, List.set_cons_succ, e0]; rfl
        intro K' hK'
        go_simp
        exact hK'.go _ rfl ⟨ca, ccap, va, vcap, B19, hS0, hS1, h234, h2017, hR0, hR1, hB, hK, h0, h1, h2, h3, h4, h5, h6, h7, h8, h9, h10, h11, h12, h13, h14, h15, h16, h17, h18, h19, h20, fun _ => rfl, h22, h23⟩
      · intro l x w' hJ hi hd
        obtain ⟨ca, ccap, va, vcap, B19, hS0, hS1, h234, h2017, hR0, hR1, hB, hK, h0, h1, h2, h3, h4, h5, h6, h7, h8, h9, h10, h11, h12, h13, h14, h15, h16, h17, h18, h19, h20, h21, h22, h23⟩ := hJ
        have e21 := h21 (show l 21 = true by first | exact hd.1 rfl | exact hd.2.1 rfl | exact hd.2.2.1 rfl | exact hd.2.2.2.1 rfl | exact hd.2.2.2.2.1 rfl | exact hd.2.2.2.2.2.1 rfl)
        refine Runs.of (b := ?bR22) ?eR22 ?_
        case eR22 => simp only [putV, Act.put, List.setIfInBounds_toArray, List.set_cons_zero, List.set_cons_succ, e21]; rfl
        intro K' hK'
        go_simp
        exact hK'.go _ rfl ⟨ca, ccap, va, vcap, B19, hS0, hS1, h234, h2017, hR0, hR1, hB, hK, h0, h1, h2, h3, h4, h5, h6, h7, h8, h9, h10, h11, h12, h13, h14, h15, h16, h17, h18, h19, h20, h21, fun _ => rfl, h23⟩
      · intro l x w' hJ hi hd
        obtain ⟨ca, ccap, va, vcap, B19, hS0, hS1, h234, h2017, hR0, hR1, hB, hK, h0, h1, h2, h3, h4, h5, h6, h7, h8, h9, h10, h11, h12, h13, h14, h15, h16, h17, h18, h19, h20, h21, h22, h23⟩ := hJ
        have e20 := h20 (show l 20 = true by first | exact hd.1 rfl | exact hd.2.1 rfl | exact hd.2.2.1 rfl | exact hd.2.2.2.1 rfl | exact hd.2.2.2.2.1 rfl | exact hd.2.2.2.2.2.1 rfl)
        have e22 := h22 (show l 22 = true by first | exact hd.1 rfl | exact hd.2.1 rfl | exact hd.2.2.1 rfl | exact hd.2.2.2.1 rfl | exact hd.2.2.2.2.1 rfl | exact hd.2.2.2.2.2.1 rfl)
        have c4 := seg_4 (hS0 hi)
        have f4 := (hS0 hi).free 4
        have HL20 : Hid (l 20 = true) := Lib.hid (by first | exact hd.1 rfl | exact hd.2.1 rfl | exact hd.2.2.1 rfl | exact hd.2.2.2.1 rfl | exact hd.2.2.2.2.1 rfl | exact hd.2.2.2.2.2.1 rfl)
        refine Runs.of (b := ?bR23) ?eR23 ?_
        case eR23 => simp only [putV, Act.put, List.setIfInBounds_toArray, List.set_cons_zero, List.set_cons_succ, e20.1, e22]; rfl
        intro K' hK'
        have HL4 := e20.2
        have e20 := e20.1
        go_simp
        have k2 : Keep [p] w' (w'.setCell ⟨p, 4, none⟩ (.slice va (L.length + 1) vcap)) := (Keep.refl _ _).setCell (.inl (by simp)) _
        have hS2 := (hS0 hi).set 4 (.slice va (L.length + 1) vcap)
        have hpt := (hS0 hi).ty
        exact hK'.go undef rfl ⟨ca, ccap, va, vcap, B19, fun h => Bool.noConfusion (show true = false from h), fun _ => hS2, fun _ => ⟨HL4.out, HL20.out⟩, h2017, fun h => absurd HL20.out (by simp [show l 20 = false from h]), fun h => (hR1 h).keep k2 (fun q hq hm => by simp only [List.mem_singleton] at hm; subst hm; rcases (hR1 h).ty q hq with h1 | h1; exact h1.ne hpt (by decide) rfl; exact h1.ne hpt (by decide) rfl), hB.keep k2 (fun q hq hm => by simp only [List.mem_singleton] at hm; subst hm; exact (hB.ty' q hq).ne hpt (by decide) rfl), hK.trans (k2.mono (fun q hq _ => by simp only [List.mem_singleton] at hq; subst hq; exact List.mem_cons.2 (.inl rfl))), h0, h1, h2, h3, h4, h5, h6, h7, h8, h9, h10, h11, h12, h13, h14, h15, h16, fun h => ⟨(h17 h).1, fun h2 => absurd HL20.out (by simp [show l 20 = false from h2]), (h17 h).2.2⟩, h18, fun h => ⟨(h19 h).1, fun h2 => absurd HL20.out (by simp [show l 20 = false from h2]), (h19 h).2.2⟩, h20, h21, h22, fun _ => trivial⟩
      · intro l x w3 hJ hl
        obtain ⟨ca, ccap, va, vcap, B19, hS0, hS1, h234, h2017, hR0, hR1, hB, hK, h0, h1, h2, h3, h4, h5, h6, h7, h8, h9, h10, h11, h12, h13, h14, h15, h16, h17, h18, h19, h20, h21, h22, h23⟩ := hJ
        have hS := hS1 (hl 23 (by decide))
        have hRn := hR1 (hl 20 (by decide))
        have hfr := (h17 (hl 17 (by decide))).2.2
        simp only [putV, Act.put, List.setIfInBounds_toArray, List.set_cons_zero, List.set_cons_succ]
        simp only [Nat.zero_add, Nat.reduceAdd]
        have HS := Lib.hid hS
        have HRN := Lib.hid hRn
        have HFR := Lib.hid hfr
        have HRR := Lib.hid hRr
        have HKK : Hid (Keep [p] w w3) := Lib.hid (HKR.out.then hK (fun q hq hlt => by
          rcases List.mem_cons.1 hq with rfl | hq
          · simp
          · exact absurd (hRr.lt q (List.mem_append_left _ hq)).1 (by omega)))
        clear h0 h1 h2 h3 h4 h5 h6 h7 h8 h9 h10 h11 h12 h13 h14 h15 h16 h17 h18 h19 h20 h21 h22 h23 hS0 hS1 h234 h2017 hR0 hR1 hB hK hl hS hRn hfr hSr hRr hBr c3 q0 q1 q1' q2 q2' q3
        go_wp2_with fail
        go_roundw
        case rel =>
          refine ⟨j + 1, L ++ [⟨(pos, body), .slice ca body.length ccap⟩], .slice va (L.length + 1) vcap, by have := HJ.out; omega, ?_, ?_, HS.out, HRN.out, ?_, HKK.out⟩
          · rw [HNX.out]
            exact congrArg (Value.int .i64) (by omega)
          · rw [List.map_append, HL.out, HTK.out]
            rfl
          · have hlo := HRR.out.lt
            have hnd := HNR.out
            have hty := HRN.out.ty
            unfold rcF at hnd hlo ⊢
            rw [List.flatMap_append, List.flatMap_cons, List.flatMap_nil, List.append_nil]
            have hnb := (List.nodup_append.1 hnd).2.1
            have hold : ∀ q ∈ L.flatMap (fun y => y.v.ownBlock.toList), q < wr.heap.size := fun q hq => (hlo q (List.mem_append_right _ hq)).2
            have hnew : ∀ q ∈ (Value.slice ca body.length ccap).ownBlock.toList, wr.heap.size ≤ q := fun q hq => HFR.out q (Option.mem_toList.1 hq)
            have hu : ∀ q ∈ L.flatMap (fun y => y.v.ownBlock.toList) ++ (Value.slice ca body.length ccap).ownBlock.toList, Ty w3 q 5 := fun q hq => by
              have h9 : ∀ y ∈ L ++ [⟨(pos, body), .slice ca body.length ccap⟩], ∀ q ∈ y.v.ownBlock.toList, Ty w3 q 5 := fun y hy q hq => (HRN.out.ok y hy).1.own.ty q (Option.mem_toList.1 hq)
              rcases List.mem_append.1 hq with hq | hq
              · obtain ⟨y, hy, hq⟩ := List.mem_flatMap.1 hq
                exact h9 y (List.mem_append_left _ hy) q hq
              · exact h9 ⟨(pos, body), .slice ca body.length ccap⟩ (by simp) q hq
            refine List.nodup_append.2 ⟨?_, List.nodup_append.2 ⟨hnb, ?_, fun a ha b hb => by have := hold a ha; have := hnew b hb; omega⟩, fun a ha b hb => ?_⟩
            · cases (Value.slice va (L.length + 1) vcap).ownBlock <;> simp
            · cases (Value.slice ca body.length ccap).ownBlock <;> simp
            · rintro rfl
              exact HRN.out.rty (hu a hb) (by decide) ha
        case measure => simp only [intOf]; have := HBD.out; omega
    · obtain rfl : j = rs.length := by omega
      have HL := Lib.hid hL
      have HSR := Lib.hid hSr
      have HRR := Lib.hid hRr
      have HNR := Lib.hid hNr
      have HKR := Lib.hid hKr
      rw [List.take_length, ← HND.out]
      have f3 := hSr.free 3
      have q0 : decide ((8 : Int) ≤ (N : Int) - (N : Int)) = false := by simp
      clear hL hSr hRr hNr hKr
      go_wp2_with fail
      go_end0
      have hst : (sgC gen base run (.slice ba N bcap) (.slice ra L.length rcap)).set 3 (.slice ba N bcap) = sgC gen base run (.slice ba N bcap) (.slice ra L.length rcap) := rfl
      have hS2 := HSR.out.set 3 (.slice ba N bcap)
      rw [hst] at hS2
      have k2 : Keep [p] wr (wr.setCell ⟨p, 3, none⟩ (.slice ba N bcap)) := (Keep.refl _ _).setCell (.inl (by simp)) _
      refine ⟨rfl, _, L, by rw [HL.out, List.take_length], hS2, HRR.out.keep k2 (fun q hq hm => ?_), HNR.out, HKR.out.trans k2⟩
      simp only [List.mem_singleton] at hm
      subst hm
      rcases HRR.out.ty q hq with h1 | h1
      · exact h1.ne HSR.out.ty (by decide) rfl
      · exact h1.ne HSR.out.ty (by decide) rfl
end Go.Proofs.Ytpibpapolcdeiaa
