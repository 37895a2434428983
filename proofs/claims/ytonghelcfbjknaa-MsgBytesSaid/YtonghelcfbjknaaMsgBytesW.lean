/- The law MsgBytes: its walk. -/
import Derived.Test.YtonghelcfbjknaaMsgStep
import Derived.Test.YtonghelcfbjknaaBump
namespace Go.Proofs.Ytonghelcfbjknaa
open Go.ChangeShapes Go.WideShapes Go.ChangeAt Go.RowKit
set_option linter.unusedVariables false
set_option linter.unusedSimpArgs false

theorem xor_ne (o y : Nat) (h : y ≠ 0) : o ^^^ y ≠ o := fun e => h (by
  have := congrArg (o ^^^ ·) e
  simpa [← Nat.xor_assoc] using this)
set_option maxRecDepth 100000 in
set_option maxHeartbeats 16000000 in
theorem msgBytes_walk (v0 : Value) (at_ cut x : Int) (w : World) (w0 : IsMsg w v0) (_w1 : (Lit.int .i64 at_).wf = true) (_w2 : (Lit.int .i64 cut).wf = true) (_w3 : (Lit.int .u8 x).wf = true) :
    Calls Try.prog 4 #[v0, .int .i64 at_, .int .i64 cut, .int .u8 x] w fun e w' => e = .returned (.bool true) ∧ Below w.heap.size w w' := by
  obtain ⟨i0, hi, hz0, hz1, hz2⟩ := info_parts Try.info8
  have hx : 0 ≤ x ∧ x < 256 := by simp [Lit.wf, IntKind.min, IntKind.max, IntKind.signed, IntKind.bits] at _w3; omega
  have hcb := i64_of_wf _w2
  unfold I64 at hcb
  clear _w1 _w2 _w3
  obtain ⟨y, rfl⟩ : ∃ y : Nat, x = (y : Int) := ⟨x.toNat, by omega⟩
  have hy : y < 256 := by omega
  have hxl : (y : Int) < 256 := by omega
  clear hx
  obtain ⟨m, vi, vk, vm, vo, rfl, hr0, hraw, _⟩ := w0
  have hM0 := Blk.new w (msC m vi vk vm vo) 29
  have hr1 := hr0.alloc (.cells (msC m vi vk vm vo).toArray 29)
  have K1 := (Keep.refl [] w).alloc (.cells (msC m vi vk vm vo).toArray 29)
  go_enter Try.func4, Try.ntmps4
  go_wp2_with fail
  refine (begun19 _).mono ?_
  rintro e w1 ⟨rfl, k1⟩
  replace hM0 := hM0.keep k1 (by simp)
  replace hr1 := hr1.keep k1
  replace K1 := K1.trans k1
  have hbl := hM0.lt
  clear k1
  obtain ⟨b, hb⟩ : ∃ b, b = w.heap.size := ⟨_, rfl⟩
  rw [← hb] at hM0 hbl ⊢
  have HBL := Lib.hid (show w.heap.size ≤ b ∧ b < w1.heap.size by omega)
  clear hb hbl
  go_wp2_with (refine wpList_load_rowg 29 _ rfl b rfl 29 (msC m vi vk vm vo).toArray (0, 0) _ hM0 Try.underlying29 rfl Try.sizeMsg (by rfl) ?_)
  refine (msCut_any m vi vk vm vo hr1 hraw).mono ?_
  rintro e w2 ⟨ui, uk, um, uo, rfl, hr2, hsep, k2⟩
  have hM2 := hM0.keep k2 (by simp)
  have K2 := K1.trans k2
  obtain ⟨_, ia, ca, rfl, _, _⟩ := id hr2.its
  obtain ⟨_, ka, ck, rfl, _, _⟩ := id hr2.mks
  obtain ⟨_, ma, cm, rfl, _, _⟩ := id hr2.mem
  obtain ⟨_, oa, co, rfl, _, _⟩ := id hr2.old
  have hz := msCut_sz m hraw
  have HCUT := Lib.hid (fun w3 (k3 : Keep [b] w2 w3) => MsRd.cutKeep hr0 hr2 hsep HBL.out.1 HBL.out.2 k3)
  clear hsep hM0 hr1 K1 k2
  generalize msCut m = m1 at *
  have HONE := Lib.hid (msC_one m1 ia ka ma oa m1.its.length ca m1.mks.length ck m1.mem.length cm m1.old.length co)
  go_upto_region 5 with (refine wpList_store_blk rfl 29 _ _ rfl b (msC m vi vk vm vo) (msC m1 (.slice ia m1.its.length ca) (.slice ka m1.mks.length ck) (.slice ma m1.mem.length cm) (.slice oa m1.old.length co)) 29 rfl rfl hM2 rfl Try.sizeMsg HONE.out ?_; intro w3 hM3 k3)
  have hr3 := HCUT.out w3 k3
  have K3 : Keep [] w w3 := K2.then k3 (by intro q hq hlt; have := HBL.out; simp at hq; omega)
  clear hM2 K2 k3 HCUT hr2 hr0
  go_wp2_with (refine wpList_load_rowg 29 _ rfl b rfl 29 (msC m1 (.slice ia m1.its.length ca) (.slice ka m1.mks.length ck) (.slice ma m1.mem.length cm) (.slice oa m1.old.length co)).toArray (0, 0) _ hM3 Try.underlying29 rfl Try.sizeMsg (by rfl) ?_)
  refine (encode_any m1 _ _ _ _ hr3 hz).mono ?_
  rintro e w4 ⟨bv, rfl, hbf, hnil, k4⟩
  replace hM3 := hM3.keep k4 (by simp)
  replace hr3 := hr3.keep k4
  replace K3 := K3.trans k4
  obtain ⟨r, hr⟩ : ∃ r, r = mayM m1 := ⟨_, rfl⟩
  have HR := Lib.hid hr
  have HEL := Lib.hid (encM_length m1)
  have HEB := Lib.hid (encM_byte m1)
  have HNO := Lib.hid (fun h => encM_none (m := m1) h)
  have HYES := Lib.hid (fun h : mayM m1 = true => decM_enc m1 h)
  have HNE := Lib.hid (fun h : mayM m1 = true => encM_ne h)
  have HMORE := Lib.hid (fun h : mayM m1 = true => decM_more h)
  have HCUT := Lib.hid (fun h : mayM m1 = true => decM_cut h)
  have HTURN := Lib.hid (fun h : mayM m1 = true => decM_turned h (mText_byte m1))
  clear hr hnil k4
  generalize encM m1 = E at *
  obtain ⟨ba, bcap, rfl⟩ := hbf.slice
  have hrb := hbf.rd
  clear hbf
  go_wp2_with (refine wpList_load_rowg 29 _ rfl b rfl 29 (msC m1 (.slice ia m1.its.length ca) (.slice ka m1.mks.length ck) (.slice ma m1.mem.length cm) (.slice oa m1.old.length co)).toArray (0, 0) _ hM3 Try.underlying29 rfl Try.sizeMsg (by rfl) ?_)
  refine (refMsg_any m1 _ _ _ _ hr3 hz r HR.out).mono ?_
  rintro e w5 ⟨rfl, k5⟩
  replace hM3 := hM3.keep k5 (by simp)
  replace hr3 := hr3.keep k5
  replace K3 := K3.trans k5
  replace hrb := hrb.keep k5 (by simp)
  clear k5
  cases r with
  | false =>
    have q1 : ((E.length : Int) == 0) = true := by rw [HNO.out HR.out.symm]; rfl
    go_wp2_with fail
    go_ret
    exact ⟨rfl, K3.below⟩
  | true =>
  have HDEC := Lib.hid (HYES.out HR.out.symm)
  have hpos : 0 < E.length := List.length_pos_iff.2 (HNE.out HR.out.symm)
  have q1 : ((E.length : Int) == 0) = false := by simpa using (by omega : ¬ (E.length : Int) = 0)
  have HP := Lib.hid hpos
  have hel := HEL.out
  clear hpos
  go_wp2_with fail
  refine (decode_any _ E hrb HEB.out (by omega)).mono ?_
  rintro e w6 ⟨k6, hd⟩
  rw [HDEC.out] at hd
  obtain ⟨vi, vk, vm, vo, rfl, hr6⟩ := hd
  have hZ6 := Blk.new w6 (msC ms0 (.slice none 0 0) (.slice none 0 0) (.slice none 0 0) (.slice none 0 0)) 29
  have hM6 := (hM3.keep k6 (by simp)).alloc (.cells (msC ms0 (.slice none 0 0) (.slice none 0 0) (.slice none 0 0) (.slice none 0 0)).toArray 29)
  have K6 := (K3.trans k6).alloc (.cells (msC ms0 (.slice none 0 0) (.slice none 0 0) (.slice none 0 0) (.slice none 0 0)).toArray 29)
  have HLO6 := Lib.hid (show w.heap.size ≤ w6.heap.size ∧ b < w6.heap.size from ⟨(K3.trans k6).size, (hM3.keep k6 (by simp)).lt⟩)
  have HR36 := Lib.hid (hr3.keep k6)
  have HRB6 := Lib.hid (hrb.keep k6 (by simp))
  obtain ⟨_, ja, da, rfl, _, _⟩ := id hr6.its
  obtain ⟨_, la, dk, rfl, _, _⟩ := id hr6.mks
  obtain ⟨_, na, dm, rfl, _, _⟩ := id hr6.mem
  obtain ⟨_, pa, dd, rfl, _, _⟩ := id hr6.old
  have HONE6 := Lib.hid (msC_one m1 ja la na pa m1.its.length da m1.mks.length dk m1.mem.length dm m1.old.length dd)
  go_upto_region 9 with (refine wpList_store_blk rfl 29 _ _ rfl w6.heap.size (msC ms0 (.slice none 0 0) (.slice none 0 0) (.slice none 0 0) (.slice none 0 0)) (msC m1 (.slice ja m1.its.length da) (.slice la m1.mks.length dk) (.slice na m1.mem.length dm) (.slice pa m1.old.length dd)) 29 rfl rfl hZ6 rfl Try.sizeMsg HONE6.out ?_; intro w7 hY7 k7)
  have k67 := ((Keep.refl [w6.heap.size] w6).alloc (.cells (msC ms0 (.slice none 0 0) (.slice none 0 0) (.slice none 0 0) (.slice none 0 0)).toArray 29)).trans k7
  have hM7 := hM6.keep k7 (by have := HLO6.out; simp; omega)
  have K7 : Keep [] w w7 := K6.then k7 (by intro q hq hlt; have := HLO6.out; simp at hq; omega)
  have hr7 := HR36.out.past k67 (by intro q hq; simp at hq; omega)
  have hry := hr6.past k67 (by intro q hq; simp at hq; omega)
  have hrb7 : Rd w7 (.slice ba E.length bcap) E := Rv.keep0 HRB6.out k67 (fun q hq hp hm => by have := HRB6.out.lo q hq hp; simp at hm; omega)
  obtain ⟨yb, hyb⟩ : ∃ q, q = w6.heap.size := ⟨_, rfl⟩
  rw [← hyb] at hY7 ⊢
  have HYB := Lib.hid (show w.heap.size ≤ yb by have := HLO6.out; omega)
  clear hyb hM6 K6 k7 k67 hZ6 hr6 k6 hM3 hr3 K3 hrb HR36 HRB6 HLO6 HONE6
  have q2 : (E.length == 0) = false := by simpa using (by have := HP.out; omega : ¬ E.length = 0)
  go_wp2_with (first | (refine wpList_load_rowg 29 _ rfl b rfl 29 (msC m1 (.slice ia m1.its.length ca) (.slice ka m1.mks.length ck) (.slice ma m1.mem.length cm) (.slice oa m1.old.length co)).toArray (0, 0) _ hM7 Try.underlying29 rfl Try.sizeMsg (by rfl) ?_) | (refine wpList_load_rowg 29 _ rfl yb rfl 29 (msC m1 (.slice ja m1.its.length da) (.slice la m1.mks.length dk) (.slice na m1.mem.length dm) (.slice pa m1.old.length dd)).toArray (0, 0) _ hY7 Try.underlying29 rfl Try.sizeMsg (by rfl) ?_))
  refine (EqMsg_any m1 m1 _ _ _ _ _ _ _ _ hr7 hry hz hz true (eqM_self m1).symm).mono ?_
  rintro e w8 ⟨rfl, k8⟩
  replace hY7 := hY7.keep k8 (by simp)
  replace K7 := K7.trans k8
  replace hrb7 := hrb7.keep k8 (by simp)
  clear k8 hM7 hr7 hry
  have HBA := Lib.hid (show ∀ q, (Value.slice ba E.length bcap).ownBlock = some q → 0 < (bcs E).length → q < w8.heap.size from hrb7.lo)
  have HYL := Lib.hid hY7.lt
  have hsrc8 := Rd.src hrb7 Try.underlying33
  have hsz8 := K7.size
  go_wp2_with (first
    | (at_builtin; refine wpList_append_src _ rfl _ _ 33 33 rfl w8.heap.size 5 i0 (.int .u8 0) 1 1 Try.underlying33 hi hz0 hz1 hz2 rfl (by decide) _ 0 [] rfl (Buf.nil _ _ _) _ _ _ rfl hsrc8 (by unfold maxLen; omega) (by omega) (Nat.le_refl _) ?_; intro v1 w9 h1 h2 h4 h3; have hC : Buf w9 w8.heap.size 5 v1 E := (by rw [List.nil_append, Nat.zero_add] at h1; exact h1); have K9 : Keep [] w w9 := K7.trans ((Keep.grown h2).mono (by intro z hz _; cases hz)); have hrb9 := hrb7.keep ((Keep.grown h2).mono (S' := []) (by intro z hz _; cases hz)) (by simp); have hY9 := hY7.keep ((Keep.grown h2).mono (S' := []) (by intro z hz _; cases hz)) (by simp); obtain ⟨c1, ccap, rfl⟩ := hC.slice; have hcell := src_cell (P := Try.prog) Try.underlying33 w9 (.int .u8 (y : Int)) rfl 5 _ rfl; have hsz9 := (Keep.grown h2).size; clear h1 h2 h3 h4 hsrc8)
    | (at_builtin; refine wpList_append_src _ rfl _ _ 33 33 rfl w8.heap.size 5 i0 (.int .u8 0) 1 1 Try.underlying33 hi hz0 hz1 hz2 rfl (by decide) _ E.length _ rfl (World.ownsRow.alloc hC _) _ _ _ rfl hcell (by unfold maxLen; omega) (by omega) (by simp; omega) ?_; intro v2 w10 h1 h2 h4 h3))
  have hD : Buf w10 w8.heap.size 5 v2 (E ++ [y]) := by
    unfold Buf; rw [List.length_append, bcs_append]; exact h1
  have k10 := (Keep.grown h2).mono (S' := (Value.slice c1 E.length ccap).ownBlock.toList) (fun q hq _ => hq)
  have hcl : ∀ q ∈ (Value.slice c1 E.length ccap).ownBlock.toList, w8.heap.size ≤ q := fun q hq => (hC.lt q (Option.mem_toList.1 hq)).1
  have K10 : Keep [] w w10 := (K9.alloc _).then k10 (fun q hq hlt => by have := hcl q hq; omega)
  have k910 := ((Keep.refl (Value.slice c1 E.length ccap).ownBlock.toList w9).alloc (.cells #[.int .u8 (y : Int)] 5)).trans k10
  have hrb10 : Rd w10 (.slice ba E.length bcap) E := Rv.keep0 hrb9 k910 (fun q hq hp hm => by have h1 := hcl q hm; have h2 := HBA.out q hq hp; omega)
  have hY10 := hY9.keep k910 (fun hm => by have := hcl _ hm; have := HYL.out; omega)
  obtain ⟨d2, dcap2, rfl⟩ := hD.slice
  have hDr := hD.rd
  have HDB : Hid (∀ c ∈ E ++ [y], c < 256) := Lib.hid (by
    intro c hc
    rcases List.mem_append.1 hc with hc | hc
    · exact HEB.out c hc
    · simp at hc; omega)
  clear h1 h2 h3 h4 hC hcell K9 k10 k910 hD hsz9 hrb9 hY9
  refine (decode_any _ (E ++ [y]) hDr HDB.out (by rw [List.length_append]; simp; omega)).mono ?_
  rintro e w11 ⟨k11, hd⟩
  rw [HMORE.out HR.out.symm y] at hd
  obtain rfl := hd
  replace hY10 := hY10.keep k11 (by simp)
  replace K10 := K10.trans k11
  replace hrb10 := hrb10.keep k11 (by simp)
  clear k11 hDr hcl
  go_upto_region 14 with fail
  obtain ⟨bc, hbc⟩ : ∃ c, c = decide (0 < cut ∧ cut ≤ (E.length : Int)) := ⟨_, rfl⟩
  have HBC := Lib.hid hbc
  clear hbc
  go_cut [63] (fun s wc => s = .bool bc ∧ w11 = wc)
  case first =>
    by_cases g1 : 0 < cut
    · have p1 : decide (0 < cut) = true := decide_eq_true g1
      by_cases g2 : cut ≤ (E.length : Int)
      · have p2 : decide (cut ≤ (E.length : Int)) = true := decide_eq_true g2
        go_wp2_with fail
        go_meet
        exact ⟨by rw [HBC.out, decide_eq_true ⟨g1, g2⟩], rfl⟩
      · have p2 : decide (cut ≤ (E.length : Int)) = false := decide_eq_false g2
        go_wp2_with fail
        go_meet
        exact ⟨by rw [HBC.out, decide_eq_false (fun h => by have := h.2; omega)], rfl⟩
    · have p1 : decide (0 < cut) = false := decide_eq_false g1
      go_wp2_with fail
      go_meet
      exact ⟨by rw [HBC.out, decide_eq_false (fun h => by have := h.1; omega)], rfl⟩
  case rest =>
  obtain ⟨rfl, rfl⟩ := hcut
  go_upto_if 63 with fail
  go_cut [] (fun wc => Rd wc (.slice ba E.length bcap) E ∧ Blk wc yb (msC m1 (.slice ja m1.its.length da) (.slice la m1.mks.length dk) (.slice na m1.mem.length dm) (.slice pa m1.old.length dd)) 29 ∧ Keep [] w wc)
  case first =>
    cases bc with
    | false =>
      go_wp2_with fail
      go_meet
      exact ⟨hrb10, hY10, K10⟩
    | true =>
      have hc := of_decide_eq_true HBC.out.symm
      obtain ⟨n, rfl⟩ : ∃ n : Nat, cut = (n : Int) := ⟨cut.toNat, by omega⟩
      have hn1 : 0 < n := by omega
      have hn2 : n ≤ E.length := by omega
      clear hc HBC
      have hsub : IntKind.i64.wrap ((E.length : Int) - (n : Int)) = (E.length : Int) - (n : Int) := by rw [IntKind.wrap_i64]; omega
      go_wp2_with (refine wpList_slice_to _ _ _ _ _ _ _ 5 i0 Try.underlying33 hi hz1 _ _ _ _ (E.length - n) rfl rfl (by first | omega | (simp; omega)) hrb10 (by omega) ?_; intro v3 hv3 _; obtain ⟨_, e3, ecap3, rfl, _, _⟩ := id hv3)
      have hr3 : Rd w11 (.slice e3 (E.length - n) ecap3) (E.take (E.length - n)) := by
        unfold Rd
        have e1 : bcs (E.take (E.length - n)) = (bcs E).take (E.length - n) := by simp [bcs, List.map_take]
        rw [e1, List.length_take, show min (E.length - n) E.length = E.length - n by omega]
        exact hv3
      refine (decode_any _ (E.take (E.length - n)) hr3 (fun c hc => HEB.out c (List.mem_of_mem_take hc)) (by rw [List.length_take]; omega)).mono ?_
      rintro e w12 ⟨k12, hd⟩
      rw [HCUT.out HR.out.symm (E.length - n) (by omega)] at hd
      obtain rfl := hd
      go_wp2_with fail
      go_meet
      exact ⟨hrb10.keep k12 (by simp), hY10.keep k12 (by simp), K10.trans k12⟩
  case rest =>
  clear hrb10 hY10 K10
  obtain ⟨hrb, hY, K⟩ := hcut
  by_cases hat : at_ < 0
  · have p1 : decide (at_ < 0) = true := decide_eq_true hat
    go_wp2_with fail
    go_ret
    exact ⟨rfl, K.below⟩
  have p1 : decide (at_ < 0) = false := decide_eq_false hat
  by_cases hy0 : y = 0
  · have p2 : ((y : Int) == 0) = true := by simpa using hy0
    go_wp2_with fail
    go_ret
    exact ⟨rfl, K.below⟩
  have p2 : ((y : Int) == 0) = false := by simpa using hy0
  have p3 : (y == 0) = false := by simpa using hy0
  obtain ⟨A, rfl⟩ : ∃ A : Nat, at_ = (A : Int) := ⟨at_.toNat, by omega⟩
  obtain ⟨j, hj⟩ : ∃ j, j = A % E.length := ⟨_, rfl⟩
  have hjl : j < E.length := by rw [hj]; exact Nat.mod_lt _ HP.out
  have hrem : (A : Int).tmod (E.length : Int) = (j : Int) := by rw [Int.tmod_eq_emod_of_nonneg (by omega), hj]; omega
  clear hj
  obtain ⟨o, ho⟩ : ∃ o, o = E.getD j 0 := ⟨_, rfl⟩
  have ho8 : o < 256 := by
    rw [ho, List.getD_eq_getElem?_getD, List.getElem?_eq_getElem hjl]
    exact HEB.out _ (List.getElem_mem hjl)
  have hxor := u8_xor_nat o y ho8 hy
  have hr256 : o ^^^ y < 256 := Nat.xor_lt_two_pow (n := 8) (by omega) (by omega)
  have HXN := Lib.hid (xor_ne o y hy0)
  generalize o ^^^ y = r at *
  have HO := Lib.hid ho
  clear ho
  have q3 : (j : Int) < E.length := by omega
  have hsrc := Rd.src hrb Try.underlying33
  have HYL := Lib.hid hY.lt
  have HYT := Lib.hid hY.ty
  have HP2 := HP.out
  go_wp2_with (at_builtin; refine wpList_append_src _ rfl _ _ 33 33 rfl wc.heap.size 5 i0 (.int .u8 0) 1 1 Try.underlying33 hi hz0 hz1 hz2 rfl (by decide) _ 0 [] rfl (Buf.nil _ _ _) _ _ _ rfl hsrc (by unfold maxLen; omega) (by omega) (Nat.le_refl _) ?_; intro v1 w13 h1 h2 h4 h3; have hC : Buf w13 wc.heap.size 5 v1 E := (by rw [List.nil_append, Nat.zero_add] at h1; exact h1); have K13 : Keep [] w w13 := K.trans ((Keep.grown h2).mono (by intro z hz _; cases hz)); have hY13 := hY.keep ((Keep.grown h2).mono (S' := []) (by intro z hz _; cases hz)) (by simp); obtain ⟨g, ccap, rfl, _, hg1, hg2⟩ := hC.at' HP.out; obtain ⟨b1, b2, b3, b4⟩ := hC.bump rfl j hjl r; rw [← HO.out] at b1; clear h1 h2 h3 h4)
  have hb3r : Rd (w13.setCell ⟨g, j, none⟩ (.int .u8 (r : Int))) (.slice (some ⟨g, 0, none⟩) E.length ccap) (E.set j r) := b3.rd
  have hwsz := K.size
  have K14 : Keep [] w (w13.setCell ⟨g, j, none⟩ (.int .u8 (r : Int))) := K13.then b4 (by intro z hz hlt; simp at hz; omega)
  have hY14 := hY13.keep b4 (by have := HYL.out; simp; omega)
  have hsl : (E.set j r).length = E.length := List.length_set
  refine (decode_any _ (E.set j r) (by unfold Rd; rw [hsl]; unfold Rd at hb3r; rw [hsl] at hb3r; exact hb3r) (set_byte E j r HEB.out hr256) (by rw [hsl]; omega)).mono ?_
  rintro e w15 ⟨k15, hd⟩
  rw [HTURN.out HR.out.symm j r hjl hr256 (by rw [← HO.out]; exact HXN.out)] at hd
  obtain rfl := hd
  have hY15 := hY14.keep k15 (by simp)
  have K15 := K14.trans k15
  have HONE0 := Lib.hid (msC_one ms0 none none none none 0 0 0 0 0 0 0 0)
  go_upto_region 23 with (refine wpList_store_blk rfl 29 _ _ rfl yb (msC m1 (.slice ja m1.its.length da) (.slice la m1.mks.length dk) (.slice na m1.mem.length dm) (.slice pa m1.old.length dd)) (msC ms0 (.slice none 0 0) (.slice none 0 0) (.slice none 0 0) (.slice none 0 0)) 29 rfl rfl hY15 rfl Try.sizeMsg HONE0.out ?_; intro w16 hY16 k16)
  have K16 : Keep [] w w16 := K15.then k16 (by intro z hz hlt; have := HYB.out; simp at hz; omega)
  have c0 : w16.cell? ⟨yb, 0, none⟩ = some (.int .i64 0) := msc_0 hY16
  go_wp2_with fail
  go_ret
  exact ⟨rfl, K16.below⟩
end Go.Proofs.Ytonghelcfbjknaa
