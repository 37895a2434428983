/- The contract of item.Decode. -/
import Derived.Test.YtpibpgfadkfgbaaItemDec
namespace Go.Proofs.Ytpibpgfadkfgbaa
open Go.ChangeShapes Go.WideShapes Go.ChangeAt Go.RowKit
set_option linter.unusedVariables false
set_option linter.unusedSimpArgs false

def GotIts (w : World) (b : List Nat) (e : Ending) (w' : World) : Prop := Keep [] w w' ∧
  ((∃ l v, itDec b = some l ∧ e = .returned (.tuple #[v, .int .i64 0]) ∧ IRow w' w.heap.size v l) ∨ (itDec b = none ∧ e = .returned (.tuple #[.slice none 0 0, .int .i64 1])))
theorem sb_byte (t : ByteArray) : ∀ c ∈ sb t, c < 256 := by
  intro c hc
  unfold sb at hc
  obtain ⟨x, _, rfl⟩ := List.mem_map.1 hc
  have := x.toNat_lt
  omega
theorem putIt_byte (y : It) : ∀ c ∈ putIt y, c < 256 := by
  intro c hc
  unfold putIt putTexts at hc
  simp only [List.map_cons, List.map_nil, List.flatten_cons, List.flatten_nil, List.append_nil, List.mem_append, putText] at hc
  rcases hc with ((hc | hc) | (hc | hc)) | hc
  · exact leb_byte _ c hc
  · exact sb_byte _ c hc
  · exact leb_byte _ c hc
  · exact sb_byte _ c hc
  · exact putAll_byte _ c hc
theorem encIts_byte (l : List It) : ∀ c ∈ encIts l, c < 256 := by
  intro c hc
  unfold encIts at hc
  split at hc
  · unfold putIts at hc
    obtain ⟨p, hp, hcp⟩ := List.mem_flatten.1 hc
    obtain ⟨y, _, rfl⟩ := List.mem_map.1 hp
    exact putIt_byte y c hcp
  · cases hc
theorem encIts_len (l : List It) : (encIts l).length ≤ 300 * l.length := by
  unfold encIts
  split
  · rename_i h
    induction l with
    | nil => simp [putIts]
    | cons y l ih =>
      simp only [List.all_cons, Bool.and_eq_true] at h
      have h1 := putIt_len h.1
      have h2 := ih h.2
      have e : putIts (y :: l) = putIt y ++ putIts l := by simp [putIts]
      rw [e, List.length_append, List.length_cons]; omega
  · simp
theorem set2 (w : World) (xb gb : Nat) (n g : Int) : setAll w [some ⟨xb, 2, none⟩, some ⟨gb, 0, none⟩] [n, g] = (w.setCell ⟨xb, 2, none⟩ (.int .i64 n)).setCell ⟨gb, 0, none⟩ (.int .i64 g) := rfl
theorem rd_add {w : World} {a : Option Addr} {n cap : Nat} {l : List Nat} (h : Rd w (.slice a n cap) l) (k : Nat) (hk : k ≤ l.length) : Rd w (.slice (a.map fun x => x.add k) (l.length - k) (cap - k)) (l.drop k) := by
  obtain ⟨hl, a', cap', he, hc, hh⟩ := h
  simp only [Value.slice.injEq] at he
  obtain ⟨rfl, _, rfl⟩ := he
  refine ⟨by simp, _, _, by rw [List.length_drop], by rw [List.length_drop]; omega, fun hp => ?_⟩
  rw [bcs_length, List.length_drop] at hp
  obtain ⟨sb, so, rfl, hs, hat⟩ := hh (by rw [bcs_length]; omega)
  refine ⟨sb, so + k, ?_, hs, fun i hi => ?_⟩
  · by_cases h0 : k = 0
    · subst h0; simp [Addr.add]
    · simp [Addr.add, h0]
  · rw [bcs_length, List.length_drop] at hi
    rw [show so + k + i = so + (k + i) by omega, hat (k + i) (by rw [bcs_length]; omega)]
    simp [bcs, List.getElem?_drop, List.map_drop]
theorem own_add (a : Option Addr) (k n c n' c' : Nat) : (Value.slice (a.map fun x => x.add k) n c).ownBlock = (Value.slice a n' c').ownBlock := by
  cases a with
  | none => rfl
  | some x =>
    show some (x.add k).block = some x.block
    unfold Addr.add
    split <;> rfl
theorem rd_cut {w : World} {v : Value} {l : List Nat} (k : Nat) (h : Rv w 1 v (l.length - k) ((bcs l).drop k)) : Rd w v (l.drop k) := by
  unfold Rd
  rw [List.length_drop, show bcs (l.drop k) = (bcs l).drop k by simp [bcs, List.map_drop]]
  exact h
set_option maxRecDepth 100000 in
set_option maxHeartbeats 8000000 in
theorem itDecode_any {w : World} (bv : Value) (b : List Nat) (h : Rd w bv b) (hb : ∀ c ∈ b, c < 256) (hl : b.length ≤ 100000) :
    Calls Try.prog 37 #[bv] w (GotIts w b) := by
  obtain ⟨i0, hi, hz0, hz1, hz2⟩ := info_parts Try.info8
  obtain ⟨it0, hit, htz0, htz1, htz2⟩ := info_parts Try.infoItem
  have heq := fun (W : World) (a : Option Addr) (n c : Nat) => Lib.run_eql_slice_nil (P := Try.prog) W 33 5 a n c 0 0 Try.underlying33
  obtain ⟨_, ba, bcap, rfl, _, _⟩ := id h
  have hlo := h.lo
  have HB := Lib.hid hb
  have HLO := Lib.hid hlo
  clear hb hlo
  go_enter Try.func37, Try.ntmps37
  go_wp2_with fail
  go_loopw [4, 5] (fun lv at_ wr => ∃ (pos f : Nat) (acc : List It), pos ≤ b.length ∧ at_ = .int .i64 pos ∧ b.length - pos ≤ f ∧ decF b.length b = (decF f (b.drop pos)).map (acc ++ ·) ∧ IRow wr w.heap.size lv acc ∧ acc.length ≤ pos ∧
    (∀ y ∈ acc, y.1.size ≤ 100000 ∧ y.2.1.size ≤ 100000) ∧ Keep [] w wr) (fun _ at_ _ => b.length - (intOf at_).toNat)
  case atStart => exact ⟨0, b.length, [], by omega, rfl, by omega, by simp, IRow.nil _ _, by simp, by simp, Keep.refl _ _⟩
  case round =>
    obtain ⟨pos, f, acc, hpos, rfl, hf, hD, hA, hal, hsz, hK⟩ := hrel
    have HD := Lib.hid hD
    have HSZ := Lib.hid hsz
    clear hD hsz
    obtain ⟨la, lcap, rfl⟩ := hA.slice
    by_cases hlt : pos < b.length
    · have q0 : (pos : Int) < b.length := by omega
      obtain ⟨f', rfl⟩ : ∃ f', f = f' + 1 := ⟨f - 1, by omega⟩
      have hne : b.drop pos ≠ [] := by intro h0; have h1 := congrArg List.length h0; rw [List.length_drop, List.length_nil] at h1; omega
      have hbd : ∀ c ∈ b.drop pos, c < 256 := fun c hc => HB.out c (List.mem_of_mem_drop hc)
      have hdl : (b.drop pos).length = b.length - pos := by simp
      have hst := decF_step f' (b.drop pos)
      have hbad := decF_bad f' (b.drop pos) hne
      have hd1 : dec1 (b.drop pos) = dec1 (b.drop pos) := rfl
      conv at hd1 => rhs; unfold dec1
      have htf := getText_facts (b.drop pos) hbd
      obtain ⟨K, hk⟩ : ∃ K, K = getText (b.drop pos) := ⟨_, rfl⟩
      rw [← hk] at hd1 htf
      have HK := Lib.hid hk
      have HNE := Lib.hid hne
      have HST := Lib.hid hst
      have HBAD := Lib.hid hbad
      have HBD := Lib.hid hbd
      have HDL := Lib.hid hdl
      clear hk hne hst hbad hbd hdl
      obtain ⟨kt, kn, ke⟩ := K
      simp only at hd1 htf
      have hx0 : Blk (wr.alloc (.cells (itC { data := #[] } { data := #[] } 0 false).toArray 49)) wr.heap.size (itC { data := #[] } { data := #[] } 0 false) 49 := Blk.new _ _ _
      have K1 := hK.alloc (.cells (itC { data := #[] } { data := #[] } 0 false).toArray 49)
      have hA1 := hA.alloc (.cells (itC { data := #[] } { data := #[] } 0 false).toArray 49)
      have hr1 := h.keep K1 (by simp)
      have hxw : w.heap.size ≤ wr.heap.size := hK.size
      obtain ⟨w1, hw1⟩ : ∃ W, W = wr.alloc (.cells (itC { data := #[] } { data := #[] } 0 false).toArray 49) := ⟨_, rfl⟩
      rw [← hw1] at hx0 K1 hA1 hr1
      have hxl : w1.heap.size = wr.heap.size + 1 := by rw [hw1]; simp
      go_wp2_with fail
      change Calls _ _ _ (wr.alloc (.cells (itC { data := #[] } { data := #[] } 0 false).toArray 49)) _
      rw [← hw1]
      have HXL := Lib.hid hxl
      have HRX := Lib.hid (show ∀ q, (Value.slice la acc.length lcap).ownBlock = some q → q < wr.heap.size from fun q hq => (hA.lt q hq).2)
      clear hw1 hxl hA hK
      generalize wr.heap.size = xb at *
      refine (GetText_any _ (b.drop pos) (rd_add hr1 pos hpos) HBD.out (by rw [HDL.out]; omega) (kt, kn, ke) HK.out).mono ?_
      rintro e w1' ⟨rfl, rfl⟩
      simp only
      by_cases hke : ke = 0
      case neg =>
        have hd2 : dec1 (b.drop pos) = none := by rw [hd1, if_pos hke]
        have hnone : itDec b = none := by
          unfold itDec
          rw [HD.out, HBAD.out hd2]; rfl
        have q1 : ((ke : Int) != 0) = true := by simp; omega
        clear hd1 hd2
        go_wp2_with fail
        go_ret2
        exact ⟨K1, .inr ⟨hnone, rfl⟩⟩
      subst hke
      obtain ⟨hkn1, hkn2, hktl, hktb⟩ := htf rfl
      rw [HDL.out] at hkn2 hktl
      rw [if_neg (by simp)] at hd1
      clear htf
      have hbd2 : ∀ c ∈ b.drop (pos + kn), c < 256 := fun c hc => HB.out c (List.mem_of_mem_drop hc)
      have hdl2 : (b.drop (pos + kn)).length = b.length - (pos + kn) := by simp
      have htf2 := getText_facts (b.drop (pos + kn)) hbd2
      have hdd : (b.drop pos).drop kn = b.drop (pos + kn) := by rw [List.drop_drop]
      rw [hdd] at hd1
      obtain ⟨V, hv⟩ : ∃ V, V = getText (b.drop (pos + kn)) := ⟨_, rfl⟩
      rw [← hv] at hd1 htf2
      have HV := Lib.hid hv
      have HBD2 := Lib.hid hbd2
      have HDL2 := Lib.hid hdl2
      clear hv hbd2 hdl2 hdd
      obtain ⟨vt, vn, ve⟩ := V
      simp only at hd1 htf2
      have HD1 := Lib.hid hd1
      have HTF2 := Lib.hid htf2
      clear hd1 htf2
      have q2 : IntKind.i64.wrap ((pos : Int) + kn) = ((pos + kn : Nat) : Int) := by rw [IntKind.wrap_i64]; omega
      clear q0
      go_wp2_with (refine wpList_slice_lo _ _ _ _ _ _ _ 5 i0 Try.underlying33 hi hz1 _ _ _ _ (pos + kn) rfl rfl rfl hr1 (by omega) ?_; intro v1 hv1 ho1)
      have hrv1 : Rd w1 v1 (b.drop (pos + kn)) := rd_cut _ hv1
      refine (GetText_any _ (b.drop (pos + kn)) hrv1 HBD2.out (by rw [HDL2.out]; omega) (vt, vn, ve) HV.out).mono ?_
      rintro e w1' ⟨rfl, rfl⟩
      simp only
      by_cases hve : ve = 0
      case neg =>
        have hd2 : dec1 (b.drop pos) = none := by rw [HD1.out, if_pos hve]
        have hnone : itDec b = none := by
          unfold itDec
          rw [HD.out, HBAD.out hd2]; rfl
        have q1 : ((ve : Int) != 0) = true := by simp; omega
        clear hd2
        go_wp2_with fail
        go_ret2
        exact ⟨K1, .inr ⟨hnone, rfl⟩⟩
      subst hve
      obtain ⟨hvn1, hvn2, hvtl, hvtb⟩ := HTF2.out rfl
      rw [HDL2.out] at hvn2 hvtl
      have hd1 := HD1.out
      rw [if_neg (by simp)] at hd1
      clear HTF2 HD1 hrv1 hv1 ho1
      have hbd3 : ∀ c ∈ b.drop (pos + (kn + vn)), c < 256 := fun c hc => HB.out c (List.mem_of_mem_drop hc)
      have hdl3 : (b.drop (pos + (kn + vn))).length = b.length - (pos + (kn + vn)) := by simp
      have hml := getMany_len 2 (b.drop (pos + (kn + vn)))
      have hmi := getMany_i64 2 (b.drop (pos + (kn + vn))) hbd3
      have hmp := getMany_pos 2 (b.drop (pos + (kn + vn))) hbd3
      have hdd : (b.drop pos).drop (kn + vn) = b.drop (pos + (kn + vn)) := by rw [List.drop_drop]
      rw [hdd] at hd1
      obtain ⟨M, hm⟩ : ∃ M, M = getMany (b.drop (pos + (kn + vn))) 2 := ⟨_, rfl⟩
      rw [← hm] at hd1 hml hmi hmp
      have HM := Lib.hid hm
      have HBD3 := Lib.hid hbd3
      have HDL3 := Lib.hid hdl3
      clear hm hbd3 hdl3 hdd
      obtain ⟨ms, mn, me⟩ := M
      simp only at hd1 hml hmi hmp
      rw [HDL3.out] at hmp
      have HD1 := Lib.hid hd1
      have HML := Lib.hid hml
      have HMI := Lib.hid hmi
      clear hd1 hml hmi
      have HVN := Lib.hid (show pos + (kn + vn) ≤ b.length ∧ 1 ≤ vn by omega)
      have HKN := Lib.hid (show kn ≤ b.length - pos ∧ kt.length ≤ b.length ∧ vt.length ≤ b.length by omega)
      have HMP := Lib.hid hmp
      have HKN1 := Lib.hid hkn1
      clear hvn1 hvn2 hkn1 hkn2 hmp hktl hvtl hlt
      have hkb : kn ≤ 100000 ∧ vn ≤ 100000 := by have := HVN.out; omega
      obtain ⟨hkb1, hkb2⟩ := hkb
      clear q2
      have hg0 : Blk (w1.alloc (.cells #[.int .i64 0] 2)) w1.heap.size [.int .i64 0] 2 := Blk.new w1 [.int .i64 0] _
      go_wp2_with (refine wpList_slice_lo _ _ _ _ _ _ _ 5 i0 Try.underlying33 hi hz1 _ _ _ _ (pos + kn + vn) rfl rfl rfl (hr1.alloc _) (by have := HVN.out; omega) ?_; intro v1 hv1 ho1)
      have hv2 : Rv (w1.alloc (.cells #[.int .i64 0] 2)) 1 v1 (b.length - (pos + kn + vn)) ((bcs b).drop (pos + kn + vn)) := hv1
      have hrv2 : Rd (w1.alloc (.cells #[.int .i64 0] 2)) v1 (b.drop (pos + (kn + vn))) := by rw [← Nat.add_assoc]; exact rd_cut _ hv2
      have hP0 : Blk ((w1.alloc (.cells #[.int .i64 0] 2)).alloc (.cells #[.pointer (some ⟨xb, 2, none⟩), .pointer (some ⟨w1.heap.size, 0, none⟩)] 68)) (w1.heap.size + 1) (ptrs [some ⟨xb, 2, none⟩, some ⟨w1.heap.size, 0, none⟩]) 68 := Blk.new' _ (ptrs [some ⟨xb, 2, none⟩, some ⟨w1.heap.size, 0, none⟩]) _ _ (by simp)
      have hG0 := hg0.alloc (.cells #[.pointer (some ⟨xb, 2, none⟩), .pointer (some ⟨w1.heap.size, 0, none⟩)] 68)
      have hX0 := (hx0.alloc (.cells #[.int .i64 0] 2)).alloc (.cells #[.pointer (some ⟨xb, 2, none⟩), .pointer (some ⟨w1.heap.size, 0, none⟩)] 68)
      have hA0 := (hA1.alloc (.cells #[.int .i64 0] 2)).alloc (.cells #[.pointer (some ⟨xb, 2, none⟩), .pointer (some ⟨w1.heap.size, 0, none⟩)] 68)
      have hR0 := hrv2.alloc (.cells #[.pointer (some ⟨xb, 2, none⟩), .pointer (some ⟨w1.heap.size, 0, none⟩)] 68)
      have hK0 := (K1.alloc (.cells #[.int .i64 0] 2)).alloc (.cells #[.pointer (some ⟨xb, 2, none⟩), .pointer (some ⟨w1.heap.size, 0, none⟩)] 68)
      obtain ⟨w2, hw2⟩ : ∃ W, W = (w1.alloc (.cells #[.int .i64 0] 2)).alloc (.cells #[.pointer (some ⟨xb, 2, none⟩), .pointer (some ⟨w1.heap.size, 0, none⟩)] 68) := ⟨_, rfl⟩
      rw [← hw2] at hP0 hG0 hX0 hA0 hR0 hK0 ⊢
      have hwz : w.heap.size ≤ xb ∧ xb < w1.heap.size := ⟨hxw, by rw [HXL.out]; omega⟩
      have hown : ∀ q, v1.ownBlock = some q → 0 < (b.drop (pos + (kn + vn))).length → q < w.heap.size := fun q hq hp => HLO.out q (by rw [ho1] at hq; exact hq) (by rw [HDL3.out] at hp; omega)
      have hrow : ∀ q, (Value.slice la acc.length lcap).ownBlock = some q → w.heap.size ≤ q ∧ q < w2.heap.size := fun q hq => hA0.lt q hq
      have hrowt : ∀ q, (Value.slice la acc.length lcap).ownBlock = some q → q ≠ w1.heap.size ∧ q < w1.heap.size := fun q hq => ⟨by have := (hA1.lt q hq).2; omega, (hA1.lt q hq).2⟩
      clear hw2 hg0 hx0 hA1 hr1 hrv2 hv2 hv1 K1 h
      generalize w1.heap.size = gb at *
      refine (All_any v1 _ (b.drop (pos + (kn + vn))) [some ⟨xb, 2, none⟩, some ⟨gb, 0, none⟩] hR0 (rv_blk hP0 rfl) HBD3.out (by rw [HDL3.out]; omega) (by simp) ?_ ?_ ?_ (ms, mn, me) HM.out).mono ?_
      · intro a ha
        simp only [List.mem_cons, Option.some.injEq, List.not_mem_nil, or_false] at ha
        rcases ha with rfl | rfl
        · exact ⟨⟨_, hX0.cell 2⟩, hX0.free 2⟩
        · exact ⟨⟨_, hG0.cell 0⟩, hG0.free 0⟩
      · intro q hq hp hm
        have h1 := hown q hq hp
        simp only [blocks, List.filterMap_cons, List.filterMap_nil, Option.map_some, List.mem_cons, List.not_mem_nil, or_false] at hm
        omega
      · intro q hq hm
        have h1 : gb + 1 = q := Option.some.inj hq
        simp only [blocks, List.filterMap_cons, List.filterMap_nil, Option.map_some, List.mem_cons, List.not_mem_nil, or_false] at hm
        omega
      rintro e w3 ⟨rfl, hw3⟩
      simp only at hw3 ⊢
      have hk3 : Keep [xb, gb] w2 w3 := by
        rw [hw3]
        exact setAll_keep _ _ _ _ _ (Keep.refl _ _) (by intro q hq; simp only [blocks, List.filterMap_cons, List.filterMap_nil, Option.map_some] at hq; exact hq)
      have hKw : Keep [] w w3 := hK0.then hk3 (by intro q hq hlt2; simp at hq; omega)
      by_cases hme : me = 0
      case neg =>
        have hd2 : dec1 (b.drop pos) = none := by rw [HD1.out, if_pos hme]
        have hnone : itDec b = none := by
          unfold itDec
          rw [HD.out, HBAD.out hd2]; rfl
        have q1 : ((me : Int) != 0) = true := by simp; omega
        clear hd2 hw3
        go_wp2_with fail
        go_ret2
        exact ⟨hKw, .inr ⟨hnone, rfl⟩⟩
      subst hme
      have hm2 := (HML.out).2 rfl
      obtain ⟨n, gn, rfl⟩ : ∃ n gn, ms = [n, gn] := by
        match ms, hm2 with
        | [a, c], _ => exact ⟨a, c, rfl⟩
      have hd1 := HD1.out
      rw [if_neg (by simp)] at hd1
      simp only [List.getD_cons_zero, List.getD_cons_succ] at hd1
      rw [set2] at hw3
      have hX3 : Blk w3 xb (itC { data := #[] } { data := #[] } n false) 49 := by rw [hw3]; exact (hX0.set 2 (.int .i64 n)).other (by show xb ≠ gb; omega) _
      have hG3 : Blk w3 gb [.int .i64 gn] 2 := by
        rw [hw3]
        exact ((hG0.other (a := ⟨xb, 2, none⟩) (by show gb ≠ xb; omega) _).set 0 (.int .i64 gn))
      have hA3 := hA0.keep hk3 (by intro q hq hm; have h1 := hrowt q hq; have h2 := hA0.ty q hq; simp only [List.mem_cons, List.not_mem_nil, or_false] at hm; have := HRX.out q hq; omega)
      have HD1' := Lib.hid hd1
      clear hw3 hk3 hX0 hG0 hA0 hP0 hR0 hK0 HD1 hd1 hown hrow hm2
      have g0 := hG3.cell 0
      simp only [List.getElem?_cons_zero] at g0
      have f0 := hX3.free 0
      have f1 := hX3.free 1
      have f3 := hX3.free 3
      have x0 := hX3.cell 0
      have x1 := hX3.cell 1
      have x3 := hX3.cell 3
      simp only [itC, List.getElem?_cons_zero, List.getElem?_cons_succ] at x0 x1 x3
      go_upto_region 16 with fail
      have hX4 : Blk (((w3.setCell ⟨xb, 0, none⟩ (.string (toStr kt))).setCell ⟨xb, 1, none⟩ (.string (toStr vt))).setCell ⟨xb, 3, none⟩ (.bool (gn == 1))) xb (itC (toStr kt) (toStr vt) n (gn == 1)) 49 := ((hX3.set 0 (.string (toStr kt))).set 1 (.string (toStr vt))).set 3 (.bool (gn == 1))
      have hk4 : Keep [xb] w3 (((w3.setCell ⟨xb, 0, none⟩ (.string (toStr kt))).setCell ⟨xb, 1, none⟩ (.string (toStr vt))).setCell ⟨xb, 3, none⟩ (.bool (gn == 1))) := (((Keep.refl _ _).setCell (.inl (by simp)) _).setCell (.inl (by simp)) _).setCell (.inl (by simp)) _
      have hA4 := hA3.keep hk4 (by intro q hq hm; simp only [List.mem_cons, List.not_mem_nil, or_false] at hm; have := HRX.out q hq; omega)
      have hK4 : Keep [] w (((w3.setCell ⟨xb, 0, none⟩ (.string (toStr kt))).setCell ⟨xb, 1, none⟩ (.string (toStr vt))).setCell ⟨xb, 3, none⟩ (.bool (gn == 1))) := hKw.then hk4 (by intro q hq hlt2; simp only [List.mem_cons, List.not_mem_nil, or_false] at hq; omega)
      clear hX3 hA3 hKw hk4 hG3 g0 f0 f1 f3 x0 x1 x3
      generalize hgv : (gn == 1) = gv at *
      have HGV := Lib.hid hgv
      clear hgv
      generalize hW4 : (((w3.setCell ⟨xb, 0, none⟩ (.string (toStr kt))).setCell ⟨xb, 1, none⟩ (.string (toStr vt))).setCell ⟨xb, 3, none⟩ (.bool gv)) = w4 at *
      clear hW4
      have c0 := hX4.cell 0
      have c1 := hX4.cell 1
      have c2 := hX4.cell 2
      have c3 := hX4.cell 3
      simp only [itC, List.getElem?_cons_zero, List.getElem?_cons_succ] at c0 c1 c2 c3
      have HTS := Lib.hid (show (toStr kt).size ≤ 100000 ∧ (toStr vt).size ≤ 100000 by have := HKN.out; rw [toStr_size, toStr_size]; omega)
      have hsz4 := hK4.size
      have hBn := Blk.new w4 (itC (toStr kt) (toStr vt) n gv) 49
      have hsrc := src_it (P := Try.prog) Try.underlying53 _ _ _ _ _ _ hBn
      have hHP := Lib.hid (show pos + (kn + vn + mn) ≤ b.length ∧ 1 ≤ kn by have h1 := HVN.out; have h2 := HMP.out; have h3 := HKN1.out; omega)
      have hmb : mn ≤ 100000 := by have := hHP.out; omega
      go_wp2_with (at_builtin; refine wpList_append_src _ rfl _ _ 53 53 rfl w.heap.size 49 it0 _ 4 48 Try.underlying53 hit htz0 htz1 htz2 rfl (by decide) _ _ _ rfl (hA4.alloc _) _ 1 _ rfl hsrc (by unfold maxLen; omega) (by omega) (by simp; omega) ?_; intro v5 w5 h1 h2 _ h3)
      have hA5 := IRow.snoc h1
      have hK5 := (hK4.alloc (.cells (itC (toStr kt) (toStr vt) n gv).toArray 49)).then (Keep.grown h2) (by intro q hq hlt2; have e := Option.mem_toList.1 hq; have := (hA4.lt q e).1; omega)
      clear h1 h2 h3 hA4 hK4 c0 c1 c2 c3 hX4 hBn hsrc
      go_roundw
      case rel =>
        have hq := hHP.out
        refine ⟨pos + (kn + vn + mn), f', acc ++ [(toStr kt, toStr vt, n, gv)], hq.1, by go_num, by omega, ?_, hA5, by simp; omega, ?_, hK5⟩
        · have e1 := HST.out _ _ HNE.out HD1'.out
          rw [HD.out, e1, List.drop_drop, Option.map_map]
          congr 1
          funext z
          simp [Function.comp_def]
        · intro y hy
          rcases List.mem_append.1 hy with hy | hy
          · exact HSZ.out y hy
          · simp only [List.mem_singleton] at hy
            subst hy
            exact HTS.out
      case measure => have hq := hHP.out; simp [intOf]; omega
    · obtain rfl : pos = b.length := by omega
      have hdn : b.drop b.length = [] := List.drop_of_length_le (Nat.le_refl _)
      have hde : decF b.length b = some acc := by
        rw [HD.out, hdn, decF_nil]
        simp
      have hac : acc.length ≤ 1000000 := by omega
      have hsz2 : ∀ y ∈ acc, y.1.size ≤ 9223372036854775807 ∧ y.2.1.size ≤ 9223372036854775807 := fun y hy => by have := HSZ.out y hy; omega
      have HDE := Lib.hid hde
      have HSZ2 := Lib.hid hsz2
      have hencb : ∀ c ∈ encIts acc, c < 256 := encIts_byte acc
      have hencl : (encIts acc).length ≤ 300 * acc.length := encIts_len acc
      have HEB := Lib.hid hencb
      clear hdn hde hsz2 hencb
      go_wp2_with fail
      refine (itEncode_any _ acc hA.rd hac HSZ2.out).mono ?_
      rintro e w2 ⟨cv, rfl, ⟨hcb, hcn⟩, k2⟩
      have hA2 := hA.keep k2 (by simp)
      have hK2 := hK.trans k2
      have hr2 := h.keep hK2 (by simp)
      by_cases hce : encIts acc = []
      · obtain rfl := hcn hce
        have hnone : itDec b = none := by
          unfold itDec
          rw [HDE.out]
          simp only
          rw [if_neg]
          intro hc
          exact hc.2 (by rw [← hc.1]; exact hce)
        clear hcn
        go_wp2_with fail
        go_ret2
        exact ⟨hK2, .inr ⟨hnone, rfl⟩⟩
      · have hpos2 : 0 < (encIts acc).length := List.length_pos_iff.2 hce
        obtain ⟨cg, ccap, rfl, _⟩ := hcb.at' hpos2
        have HCE := Lib.hid hce
        clear hcn hce
        by_cases hq : encIts acc = b
        · have hsome : itDec b = some acc := by
            unfold itDec
            rw [HDE.out]
            simp only
            rw [if_pos ⟨hq, fun e => HCE.out (by rw [hq]; exact e)⟩]
          have HS := Lib.hid hsome
          have HQ := Lib.hid hq
          clear hsome hq
          go_wp2_with fail
          refine (Equal_any _ _ (encIts acc) b true hcb.rd hr2 HEB.out HB.out (decide_eq_true HQ.out).symm).mono ?_
          rintro e w' ⟨rfl, rfl⟩
          go_wp2_with fail
          go_ret2
          exact ⟨hK2, .inl ⟨acc, _, HS.out, rfl, hA2⟩⟩
        · have hnone : itDec b = none := by
            unfold itDec
            rw [HDE.out]
            simp only
            rw [if_neg (fun hc => hq hc.1)]
          have HS := Lib.hid hnone
          have HQ := Lib.hid hq
          clear hnone hq
          go_wp2_with fail
          refine (Equal_any _ _ (encIts acc) b false hcb.rd hr2 HEB.out HB.out (decide_eq_false HQ.out).symm).mono ?_
          rintro e w' ⟨rfl, rfl⟩
          go_wp2_with fail
          go_ret2
          exact ⟨hK2, .inr ⟨HS.out, rfl⟩⟩
end Go.Proofs.Ytpibpgfadkfgbaa
