/- The law MsgTurned: its walk. -/
import Derived.Test.YtonghelcfbjknaaMsgEqW
namespace Go.Proofs.Ytonghelcfbjknaa
open Go.ChangeShapes Go.WideShapes Go.ChangeAt Go.RowKit
set_option linter.unusedVariables false
set_option linter.unusedSimpArgs false

theorem MsRd.like {w : World} {m m' : Ms} {vi vk vm vo : Value} (h : MsRd w m vi vk vm vo) (h1 : m'.its = m.its := by rfl) (h2 : m'.mks = m.mks := by rfl) (h3 : m'.mem = m.mem := by rfl) (h4 : m'.old = m.old := by rfl) : MsRd w m' vi vk vm vo :=
  ⟨by rw [h1]; exact h.its, by rw [h2]; exact h.mks, by rw [h3]; exact h.mem, by rw [h4]; exact h.old⟩
theorem MsSz.like {m m' : Ms} (h : MsSz m) (h0 : m'.key.size ≤ 9223372036854775807) (hi : m'.it = m.it := by rfl) (h1 : m'.its = m.its := by rfl) (h2 : m'.mks = m.mks := by rfl) (h3 : m'.mem = m.mem := by rfl) (h4 : m'.old = m.old := by rfl) : MsSz m' :=
  ⟨h0, by rw [hi]; exact h.it, by rw [h1]; exact h.its, by rw [h2]; exact h.mks, by rw [h1]; exact h.itsn, by rw [h2]; exact h.mksn, by rw [h3]; exact h.memn, by rw [h4]; exact h.oldn⟩
def xOne : ByteArray := { data := #[111, 110, 101, 32, 109, 111, 114, 101] }
def xOnlyK : ByteArray := { data := #[107] }

def mturnJ (w0 : World) (p q : Nat) (m1 m2 : Ms) (A1 A2 A3 A4 B1 B2 B3 B4 : Value) (EA EB : List Nat) (l : Nat → Bool) (x : Nat → Value) (w' : World) : Prop :=
  (Blk w' p (msC m1 A1 A2 A3 A4) 29) ∧
  (Blk w' q (msC m2 B1 B2 B3 B4) 29) ∧
  (MsRd w' m1 A1 A2 A3 A4) ∧
  (MsRd w' m2 B1 B2 B3 B4) ∧
  (Keep [] w0 w') ∧
  (l 0 = true → x 0 = .agg (msC m1 A1 A2 A3 A4).toArray) ∧
  (l 1 = true → Buf w' 0 5 (x 1) EA) ∧
  (l 2 = true → x 2 = .agg (msC m2 B1 B2 B3 B4).toArray) ∧
  (l 3 = true → Buf w' 0 5 (x 3) EB) ∧
  (l 4 = true → x 4 = x 1 ∧ l 1 = true) ∧
  (l 5 = true → x 5 = x 3 ∧ l 3 = true)

set_option maxRecDepth 100000 in
set_option maxHeartbeats 32000000 in
theorem msgTurned_walk (v0 : Value) (which : Int) (w : World) (w0 : IsMsg w v0) (_w1 : (Lit.int .i64 which).wf = true) :
    Calls Try.prog 7 #[v0, .int .i64 which] w fun e w' => e = .returned (.bool true) ∧ Below w.heap.size w w' := by
  obtain ⟨ji, hji, hzj0, hzj1, hzj2⟩ := info_parts Try.infoItem
  obtain ⟨ki, hki, hzk0, hzk1, hzk2⟩ := info_parts Try.infoMark
  obtain ⟨m, vi, vk, vm, vo, rfl, hr0, hraw, _⟩ := w0
  have hM0 := Blk.new w (msC m vi vk vm vo) 29
  have hr1 := hr0.alloc (.cells (msC m vi vk vm vo).toArray 29)
  have K1 := (Keep.refl [] w).alloc (.cells (msC m vi vk vm vo).toArray 29)
  have HK50 : Hid ((msCut m).key.size ≤ 50 ∧ (msCut m).its.length ≤ 6 ∧ (msCut m).mks.length ≤ 6) := Lib.hid ⟨cutStr_size _ _, by show ((m.its.take 6).map itCut).length ≤ 6; simp; omega, by show ((m.mks.take 6).map mkCut).length ≤ 6; simp; omega⟩
  have hwb : -11 ≤ which.tmod 12 ∧ which.tmod 12 ≤ 11 := ⟨by have := Int.lt_tmod_of_pos which (b := 12) (by omega); omega, by have := Int.tmod_lt_of_pos which (b := 12) (by omega); omega⟩
  clear _w1
  go_enter Try.func7, Try.ntmps7
  go_wp2_with fail
  refine (begun19 _).mono ?_
  rintro e w1 ⟨rfl, k1⟩
  replace hM0 := hM0.keep k1 (by simp)
  replace hr1 := hr1.keep k1
  replace K1 := K1.trans k1
  have hbl := hM0.lt
  clear k1
  obtain ⟨b, hb⟩ : ∃ b, b = w.heap.size := ⟨_, rfl⟩
  rw [← hb] at hM0 hbl ⊢
  have HBL := Lib.hid (show w.heap.size ≤ b ∧ b < w1.heap.size by omega)
  clear hb hbl
  go_wp2_with (refine wpList_load_rowg 29 _ rfl b rfl 29 (msC m vi vk vm vo).toArray (0, 0) _ hM0 Try.underlying29 rfl Try.sizeMsg (by rfl) ?_)
  refine (msCut_any m vi vk vm vo hr1 hraw).mono ?_
  rintro e w2 ⟨ui, uk, um, uo, rfl, hr2, hsep, k2⟩
  have hM2 := hM0.keep k2 (by simp)
  have K2 := K1.trans k2
  obtain ⟨_, ia, ca, rfl, _, _⟩ := id hr2.its
  obtain ⟨_, ka, ck, rfl, _, _⟩ := id hr2.mks
  obtain ⟨_, ma, cm, rfl, _, _⟩ := id hr2.mem
  obtain ⟨_, oa, co, rfl, _, _⟩ := id hr2.old
  have hz := msCut_sz m hraw
  have HCUT := Lib.hid (fun w3 (k3 : Keep [b] w2 w3) => MsRd.cutKeep hr0 hr2 hsep HBL.out.1 HBL.out.2 k3)
  clear hsep hM0 hr1 K1 k2
  generalize msCut m = m1 at *
  have HONE := Lib.hid (msC_one m1 ia ka ma oa m1.its.length ca m1.mks.length ck m1.mem.length cm m1.old.length co)
  go_upto_region 5 with (refine wpList_store_blk rfl 29 _ _ rfl b (msC m vi vk vm vo) (msC m1 (.slice ia m1.its.length ca) (.slice ka m1.mks.length ck) (.slice ma m1.mem.length cm) (.slice oa m1.old.length co)) 29 rfl rfl hM2 rfl Try.sizeMsg HONE.out ?_; intro w3 hM3 k3)
  have hr3 := HCUT.out w3 k3
  have K3 : Keep [] w w3 := K2.then k3 (by intro q hq hlt; have := HBL.out; simp at hq; omega)
  clear hM2 K2 k3 HCUT hr2 hr0
  have hZ4 := Blk.new w3 (msC ms0 (.slice none 0 0) (.slice none 0 0) (.slice none 0 0) (.slice none 0 0)) 29
  have hM4 := hM3.alloc (.cells (msC ms0 (.slice none 0 0) (.slice none 0 0) (.slice none 0 0) (.slice none 0 0)).toArray 29)
  have K4 := K3.alloc (.cells (msC ms0 (.slice none 0 0) (.slice none 0 0) (.slice none 0 0) (.slice none 0 0)).toArray 29)
  have HLO := Lib.hid (show w.heap.size ≤ w3.heap.size ∧ b < w3.heap.size from ⟨K3.size, hM3.lt⟩)
  go_upto_region 6 with (first | (refine wpList_load_rowg 29 _ rfl b rfl 29 (msC m1 (.slice ia m1.its.length ca) (.slice ka m1.mks.length ck) (.slice ma m1.mem.length cm) (.slice oa m1.old.length co)).toArray (0, 0) _ hM3 Try.underlying29 rfl Try.sizeMsg (by rfl) ?_) | (refine wpList_store_blk rfl 29 _ _ rfl w3.heap.size (msC ms0 (.slice none 0 0) (.slice none 0 0) (.slice none 0 0) (.slice none 0 0)) (msC m1 (.slice ia m1.its.length ca) (.slice ka m1.mks.length ck) (.slice ma m1.mem.length cm) (.slice oa m1.old.length co)) 29 rfl rfl hZ4 rfl Try.sizeMsg HONE.out ?_; intro w5 hX k5))
  have k35 := ((Keep.refl [w3.heap.size] w3).alloc (.cells (msC ms0 (.slice none 0 0) (.slice none 0 0) (.slice none 0 0) (.slice none 0 0)).toArray 29)).trans k5
  have hM := hM4.keep k5 (by have := HLO.out; simp; omega)
  have K : Keep [] w w5 := K4.then k5 (by intro q hq hlt; have := HLO.out; simp at hq; omega)
  have hr5 := hr3.past k35 (by intro q hq; simp at hq; omega)
  obtain ⟨xb, hxb⟩ : ∃ q, q = w3.heap.size := ⟨_, rfl⟩
  rw [← hxb] at hX k35 ⊢
  have HRX : Hid (∀ w', Keep [xb] w5 w' → MsRd w' m1 (.slice ia m1.its.length ca) (.slice ka m1.mks.length ck) (.slice ma m1.mem.length cm) (.slice oa m1.old.length co)) := Lib.hid (fun w' k => hr3.past (k35.trans k) (by intro q hq; simp at hq; omega))
  have HXB := Lib.hid (show b < xb ∧ w.heap.size ≤ xb by have := HLO.out; omega)
  clear hxb hM4 K4 k5 k35 hZ4 hM3 hr3 K3 HLO
  go_upto_block 0 with fail
  obtain ⟨s, hs⟩ : ∃ s, s = (which.tmod 12 + 12) % 12 := ⟨_, rfl⟩
  have hsb : 0 ≤ s ∧ s ≤ 11 := by omega
  rw [← hs]
  clear hs hwb
  go_cut [] (fun wc => ∃ (m2 : Ms) (B1 B2 B3 B4 : Value), Blk wc xb (msC m2 B1 B2 B3 B4) 29 ∧ MsRd wc m2 B1 B2 B3 B4 ∧ MsSz m2 ∧ Blk wc b (msC m1 (.slice ia m1.its.length ca) (.slice ka m1.mks.length ck) (.slice ma m1.mem.length cm) (.slice oa m1.old.length co)) 29 ∧ MsRd wc m1 (.slice ia m1.its.length ca) (.slice ka m1.mks.length ck) (.slice ma m1.mem.length cm) (.slice oa m1.old.length co) ∧ Keep [] w wc)
  case first =>
    have hks := HK50.out.1
    have KK : ∀ (k : Nat) (v : Value), Keep [xb] w5 (w5.setCell ⟨xb, k, none⟩ v) := fun k v => (Keep.refl _ _).setCell (.inl (by simp)) _
    have KM : ∀ w', Keep [xb] w5 w' → Blk w' b (msC m1 (.slice ia m1.its.length ca) (.slice ka m1.mks.length ck) (.slice ma m1.mem.length cm) (.slice oa m1.old.length co)) 29 := fun w' k => hM.keep k (by have := HXB.out; simp; omega)
    have KW : ∀ w', Keep [xb] w5 w' → Keep [] w w' := fun w' k => K.then k (fun z hz hlt => by have := HXB.out; simp at hz; omega)
    have HKK := Lib.hid KK
    have HKM := Lib.hid KM
    have HKW := Lib.hid KW
    clear KK KM KW
    have hcase : s = 0 ∨ s = 1 ∨ s = 2 ∨ s = 3 ∨ s = 4 ∨ s = 5 ∨ s = 6 ∨ s = 7 ∨ s = 8 ∨ s = 9 ∨ s = 10 ∨ s = 11 := by omega
    clear hsb
    rcases hcase with rfl | rfl | rfl | rfl | rfl | rfl | rfl | rfl | rfl | rfl | rfl | rfl
    · have c0 := msc_0 hM
      have d0 := msc_0 hX
      have f0 := hX.free 0
      go_wp2_with fail
      go_meet
      exact ⟨{ m1 with kind := wrap64 (1 + m1.kind.tmod 14) }, .slice ia m1.its.length ca, .slice ka m1.mks.length ck, .slice ma m1.mem.length cm, .slice oa m1.old.length co, hX.set 0 _, (HRX.out _ (HKK.out 0 _)).like, hz.like (by show m1.key.size ≤ _; omega), HKM.out _ (HKK.out 0 _), HRX.out _ (HKK.out 0 _), HKW.out _ (HKK.out 0 _)⟩
    · have c3 := msc_3 hX
      have f3 := hX.free 3
      go_wp2_with fail
      go_meet
      exact ⟨{ m1 with epoch := wrap64 (m1.epoch + 1) }, .slice ia m1.its.length ca, .slice ka m1.mks.length ck, .slice ma m1.mem.length cm, .slice oa m1.old.length co, hX.set 3 _, (HRX.out _ (HKK.out 3 _)).like, hz.like (by show m1.key.size ≤ _; omega), HKM.out _ (HKK.out 3 _), HRX.out _ (HKK.out 3 _), HKW.out _ (HKK.out 3 _)⟩
    · have c4 := msc_4 hX
      have f4 := hX.free 4
      go_wp2_with fail
      go_meet
      exact ⟨{ m1 with tick := wrap64 (m1.tick + 1) }, .slice ia m1.its.length ca, .slice ka m1.mks.length ck, .slice ma m1.mem.length cm, .slice oa m1.old.length co, hX.set 4 _, (HRX.out _ (HKK.out 4 _)).like, hz.like (by show m1.key.size ≤ _; omega), HKM.out _ (HKK.out 4 _), HRX.out _ (HKK.out 4 _), HKW.out _ (HKK.out 4 _)⟩
    · have c5 := msc_5 hX
      have f5 := hX.free 5
      go_wp2_with fail
      go_meet
      exact ⟨{ m1 with seq := wrap64 (m1.seq + 1) }, .slice ia m1.its.length ca, .slice ka m1.mks.length ck, .slice ma m1.mem.length cm, .slice oa m1.old.length co, hX.set 5 _, (HRX.out _ (HKK.out 5 _)).like, hz.like (by show m1.key.size ≤ _; omega), HKM.out _ (HKK.out 5 _), HRX.out _ (HKK.out 5 _), HKW.out _ (HKK.out 5 _)⟩
    · have c6 := msc_6 hX
      have f6 := hX.free 6
      go_wp2_with fail
      go_meet
      exact ⟨{ m1 with n := wrap64 (m1.n + 1) }, .slice ia m1.its.length ca, .slice ka m1.mks.length ck, .slice ma m1.mem.length cm, .slice oa m1.old.length co, hX.set 6 _, (HRX.out _ (HKK.out 6 _)).like, hz.like (by show m1.key.size ≤ _; omega), HKM.out _ (HKK.out 6 _), HRX.out _ (HKK.out 6 _), HKW.out _ (HKK.out 6 _)⟩
    · have c7 := msc_7 hX
      have f7 := hX.free 7
      go_wp2_with fail
      go_meet
      exact ⟨{ m1 with id := wrap64 (m1.id + 1) }, .slice ia m1.its.length ca, .slice ka m1.mks.length ck, .slice ma m1.mem.length cm, .slice oa m1.old.length co, hX.set 7 _, (HRX.out _ (HKK.out 7 _)).like, hz.like (by show m1.key.size ≤ _; omega), HKM.out _ (HKK.out 7 _), HRX.out _ (HKK.out 7 _), HKW.out _ (HKK.out 7 _)⟩
    · have c11 := msc_11 hM
      have d11 := msc_11 hX
      have f11 := hX.free 11
      go_wp2_with fail
      go_meet
      exact ⟨{ m1 with last := !m1.last }, .slice ia m1.its.length ca, .slice ka m1.mks.length ck, .slice ma m1.mem.length cm, .slice oa m1.old.length co, hX.set 11 _, (HRX.out _ (HKK.out 11 _)).like, hz.like (by show m1.key.size ≤ _; omega), HKM.out _ (HKK.out 11 _), HRX.out _ (HKK.out 11 _), HKW.out _ (HKK.out 11 _)⟩
    · have c9 := msc_9 hX
      have f9 := hX.free 9
      go_wp2_with fail
      go_meet
      exact ⟨{ m1 with key := m1.key ++ { data := #[120] } }, .slice ia m1.its.length ca, .slice ka m1.mks.length ck, .slice ma m1.mem.length cm, .slice oa m1.old.length co, hX.set 9 _, (HRX.out _ (HKK.out 9 _)).like, hz.like (by show (m1.key ++ { data := #[120] }).size ≤ _; rw [ByteArray.size_append, show ({ data := #[120] } : ByteArray).size = 1 from rfl]; omega), HKM.out _ (HKK.out 9 _), HRX.out _ (HKK.out 9 _), HKW.out _ (HKK.out 9 _)⟩
    · have c19 := msc_19 hX
      have f19 := hX.free 19
      go_wp2_with fail
      go_meet
      exact ⟨{ m1 with base := wrap64 (m1.base + 1) }, .slice ia m1.its.length ca, .slice ka m1.mks.length ck, .slice ma m1.mem.length cm, .slice oa m1.old.length co, hX.set 19 _, (HRX.out _ (HKK.out 19 _)).like, hz.like (by show m1.key.size ≤ _; omega), HKM.out _ (HKK.out 19 _), HRX.out _ (HKK.out 19 _), HKW.out _ (HKK.out 19 _)⟩
    · have c16 := msc_16 hM
      have hlen := HK50.out.2
      have d16 := msc_16 hX
      have f16 := hX.free 16
      have hsrc := Rv.src (P := Try.prog) hr5.its Try.underlying25 (ic_one m1.its)
      have hbld : ∀ W : World, (Instr.build 24 #[(0, .string { data := #[111, 110, 101, 32, 109, 111, 114, 101] })]).run Try.prog W = .ok (.agg #[.string xOne, .string ByteArray.empty, .int .i64 0, .bool false]) W := fun W => run_build W _ _ _ (by kernel_rfl)
      have HXL := Lib.hid hX.lt
      go_wp2_with (first
        | (at_builtin; refine wpList_append_src _ rfl _ _ 25 25 rfl w5.heap.size 24 ji _ 4 48 Try.underlying25 hji hzj0 hzj1 hzj2 rfl (by decide) _ 0 [] rfl (IRow.nil _ _) _ m1.its.length (ic m1.its) rfl hsrc (by unfold maxLen; omega) (by omega) (Nat.le_refl _) ?_; intro v1 w6 h1 h2 _ _; have hO : IRow w6 w5.heap.size v1 m1.its := (by rw [List.nil_append, Nat.zero_add] at h1; exact h1); have k6 : Keep [] w5 w6 := (Keep.grown h2).mono (by intro z hz _; cases hz); obtain ⟨oa1, oc1, rfl⟩ := hO.slice; have hsz6 := k6.size; have hBn := Blk.new w6 (itC xOne ByteArray.empty 0 false) 24; have hsrc2 := src_it (P := Try.prog) Try.underlying25 _ _ xOne ByteArray.empty 0 false hBn; clear h1 h2)
        | (at_builtin; refine wpList_append_src _ rfl _ _ 25 25 rfl w5.heap.size 24 ji _ 4 48 Try.underlying25 hji hzj0 hzj1 hzj2 rfl (by decide) _ m1.its.length _ rfl (IRow.alloc hO _) _ 1 _ rfl hsrc2 (by unfold maxLen; omega) (by omega) (by simp; omega) ?_; intro v2 w7 h1 h2 _ _; have hO2 := IRow.snoc h1; have k7 : Keep [] w5 w7 := (k6.alloc _).then (Keep.grown h2) (fun z hz hlt => by have := (hO.lt z (Option.mem_toList.1 hz)).1; omega); have hX7 := hX.keep k7 (by simp); have d16x := msc_16 hX7; have f16x := hX7.free 16; obtain ⟨oa2, oc2, rfl⟩ := hO2.slice))
      go_meet
      have elen : (m1.its ++ [(xOne, ByteArray.empty, 0, false)]).length = m1.its.length + 1 := by simp
      rw [elen] at hO2
      have k8 : Keep [xb] w5 (w7.setCell ⟨xb, 16, none⟩ (.slice oa2 (m1.its.length + 1) oc2)) := (k7.mono (by simp)).setCell (.inl (by simp)) _
      have hO3 := hO2.keep (S := [xb]) ((Keep.refl [xb] w7).setCell (p := ⟨xb, 16, none⟩) (.inl (by simp)) (.slice oa2 (m1.its.length + 1) oc2)) (fun z hz hm => by have h := (hO2.lt z hz).1; have := HXL.out; simp at hm; omega)
      have hr8 := HRX.out _ k8
      refine ⟨{ m1 with its := m1.its ++ [(xOne, ByteArray.empty, 0, false)] }, .slice oa2 (m1.its.length + 1) oc2, .slice ka m1.mks.length ck, .slice ma m1.mem.length cm, .slice oa m1.old.length co, hX7.set 16 _, ⟨hO3.rd, hr8.mks, hr8.mem, hr8.old⟩, ⟨by show m1.key.size ≤ _; omega, hz.it, fun y hy => by
        rcases List.mem_append.1 hy with hy | hy
        · exact hz.its y hy
        · simp at hy; subst hy; exact ⟨by decide, by decide⟩, hz.mks, by simp; omega, hz.mksn, hz.memn, hz.oldn⟩, HKM.out _ k8, hr8, HKW.out _ k8⟩
    · have c17 := msc_17 hM
      have hlen := HK50.out.2
      have d17 := msc_17 hX
      have f17 := hX.free 17
      have hsrc := Rv.src (P := Try.prog) hr5.mks Try.underlying26 (kc_one m1.mks)
      have hbld : ∀ W : World, (Instr.build 42 #[(0, .int .i64 1099511627776), (1, .string { data := #[107] })]).run Try.prog W = .ok (.agg #[.int .i64 1099511627776, .string xOnlyK]) W := fun W => run_build W _ _ _ (by kernel_rfl)
      have HXL := Lib.hid hX.lt
      go_wp2_with (first
        | (at_builtin; refine wpList_append_src _ rfl _ _ 26 26 rfl w5.heap.size 42 ki _ 2 24 Try.underlying26 hki hzk0 hzk1 hzk2 rfl (by decide) _ 0 [] rfl (KRow.nil _ _) _ m1.mks.length (kc m1.mks) rfl hsrc (by unfold maxLen; omega) (by omega) (Nat.le_refl _) ?_; intro v1 w6 h1 h2 _ _; have hO : KRow w6 w5.heap.size v1 m1.mks := (by rw [List.nil_append, Nat.zero_add] at h1; exact h1); have k6 : Keep [] w5 w6 := (Keep.grown h2).mono (by intro z hz _; cases hz); obtain ⟨oa1, oc1, rfl⟩ := hO.slice; have hsz6 := k6.size; have hBn := Blk.new w6 (mkc (1099511627776, xOnlyK)) 42; have hsrc2 := src_mk (P := Try.prog) Try.underlying26 _ _ _ hBn; clear h1 h2)
        | (at_builtin; refine wpList_append_src _ rfl _ _ 26 26 rfl w5.heap.size 42 ki _ 2 24 Try.underlying26 hki hzk0 hzk1 hzk2 rfl (by decide) _ m1.mks.length _ rfl (KRow.alloc hO _) _ 1 _ rfl hsrc2 (by unfold maxLen; omega) (by omega) (by simp; omega) ?_; intro v2 w7 h1 h2 _ _; have hO2 := KRow.snoc h1; have k7 : Keep [] w5 w7 := (k6.alloc _).then (Keep.grown h2) (fun z hz hlt => by have := (hO.lt z (Option.mem_toList.1 hz)).1; omega); have hX7 := hX.keep k7 (by simp); have d17x := msc_17 hX7; have f17x := hX7.free 17; obtain ⟨oa2, oc2, rfl⟩ := hO2.slice))
      go_meet
      have elen : (m1.mks ++ [(1099511627776, xOnlyK)]).length = m1.mks.length + 1 := by simp
      rw [elen] at hO2
      have k8 : Keep [xb] w5 (w7.setCell ⟨xb, 17, none⟩ (.slice oa2 (m1.mks.length + 1) oc2)) := (k7.mono (by simp)).setCell (.inl (by simp)) _
      have hO3 := hO2.keep (S := [xb]) ((Keep.refl [xb] w7).setCell (p := ⟨xb, 17, none⟩) (.inl (by simp)) (.slice oa2 (m1.mks.length + 1) oc2)) (fun z hz hm => by have h := (hO2.lt z hz).1; have := HXL.out; simp at hm; omega)
      have hr8 := HRX.out _ k8
      refine ⟨{ m1 with mks := m1.mks ++ [(1099511627776, xOnlyK)] }, .slice ia m1.its.length ca, .slice oa2 (m1.mks.length + 1) oc2, .slice ma m1.mem.length cm, .slice oa m1.old.length co, hX7.set 17 _, ⟨hr8.its, hO3.rd, hr8.mem, hr8.old⟩, ⟨by show m1.key.size ≤ _; omega, hz.it, hz.its, fun y hy => by
        rcases List.mem_append.1 hy with hy | hy
        · exact hz.mks y hy
        · simp at hy; subst hy; exact by decide, hz.itsn, by simp; omega, hz.memn, hz.oldn⟩, HKM.out _ k8, hr8, HKW.out _ k8⟩
    · have c10 := msc_10 hM
      have d10 := msc_10 hX
      have f10 := hX.free 10
      go_wp2_with fail
      go_meet
      exact ⟨{ m1 with err := (wrap64 (m1.err + 1)).tmod 11 }, .slice ia m1.its.length ca, .slice ka m1.mks.length ck, .slice ma m1.mem.length cm, .slice oa m1.old.length co, hX.set 10 _, (HRX.out _ (HKK.out 10 _)).like, hz.like (by show m1.key.size ≤ _; omega), HKM.out _ (HKK.out 10 _), HRX.out _ (HKK.out 10 _), HKW.out _ (HKK.out 10 _)⟩
  case rest =>
  clear hM hX K hr5 HRX HK50 hsb
  obtain ⟨m2, B1, B2, B3, B4, hB, hrb, hzb, hA, hra, K⟩ := hcut
  obtain ⟨A1, e1⟩ : ∃ v, v = Value.slice ia m1.its.length ca := ⟨_, rfl⟩
  obtain ⟨A2, e2⟩ : ∃ v, v = Value.slice ka m1.mks.length ck := ⟨_, rfl⟩
  obtain ⟨A3, e3⟩ : ∃ v, v = Value.slice ma m1.mem.length cm := ⟨_, rfl⟩
  obtain ⟨A4, e4⟩ : ∃ v, v = Value.slice oa m1.old.length co := ⟨_, rfl⟩
  rw [← e1, ← e2, ← e3, ← e4] at hA hra
  clear HONE
  obtain ⟨r, hrr⟩ : ∃ r, r = eqM m1 m2 := ⟨_, rfl⟩
  have HR := Lib.hid hrr
  clear hrr e1 e2 e3 e4
  generalize wc = w6 at *
  obtain ⟨p, hp⟩ : ∃ p, p = b := ⟨_, rfl⟩
  rw [← hp] at hA ⊢
  obtain ⟨q, hq⟩ : ∃ q, q = xb := ⟨_, rfl⟩
  rw [← hq] at hB ⊢
  clear hp hq HXB HBL
  go_wp2_with (first | (refine wpList_load_rowg 29 _ rfl p rfl 29 (msC m1 A1 A2 A3 A4).toArray (0, 0) _ hA Try.underlying29 rfl Try.sizeMsg (by rfl) ?_) | (refine wpList_load_rowg 29 _ rfl q rfl 29 (msC m2 B1 B2 B3 B4).toArray (0, 0) _ hB Try.underlying29 rfl Try.sizeMsg (by rfl) ?_))
  refine (EqMsg_any m1 m2 _ _ _ _ _ _ _ _ hra hrb hz hzb r HR.out).mono ?_
  rintro e w7 ⟨rfl, k7⟩
  replace hA := hA.keep k7 (by simp)
  replace hB := hB.keep k7 (by simp)
  replace hra := hra.keep k7
  replace hrb := hrb.keep k7
  replace K := K.trans k7
  clear k7
  cases r with
  | true =>
    go_wp2_with fail
    go_ret
    exact ⟨rfl, K.below⟩
  | false =>
  go_wp2_with (first | (refine wpList_load_rowg 29 _ rfl p rfl 29 (msC m1 A1 A2 A3 A4).toArray (0, 0) _ hA Try.underlying29 rfl Try.sizeMsg (by rfl) ?_) | (refine wpList_load_rowg 29 _ rfl q rfl 29 (msC m2 B1 B2 B3 B4).toArray (0, 0) _ hB Try.underlying29 rfl Try.sizeMsg (by rfl) ?_))
  refine (msEq_any m1 m2 _ _ _ _ _ _ _ _ hra hrb hz hzb false HR.out).mono ?_
  rintro e w8 ⟨rfl, k8⟩
  have hA0 := hA.keep k8 (by simp)
  have hB0 := hB.keep k8 (by simp)
  have hra0 := hra.keep k8
  have hrb0 := hrb.keep k8
  have K0 := K.trans k8
  clear k8 hA hB hra hrb K
  have HNE : Hid (encM m1 ≠ [] → encM m1 ≠ encM m2) := Lib.hid (fun h e => by
    have := (eqM_iff m1 m2).2 (encM_inj (encM_may h) e)
    rw [← HR.out] at this
    cases this)
  have HEA := Lib.hid (encM_byte m1)
  have HEB := Lib.hid (encM_byte m2)
  have HCA := fun W (h : MsRd W m1 A1 A2 A3 A4) => encode_any (w := W) m1 _ _ _ _ h hz
  have HCB := fun W (h : MsRd W m2 B1 B2 B3 B4) => encode_any (w := W) m2 _ _ _ _ h hzb
  unfold GotEnc at HCA HCB
  generalize encM m1 = EA at *
  generalize encM m2 = EB at *
  have HCA' := Lib.hid HCA
  have HCB' := Lib.hid HCB
  clear HCA HCB
  go_upto_region 34 with fail
  refine wp_region_inv (mturnJ w p q m1 m2 A1 A2 A3 A4 B1 B2 B3 B4 EA EB) (by kernel_rfl) (by kernel_rfl) (by kernel_rfl) ?_ (Steps.cons 0 ?_ (Steps.cons 1 ?_ (Steps.cons 2 ?_ (Steps.cons 3 ?_ (Steps.cons 4 ?_ (Steps.cons 5 ?_ (Steps.nil 6))))))) 6 rfl ?_
  · intro x
    exact ⟨hA0.drew, hB0.drew, hra0.keep (Keep.refl [] _).drew, hrb0.keep (Keep.refl [] _).drew, K0.drew, fun h => absurd h (by decide), fun h => absurd h (by decide), fun h => absurd h (by decide), fun h => absurd h (by decide), fun h => absurd h (by decide), fun h => absurd h (by decide)⟩
  · intro l x w' hJ hi hd
    obtain ⟨hA, hB, hra, hrb, hK, h0, h1, h2, h3, h4, h5⟩ := hJ
    refine Runs.of (b := ?bT0) ?eT0 ?_
    case eT0 => simp only [putV, Act.put, List.setIfInBounds_toArray, List.set_cons_zero, List.set_cons_succ]; rfl
    intro K' hK'
    refine step_load_rowg 29 _ rfl p rfl 29 (msC m1 A1 A2 A3 A4).toArray (0, 0) _ hA Try.underlying29 rfl Try.sizeMsg (by rfl) ?_
    exact hK'.go _ rfl ⟨hA, hB, hra, hrb, hK, fun _ => rfl, h1, h2, h3, h4, h5⟩
  · intro l x w' hJ hi hd
    obtain ⟨hA, hB, hra, hrb, hK, h0, h1, h2, h3, h4, h5⟩ := hJ
    have e0 := h0 (show l 0 = true by first | exact hd.1 rfl | exact hd.2.1 rfl | exact hd.2.2.1 rfl | exact hd.2.2.2.1 rfl | exact hd.2.2.2.2.1 rfl | exact hd.2.2.2.2.2.1 rfl)
    refine Runs.of (b := ?bT1) ?eT1 ?_
    case eT1 => simp only [putV, Act.put, List.setIfInBounds_toArray, List.set_cons_zero, List.set_cons_succ, e0]; rfl
    intro K' hK'
    go_simp
    refine (HCA'.out _ hra).mono ?_
    rintro e w2 ⟨v2, rfl, hb2, _, k2⟩
    go_simp
    exact hK'.go v2 rfl ⟨hA.keep k2 (by simp), hB.keep k2 (by simp), hra.keep k2, hrb.keep k2, hK.trans k2, h0, fun _ => hb2.mono (by omega), h2, fun h => (h3 h).keep k2 (by simp), fun h => absurd ((h4 h).2.symm.trans hi) (by decide), h5⟩
  · intro l x w' hJ hi hd
    obtain ⟨hA, hB, hra, hrb, hK, h0, h1, h2, h3, h4, h5⟩ := hJ
    refine Runs.of (b := ?bT2) ?eT2 ?_
    case eT2 => simp only [putV, Act.put, List.setIfInBounds_toArray, List.set_cons_zero, List.set_cons_succ]; rfl
    intro K' hK'
    refine step_load_rowg 29 _ rfl q rfl 29 (msC m2 B1 B2 B3 B4).toArray (0, 0) _ hB Try.underlying29 rfl Try.sizeMsg (by rfl) ?_
    exact hK'.go _ rfl ⟨hA, hB, hra, hrb, hK, h0, h1, fun _ => rfl, h3, h4, h5⟩
  · intro l x w' hJ hi hd
    obtain ⟨hA, hB, hra, hrb, hK, h0, h1, h2, h3, h4, h5⟩ := hJ
    have e2 := h2 (show l 2 = true by first | exact hd.1 rfl | exact hd.2.1 rfl | exact hd.2.2.1 rfl | exact hd.2.2.2.1 rfl | exact hd.2.2.2.2.1 rfl | exact hd.2.2.2.2.2.1 rfl)
    refine Runs.of (b := ?bT3) ?eT3 ?_
    case eT3 => simp only [putV, Act.put, List.setIfInBounds_toArray, List.set_cons_zero, List.set_cons_succ, e2]; rfl
    intro K' hK'
    go_simp
    refine (HCB'.out _ hrb).mono ?_
    rintro e w2 ⟨v2, rfl, hb2, _, k2⟩
    go_simp
    exact hK'.go v2 rfl ⟨hA.keep k2 (by simp), hB.keep k2 (by simp), hra.keep k2, hrb.keep k2, hK.trans k2, h0, fun h => (h1 h).keep k2 (by simp), h2, fun _ => hb2.mono (by omega), h4, fun h => absurd ((h5 h).2.symm.trans hi) (by decide)⟩
  · intro l x w' hJ hi hd
    obtain ⟨hA, hB, hra, hrb, hK, h0, h1, h2, h3, h4, h5⟩ := hJ
    have L1 := Lib.hid (show l 1 = true by first | exact hd.1 rfl | exact hd.2.1 rfl | exact hd.2.2.1 rfl | exact hd.2.2.2.1 rfl | exact hd.2.2.2.2.1 rfl | exact hd.2.2.2.2.2.1 rfl)
    refine Runs.of (b := ?bT4) ?eT4 ?_
    case eT4 => simp only [putV, Act.put, List.setIfInBounds_toArray, List.set_cons_zero, List.set_cons_succ]; rfl
    intro K' hK'
    go_simp
    exact hK'.go _ rfl ⟨hA, hB, hra, hrb, hK, h0, h1, h2, h3, fun _ => ⟨rfl, L1.out⟩, h5⟩
  · intro l x w' hJ hi hd
    obtain ⟨hA, hB, hra, hrb, hK, h0, h1, h2, h3, h4, h5⟩ := hJ
    have L3 := Lib.hid (show l 3 = true by first | exact hd.1 rfl | exact hd.2.1 rfl | exact hd.2.2.1 rfl | exact hd.2.2.2.1 rfl | exact hd.2.2.2.2.1 rfl | exact hd.2.2.2.2.2.1 rfl)
    refine Runs.of (b := ?bT5) ?eT5 ?_
    case eT5 => simp only [putV, Act.put, List.setIfInBounds_toArray, List.set_cons_zero, List.set_cons_succ]; rfl
    intro K' hK'
    go_simp
    exact hK'.go _ rfl ⟨hA, hB, hra, hrb, hK, h0, h1, h2, h3, h4, fun _ => ⟨rfl, L3.out⟩⟩
  · intro l x w3 hJ hl
    obtain ⟨hA, hB, hra, hrb, hK, h0, h1, h2, h3, h4, h5⟩ := hJ
    have e1 := h1 (hl 1 (by decide))
    have e3 := h3 (hl 3 (by decide))
    have e4 := (h4 (hl 4 (by decide))).1
    have e5 := (h5 (hl 5 (by decide))).1
    simp only [putV, Act.put, List.setIfInBounds_toArray, List.set_cons_zero, List.set_cons_succ, e4, e5]
    clear h0 h1 h2 h3 h4 h5 hl e4 e5 hA0 hB0 hra0 hrb0 K0
    generalize x 1 = y1 at *
    generalize x 3 = y3 at *
    generalize x 0 = y0
    generalize x 2 = y2
    generalize x 4 = y4
    generalize x 5 = y5
    obtain ⟨fa, fc, rfl⟩ := e1.slice
    obtain ⟨ga, gc, rfl⟩ := e3.slice
    by_cases g1 : EA = []
    · have p1 : ((EA.length : Int) == 0) = true := by rw [g1]; rfl
      have HG := Lib.hid g1
      clear g1
      go_wp2_with fail
      go_ret
      exact ⟨rfl, hK.below⟩
    have n1 := List.length_pos_iff.2 g1
    have p1 : ((EA.length : Int) == 0) = false := by simpa using (by omega : ¬ (EA.length : Int) = 0)
    have p1' : (EA.length == 0) = false := by simpa using (by omega : ¬ EA.length = 0)
    by_cases g2 : EB = []
    · have p2 : ((EB.length : Int) == 0) = true := by rw [g2]; rfl
      have HG := Lib.hid g2
      have HG1 := Lib.hid g1
      clear g1 g2 n1
      go_wp2_with fail
      go_ret
      exact ⟨rfl, hK.below⟩
    have n2 := List.length_pos_iff.2 g2
    have p2 : ((EB.length : Int) == 0) = false := by simpa using (by omega : ¬ (EB.length : Int) = 0)
    have p2' : (EB.length == 0) = false := by simpa using (by omega : ¬ EB.length = 0)
    have hs := str_ne HEA.out HEB.out (fun e => HNE.out g1 e)
    have hs1 : ((toStr EA).toList == (toStr EB).toList) = false := by simpa using hs
    have hs2 : ((toStr EA).toList != (toStr EB).toList) = true := by simpa using hs
    have hc1 := Rd.str (P := Try.prog) (src := 33) (dst := 9) e1.rd HEA.out Try.underlying33 Try.underlying5 Try.underlying9
    have hc2 := Rd.str (P := Try.prog) (src := 33) (dst := 9) e3.rd HEB.out Try.underlying33 Try.underlying5 Try.underlying9
    clear g1 g2 n1 n2 hs
    generalize toStr EA = SA at *
    generalize toStr EB = SB at *
    go_wp2_with fail
    go_ret
    exact ⟨rfl, hK.below⟩
end Go.Proofs.Ytonghelcfbjknaa