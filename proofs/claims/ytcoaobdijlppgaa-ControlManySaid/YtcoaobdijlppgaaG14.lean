/- Ctl13, Ctl14, Ctl15, Ctl16, Ctl17, Ctl18, EqInts -/
import Derived.Test.YtcoaobdijlppgaaG4
import Derived.Test.YtcoaobdijlppgaaG5
import Derived.Test.YtcoaobdijlppgaaG13
import Derived.BigQuiet
/- The authority: Step at the nodes' words. -/
namespace Go.Proofs.Ytcoaobdijlppgaa
open Go.ChangeShapes Go.WideShapes Go.ChangeAt Go.RowKit
set_option linter.unusedVariables false
set_option linter.unusedSimpArgs false
set_option maxRecDepth 100000

section
variable {w : World} {c kb s g base : Nat} {t : Ct} {vm vt vn vd : Value}
theorem note_yes (h : CtB w c kb s g t vm vt vn vd) (hr : CtR w t vm vt vn vd base) (hbs : base ≤ w.heap.size) (hdn : t.done.length ≤ 4) (hph : 0 ≤ t.phase ∧ t.phase ≤ 10) (m : Ms) (vi vk vx vo : Value) (ph : Int) (hy : t.hears m.epoch m.src ph) (r : Bool) (hf : t.full m.src = r) :
    Calls Try.prog 35 #[.pointer (some ⟨c, 0, none⟩), msV m vi vk vx vo, .int .i64 ph] w fun e w' => ∃ vd', e = .returned (.bool r) ∧ CtB w' c kb s g (t.noted m.src) vm vt vn vd' ∧ CtR w' (t.noted m.src) vm vt vn vd' base ∧ Keep (c :: vd.ownBlock.toList) w w' := by
  have e := hy.2.2.1
  subst e
  by_cases hin : m.src ∈ t.done
  · cases r with
    | false => have := note_has_false h hr hbs hdn hph m vi vk vx vo hy hin hf; rw [hf] at this; exact this
    | true => have := note_has_true h hr hbs hdn hph m vi vk vx vo hy hin hf; rw [hf] at this; exact this
  · cases r with
    | false => have := note_add_false h hr hbs hdn hph m vi vk vx vo hy hin hf; rw [hf] at this; exact this
    | true => have := note_add_true h hr hbs hdn hph m vi vk vx vo hy hin hf; rw [hf] at this; exact this
set_option maxHeartbeats 8000000 in
theorem Step_prep_no (h : CtB w c kb s g t vm vt vn vd) (hr : CtR w t vm vt vn vd base) (m : Ms) (vi vk vx vo : Value) (hRd : MsRd w m vi vk vx vo) (hSz : MsSz m) (hmay : mayM m = true) (hdst : m.dst = 0) (hkind : m.kind = 4) (hlast : m.last = true) (hno : ¬ t.hears m.epoch m.src 1) :
    Calls Try.prog 12 #[.pointer (some ⟨c, 0, none⟩), msV m vi vk vx vo] w fun e w' => e = .returned (.slice none 0 0) ∧ Keep [] w w' := by
  have q0 : (m.dst != 0) = false := by simp [hdst]
  have q1 : (m.kind == 1) = false := by simp [hkind]
  have q4 : (m.kind == 4) = true := by simp [hkind]
  have q10 : (m.kind == 10) = false := by simp [hkind]
  have hM := Blk.new w (msC m vi vk vx vo) 39
  have K0 := (Keep.refl [] w).alloc (.cells (msC m vi vk vx vo).toArray 39)
  have hBa := h.keep K0 (by simp)
  have hRa := hr.still K0
  have hrd := hRd.alloc (.cells (msC m vi vk vx vo).toArray 39)
  have HS := Lib.hid hSz
  have HMAY := Lib.hid hmay.symm
  clear hmay hSz hdst hkind
  go_enter Try.func12, Try.ntmps12
  go_upto_region 1 with fail
  clear h hr hRd
  generalize hmb : w.heap.size = mb at *
  generalize w.alloc (.cells (msC m vi vk vx vo).toArray 39) = w0 at *
  have m2 := msc_2 hM
  go_wp2_with (refine wpList_load_rowg 39 _ rfl mb rfl 39 (msC m vi vk vx vo).toArray (0, 0) _ hM Try.underlying39 rfl Try.sizeMsg (by rfl) ?_)
  refine (msMay_any m vi vk vx vo hrd HS.out true HMAY.out).mono ?_
  rintro e w1 ⟨rfl, k1⟩
  have hM1 := hM.keep k1 (by simp)
  have hB1 := hBa.keep k1 (by simp)
  have hR1 := hRa.still k1
  have K1 := K0.trans k1
  clear hM hBa hRa hrd K0 k1 m2
  have m0 := msc_0 hM1
  have m11 := msc_11 hM1
  rw [hlast] at m11
  go_wp2_with (refine wpList_load_rowg 39 _ rfl mb rfl 39 (msC m vi vk vx vo).toArray (0, 0) _ hM1 Try.underlying39 rfl Try.sizeMsg (by rfl) ?_)
  refine (note_no hB1 hR1 m vi vk vx vo 1 hno).mono ?_
  rintro e w2 ⟨rfl, k2⟩
  have hM2 := hM1.keep k2 (by simp)
  have K2 := K1.trans k2
  clear hM1 hB1 hR1 K1 k2 m0 m11
  have m0 := msc_0 hM2
  go_wp2_with (refine wpList_load_rowg 39 _ rfl mb rfl 39 (msC m vi vk vx vo).toArray (0, 0) _ hM2 Try.underlying39 rfl Try.sizeMsg (by rfl) ?_)
  go_ret
  exact ⟨rfl, K2⟩
set_option maxHeartbeats 8000000 in
theorem Step_froz_no (h : CtB w c kb s g t vm vt vn vd) (hr : CtR w t vm vt vn vd base) (m : Ms) (vi vk vx vo : Value) (hRd : MsRd w m vi vk vx vo) (hSz : MsSz m) (hmay : mayM m = true) (hdst : m.dst = 0) (hkind : m.kind = 10) (hno : ¬ t.hears m.epoch m.src 2) :
    Calls Try.prog 12 #[.pointer (some ⟨c, 0, none⟩), msV m vi vk vx vo] w fun e w' => e = .returned (.slice none 0 0) ∧ Keep [] w w' := by
  have q0 : (m.dst != 0) = false := by simp [hdst]
  have q1 : (m.kind == 1) = false := by simp [hkind]
  have q4 : (m.kind == 4) = false := by simp [hkind]
  have q10 : (m.kind == 10) = true := by simp [hkind]
  have hM := Blk.new w (msC m vi vk vx vo) 39
  have K0 := (Keep.refl [] w).alloc (.cells (msC m vi vk vx vo).toArray 39)
  have hBa := h.keep K0 (by simp)
  have hRa := hr.still K0
  have hrd := hRd.alloc (.cells (msC m vi vk vx vo).toArray 39)
  have HS := Lib.hid hSz
  have HMAY := Lib.hid hmay.symm
  clear hmay hSz hdst hkind
  go_enter Try.func12, Try.ntmps12
  go_upto_region 1 with fail
  clear h hr hRd
  generalize hmb : w.heap.size = mb at *
  generalize w.alloc (.cells (msC m vi vk vx vo).toArray 39) = w0 at *
  have m2 := msc_2 hM
  go_wp2_with (refine wpList_load_rowg 39 _ rfl mb rfl 39 (msC m vi vk vx vo).toArray (0, 0) _ hM Try.underlying39 rfl Try.sizeMsg (by rfl) ?_)
  refine (msMay_any m vi vk vx vo hrd HS.out true HMAY.out).mono ?_
  rintro e w1 ⟨rfl, k1⟩
  have hM1 := hM.keep k1 (by simp)
  have hB1 := hBa.keep k1 (by simp)
  have hR1 := hRa.still k1
  have K1 := K0.trans k1
  clear hM hBa hRa hrd K0 k1 m2
  have m0 := msc_0 hM1
  go_wp2_with (refine wpList_load_rowg 39 _ rfl mb rfl 39 (msC m vi vk vx vo).toArray (0, 0) _ hM1 Try.underlying39 rfl Try.sizeMsg (by rfl) ?_)
  refine (note_no hB1 hR1 m vi vk vx vo 2 hno).mono ?_
  rintro e w2 ⟨rfl, k2⟩
  have hM2 := hM1.keep k2 (by simp)
  have K2 := K1.trans k2
  clear hM1 hB1 hR1 K1 k2 m0 
  have m0 := msc_0 hM2
  go_wp2_with (refine wpList_load_rowg 39 _ rfl mb rfl 39 (msC m vi vk vx vo).toArray (0, 0) _ hM2 Try.underlying39 rfl Try.sizeMsg (by rfl) ?_)
  go_ret
  exact ⟨rfl, K2⟩
set_option maxHeartbeats 8000000 in
theorem Step_prep_part (h : CtB w c kb s g t vm vt vn vd) (hr : CtR w t vm vt vn vd base) (m : Ms) (vi vk vx vo : Value) (hRd : MsRd w m vi vk vx vo) (hSz : MsSz m) (hmay : mayM m = true) (hdst : m.dst = 0) (hkind : m.kind = 4) (hlast : m.last = true) (hbs : base ≤ w.heap.size) (hdn : t.done.length ≤ 4) (hph : 0 ≤ t.phase ∧ t.phase ≤ 10) (hy : t.hears m.epoch m.src 1) (hf : t.full m.src = false) :
    Calls Try.prog 12 #[.pointer (some ⟨c, 0, none⟩), msV m vi vk vx vo] w fun e w' => ∃ vd', e = .returned (.slice none 0 0) ∧ CtB w' c kb s g (t.noted m.src) vm vt vn vd' ∧ CtR w' (t.noted m.src) vm vt vn vd' base ∧ Keep (c :: vd.ownBlock.toList) w w' := by
  have q0 : (m.dst != 0) = false := by simp [hdst]
  have q1 : (m.kind == 1) = false := by simp [hkind]
  have q4 : (m.kind == 4) = true := by simp [hkind]
  have q10 : (m.kind == 10) = false := by simp [hkind]
  have hM := Blk.new w (msC m vi vk vx vo) 39
  have K0 := (Keep.refl [] w).alloc (.cells (msC m vi vk vx vo).toArray 39)
  have hBa := h.keep K0 (by simp)
  have hRa := hr.still K0
  have hrd := hRd.alloc (.cells (msC m vi vk vx vo).toArray 39)
  have HS := Lib.hid hSz
  have HMAY := Lib.hid hmay.symm
  clear hmay hSz hdst hkind
  go_enter Try.func12, Try.ntmps12
  go_upto_region 1 with fail
  clear h hr hRd
  generalize hmb : w.heap.size = mb at *
  generalize w.alloc (.cells (msC m vi vk vx vo).toArray 39) = w0 at *
  have m2 := msc_2 hM
  go_wp2_with (refine wpList_load_rowg 39 _ rfl mb rfl 39 (msC m vi vk vx vo).toArray (0, 0) _ hM Try.underlying39 rfl Try.sizeMsg (by rfl) ?_)
  refine (msMay_any m vi vk vx vo hrd HS.out true HMAY.out).mono ?_
  rintro e w1 ⟨rfl, k1⟩
  have hM1 := hM.keep k1 (by simp)
  have hB1 := hBa.keep k1 (by simp)
  have hR1 := hRa.still k1
  have K1 := K0.trans k1
  clear hM hBa hRa hrd K0 k1 m2
  have m0 := msc_0 hM1
  have m11 := msc_11 hM1
  rw [hlast] at m11
  go_wp2_with (refine wpList_load_rowg 39 _ rfl mb rfl 39 (msC m vi vk vx vo).toArray (0, 0) _ hM1 Try.underlying39 rfl Try.sizeMsg (by rfl) ?_)
  have hsz := K1.size
  have hnm : mb ∉ c :: vd.ownBlock.toList := fun hm => by
    rcases List.mem_cons.1 hm with hm | hm
    · subst hm; exact (Blk.ty hB1).ne hM1.ty (by decide) rfl
    · exact (hR1.done.ty mb (Option.mem_toList.1 hm)).ne hM1.ty (by decide) rfl
  have HSN := Lib.hid hnm
  clear hnm
  refine (note_yes hB1 hR1 (by omega) hdn hph m vi vk vx vo 1 hy false hf).mono ?_
  rintro e w2 ⟨vd2, rfl, hB2, hR2, k2⟩
  have hM2 := hM1.keep k2 HSN.out
  have K2 := (K1.mono (by simp)).trans k2
  clear hM1 hB1 hR1 K1 k2 m0 m11
  have m0 := msc_0 hM2
  go_wp2_with (refine wpList_load_rowg 39 _ rfl mb rfl 39 (msC m vi vk vx vo).toArray (0, 0) _ hM2 Try.underlying39 rfl Try.sizeMsg (by rfl) ?_)
  go_ret
  first | exact ⟨rfl, vd2, hB2, hR2, K2⟩ | exact ⟨vd2, rfl, hB2, hR2, K2⟩
set_option maxHeartbeats 8000000 in
theorem Step_froz_part (h : CtB w c kb s g t vm vt vn vd) (hr : CtR w t vm vt vn vd base) (m : Ms) (vi vk vx vo : Value) (hRd : MsRd w m vi vk vx vo) (hSz : MsSz m) (hmay : mayM m = true) (hdst : m.dst = 0) (hkind : m.kind = 10) (hbs : base ≤ w.heap.size) (hdn : t.done.length ≤ 4) (hph : 0 ≤ t.phase ∧ t.phase ≤ 10) (hy : t.hears m.epoch m.src 2) (hf : t.full m.src = false) :
    Calls Try.prog 12 #[.pointer (some ⟨c, 0, none⟩), msV m vi vk vx vo] w fun e w' => ∃ vd', e = .returned (.slice none 0 0) ∧ CtB w' c kb s g (t.noted m.src) vm vt vn vd' ∧ CtR w' (t.noted m.src) vm vt vn vd' base ∧ Keep (c :: vd.ownBlock.toList) w w' := by
  have q0 : (m.dst != 0) = false := by simp [hdst]
  have q1 : (m.kind == 1) = false := by simp [hkind]
  have q4 : (m.kind == 4) = false := by simp [hkind]
  have q10 : (m.kind == 10) = true := by simp [hkind]
  have hM := Blk.new w (msC m vi vk vx vo) 39
  have K0 := (Keep.refl [] w).alloc (.cells (msC m vi vk vx vo).toArray 39)
  have hBa := h.keep K0 (by simp)
  have hRa := hr.still K0
  have hrd := hRd.alloc (.cells (msC m vi vk vx vo).toArray 39)
  have HS := Lib.hid hSz
  have HMAY := Lib.hid hmay.symm
  clear hmay hSz hdst hkind
  go_enter Try.func12, Try.ntmps12
  go_upto_region 1 with fail
  clear h hr hRd
  generalize hmb : w.heap.size = mb at *
  generalize w.alloc (.cells (msC m vi vk vx vo).toArray 39) = w0 at *
  have m2 := msc_2 hM
  go_wp2_with (refine wpList_load_rowg 39 _ rfl mb rfl 39 (msC m vi vk vx vo).toArray (0, 0) _ hM Try.underlying39 rfl Try.sizeMsg (by rfl) ?_)
  refine (msMay_any m vi vk vx vo hrd HS.out true HMAY.out).mono ?_
  rintro e w1 ⟨rfl, k1⟩
  have hM1 := hM.keep k1 (by simp)
  have hB1 := hBa.keep k1 (by simp)
  have hR1 := hRa.still k1
  have K1 := K0.trans k1
  clear hM hBa hRa hrd K0 k1 m2
  have m0 := msc_0 hM1
  go_wp2_with (refine wpList_load_rowg 39 _ rfl mb rfl 39 (msC m vi vk vx vo).toArray (0, 0) _ hM1 Try.underlying39 rfl Try.sizeMsg (by rfl) ?_)
  have hsz := K1.size
  have hnm : mb ∉ c :: vd.ownBlock.toList := fun hm => by
    rcases List.mem_cons.1 hm with hm | hm
    · subst hm; exact (Blk.ty hB1).ne hM1.ty (by decide) rfl
    · exact (hR1.done.ty mb (Option.mem_toList.1 hm)).ne hM1.ty (by decide) rfl
  have HSN := Lib.hid hnm
  clear hnm
  refine (note_yes hB1 hR1 (by omega) hdn hph m vi vk vx vo 2 hy false hf).mono ?_
  rintro e w2 ⟨vd2, rfl, hB2, hR2, k2⟩
  have hM2 := hM1.keep k2 HSN.out
  have K2 := (K1.mono (by simp)).trans k2
  clear hM1 hB1 hR1 K1 k2 m0 
  have m0 := msc_0 hM2
  go_wp2_with (refine wpList_load_rowg 39 _ rfl mb rfl 39 (msC m vi vk vx vo).toArray (0, 0) _ hM2 Try.underlying39 rfl Try.sizeMsg (by rfl) ?_)
  go_ret
  first | exact ⟨rfl, vd2, hB2, hR2, K2⟩ | exact ⟨vd2, rfl, hB2, hR2, K2⟩
set_option maxHeartbeats 8000000 in
theorem Step_prep_all (h : CtB w c kb s g t vm vt vn vd) (hr : CtR w t vm vt vn vd base) (m : Ms) (vi vk vx vo : Value) (hRd : MsRd w m vi vk vx vo) (hSz : MsSz m) (hmay : mayM m = true) (hdst : m.dst = 0) (hkind : m.kind = 4) (hlast : m.last = true) (hbs : base ≤ w.heap.size) (hdn : t.done.length ≤ 4) (hph : 0 ≤ t.phase ∧ t.phase ≤ 10) (hmem : 0 < t.mem.length) (hdest : 0 < t.dest.length) (hy : t.hears m.epoch m.src 1) (hf : t.full m.src = true) :
    Calls Try.prog 12 #[.pointer (some ⟨c, 0, none⟩), msV m vi vk vx vo] w fun e w' => ∃ v L vd', e = .returned v ∧ TRow w' w.heap.size v L ∧ L.map (·.m) = t.nodes.map (tellM (t.noted m.src) 7) ∧ CtB w' c kb s g (t.noted m.src) vm vt vn vd' ∧ CtR w' (t.noted m.src) vm vt vn vd' base ∧ Keep (c :: vd.ownBlock.toList) w w' := by
  have q0 : (m.dst != 0) = false := by simp [hdst]
  have q1 : (m.kind == 1) = false := by simp [hkind]
  have q4 : (m.kind == 4) = true := by simp [hkind]
  have q10 : (m.kind == 10) = false := by simp [hkind]
  have hM := Blk.new w (msC m vi vk vx vo) 39
  have K0 := (Keep.refl [] w).alloc (.cells (msC m vi vk vx vo).toArray 39)
  have hBa := h.keep K0 (by simp)
  have hRa := hr.still K0
  have hrd := hRd.alloc (.cells (msC m vi vk vx vo).toArray 39)
  have HS := Lib.hid hSz
  have HMAY := Lib.hid hmay.symm
  clear hmay hSz hdst hkind
  go_enter Try.func12, Try.ntmps12
  go_upto_region 1 with fail
  clear h hr hRd
  generalize hmb : w.heap.size = mb at *
  generalize w.alloc (.cells (msC m vi vk vx vo).toArray 39) = w0 at *
  have m2 := msc_2 hM
  go_wp2_with (refine wpList_load_rowg 39 _ rfl mb rfl 39 (msC m vi vk vx vo).toArray (0, 0) _ hM Try.underlying39 rfl Try.sizeMsg (by rfl) ?_)
  refine (msMay_any m vi vk vx vo hrd HS.out true HMAY.out).mono ?_
  rintro e w1 ⟨rfl, k1⟩
  have hM1 := hM.keep k1 (by simp)
  have hB1 := hBa.keep k1 (by simp)
  have hR1 := hRa.still k1
  have K1 := K0.trans k1
  clear hM hBa hRa hrd K0 k1 m2
  have m0 := msc_0 hM1
  have m11 := msc_11 hM1
  rw [hlast] at m11
  go_wp2_with (refine wpList_load_rowg 39 _ rfl mb rfl 39 (msC m vi vk vx vo).toArray (0, 0) _ hM1 Try.underlying39 rfl Try.sizeMsg (by rfl) ?_)
  have HNT : t.noted m.src = { t with phase := t.phase + 1, done := [] } := by unfold Ct.noted; rw [hf]; rfl
  have hsz := K1.size
  have hnm : mb ∉ c :: vd.ownBlock.toList := fun hm => by
    rcases List.mem_cons.1 hm with hm | hm
    · subst hm; exact (Blk.ty hB1).ne hM1.ty (by decide) rfl
    · exact (hR1.done.ty mb (Option.mem_toList.1 hm)).ne hM1.ty (by decide) rfl
  have HSN := Lib.hid hnm
  clear hnm
  refine (note_yes hB1 hR1 (by omega) hdn hph m vi vk vx vo 1 hy true hf).mono ?_
  rintro e w2 ⟨vd2, rfl, hB2, hR2, k2⟩
  have hM2 := hM1.keep k2 HSN.out
  have K2 := (K1.mono (by simp)).trans k2
  clear hM1 hB1 hR1 K1 k2 m0 m11
  have m0 := msc_0 hM2
  generalize hT2 : t.noted m.src = t2 at *
  have HME : 0 < t2.mem.length := by rw [HNT]; exact hmem
  have HDE : 0 < t2.dest.length := by rw [HNT]; exact hdest
  have HNO : t2.nodes = t.nodes := by rw [HNT]
  have HNOH := Lib.hid HNO
  have HT2 := Lib.hid hT2
  clear HNT HNO hT2 hmem hdest
  obtain ⟨na, nc, rfl⟩ := hR2.nodes.islice
  obtain ⟨c8, _⟩ := ctc_8 hB2
  have HT := Lib.hid (tell_any hB2 hR2 HME HDE 7 _ t2.nodes hR2.nodes.irv (by have := hR2.nodesn; omega))
  go_wp2_with (refine wpList_load_rowg 39 _ rfl mb rfl 39 (msC m vi vk vx vo).toArray (0, 0) _ hM2 Try.underlying39 rfl Try.sizeMsg (by rfl) ?_)
  refine HT.out.mono ?_
  rintro e w3 ⟨v, L, rfl, hO, hL, k3⟩
  go_wp2_with fail
  go_ret
  have hz := K2.size
  rw [HT2.out]
  exact ⟨_, L, vd2, rfl, hO.mono hz, (by rw [← HNOH.out]; exact hL), hB2.keep k3 (by simp), hR2.still k3, K2.trans (k3.mono (by simp))⟩
set_option maxHeartbeats 8000000 in
theorem Step_froz_all (h : CtB w c kb s g t vm vt vn vd) (hr : CtR w t vm vt vn vd base) (m : Ms) (vi vk vx vo : Value) (hRd : MsRd w m vi vk vx vo) (hSz : MsSz m) (hmay : mayM m = true) (hdst : m.dst = 0) (hkind : m.kind = 10) (hbs : base ≤ w.heap.size) (hdn : t.done.length ≤ 4) (hph : 0 ≤ t.phase ∧ t.phase ≤ 10) (hy : t.hears m.epoch m.src 2) (hf : t.full m.src = true) (Q : Ending → World → Prop)
    (hc : ∀ w2 vd', CtB w2 c kb s g (t.noted m.src) vm vt vn vd' → CtR w2 (t.noted m.src) vm vt vn vd' base → Keep (c :: vd.ownBlock.toList) w w2 → Calls Try.prog 37 #[.pointer (some ⟨c, 0, none⟩)] w2 fun e w' => ∃ v, e = .returned v ∧ Q e w') :
    Calls Try.prog 12 #[.pointer (some ⟨c, 0, none⟩), msV m vi vk vx vo] w Q := by
  have q0 : (m.dst != 0) = false := by simp [hdst]
  have q1 : (m.kind == 1) = false := by simp [hkind]
  have q4 : (m.kind == 4) = false := by simp [hkind]
  have q10 : (m.kind == 10) = true := by simp [hkind]
  have hM := Blk.new w (msC m vi vk vx vo) 39
  have K0 := (Keep.refl [] w).alloc (.cells (msC m vi vk vx vo).toArray 39)
  have hBa := h.keep K0 (by simp)
  have hRa := hr.still K0
  have hrd := hRd.alloc (.cells (msC m vi vk vx vo).toArray 39)
  have HS := Lib.hid hSz
  have HMAY := Lib.hid hmay.symm
  clear hmay hSz hdst hkind
  go_enter Try.func12, Try.ntmps12
  go_upto_region 1 with fail
  clear h hr hRd
  generalize hmb : w.heap.size = mb at *
  generalize w.alloc (.cells (msC m vi vk vx vo).toArray 39) = w0 at *
  have m2 := msc_2 hM
  go_wp2_with (refine wpList_load_rowg 39 _ rfl mb rfl 39 (msC m vi vk vx vo).toArray (0, 0) _ hM Try.underlying39 rfl Try.sizeMsg (by rfl) ?_)
  refine (msMay_any m vi vk vx vo hrd HS.out true HMAY.out).mono ?_
  rintro e w1 ⟨rfl, k1⟩
  have hM1 := hM.keep k1 (by simp)
  have hB1 := hBa.keep k1 (by simp)
  have hR1 := hRa.still k1
  have K1 := K0.trans k1
  clear hM hBa hRa hrd K0 k1 m2
  have m0 := msc_0 hM1
  go_wp2_with (refine wpList_load_rowg 39 _ rfl mb rfl 39 (msC m vi vk vx vo).toArray (0, 0) _ hM1 Try.underlying39 rfl Try.sizeMsg (by rfl) ?_)
  have hsz := K1.size
  have hnm : mb ∉ c :: vd.ownBlock.toList := fun hm => by
    rcases List.mem_cons.1 hm with hm | hm
    · subst hm; exact (Blk.ty hB1).ne hM1.ty (by decide) rfl
    · exact (hR1.done.ty mb (Option.mem_toList.1 hm)).ne hM1.ty (by decide) rfl
  have HSN := Lib.hid hnm
  clear hnm
  refine (note_yes hB1 hR1 (by omega) hdn hph m vi vk vx vo 2 hy true hf).mono ?_
  rintro e w2 ⟨vd2, rfl, hB2, hR2, k2⟩
  have hM2 := hM1.keep k2 HSN.out
  have K2 := (K1.mono (by simp)).trans k2
  clear hM1 hB1 hR1 K1 k2 m0 
  have m0 := msc_0 hM2
  have HQ := Lib.hid (hc w2 vd2 hB2 hR2 K2)
  clear hc
  go_wp2_with (refine wpList_load_rowg 39 _ rfl mb rfl 39 (msC m vi vk vx vo).toArray (0, 0) _ hM2 Try.underlying39 rfl Try.sizeMsg (by rfl) ?_)
  refine HQ.out.mono ?_
  rintro e w3 ⟨v, rfl, hq⟩
  have HQ2 := Lib.hid hq
  clear hq
  go_wp2_with fail
  first | exact HQ2.out | (go_ret; exact HQ2.out)
end
end Go.Proofs.Ytcoaobdijlppgaa
/- The authority: Make. -/
namespace Go.Proofs.Ytcoaobdijlppgaa
open Go.ChangeShapes Go.WideShapes Go.ChangeAt Go.RowKit
set_option linter.unusedVariables false
set_option linter.unusedSimpArgs false
set_option maxRecDepth 100000

theorem nodes_in {l : List Int} (h : nodesOk l = true) : (∀ n ∈ l, 1 ≤ n ∧ n ≤ 5) ∧ 0 < l.length ∧ l.length ≤ 5 :=
  (show ∀ l ∈ allNodes, (∀ n ∈ l, 1 ≤ n ∧ n ≤ 5) ∧ 0 < l.length ∧ l.length ≤ 5 by decide) l (nodes_all h)
def Ct.new (l : List Int) : Ct := ⟨1, 1, l, 0, 0, [], [], 0, []⟩
set_option maxHeartbeats 4000000 in
theorem Make_any {w : World} {d sb k B : Nat} {S : List Sec} (hd : IsDev w d sb S k) (hS : 1 < S.length) (hk : k ≤ 2 * B) (hB : 1 ≤ B ∧ B ≤ 100000) (nv : Value) (l : List Int) (hn : Rv w 1 nv l.length (ints l)) (hok : nodesOk l = true) :
    Calls Try.prog 9 #[.pointer (some ⟨d, 0, none⟩), nv] w fun e w' => ∃ c kb s g vm, e = .returned (.tuple #[.pointer (some ⟨c, 0, none⟩), .int .i64 0]) ∧ CtB w' c kb s g (Ct.new l) vm (.slice none 0 0) (.slice none 0 0) (.slice none 0 0) ∧
      CtR w' (Ct.new l) vm (.slice none 0 0) (.slice none 0 0) (.slice none 0 0) w'.heap.size ∧ CtD w' d sb s (stT 1 1 l) B ∧ Gr w' g 0 (fun _ => none) ∧ IsClock w' kb 0 ∧ Keep [d, sb] w w' ∧ w.heap.size ≤ c ∧ w.heap.size ≤ kb ∧ w.heap.size ≤ g ∧ c ≠ s ∧ w.heap.size ≤ s := by
  obtain ⟨n1, n2, n3⟩ := nodes_in hok
  have HN := Lib.hid n1
  have HL := Lib.hid n2
  have HL5 := Lib.hid n3
  have HB := Lib.hid hB
  have HS := Lib.hid hS
  have HK := Lib.hid hk
  obtain ⟨_, a, cap, rfl, _, _⟩ := id hn
  have hdl := hd.dev.lt
  have hsl := hd.secs.lt
  have HDL := Lib.hid (show d < w.heap.size ∧ sb < w.heap.size from ⟨hdl, hsl⟩)
  clear n1 n2 n3 hB hS hk hdl hsl
  have hb0 : ∀ (W : World), (Instr.build 54 #[]).run Try.prog W = .ok (.agg #[.int .i64 0]) W := fun W => run_build W _ _ _ (by rfl)
  have hb1 : ∀ (W : World) (va : Option Addr) (n vc : Nat), (Instr.build 59 #[(0, .int .i64 1), (1, .int .i64 1), (2, .slice va n vc)]).run Try.prog W = .ok (.agg #[.int .i64 1, .int .i64 1, .slice va n vc]) W := fun W va n vc => run_build W _ _ _ (by rfl)
  have hb2 : ∀ (W : World) (p g : Nat) (va : Option Addr) (n vc : Nat), (Instr.build 64 #[(0, .pointer (some ⟨p, 0, none⟩)), (2, .agg #[.int .i64 1, .int .i64 1, .slice va n vc]), (4, .map (some g))]).run Try.prog W = .ok (.agg #[.pointer (some ⟨p, 0, none⟩), .pointer none, .int .i64 1, .int .i64 1, .slice va n vc, .int .i64 0, .int .i64 0, .slice none 0 0, .slice none 0 0, .int .i64 0, .slice none 0 0, .map (some g)]) W := fun W p g va n vc => run_build W _ _ _ (by rfl)
  go_enter Try.func9, Try.ntmps9
  go_wp2_with fail
  refine (ptsMay_any _ l hn (by have := HL5.out; omega) true hok.symm).mono ?_
  rintro e w1 ⟨rfl, rfl⟩
  clear hok
  go_wp2_with fail
  have hC0 := Blk.new w [.int .i64 0] 54
  have K0 := (Keep.refl [] w).alloc (.cells #[.int .i64 0] 54)
  refine (CloneI_any _ l (hn.keep K0 (by simp)) (by have := HL5.out; omega) HL.out).mono ?_
  rintro e w2 ⟨v2, rfl, hO, k2⟩
  obtain ⟨va, vc, rfl⟩ := hO.islice
  have hC2 := hC0.keep k2 (by simp)
  have K2 := K0.trans k2
  have hd2 := hd.keep K2 (by simp) (by simp)
  have hO2 := hO.mono (Nat.zero_le _)
  clear hC0 K0 hO k2 hd hn
  generalize hkb : w.heap.size = kb at *
  have hmk : (Instr.makeMap 62 none).run Try.prog w2 = .ok (.map (some w2.heap.size)) (w2.alloc (.map #[] 0)) := run_makeMap _ _
  go_upto_region 4 with fail
  clear hmk
  have hG0 := Gr.made w2
  have K3 := (Keep.refl [] w2).alloc (.map #[] 0)
  obtain ⟨g, hg⟩ : ∃ g, g = w2.heap.size := ⟨_, rfl⟩
  have hsz : (w2.alloc (.map #[] 0)).heap.size = g + 1 := by simp [hg]
  have hC3 := hC2.keep K3 (by simp)
  have hd3 := hd2.keep K3 (by simp) (by simp)
  have hO3 := hO2.keep K3 (by simp)
  have Kz := (K2.trans K3)
  have hkg : kb < g := by have := hC2.lt; omega
  rw [← hg] at hG0 ⊢
  clear hC2 hd2 hO2 K2 K3 hg
  generalize w2.alloc (.map #[] 0) = w3 at *
  have hT := Blk.new w3 [.pointer (some ⟨kb, 0, none⟩), .pointer none, .int .i64 1, .int .i64 1, .slice va l.length vc, .int .i64 0, .int .i64 0, .slice none 0 0, .slice none 0 0, .int .i64 0, .slice none 0 0, .map (some g)] 64
  rw [hsz] at hT
  have K4 := (Keep.refl [] w3).alloc (.cells #[.pointer (some ⟨kb, 0, none⟩), .pointer none, .int .i64 1, .int .i64 1, .slice va l.length vc, .int .i64 0, .int .i64 0, .slice none 0 0, .slice none 0 0, .int .i64 0, .slice none 0 0, .map (some g)] 64)
  have hG4 := hG0.keep K4 (by simp)
  have hC4 := hC3.keep K4 (by simp)
  have hd4 := hd3.keep K4 (by simp) (by simp)
  have hO4 := hO3.keep K4 (by simp)
  have KW := Kz.trans K4
  have hT4 : Blk (w3.alloc (.cells #[.pointer (some ⟨kb, 0, none⟩), .pointer none, .int .i64 1, .int .i64 1, .slice va l.length vc, .int .i64 0, .int .i64 0, .slice none 0 0, .slice none 0 0, .int .i64 0, .slice none 0 0, .map (some g)] 64)) (g + 1) [.pointer (some ⟨kb, 0, none⟩), .pointer none, .int .i64 1, .int .i64 1, .slice va l.length vc, .int .i64 0, .int .i64 0, .slice none 0 0, .slice none 0 0, .int .i64 0, .slice none 0 0, .map (some g)] 64 := hT
  clear hT hG0 hC3 hd3 hO3 Kz K4 hsz
  generalize w3.alloc (.cells #[.pointer (some ⟨kb, 0, none⟩), .pointer none, .int .i64 1, .int .i64 1, .slice va l.length vc, .int .i64 0, .int .i64 0, .slice none 0 0, .slice none 0 0, .int .i64 0, .slice none 0 0, .map (some g)] 64) = w4 at *
  have HLT := Lib.hid hT4.lt
  have x2 := hT4.cell 2
  have x3 := hT4.cell 3
  have x4 := hT4.cell 4
  simp only [List.getElem?_cons_zero, List.getElem?_cons_succ] at x2 x3 x4
  go_wp2_with fail
  refine (stText_any 1 1 _ l hO4.irv HN.out (by have := HL5.out; omega) ⟨by omega, by omega⟩ ⟨by omega, by omega⟩).mono ?_
  rintro e w5 ⟨v5, rfl, hb5, k5⟩
  have hT5 := hT4.keep k5 (by simp)
  have hG5 := hG4.keep k5 (by simp)
  have hC5 := hC4.keep k5 (by simp)
  have hd5 := hd4.keep k5 (by simp) (by simp)
  have hO5 := hO4.keep k5 (by simp)
  have KW5 := KW.trans k5
  have hz4 := k5.size
  have HDD := Lib.hid (show d < kb ∧ sb < kb from HDL.out)
  clear hT4 hG4 hC4 hd4 hO4 KW k5 x2 x3 x4
  obtain ⟨ba, bc, hb5s⟩ := hb5.slice
  rw [hb5s] at hb5 ⊢
  go_wp2_with fail
  have hlo : ∀ q, (Value.slice ba (stT 1 1 l).length bc).ownBlock = some q → 0 < (stT 1 1 l).length → q < w5.heap.size ∧ q ≠ d ∧ q ≠ sb := fun q hq _ => by
    have h1 := hb5.lt q hq
    have h2 := HDD.out
    have h3 := HLT.out
    omega
  have HK2 := HK.out
  have HB2 := HB.out
  refine (Make_in hd5 0 HS.out _ (stT 1 1 l) hb5.rd (putAll_byte _) (stT_len 1 1 l ⟨by omega, by omega⟩ ⟨by omega, by omega⟩ HN.out) (by omega) hlo).mono ?_
  rintro e w6 ⟨s, rfl, hd6, hs6, k6, hsz6⟩
  have hdd := HDD.out
  have hlt := HLT.out
  have hT6 := hT5.keep k6 (by simp; omega)
  have hG6 := hG5.keep k6 (by simp; omega)
  have hC6 := hC5.keep k6 (by simp; omega)
  have hty : ∀ q ∈ [d, sb], ¬ Ty w5 q 3 := fun q hq ht => by
    simp only [List.mem_cons, List.not_mem_nil, or_false] at hq
    rcases hq with rfl | rfl
    · exact hd5.dev.ty.ne ht (by decide) rfl
    · exact hd5.secs.ty.ne ht (by decide) rfl
  have hO6 := hO5.keep k6 (fun b hb hm => hty b hm (hO5.ty b hb))
  have KW6 : Keep [d, sb] w w6 := (KW5.mono (by simp)).trans k6
  have hHS := Lib.hid HS.out
  clear hT5 hG5 hC5 hd5 hO5 KW5 k6 hty hlo hb5
  have b1 := hT6.cell 1
  have f1 := hT6.free 1
  simp only [List.getElem?_cons_zero, List.getElem?_cons_succ] at b1
  go_wp2_with fail
  go_ret2
  have kS : Keep [g + 1] w6 (w6.setCell ⟨g + 1, 1, none⟩ (.pointer (some ⟨s, 0, none⟩))) := (Keep.refl _ _).setCell (.inl (by simp)) _
  have hTS : CtB (w6.setCell ⟨g + 1, 1, none⟩ (.pointer (some ⟨s, 0, none⟩))) (g + 1) kb s g (Ct.new l) (.slice va l.length vc) (.slice none 0 0) (.slice none 0 0) (.slice none 0 0) := Blk.set hT6 1 (.pointer (some ⟨s, 0, none⟩))
  have htc : ∀ q ∈ [g + 1], ¬ Ty w6 q 3 := fun q hq ht => by simp at hq; subst hq; exact hT6.ty.ne ht (by decide) rfl
  have htu : ∀ q ∈ [g + 1], ¬ Ty w6 q 5 := fun q hq ht => by simp at hq; subst hq; exact hT6.ty.ne ht (by decide) rfl
  have hD : CtD w6 d sb s (stT 1 1 l) B := ⟨_, k + 5, 1, 0, hd6, hs6, Pair.make S 0 _ hHS.out, by omega, by omega, by omega, by omega⟩
  have hcs : g + 1 ≠ s := by omega
  have hOS := hO6.keep kS (fun b hb hm => htc b hm (hO6.ty b hb))
  have hl5 := HL5.out
  refine ⟨g + 1, kb, s, g, _, rfl, hTS, ⟨hOS, Own.nil _ _ _, Own.nil _ _ _, Own.nil _ _ _, fun q hq => (hOS.lt q hq).2, (fun q hq => by cases hq), (fun q hq => by cases hq), hl5, by simp [Ct.new], by simp [Ct.new], by simp [Ct.new]⟩,
    hD.keep kS (by simp; omega) (by simp; omega) (by simp; omega) htu, hG6.keep kS (by simp), ⟨hC6.keep kS (by simp; omega), by omega, by omega⟩, ?_, by omega, by omega, by omega, hcs, by omega⟩
  exact KW6.then kS (fun q hq hlt => by simp at hq; omega)
end Go.Proofs.Ytcoaobdijlppgaa
/- The authority: the nodes' words as messages; what a word does to the state. -/
namespace Go.Proofs.Ytcoaobdijlppgaa
open Go.ChangeShapes Go.WideShapes Go.ChangeAt Go.RowKit
set_option linter.unusedVariables false
set_option linter.unusedSimpArgs false
set_option maxRecDepth 100000

/-- A node's word: prepared (4; last), frozen (10). -/
def wordM (kind k n : Int) (last : Bool) : Ms := ⟨kind, k, 0, n, 0, 0, 0, 0, 0, ByteArray.empty, 0, last, it0, [], [], [], 0, []⟩
theorem wordM_may {kind k n : Int} {last : Bool} (h : 1 ≤ kind ∧ kind ≤ 14) (hk : 1 ≤ k ∧ k ≤ 5) (hn : 0 ≤ n ∧ n ≤ 1099511627776) : mayM (wordM kind k n last) = true := by
  obtain ⟨a1, a2⟩ := h
  obtain ⟨b1, b2⟩ := hk
  obtain ⟨c1, c2⟩ := hn
  have e1 : headOk (wordM kind k n last) = true := by
    unfold headOk inB wordM
    simp only [List.all_cons, List.all_nil, Bool.and_eq_true, decide_eq_true_eq, Bool.not_eq_true', decide_eq_false_iff_not]
    refine ⟨a1, a2, by omega, ⟨by omega, by omega, trivial⟩, ⟨by omega, by omega, by omega, by omega, by omega, trivial⟩, by omega, trivial⟩
  have e2 : midOk (wordM kind k n last) = true := by rfl
  have e3 : listsOk (wordM kind k n last) = true := by rfl
  have e4 : decide ((wordM kind k n last).it = it0) = true := decide_eq_true rfl
  unfold mayM
  rw [e1, e2, e3, e4]
  rfl
theorem wordM_sz (kind k n : Int) (last : Bool) : MsSz (wordM kind k n last) :=
  ⟨by show ByteArray.empty.size ≤ _; decide, ⟨by show ByteArray.empty.size ≤ _; decide, by show ByteArray.empty.size ≤ _; decide⟩, (fun y hy => by cases hy), (fun y hy => by cases hy), by simp [wordM], by simp [wordM], by simp [wordM], by simp [wordM]⟩
theorem wordM_rd (w : World) (kind k n : Int) (last : Bool) : MsRd w (wordM kind k n last) (.slice none 0 0) (.slice none 0 0) (.slice none 0 0) (.slice none 0 0) :=
  ⟨Rv.nil w 4, Rv.nil w 2, Rv.nil w 1, Rv.nil w 1⟩
theorem run_prepared (W : World) (k n : Int) (b : Bool) : (Instr.build 39 #[(0, .int .i64 4), (1, .int .i64 k), (3, .int .i64 n), (11, .bool b)]).run Try.prog W = .ok (msV (wordM 4 k n b) (.slice none 0 0) (.slice none 0 0) (.slice none 0 0) (.slice none 0 0)) W := run_build W _ _ _ (by rfl)
theorem run_frozen (W : World) (k n : Int) : (Instr.build 39 #[(0, .int .i64 10), (1, .int .i64 k), (3, .int .i64 n)]).run Try.prog W = .ok (msV (wordM 10 k n false) (.slice none 0 0) (.slice none 0 0) (.slice none 0 0) (.slice none 0 0)) W := run_build W _ _ _ (by rfl)
end Go.Proofs.Ytcoaobdijlppgaa
/- The authority for the laws: what it holds (Auth), what a call turns (Turn). -/
namespace Go.Proofs.Ytcoaobdijlppgaa
open Go.ChangeShapes Go.WideShapes Go.ChangeAt Go.RowKit
set_option linter.unusedVariables false
set_option linter.unusedSimpArgs false
set_option maxRecDepth 100000

def turnT : List TypeId := [64, 74, 85, 96, 3]
/-- What a call of the authority writes is of these types. -/
def Turn (lo : Nat) (w w' : World) : Prop := ∃ S, Keep S w w' ∧ ∀ q ∈ S, lo ≤ q ∧ ∃ T ∈ turnT, Ty w q T
theorem Turn.still {lo : Nat} {w w' : World} (k : Keep [] w w') : Turn lo w w' := ⟨[], k, by simp⟩
theorem Turn.trans {lo : Nat} {a b c : World} (h : Turn lo a b) (k : Turn lo b c) : Turn lo a c := by
  obtain ⟨S, h1, h2⟩ := h
  obtain ⟨S', k1, k2⟩ := k
  refine ⟨S ++ S'.filter (fun q => decide (q < a.heap.size ∧ q ∉ S)), Keep.then (h1.mono (fun q hq _ => List.mem_append_left _ hq)) k1 (fun x hx hl => ?_), fun q hq => ?_⟩
  · by_cases hn : x ∈ S
    · exact List.mem_append_left _ hn
    · exact List.mem_append_right _ (List.mem_filter.2 ⟨hx, decide_eq_true ⟨hl, hn⟩⟩)
  · rcases List.mem_append.1 hq with hq | hq
    · exact h2 q hq
    · obtain ⟨hq, hc⟩ := List.mem_filter.1 hq
      obtain ⟨hl, hn⟩ := of_decide_eq_true hc
      obtain ⟨hlo, T, hT, cs, fr, hb⟩ := k2 q hq
      exact ⟨hlo, T, hT, cs, fr, by rw [← h1.block q hl hn]; exact hb⟩
theorem Turn.after {w0 w w' : World} (k : Keep [] w0 w) (h : Turn w0.heap.size w w') : Keep [] w0 w' := by
  obtain ⟨S, h1, h2⟩ := h
  exact k.then h1 (fun x hx hl => by have := (h2 x hx).1; omega)
theorem Turn.size {lo : Nat} {w w' : World} (h : Turn lo w w') : w.heap.size ≤ w'.heap.size := by
  obtain ⟨S, h1, _⟩ := h
  exact h1.size
theorem Turn.blk {lo : Nat} {w w' : World} {b : Nat} {cs : List Value} {T : TypeId} (h : Turn lo w w') (hb : Blk w b cs T) (hT : T ∉ turnT) : Blk w' b cs T := by
  obtain ⟨S, h1, h2⟩ := h
  exact hb.keep h1 (fun hm => by
    obtain ⟨_, T', hT', ht⟩ := h2 b hm
    exact hb.ty.ne ht (by rintro rfl; exact hT hT') rfl)
theorem Gr.turn {lo : Nat} {w w' : World} {g n : Nat} {f : Int → Option Int} (h : Gr w g n f) (k : Turn lo w w') : Gr w' g n f := by
  obtain ⟨S, h1, h2⟩ := k
  exact h.keep h1 (fun hm => by
    obtain ⟨_, T', _, ht⟩ := h2 g hm
    exact h.ne ht rfl)
theorem IsClock.turn {lo : Nat} {w w' : World} {b : Nat} {n : Int} (h : IsClock w b n) (k : Turn lo w w') : IsClock w' b n := ⟨k.blk h.blk (by decide), h.lo, h.hi⟩
theorem CtR.rebase {w : World} {t : Ct} {vm vt vn : Value} {base : Nat} (h : CtR w t vm vt vn (.slice none 0 0) base) (hd : t.done = []) : CtR w t vm vt vn (.slice none 0 0) w.heap.size :=
  ⟨h.mem, h.dest, h.nodes, by rw [hd]; exact Own.nil _ _ _, fun q hq => (h.mem.lt q hq).2, fun q hq => (h.dest.lt q hq).2, fun q hq => (h.nodes.lt q hq).2, h.memn, h.ton, h.nodesn, h.donen⟩
theorem CtD.turn4 {w : World} {c kb s g d sb B : Nat} {t : Ct} {vm vt vn vd : Value} {T : List Nat} (h : CtD w d sb s T B) (hc : CtB w c kb s g t vm vt vn vd) {lo base : Nat} (hl : lo ≤ c ∧ lo ≤ d ∧ lo ≤ sb ∧ lo ≤ s ∧ lo ≤ base) : ∀ q ∈ [d, sb, s, c], lo ≤ q ∧ ∃ T ∈ turnT, Ty w q T := by
  obtain ⟨L, n, turn, slot, a, b, _⟩ := h
  obtain ⟨tv, hb, _⟩ := b
  obtain ⟨l1, l2, l3, l4, _⟩ := hl
  intro q hq
  simp only [List.mem_cons, List.not_mem_nil, or_false] at hq
  rcases hq with rfl | rfl | rfl | rfl
  · exact ⟨l2, _, by simp [turnT], a.dev.ty⟩
  · exact ⟨l3, _, by simp [turnT], a.secs.ty⟩
  · exact ⟨l4, _, by simp [turnT], hb.ty⟩
  · exact ⟨l1, _, by simp [turnT], Blk.ty hc⟩
/-- An authority at c on the device d, with its clock and its grants. -/
def Auth (lo : Nat) (w : World) (c d kb g : Nat) (t : Ct) (B n : Nat) (f : Int → Option Int) (now : Int) : Prop :=
  ∃ s sb base vm vt vn vd, CtB w c kb s g t vm vt vn vd ∧ CtR w t vm vt vn vd base ∧ base ≤ w.heap.size ∧ CtD w d sb s (stT t.epoch t.top t.mem) B ∧ (c ≠ d ∧ c ≠ sb ∧ c ≠ s) ∧ (lo ≤ c ∧ lo ≤ d ∧ lo ≤ sb ∧ lo ≤ s ∧ lo ≤ base) ∧ Gr w g n f ∧ IsClock w kb now
section
variable {lo : Nat} {w : World} {c d kb g B n : Nat} {t : Ct} {f : Int → Option Int} {now : Int}
theorem Auth.keep {w' : World} (h : Auth lo w c d kb g t B n f now) (k : Keep [] w w') : Auth lo w' c d kb g t B n f now := by
  obtain ⟨s, sb, base, vm, vt, vn, vd, h1, h2, h3, h4, h5, hl, h6, h7⟩ := h
  exact ⟨s, sb, base, vm, vt, vn, vd, h1.keep k (by simp), h2.still k, Nat.le_trans h3 k.size, h4.still k, h5, hl, h6.keep k (by simp), h7.keep k (by simp)⟩
theorem Auth.epoch (h : Auth lo w c d kb g t B n f now) : Calls Try.prog 14 #[.pointer (some ⟨c, 0, none⟩)] w fun e w' => e = .returned (.int .i64 t.epoch) ∧ w = w' := by
  obtain ⟨s, sb, base, vm, vt, vn, vd, h1, _⟩ := h
  exact Epoch_any h1
theorem Auth.under (h : Auth lo w c d kb g t B n f now) : Calls Try.prog 15 #[.pointer (some ⟨c, 0, none⟩)] w fun e w' => e = .returned (.int .i64 t.num) ∧ w = w' := by
  obtain ⟨s, sb, base, vm, vt, vn, vd, h1, _⟩ := h
  exact Under_any h1
theorem Auth.members (h : Auth lo w c d kb g t B n f now) (h0 : 0 < t.mem.length) : Calls Try.prog 21 #[.pointer (some ⟨c, 0, none⟩)] w fun e w' => ∃ v', e = .returned v' ∧ Own w' w.heap.size 3 v' (ints t.mem) ∧ Keep [] w w' := by
  obtain ⟨s, sb, base, vm, vt, vn, vd, h1, h2, _⟩ := h
  exact Members_any h1 h2 h0
theorem Auth.join (h : Auth lo w c d kb g t B n f now) (hB : B ≤ 100000) (hn : ∀ n ∈ t.mem, 1 ≤ n ∧ n ≤ 5) (h0 : 0 < t.mem.length) (he : I64 t.epoch) (ht : 0 ≤ t.top ∧ t.top < 1099511627776) (hnum : t.num = 0) (node : Int) (h1 : 1 ≤ node ∧ node ≤ 5) (hnot : ¬ node ∈ t.mem) :
    Calls Try.prog 11 #[.pointer (some ⟨c, 0, none⟩), .int .i64 node] w fun e w' => ∃ v L, e = .returned (.tuple #[v, .int .i64 0]) ∧ TRow w' w.heap.size v L ∧
      L.map (·.m) = (bothL t.mem (bothL t.mem [node] 0) 0).map (tellM (t.begun (bothL t.mem [node] 0) 0) 3) ∧ Auth lo w' c d kb g (t.begun (bothL t.mem [node] 0) 0) (B + 1) n f now ∧ Turn lo w w' := by
  obtain ⟨s, sb, base, vm, vt, vn, vd, a1, a2, a3, a4, a5, al, a6, a7⟩ := h
  refine (Join_ok a1 a2 a4 hB a5 hn h0 he ht hnum node h1 hnot).mono ?_
  rintro e w' ⟨v, L, v2, vn', base', rfl, b1, b2, b3, b4, b5, k⟩
  have K : Turn lo w w' := ⟨_, k, a4.turn4 a1 al⟩
  have hsz := k.size
  exact ⟨v, L, rfl, b1, b2, ⟨s, sb, _, vm, v2, vn', _, b3, b4.rebase rfl, Nat.le_refl _, b5, a5, ⟨al.1, al.2.1, al.2.2.1, al.2.2.2.1, by have := al.2.2.2.2; omega⟩, a6.turn K, a7.turn K⟩, K⟩
end
end Go.Proofs.Ytcoaobdijlppgaa
/- The authority for the laws: Make, the nodes' words. -/
namespace Go.Proofs.Ytcoaobdijlppgaa
open Go.ChangeShapes Go.WideShapes Go.ChangeAt Go.RowKit
set_option linter.unusedVariables false
set_option linter.unusedSimpArgs false
set_option maxRecDepth 100000

theorem Auth.make {lo : Nat} {w : World} {d sb k B : Nat} {S : List Sec} (hd : IsDev w d sb S k) (hS : 1 < S.length) (hk : k ≤ 2 * B) (hB : 1 ≤ B ∧ B ≤ 100000) (nv : Value) (l : List Int) (hn : Rv w 1 nv l.length (ints l)) (hok : nodesOk l = true) (hlo : lo ≤ d ∧ lo ≤ sb ∧ lo ≤ w.heap.size) :
    Calls Try.prog 9 #[.pointer (some ⟨d, 0, none⟩), nv] w fun e w' => ∃ c kb g, e = .returned (.tuple #[.pointer (some ⟨c, 0, none⟩), .int .i64 0]) ∧ Auth lo w' c d kb g (Ct.new l) B 0 (fun _ => none) 0 ∧ Turn lo w w' ∧ w.heap.size ≤ c ∧ w.heap.size ≤ kb ∧ w.heap.size ≤ g := by
  have hdl := hd.dev.lt
  have hsl := hd.secs.lt
  refine (Make_any hd hS hk hB nv l hn hok).mono ?_
  rintro e w' ⟨c, kb, s, g, vm, rfl, a1, a2, a3, a4, a5, k1, z1, z2, z3, z4, z5⟩
  refine ⟨c, kb, g, rfl, ⟨s, sb, _, vm, _, _, _, a1, a2, Nat.le_refl _, a3, ⟨by omega, by omega, z4⟩, ⟨by omega, hlo.1, hlo.2.1, by omega, by have := k1.size; omega⟩, a4, a5⟩, ⟨_, k1, fun q hq => ?_⟩, z1, z2, z3⟩
  simp only [List.mem_cons, List.not_mem_nil, or_false] at hq
  rcases hq with rfl | rfl
  · exact ⟨hlo.1, _, by simp [turnT], hd.dev.ty⟩
  · exact ⟨hlo.2.1, _, by simp [turnT], hd.secs.ty⟩
theorem noted_full {t : Ct} {k : Int} (h : t.full k = true) : t.noted k = { t with phase := t.phase + 1, done := [] } := by unfold Ct.noted; rw [h]; rfl
theorem noted_part {t : Ct} {k : Int} (h : t.full k = false) : t.noted k = { t with done := t.done2 k } := by unfold Ct.noted; rw [h]; rfl
theorem noted_st (t : Ct) (k : Int) : (t.noted k).epoch = t.epoch ∧ (t.noted k).top = t.top ∧ (t.noted k).mem = t.mem ∧ (t.noted k).num = t.num ∧ (t.noted k).dest = t.dest ∧ (t.noted k).nodes = t.nodes ∧ (t.noted k).lost = t.lost := by
  unfold Ct.noted
  split <;> exact ⟨rfl, rfl, rfl, rfl, rfl, rfl, rfl⟩
section
variable {lo : Nat} {w : World} {c d kb g B n s sb base : Nat} {t : Ct} {f : Int → Option Int} {now : Int} {vm vt vn vd : Value}
theorem turnN (hc : CtB w c kb s g t vm vt vn vd) (hr : CtR w t vm vt vn vd base) (hl : lo ≤ c ∧ lo ≤ d ∧ lo ≤ sb ∧ lo ≤ s ∧ lo ≤ base) : ∀ q ∈ c :: vd.ownBlock.toList, lo ≤ q ∧ ∃ T ∈ turnT, Ty w q T := by
  intro q hq
  rcases List.mem_cons.1 hq with rfl | hq
  · exact ⟨hl.1, _, by simp [turnT], Blk.ty hc⟩
  · exact ⟨Nat.le_trans hl.2.2.2.2 (hr.done.lt q (Option.mem_toList.1 hq)).1, _, by simp [turnT], hr.done.ty q (Option.mem_toList.1 hq)⟩
theorem CtD.noteN {w' : World} {T : List Nat} (h : CtD w d sb s T B) (hc : CtB w c kb s g t vm vt vn vd) (hr : CtR w t vm vt vn vd base) (k : Keep (c :: vd.ownBlock.toList) w w') : CtD w' d sb s T B := by
  have ht : ∀ q ∈ c :: vd.ownBlock.toList, Ty w q 64 ∨ Ty w q 3 := fun q hq => by
    rcases List.mem_cons.1 hq with rfl | hq
    · exact .inl (Blk.ty hc)
    · exact .inr (hr.done.ty q (Option.mem_toList.1 hq))
  have hu : ∀ q T, T ≠ 64 → T ≠ 3 → Ty w q T → q ∉ c :: vd.ownBlock.toList := fun q T h1 h2 hq hm => by
    rcases ht q hm with h | h
    · exact h.ne hq (Ne.symm h1) rfl
    · exact h.ne hq (Ne.symm h2) rfl
  obtain ⟨L, n, turn, slot, a, b, r⟩ := h
  have b0 := b
  obtain ⟨tv, hb, _⟩ := b0
  exact CtD.keep ⟨L, n, turn, slot, a, b, r⟩ k (hu d _ (by decide) (by decide) a.dev.ty) (hu sb _ (by decide) (by decide) a.secs.ty) (hu s _ (by decide) (by decide) hb.ty) (fun q hm hq => hu q _ (by decide) (by decide) hq hm)
theorem Auth.word_no (h : Auth lo w c d kb g t B n f now) (kind k ep : Int) (last : Bool) (hk : 1 ≤ k ∧ k ≤ 5) (hep : 0 ≤ ep ∧ ep ≤ 1099511627776) (hw : (kind = 4 ∧ last = true ∧ ¬ t.hears ep k 1) ∨ (kind = 10 ∧ ¬ t.hears ep k 2)) :
    Calls Try.prog 12 #[.pointer (some ⟨c, 0, none⟩), msV (wordM kind k ep last) (.slice none 0 0) (.slice none 0 0) (.slice none 0 0) (.slice none 0 0)] w fun e w' => e = .returned (.slice none 0 0) ∧ Auth lo w' c d kb g t B n f now ∧ Turn lo w w' := by
  have h0 := h
  obtain ⟨s, sb, base, vm, vt, vn, vd, a1, a2, a3, a4, a5, al, a6, a7⟩ := h
  rcases hw with ⟨rfl, rfl, hno⟩ | ⟨rfl, hno⟩
  · refine (Step_prep_no a1 a2 _ _ _ _ _ (wordM_rd w 4 k ep true) (wordM_sz _ _ _ _) (wordM_may (by decide) hk hep) rfl rfl rfl hno).mono ?_
    rintro e w' ⟨rfl, k1⟩
    exact ⟨rfl, h0.keep k1, Turn.still k1⟩
  · refine (Step_froz_no a1 a2 _ _ _ _ _ (wordM_rd w 10 k ep last) (wordM_sz _ _ _ _) (wordM_may (by decide) hk hep) rfl rfl hno).mono ?_
    rintro e w' ⟨rfl, k1⟩
    exact ⟨rfl, h0.keep k1, Turn.still k1⟩
theorem Auth.word_part (h : Auth lo w c d kb g t B n f now) (kind k ep : Int) (last : Bool) (hk : 1 ≤ k ∧ k ≤ 5) (hep : 0 ≤ ep ∧ ep ≤ 1099511627776) (hdn : t.done.length ≤ 4) (hph : 0 ≤ t.phase ∧ t.phase ≤ 10) (hf : t.full k = false)
    (hw : (kind = 4 ∧ last = true ∧ t.hears ep k 1) ∨ (kind = 10 ∧ t.hears ep k 2)) :
    Calls Try.prog 12 #[.pointer (some ⟨c, 0, none⟩), msV (wordM kind k ep last) (.slice none 0 0) (.slice none 0 0) (.slice none 0 0) (.slice none 0 0)] w fun e w' => e = .returned (.slice none 0 0) ∧ Auth lo w' c d kb g (t.noted k) B n f now ∧ Turn lo w w' := by
  obtain ⟨s, sb, base, vm, vt, vn, vd, a1, a2, a3, a4, a5, al, a6, a7⟩ := h
  obtain ⟨e1, e2, e3, _⟩ := noted_st t k
  rcases hw with ⟨rfl, rfl, hy⟩ | ⟨rfl, hy⟩
  · refine (Step_prep_part a1 a2 _ _ _ _ _ (wordM_rd w 4 k ep true) (wordM_sz _ _ _ _) (wordM_may (by decide) hk hep) rfl rfl rfl a3 hdn hph hy hf).mono ?_
    rintro e w' ⟨vd', rfl, b1, b2, k1⟩
    have K : Turn lo w w' := ⟨_, k1, turnN a1 a2 al⟩
    exact ⟨rfl, ⟨s, sb, base, vm, vt, vn, vd', b1, b2, Nat.le_trans a3 k1.size, by show CtD w' d sb s (stT (t.noted k).epoch (t.noted k).top (t.noted k).mem) B; rw [e1, e2, e3]; exact a4.noteN a1 a2 k1, a5, al, a6.turn K, a7.turn K⟩, K⟩
  · refine (Step_froz_part a1 a2 _ _ _ _ _ (wordM_rd w 10 k ep last) (wordM_sz _ _ _ _) (wordM_may (by decide) hk hep) rfl rfl a3 hdn hph hy hf).mono ?_
    rintro e w' ⟨vd', rfl, b1, b2, k1⟩
    have K : Turn lo w w' := ⟨_, k1, turnN a1 a2 al⟩
    exact ⟨rfl, ⟨s, sb, base, vm, vt, vn, vd', b1, b2, Nat.le_trans a3 k1.size, by show CtD w' d sb s (stT (t.noted k).epoch (t.noted k).top (t.noted k).mem) B; rw [e1, e2, e3]; exact a4.noteN a1 a2 k1, a5, al, a6.turn K, a7.turn K⟩, K⟩
theorem Auth.prep_all (h : Auth lo w c d kb g t B n f now) (k ep : Int) (hk : 1 ≤ k ∧ k ≤ 5) (hep : 0 ≤ ep ∧ ep ≤ 1099511627776) (hdn : t.done.length ≤ 4) (hph : 0 ≤ t.phase ∧ t.phase ≤ 10) (hmem : 0 < t.mem.length) (hdest : 0 < t.dest.length) (hf : t.full k = true) (hy : t.hears ep k 1) :
    Calls Try.prog 12 #[.pointer (some ⟨c, 0, none⟩), msV (wordM 4 k ep true) (.slice none 0 0) (.slice none 0 0) (.slice none 0 0) (.slice none 0 0)] w fun e w' => ∃ v L, e = .returned v ∧ TRow w' w.heap.size v L ∧ L.map (·.m) = t.nodes.map (tellM (t.noted k) 7) ∧ Auth lo w' c d kb g (t.noted k) B n f now ∧ Turn lo w w' := by
  obtain ⟨s, sb, base, vm, vt, vn, vd, a1, a2, a3, a4, a5, al, a6, a7⟩ := h
  obtain ⟨e1, e2, e3, _⟩ := noted_st t k
  refine (Step_prep_all a1 a2 _ _ _ _ _ (wordM_rd w 4 k ep true) (wordM_sz _ _ _ _) (wordM_may (by decide) hk hep) rfl rfl rfl a3 hdn hph hmem hdest hy hf).mono ?_
  rintro e w' ⟨v, L, vd', rfl, b0, bL, b1, b2, k1⟩
  have K : Turn lo w w' := ⟨_, k1, turnN a1 a2 al⟩
  exact ⟨v, L, rfl, b0, bL, ⟨s, sb, base, vm, vt, vn, vd', b1, b2, Nat.le_trans a3 k1.size, by show CtD w' d sb s (stT (t.noted k).epoch (t.noted k).top (t.noted k).mem) B; rw [e1, e2, e3]; exact a4.noteN a1 a2 k1, a5, al, a6.turn K, a7.turn K⟩, K⟩
theorem Auth.froz_go (h : Auth lo w c d kb g t B n f now) (k ep : Int) (last : Bool) (hk : 1 ≤ k ∧ k ≤ 5) (hep : 0 ≤ ep ∧ ep ≤ 1099511627776) (hB : B ≤ 100000) (hdn : t.done.length ≤ 4) (hph : 0 ≤ t.phase ∧ t.phase ≤ 10) (hdest : 0 < t.dest.length) (hn : ∀ n ∈ t.dest, 1 ≤ n ∧ n ≤ 5) (hnt : I64 t.num ∧ I64 t.top) (hlo : I64 t.lost)
    (hgo : f t.lost = none ∨ t.lost ≤ 0 ∨ ∃ a, f t.lost = some a ∧ 40 ≤ since now a) (hf : t.full k = true) (hy : t.hears ep k 2) :
    Calls Try.prog 12 #[.pointer (some ⟨c, 0, none⟩), msV (wordM 10 k ep last) (.slice none 0 0) (.slice none 0 0) (.slice none 0 0) (.slice none 0 0)] w fun e w' => ∃ v L, e = .returned v ∧ TRow w' w.heap.size v L ∧
      L.map (·.m) = (bothL t.mem t.dest 0).map (fun n => memberM t.committed 11 n 0) ∧ Auth lo w' c d kb g t.committed (B + 1) n f now ∧ Turn lo w w' := by
  obtain ⟨s, sb, base, vm, vt, vn, vd, a1, a2, a3, a4, a5, al, a6, a7⟩ := h
  obtain ⟨e1, e2, e3, e4, e5, e6, e7⟩ := noted_st t k
  have ec : (t.noted k).committed = t.committed := by unfold Ct.committed; rw [e4, e2, e5]
  refine Step_froz_all a1 a2 _ _ _ _ _ (wordM_rd w 10 k ep last) (wordM_sz _ _ _ _) (wordM_may (by decide) hk hep) rfl rfl a3 hdn hph hy hf _ ?_
  intro w2 vd' b1 b2 k1
  change CtB w2 c kb s g (t.noted k) vm vt vn vd' at b1
  change CtR w2 (t.noted k) vm vt vn vd' base at b2
  have K : Turn lo w w2 := ⟨_, k1, turnN a1 a2 al⟩
  have hD := a4.noteN a1 a2 k1
  rw [← e1, ← e2, ← e3] at hD
  refine (commit_go b1 b2 hD hB a5 (a6.turn K) (a7.turn K) (by rw [e7]; exact hlo) (by rw [e5]; exact hn) (by rw [e5]; exact hdest) (by rw [e4, e2]; exact hnt) (by rw [e7]; exact hgo)).mono ?_
  rintro e w' ⟨v, L, base', rfl, x0, xL, x1, x2, x3, k2⟩
  rw [ec] at xL x1 x2
  rw [e3, e5] at xL
  have K2 : Turn lo w2 w' := ⟨_, k2, hD.turn4 b1 al⟩
  rw [e4, e2, e5] at x3
  exact ⟨v, rfl, v, L, rfl, x0.mono k1.size, xL, ⟨s, sb, _, _, _, _, _, x1, x2.rebase rfl, Nat.le_refl _, x3, a5, ⟨al.1, al.2.1, al.2.2.1, al.2.2.2.1, by have := al.2.2.2.2; have := k1.size; have := k2.size; omega⟩, (a6.turn K).turn K2, (a7.turn K).turn K2⟩, K.trans K2⟩
end
end Go.Proofs.Ytcoaobdijlppgaa
/- The authority: begun. -/
namespace Go.Proofs.Ytcoaobdijlppgaa
open Go.ChangeShapes Go.WideShapes Go.ChangeAt Go.RowKit
set_option linter.unusedVariables false
set_option linter.unusedSimpArgs false
set_option maxRecDepth 100000

theorem TRow.at0 {w : World} {base : Nat} {v : Value} {L : List Tm} (h : TRow w base v L) (hp : 0 < L.length) : ∃ g cap, v = .slice (some ⟨g, 0, none⟩) L.length cap ∧ ∀ j x, (tc L)[j]? = some x → w.cell? ⟨g, j, none⟩ = some x := by
  rcases h.own.2 with ⟨rfl, hn⟩ | ⟨g, cap, cur, rfl, hb, hg, r⟩
  · exact absurd hn (by omega)
  · refine ⟨g, cap, rfl, fun j x hx => ?_⟩
    obtain ⟨_, _, _, r4⟩ := r
    have hj : j < (tc L).length := (List.getElem?_eq_some_iff.1 hx).1
    have h1 : cur.toList[j]? = some x := by
      rw [← r4, List.getElem?_take] at hx
      split at hx
      · exact hx
      · cases hx
    have h2 : cur[j]? = some x := by simpa using h1
    simp [World.cell?, hg, h2]
def bT (phase : Int) (done : List Int) : Ct := ⟨1, 2, [1], 2, phase, [1, 2], [1, 2], 0, done⟩
set_option maxHeartbeats 4000000 in
theorem begun23 (w : World) : Calls Try.prog 8 #[] w fun e w' => e = .returned (.bool true) ∧ Keep [] w w' := by
  go_enter Try.func8, Try.ntmps8
  go_wp2_with fail
  refine (New_any 2 2 (by decide)).mono ?_
  rintro e w1 ⟨d, sb, rfl, hd, k1, z1, z2⟩
  go_wp2_with fail
  have hrow : Rv (w1.alloc (.cells #[.int .i64 1] 3)) 1 (.slice (some ⟨w1.heap.size, 0, none⟩) 1 1) 1 (ints [1]) := Rv.new _ (ints [1]) 3 1 1 1 rfl (by omega) w1.heap.size rfl
  have K1 := (Keep.refl [] w1).alloc (.cells #[.int .i64 1] 3)
  have hs1 := k1.size
  refine (Auth.make (lo := w.heap.size) (B := 1) (hd.keep K1 (by simp) (by simp)) (by decide) (by omega) (by decide) _ [1] hrow (by decide) ⟨z1, z2, by simp; omega⟩).mono ?_
  rintro e w2 ⟨c, kb, g, rfl, hA, T2, _, _⟩
  have KK : Keep [] w w2 := T2.after (k1.trans K1) |> fun h => h
  clear hd hrow K1 hs1 T2
  go_wp2_with fail
  refine (hA.join (by omega) (by decide) (by decide) ⟨by decide, by decide⟩ (by decide) rfl 2 (by decide) (by decide)).mono ?_
  rintro e w3 ⟨v, L, rfl, hO, hL, hA3, T3⟩
  have KK3 := T3.after KK
  rw [show bothL (Ct.new [1]).mem (bothL (Ct.new [1]).mem [2] 0) 0 = [1, 2] by decide] at hL
  obtain ⟨y1, L1, rfl, h1, hL1⟩ := List.map_eq_cons_iff.1 hL
  obtain ⟨y2, L2, rfl, h2, hL2⟩ := List.map_eq_cons_iff.1 hL1
  obtain rfl := List.map_eq_nil_iff.1 hL2
  obtain ⟨mg, mcap, rfl, hat⟩ := hO.at0 (by simp)
  have m0 := hat 0 (.int .i64 3) (by show some (Value.int .i64 y1.m.kind) = _; rw [h1]; rfl)
  have m3 := hat 3 (.int .i64 2) (by show some (Value.int .i64 y1.m.epoch) = _; rw [h1]; rfl)
  obtain ⟨t1, ht1⟩ : ∃ t1, t1 = (Ct.new [1]).begun (bothL (Ct.new [1]).mem [2] 0) 0 := ⟨_, rfl⟩
  have hT1 : t1 = ⟨1, 2, [1], 2, 1, [1, 2], [1, 2], 0, []⟩ := by rw [ht1]; unfold Ct.begun; rfl
  rw [← ht1] at hA3
  clear ht1 hat hL hL1 h1 h2 hO hL2 KK T3 hA
  have hU := hA3.under
  have hE := hA3.epoch
  rw [show t1.num = 2 by rw [hT1]] at hU
  rw [show t1.epoch = 1 by rw [hT1]] at hE
  have HT1 := Lib.hid hT1
  clear hT1
  simp only [List.length_cons, List.length_nil]
  go_wp2_with fail
  refine hU.mono ?_
  rintro e w4 ⟨rfl, rfl⟩
  go_wp2_with fail
  refine hE.mono ?_
  rintro e w4 ⟨rfl, rfl⟩
  clear m0 m3 hU hE
  have hbp : ∀ (W : World) (k : Int), (Instr.build 39 #[(0, .int .i64 4), (1, .int .i64 k), (3, .int .i64 2), (11, .bool true)]).run Try.prog W = .ok (msV (wordM 4 k 2 true) (.slice none 0 0) (.slice none 0 0) (.slice none 0 0) (.slice none 0 0)) W := fun W k => run_prepared W k 2 true
  go_wp2_with fail
  have hA4 : Auth w.heap.size w3 c d kb g (bT 1 []) 2 0 (fun _ => none) 0 := by rw [HT1.out] at hA3; exact hA3
  clear HT1 hA3
  go_loopw [5] (fun n wr => ∃ (i : Nat), n = .int .i64 i ∧ ((i = 1 ∧ Auth w.heap.size wr c d kb g (bT 1 []) 2 0 (fun _ => none) 0) ∨ (i = 2 ∧ Auth w.heap.size wr c d kb g (bT 1 [1]) 2 0 (fun _ => none) 0) ∨ (i = 3 ∧ Auth w.heap.size wr c d kb g (bT 2 []) 2 0 (fun _ => none) 0)) ∧ Keep [] w wr) (fun n _ => 4 - (intOf n).toNat)
  case atStart => exact ⟨1, rfl, .inl ⟨rfl, hA4⟩, KK3⟩
  case round =>
    obtain ⟨i, rfl, hc, hK⟩ := hrel
    rcases hc with ⟨rfl, hA⟩ | ⟨rfl, hA⟩ | ⟨rfl, hA⟩
    · go_wp2_with fail
      refine (hA.word_part 4 1 2 true (by decide) (by decide) (by decide) (by decide) (by decide) (.inl ⟨rfl, rfl, by decide, rfl, rfl, by decide⟩)).mono ?_
      rintro e w5 ⟨rfl, hA5, T5⟩
      have K5 := T5.after hK
      go_wp2_with fail
      go_roundw
      case rel => exact ⟨2, rfl, .inr (.inl ⟨rfl, hA5⟩), K5⟩
      case measure => simp [intOf]
    · go_wp2_with fail
      refine (hA.prep_all 2 2 (by decide) (by decide) (by decide) (by decide) (by decide) (by decide) (by decide) ⟨by decide, rfl, rfl, by decide⟩).mono ?_
      rintro e w5 ⟨v, L, rfl, _, _, hA5, T5⟩
      have K5 := T5.after hK
      go_wp2_with fail
      go_roundw
      case rel => exact ⟨3, rfl, .inr (.inr ⟨rfl, hA5⟩), K5⟩
      case measure => simp [intOf]
    · go_wp2_with fail
      refine (hA.word_part 10 1 2 false (by decide) (by decide) (by decide) (by decide) (by decide) (.inr ⟨rfl, by decide, rfl, rfl, by decide⟩)).mono ?_
      rintro e w5 ⟨rfl, hA5, T5⟩
      have K5 := T5.after hK
      have hA6 : Auth w.heap.size w5 c d kb g (bT 2 [1]) 2 0 (fun _ => none) 0 := hA5
      clear hA5 hA hK T5
      go_wp2_with fail
      refine (hA6.froz_go 2 2 false (by decide) (by decide) (by decide) (by decide) (by decide) (by decide) (by decide) ⟨⟨by decide, by decide⟩, ⟨by decide, by decide⟩⟩ ⟨by decide, by decide⟩ (.inl rfl) (by decide) ⟨by decide, rfl, rfl, by decide⟩).mono ?_
      rintro e w6 ⟨v, L, rfl, hO, hL, hA7, T6⟩
      have K6 := T6.after K5
      rw [show bothL (bT 2 [1]).mem (bT 2 [1]).dest 0 = [1, 2] by decide] at hL
      obtain ⟨y1, L1, rfl, h1, hL1⟩ := List.map_eq_cons_iff.1 hL
      obtain ⟨y2, L2, rfl, h2, hL2⟩ := List.map_eq_cons_iff.1 hL1
      obtain rfl := List.map_eq_nil_iff.1 hL2
      obtain ⟨mg, mcap, rfl, hat⟩ := hO.at0 (by simp)
      have m0 := hat 0 (.int .i64 11) (by show some (Value.int .i64 y1.m.kind) = _; rw [h1]; rfl)
      have hU : Calls Try.prog 15 #[.pointer (some ⟨c, 0, none⟩)] w6 fun e w' => e = .returned (.int .i64 0) ∧ w6 = w' := hA7.under
      have hE : Calls Try.prog 14 #[.pointer (some ⟨c, 0, none⟩)] w6 fun e w' => e = .returned (.int .i64 2) ∧ w6 = w' := hA7.epoch
      have hM : Calls Try.prog 21 #[.pointer (some ⟨c, 0, none⟩)] w6 fun e w' => ∃ v', e = .returned v' ∧ Own w' w6.heap.size 3 v' (ints [1, 2]) ∧ Keep [] w6 w' := hA7.members (by decide)
      clear hat hL hL1 h1 h2 hO hL2 hA7 hA6 T6 K5
      simp only [List.length_cons, List.length_nil]
      go_wp2_with fail
      refine hE.mono ?_
      rintro e w7 ⟨rfl, rfl⟩
      go_wp2_with fail
      refine hU.mono ?_
      rintro e w7 ⟨rfl, rfl⟩
      go_wp2_with fail
      refine hM.mono ?_
      rintro e w7 ⟨v7, rfl, hO7, k7⟩
      obtain ⟨va, vc, rfl⟩ := hO7.islice
      simp only [List.length_cons, List.length_nil]
      go_wp2_with fail
      go_ret
      exact ⟨rfl, K6.trans k7⟩
end Go.Proofs.Ytcoaobdijlppgaa
/- The reference: EqInts. -/
namespace Go.Proofs.Ytcoaobdijlppgaa
open Go.ChangeShapes Go.WideShapes Go.ChangeAt Go.RowKit
set_option linter.unusedVariables false
set_option linter.unusedSimpArgs false
set_option maxRecDepth 100000

theorem keepEq {S : List Nat} {a w : World} (h : Keep S a w) (n : Nat) : Keep S a (w.drewN n) := ⟨h.os, h.tape, h.output, h.size, h.block⟩
theorem eq_of_getD {l k : List Int} (hl : l.length = k.length) (h : ∀ i, i < l.length → l.getD i 0 = k.getD i 0) : l = k := by
  apply List.ext_getElem hl
  intro i h1 h2
  have := h i h1
  rw [List.getD_eq_getElem?_getD, List.getD_eq_getElem?_getD, List.getElem?_eq_getElem h1, List.getElem?_eq_getElem h2] at this
  exact this
set_option maxHeartbeats 4000000 in
theorem EqInts_any {w : World} (a b : Value) (la lb : List Int) (ha : Rv w 1 a la.length (ints la)) (hb : Rv w 1 b lb.length (ints lb)) (hla : la.length ≤ 1000000) (hlb : lb.length ≤ 1000000) (r : Bool) (hr : r = decide (la = lb)) :
    Calls Try.prog 16 #[a, b] w fun e w' => e = .returned (.bool r) ∧ Keep [] w w' := by
  have HR := Lib.hid hr
  clear hr
  obtain ⟨_, a1, c1, rfl, _, _⟩ := id ha
  obtain ⟨_, a2, c2, rfl, _, _⟩ := id hb
  by_cases hlen : la.length = lb.length
  case neg =>
    have q : ((la.length : Int) != (lb.length : Int)) = true := by simpa using (by omega : ¬ (la.length : Int) = lb.length)
    have hf : r = false := by rw [HR.out]; exact decide_eq_false (fun e => hlen (by rw [e]))
    have HF := Lib.hid hf
    clear hf
    go_enter Try.func16, Try.ntmps16
    go_wp2_with fail
    go_ret
    exact ⟨by rw [HF.out]; rfl, Keep.refl _ _⟩
  have q : ((la.length : Int) != (lb.length : Int)) = false := by simpa using (by omega : (la.length : Int) = lb.length)
  go_enter Try.func16, Try.ntmps16
  go_wp2_with fail
  go_loopw [5] (fun i wr => Keep [] w wr ∧ ∃ j : Nat, i = .int .i64 j ∧ j ≤ la.length ∧ ∀ k, k < j → la.getD k 0 = lb.getD k 0) (fun i _ => la.length - (intOf i).toNat)
  case atStart => exact ⟨Keep.refl _ _, 0, rfl, by omega, fun k hk => absurd hk (by omega)⟩
  case round =>
    obtain ⟨hK, j, rfl, hj, hall⟩ := hrel
    by_cases hlt : j < la.length
    · have q0 : (j : Int) < la.length := by omega
      have q1 : (j : Int) < lb.length := by omega
      obtain ⟨sa, so, ca, he, _, _, hat⟩ := (ha.keep hK (by simp)).at1 (by omega)
      simp only [Value.slice.injEq] at he
      obtain ⟨rfl, _, rfl⟩ := he
      obtain ⟨sb, so2, cb, he, _, _, hat2⟩ := (hb.keep hK (by simp)).at1 (by omega)
      simp only [Value.slice.injEq] at he
      obtain ⟨rfl, _, rfl⟩ := he
      have hc1 := hat j hlt
      have hc2 := hat2 j (by omega)
      rw [ints_at _ _ hlt] at hc1
      rw [ints_at _ _ (by omega)] at hc2
      have HA := Lib.hid hall
      have HJ := Lib.hid (show (la.getD j 0 = lb.getD j 0 → ∀ k, k < j + 1 → la.getD k 0 = lb.getD k 0) from fun e k hk => by
        by_cases hkj : k < j
        · exact hall k hkj
        · obtain rfl : k = j := by omega
          exact e)
      have HNE := Lib.hid (show (¬ la.getD j 0 = lb.getD j 0 → ¬ la = lb) from fun e h => e (by rw [h]))
      clear hat hat2 hall
      generalize la.getD j 0 = x at *
      generalize lb.getD j 0 = y at *
      by_cases hxy : x = y
      · have q2 : (x != y) = false := by simpa using hxy
        have HX := Lib.hid hxy
        clear hxy
        go_wp2_with fail
        go_quiet (fail)
        go_wp2_with fail
        go_roundw
        case rel => exact ⟨keepEq hK nq, j + 1, by go_num, by omega, HJ.out HX.out⟩
        case measure => simp [intOf]; omega
      · have q2 : (x != y) = true := by simpa using hxy
        have HF : Hid (r = false) := Lib.hid (by rw [HR.out]; exact decide_eq_false (HNE.out hxy))
        clear hxy
        go_wp2_with fail
        go_quiet (fail)
        go_wp2_with fail
        go_ret
        exact ⟨by rw [HF.out]; rfl, keepEq hK nq⟩
    · obtain rfl : j = la.length := by omega
      have HF : Hid (r = true) := Lib.hid (by rw [HR.out]; exact decide_eq_true (eq_of_getD hlen hall))
      go_wp2_with fail
      go_ret
      exact ⟨by rw [HF.out]; rfl, hK⟩
def mkEq (x y : Mk) : Prop := x.1 = y.1 ∧ x.2.toList = y.2.toList
theorem mks_ext {l k : List Mk} (hl : l.length = k.length) (h : ∀ i, i < l.length → l.getD i mk0 = k.getD i mk0) : l = k := by
  apply List.ext_getElem hl
  intro i h1 h2
  have := h i h1
  rw [List.getD_eq_getElem?_getD, List.getD_eq_getElem?_getD, List.getElem?_eq_getElem h1, List.getElem?_eq_getElem h2] at this
  exact this
end Go.Proofs.Ytcoaobdijlppgaa
