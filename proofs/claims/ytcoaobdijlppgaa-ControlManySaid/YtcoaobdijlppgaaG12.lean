/- Ctl9, Ctl10 -/
import Derived.Test.YtcoaobdijlppgaaG11
import Derived.Maps.OwnSet
/- The authority: note. -/
namespace Go.Proofs.Ytcoaobdijlppgaa
open Go.ChangeShapes Go.WideShapes Go.ChangeAt Go.RowKit
set_option linter.unusedVariables false
set_option linter.unusedSimpArgs false
set_option maxRecDepth 100000

theorem flipc {P : Program} {f : FuncId} {args : Array Value} {w : World} {v : Value} (h : Calls P f args w fun e w' => e = .returned v ∧ w = w') : Calls P f args w fun e w' => e = .returned v ∧ w' = w :=
  h.mono fun _ _ ⟨a, b⟩ => ⟨a, b.symm⟩
theorem drewn_keep {S : List Nat} {a w : World} (h : Keep S a w) (n : Nat) : Keep S a (w.drewN n) := ⟨h.os, h.tape, h.output, h.size, h.block⟩
theorem drewn_rv {w : World} {v : Value} {n : Nat} {vs : List Value} (h : Rv w 1 v n vs) (k : Nat) : Rv (w.drewN k) 1 v n vs := h.keep (drewn_keep (Keep.refl [] w) k) (by simp)
def Ct.done2 (t : Ct) (fr : Int) : List Int := if fr ∈ t.done then t.done else t.done ++ [fr]
def Ct.full (t : Ct) (fr : Int) : Bool := decide (t.nodes.length ≤ (t.done2 fr).length)
/-- What stands behind a node's word that counts. -/
def Ct.noted (t : Ct) (fr : Int) : Ct := if t.full fr then { t with phase := t.phase + 1, done := [] } else { t with done := t.done2 fr }
def Ct.hears (t : Ct) (ep fr ph : Int) : Prop := t.num ≠ 0 ∧ ep = t.num ∧ t.phase = ph ∧ fr ∈ t.nodes
section
variable {w : World} {c kb s g base : Nat} {t : Ct} {vm vt vn vd : Value}
set_option maxHeartbeats 4000000 in
theorem note_no (h : CtB w c kb s g t vm vt vn vd) (hr : CtR w t vm vt vn vd base) (m : Ms) (vi vk vx vo : Value) (ph : Int) (hno : ¬ t.hears m.epoch m.src ph) :
    Calls Try.prog 35 #[.pointer (some ⟨c, 0, none⟩), msV m vi vk vx vo, .int .i64 ph] w fun e w' => e = .returned (.bool false) ∧ Keep [] w w' := by
  have HNO := Lib.hid hno
  clear hno
  have hM := Blk.new w (msC m vi vk vx vo) 39
  have K0 := (Keep.refl [] w).alloc (.cells (msC m vi vk vx vo).toArray 39)
  have hBa := h.keep K0 (by simp)
  have hRa := hr.still K0
  have hMB : w.heap.size < (w.alloc (.cells (msC m vi vk vx vo).toArray 39)).heap.size := hM.lt
  obtain ⟨na, nc, rfl⟩ := hr.nodes.islice
  obtain ⟨da, dc, rfl⟩ := hr.done.islice
  go_enter Try.func35, Try.ntmps35
  go_upto_region 1 with fail
  clear h hr
  generalize hmb : w.heap.size = mb at *
  generalize w.alloc (.cells (msC m vi vk vx vo).toArray 39) = w0 at *
  obtain ⟨c5, _⟩ := ctc_5 hBa
  obtain ⟨c6, _⟩ := ctc_6 hBa
  obtain ⟨c8, _⟩ := ctc_8 hBa
  have m1 := msc_1 hM
  have m3 := msc_3 hM
  by_cases g1 : t.num = 0
  · have q1 : (t.num == 0) = true := by simpa using g1
    go_quiet (fail)
    have K1 := drewn_keep K0 nq
    generalize w0.drewN nq = w1 at *
    clear c5 c6 c8 m1 m3
    go_wp2_with fail
    go_ret
    exact ⟨rfl, K1⟩
  have q1 : (t.num == 0) = false := by simpa using g1
  by_cases g2 : m.epoch = t.num
  case neg =>
    have q2 : (m.epoch != t.num) = true := by simpa using g2
    go_quiet (fail)
    have K1 := drewn_keep K0 nq
    generalize w0.drewN nq = w1 at *
    clear c5 c6 c8 m1 m3
    go_wp2_with fail
    go_ret
    exact ⟨rfl, K1⟩
  have q2 : (m.epoch != t.num) = false := by simpa using g2
  by_cases g3 : t.phase = ph
  case neg =>
    have q3 : (t.phase != ph) = true := by simpa using g3
    go_quiet (fail)
    have K1 := drewn_keep K0 nq
    generalize w0.drewN nq = w1 at *
    clear c5 c6 c8 m1 m3
    go_wp2_with fail
    go_ret
    exact ⟨rfl, K1⟩
  have q3 : (t.phase != ph) = false := by simpa using g3
  have g4 : ¬ m.src ∈ t.nodes := fun h => HNO.out ⟨g1, g2, g3, h⟩
  clear g1 g2 g3
  go_quiet ((go_at_call 30; refine Calls.quiet_of_same (flipc (Contains_any _ t.nodes m.src (drewn_rv hRa.nodes.irv _) (by have := hRa.nodesn; omega) false (decide_eq_false g4).symm))))
  have K1 := drewn_keep K0 nq
  generalize w0.drewN nq = w1 at *
  clear c5 c6 c8 m1 m3
  go_wp2_with fail
  go_ret
  exact ⟨rfl, K1⟩
end
def noteJ (w0 : World) (c kb s g mb base : Nat) (t : Ct) (D2 : List Int) (vm vt vn : Value) (da : Option Addr) (dc : Nat) (m : Ms) (vi vk vx vo : Value) (l : Nat → Bool) (x : Nat → Value) (w' : World) : Prop :=
  ∃ ua uc sb, (l 13 = false → CtB w' c kb s g t vm vt vn (Value.slice da t.done.length dc)) ∧
  (l 13 = true → CtB w' c kb s g { t with done := D2 } vm vt vn (Value.slice ua D2.length uc)) ∧
  (Blk w' mb (msC m vi vk vx vo) 39) ∧
  (l 9 = false → CtR w' t vm vt vn (Value.slice da t.done.length dc) base) ∧
  (l 9 = true → CtR w' { t with done := D2 } vm vt vn (Value.slice ua D2.length uc) base) ∧
  (Keep (c :: (Value.slice da t.done.length dc).ownBlock.toList) w0 w') ∧
  (l 13 = true → l 9 = true) ∧
  (l 0 = true → x 0 = .pointer (some ⟨c, 0, none⟩)) ∧
  (l 1 = true → x 1 = .pointer (some ⟨c, 0, none⟩)) ∧
  (l 2 = true → x 2 = .pointer (some ⟨c, 0, none⟩)) ∧
  (l 3 = true → x 3 = .pointer (some ⟨c, 5, none⟩)) ∧
  (l 4 = true → x 4 = .pointer (some ⟨c, 10, none⟩)) ∧
  (l 5 = true → l 9 = false → x 5 = (Value.slice da t.done.length dc)) ∧
  (l 6 = true → x 6 = .pointer (some ⟨mb, 1, none⟩)) ∧
  (l 7 = true → x 7 = .int .i64 m.src) ∧
  (l 8 = true → (l 8 = true) ∧ (l 9 = false → x 8 = .slice (some ⟨sb, 0, none⟩) 1 1 ∧ w'.cell? ⟨sb, 0, none⟩ = some (.int .i64 m.src))) ∧
  (l 9 = true → x 9 = (Value.slice ua D2.length uc) ∧ l 5 = true ∧ l 8 = true) ∧
  (l 10 = true → x 10 = .pointer (some ⟨c, 0, none⟩)) ∧
  (l 11 = true → x 11 = .pointer (some ⟨c, 5, none⟩)) ∧
  (l 12 = true → x 12 = .pointer (some ⟨c, 10, none⟩)) ∧
  (l 13 = true → True)
section
variable {w : World} {c kb s g base : Nat} {t : Ct} {vm vt vn vd : Value}
set_option maxHeartbeats 8000000 in
theorem note_has_false (h : CtB w c kb s g t vm vt vn vd) (hr : CtR w t vm vt vn vd base) (hbs : base ≤ w.heap.size) (hdn : t.done.length ≤ 4) (hph : 0 ≤ t.phase ∧ t.phase ≤ 10) (m : Ms) (vi vk vx vo : Value) (hy : t.hears m.epoch m.src t.phase) (hin : m.src ∈ t.done) (hf : t.full m.src = false) :
    Calls Try.prog 35 #[.pointer (some ⟨c, 0, none⟩), msV m vi vk vx vo, .int .i64 t.phase] w fun e w' => ∃ vd', e = .returned (.bool (t.full m.src)) ∧ CtB w' c kb s g (t.noted m.src) vm vt vn vd' ∧ CtR w' (t.noted m.src) vm vt vn vd' base ∧ Keep (c :: vd.ownBlock.toList) w w' := by
  obtain ⟨D2, hD2⟩ : ∃ D, D = t.done2 m.src := ⟨_, rfl⟩
  have HN : t.noted m.src = { t with done := D2 } := (by unfold Ct.noted; rw [hf]; rw [hD2]; rfl)
  have HL : Hid (decide ((D2.length : Int) < t.nodes.length) = true) := Lib.hid (by have h1 := hf; unfold Ct.full at h1; rw [← hD2] at h1; simp at h1; exact decide_eq_true (by omega))
  rw [hf, HN]
  clear HN
  have hD : D2 = t.done := by rw [hD2]; unfold Ct.done2; rw [if_pos hin]
  rw [hD] at HL
  clear hf hD2
  rw [show ({ t with done := D2 } : Ct) = t by rw [hD]]
  have hM := Blk.new w (msC m vi vk vx vo) 39
  have K0 := (Keep.refl [] w).alloc (.cells (msC m vi vk vx vo).toArray 39)
  have hBa := h.keep K0 (by simp)
  have hRa := hr.still K0
  have hMB : w.heap.size < (w.alloc (.cells (msC m vi vk vx vo).toArray 39)).heap.size := hM.lt
  obtain ⟨na, nc, rfl⟩ := hr.nodes.islice
  obtain ⟨da, dc, rfl⟩ := hr.done.islice
  go_enter Try.func35, Try.ntmps35
  go_upto_region 1 with fail
  clear h hr
  generalize hmb : w.heap.size = mb at *
  generalize w.alloc (.cells (msC m vi vk vx vo).toArray 39) = w0 at *
  obtain ⟨c5, _⟩ := ctc_5 hBa
  obtain ⟨c6, _⟩ := ctc_6 hBa
  obtain ⟨c8, _⟩ := ctc_8 hBa
  have m1 := msc_1 hM
  have m3 := msc_3 hM
  obtain ⟨y1, y2, _, y4⟩ := hy
  have q1 : (t.num == 0) = false := by simpa using y1
  have q2 : (m.epoch != t.num) = false := by simpa using y2
  have q3 : (t.phase != t.phase) = false := by simp
  go_quiet ((go_at_call 30; refine Calls.quiet_of_same (flipc (Contains_any _ t.nodes m.src (drewn_rv hRa.nodes.irv _) (by have := hRa.nodesn; omega) true (decide_eq_true y4).symm))))
  have K1 := drewn_keep K0 nq
  have hB1 := hBa.keep (drewn_keep (Keep.refl [] w0) nq) (by simp)
  have hR1 := hRa.still (drewn_keep (Keep.refl [] w0) nq)
  have hM1 := hM.keep (drewn_keep (Keep.refl [] w0) nq) (by simp)
  clear c5 c6 c8 m1 m3 K0 hBa hRa hM y1 y2 y4 q1 q2 q3
  generalize w0.drewN nq = w1 at *
  go_upto_region 3 with fail
  obtain ⟨c10, _⟩ := ctc_10 hB1
  have m1 := msc_1 hM1
  go_quiet ((go_at_call 30; refine Calls.quiet_of_same (flipc (Contains_any _ t.done m.src (drewn_rv hR1.done.irv _) (by have := hR1.donen; omega) true (decide_eq_true hin).symm))))
  have K2 := drewn_keep K1 nq
  have hB := hB1.keep (drewn_keep (Keep.refl [] w1) nq) (by simp)
  have hR := hR1.still (drewn_keep (Keep.refl [] w1) nq)
  clear c10 m1 K1 hB1 hR1 hM1
  generalize w1.drewN nq = w2 at *
  go_upto_region 5 with fail
  have KT : Keep (c :: (Value.slice da t.done.length dc).ownBlock.toList) w w2 := K2.mono (by simp)
  obtain ⟨c10, _⟩ := ctc_10 hB
  obtain ⟨c8, _⟩ := ctc_8 hB
  have q5 := HL.out
  have q6 : decide (t.done.length < t.nodes.length) = true := by have := HL.out; simpa using this
  go_quiet (fail)
  have hB' := hB.keep (drewn_keep (Keep.refl [] _) nq) (by simp)
  have hR' := hR.still (drewn_keep (Keep.refl [] _) nq)
  have K' := drewn_keep KT nq
  generalize w2.drewN nq = w7 at *
  clear c10 c8
  go_wp2_with fail
  go_ret
  exact ⟨rfl, _, hB', hR', K'⟩
set_option maxHeartbeats 8000000 in
theorem note_has_true (h : CtB w c kb s g t vm vt vn vd) (hr : CtR w t vm vt vn vd base) (hbs : base ≤ w.heap.size) (hdn : t.done.length ≤ 4) (hph : 0 ≤ t.phase ∧ t.phase ≤ 10) (m : Ms) (vi vk vx vo : Value) (hy : t.hears m.epoch m.src t.phase) (hin : m.src ∈ t.done) (hf : t.full m.src = true) :
    Calls Try.prog 35 #[.pointer (some ⟨c, 0, none⟩), msV m vi vk vx vo, .int .i64 t.phase] w fun e w' => ∃ vd', e = .returned (.bool (t.full m.src)) ∧ CtB w' c kb s g (t.noted m.src) vm vt vn vd' ∧ CtR w' (t.noted m.src) vm vt vn vd' base ∧ Keep (c :: vd.ownBlock.toList) w w' := by
  obtain ⟨D2, hD2⟩ : ∃ D, D = t.done2 m.src := ⟨_, rfl⟩
  have HN : t.noted m.src = { t with phase := t.phase + 1, done := [] } := (by unfold Ct.noted; rw [hf]; rfl)
  have HL : Hid (decide ((D2.length : Int) < t.nodes.length) = false) := Lib.hid (by have h1 := hf; unfold Ct.full at h1; rw [← hD2] at h1; simp at h1; exact decide_eq_false (by omega))
  rw [hf, HN]
  clear HN
  have hD : D2 = t.done := by rw [hD2]; unfold Ct.done2; rw [if_pos hin]
  rw [hD] at HL
  clear hf hD2
  have hM := Blk.new w (msC m vi vk vx vo) 39
  have K0 := (Keep.refl [] w).alloc (.cells (msC m vi vk vx vo).toArray 39)
  have hBa := h.keep K0 (by simp)
  have hRa := hr.still K0
  have hMB : w.heap.size < (w.alloc (.cells (msC m vi vk vx vo).toArray 39)).heap.size := hM.lt
  obtain ⟨na, nc, rfl⟩ := hr.nodes.islice
  obtain ⟨da, dc, rfl⟩ := hr.done.islice
  go_enter Try.func35, Try.ntmps35
  go_upto_region 1 with fail
  clear h hr
  generalize hmb : w.heap.size = mb at *
  generalize w.alloc (.cells (msC m vi vk vx vo).toArray 39) = w0 at *
  obtain ⟨c5, _⟩ := ctc_5 hBa
  obtain ⟨c6, _⟩ := ctc_6 hBa
  obtain ⟨c8, _⟩ := ctc_8 hBa
  have m1 := msc_1 hM
  have m3 := msc_3 hM
  obtain ⟨y1, y2, _, y4⟩ := hy
  have q1 : (t.num == 0) = false := by simpa using y1
  have q2 : (m.epoch != t.num) = false := by simpa using y2
  have q3 : (t.phase != t.phase) = false := by simp
  go_quiet ((go_at_call 30; refine Calls.quiet_of_same (flipc (Contains_any _ t.nodes m.src (drewn_rv hRa.nodes.irv _) (by have := hRa.nodesn; omega) true (decide_eq_true y4).symm))))
  have K1 := drewn_keep K0 nq
  have hB1 := hBa.keep (drewn_keep (Keep.refl [] w0) nq) (by simp)
  have hR1 := hRa.still (drewn_keep (Keep.refl [] w0) nq)
  have hM1 := hM.keep (drewn_keep (Keep.refl [] w0) nq) (by simp)
  clear c5 c6 c8 m1 m3 K0 hBa hRa hM y1 y2 y4 q1 q2 q3
  generalize w0.drewN nq = w1 at *
  go_upto_region 3 with fail
  obtain ⟨c10, _⟩ := ctc_10 hB1
  have m1 := msc_1 hM1
  go_quiet ((go_at_call 30; refine Calls.quiet_of_same (flipc (Contains_any _ t.done m.src (drewn_rv hR1.done.irv _) (by have := hR1.donen; omega) true (decide_eq_true hin).symm))))
  have K2 := drewn_keep K1 nq
  have hB := hB1.keep (drewn_keep (Keep.refl [] w1) nq) (by simp)
  have hR := hR1.still (drewn_keep (Keep.refl [] w1) nq)
  clear c10 m1 K1 hB1 hR1 hM1
  generalize w1.drewN nq = w2 at *
  go_upto_region 5 with fail
  have KT : Keep (c :: (Value.slice da t.done.length dc).ownBlock.toList) w w2 := K2.mono (by simp)
  obtain ⟨c10, _⟩ := ctc_10 hB
  obtain ⟨c8, _⟩ := ctc_8 hB
  have q5 := HL.out
  have q6 : decide (t.done.length < t.nodes.length) = false := by have := HL.out; simpa using this
  go_quiet (fail)
  have hB' := hB.keep (drewn_keep (Keep.refl [] _) nq) (by simp)
  have hR' := hR.still (drewn_keep (Keep.refl [] _) nq)
  have K' := drewn_keep KT nq
  generalize w2.drewN nq = w7 at *
  clear c10 c8
  obtain ⟨b6, f6⟩ := ctc_6 hB'
  obtain ⟨b10, f10⟩ := ctc_10 hB'
  go_wp2_with fail
  go_ret
  have k4 : Keep [c] w7 ((w7.setCell ⟨c, 6, none⟩ (.int .i64 (t.phase + 1))).setCell ⟨c, 10, none⟩ (.slice none 0 0)) := ((Keep.refl _ _).setCell (.inl (by simp)) _).setCell (.inl (by simp)) _
  have htc : ∀ q ∈ [c], ¬ Ty w7 q 3 := fun q hq ht => by simp at hq; subst hq; exact (Blk.ty hB').ne ht (by decide) rfl
  have hR8 := hR'.keep k4 htc
  have hQ : CtB ((w7.setCell ⟨c, 6, none⟩ (.int .i64 (t.phase + 1))).setCell ⟨c, 10, none⟩ (.slice none 0 0)) c kb s g { t with phase := t.phase + 1, done := [] } vm vt (.slice na t.nodes.length nc) (.slice none 0 0) := (Blk.set hB' 6 _).set 10 _
  exact ⟨rfl, _, hQ, ⟨hR8.mem, hR8.dest, hR8.nodes, Own.nil _ _ _, hR8.l1, hR8.l2, hR8.l3, hR8.memn, hR8.ton, hR8.nodesn, by simp⟩, K'.trans (k4.mono (by simp))⟩
set_option maxHeartbeats 8000000 in
theorem note_add_false (h : CtB w c kb s g t vm vt vn vd) (hr : CtR w t vm vt vn vd base) (hbs : base ≤ w.heap.size) (hdn : t.done.length ≤ 4) (hph : 0 ≤ t.phase ∧ t.phase ≤ 10) (m : Ms) (vi vk vx vo : Value) (hy : t.hears m.epoch m.src t.phase) (hin : ¬ m.src ∈ t.done) (hf : t.full m.src = false) :
    Calls Try.prog 35 #[.pointer (some ⟨c, 0, none⟩), msV m vi vk vx vo, .int .i64 t.phase] w fun e w' => ∃ vd', e = .returned (.bool (t.full m.src)) ∧ CtB w' c kb s g (t.noted m.src) vm vt vn vd' ∧ CtR w' (t.noted m.src) vm vt vn vd' base ∧ Keep (c :: vd.ownBlock.toList) w w' := by
  obtain ⟨D2, hD2⟩ : ∃ D, D = t.done2 m.src := ⟨_, rfl⟩
  have HN : t.noted m.src = { t with done := D2 } := (by unfold Ct.noted; rw [hf]; rw [hD2]; rfl)
  have HL : Hid (decide ((D2.length : Int) < t.nodes.length) = true) := Lib.hid (by have h1 := hf; unfold Ct.full at h1; rw [← hD2] at h1; simp at h1; exact decide_eq_true (by omega))
  rw [hf, HN]
  clear HN
  have HD : Hid (D2 = t.done ++ [m.src]) := Lib.hid (by rw [hD2]; unfold Ct.done2; rw [if_neg hin])
  have HD5 : Hid (D2.length ≤ 5) := Lib.hid (by rw [HD.out, List.length_append]; simp; omega)
  have HDN := Lib.hid hdn
  clear hf hD2 hdn
  obtain ⟨i0, hi0, hz0, hz1, hz2⟩ := info_parts Try.infoI
  have hM := Blk.new w (msC m vi vk vx vo) 39
  have K0 := (Keep.refl [] w).alloc (.cells (msC m vi vk vx vo).toArray 39)
  have hBa := h.keep K0 (by simp)
  have hRa := hr.still K0
  have hMB : w.heap.size < (w.alloc (.cells (msC m vi vk vx vo).toArray 39)).heap.size := hM.lt
  obtain ⟨na, nc, rfl⟩ := hr.nodes.islice
  obtain ⟨da, dc, rfl⟩ := hr.done.islice
  have HBW := Lib.hid hbs
  clear hbs
  go_enter Try.func35, Try.ntmps35
  go_upto_region 1 with fail
  clear h hr
  generalize hmb : w.heap.size = mb at *
  generalize w.alloc (.cells (msC m vi vk vx vo).toArray 39) = w0 at *
  obtain ⟨c5, _⟩ := ctc_5 hBa
  obtain ⟨c6, _⟩ := ctc_6 hBa
  obtain ⟨c8, _⟩ := ctc_8 hBa
  have m1 := msc_1 hM
  have m3 := msc_3 hM
  obtain ⟨y1, y2, _, y4⟩ := hy
  have q1 : (t.num == 0) = false := by simpa using y1
  have q2 : (m.epoch != t.num) = false := by simpa using y2
  have q3 : (t.phase != t.phase) = false := by simp
  go_quiet ((go_at_call 30; refine Calls.quiet_of_same (flipc (Contains_any _ t.nodes m.src (drewn_rv hRa.nodes.irv _) (by have := hRa.nodesn; omega) true (decide_eq_true y4).symm))))
  have K1 := drewn_keep K0 nq
  have hB1 := hBa.keep (drewn_keep (Keep.refl [] w0) nq) (by simp)
  have hR1 := hRa.still (drewn_keep (Keep.refl [] w0) nq)
  have hM1 := hM.keep (drewn_keep (Keep.refl [] w0) nq) (by simp)
  clear c5 c6 c8 m1 m3 K0 hBa hRa hM y1 y2 y4 q1 q2 q3
  generalize w0.drewN nq = w1 at *
  go_upto_region 3 with fail
  obtain ⟨c10, _⟩ := ctc_10 hB1
  have m1 := msc_1 hM1
  go_quiet ((go_at_call 30; refine Calls.quiet_of_same (flipc (Contains_any _ t.done m.src (drewn_rv hR1.done.irv _) (by have := hR1.donen; omega) false (decide_eq_false hin).symm))))
  have K2 := drewn_keep K1 nq
  have hB0 := hB1.keep (drewn_keep (Keep.refl [] w1) nq) (by simp)
  have hR0 := hR1.still (drewn_keep (Keep.refl [] w1) nq)
  have hM0 := hM1.keep (drewn_keep (Keep.refl [] w1) nq) (by simp)
  clear c10 m1 K1 hB1 hR1 hM1
  generalize w1.drewN nq = w2 at *
  have HBS : Hid (base ≤ w2.heap.size) := Lib.hid (by have := HBW.out; have := K2.size; omega)
  go_upto_region 4 with fail
  refine wp_region_inv (noteJ w2 c kb s g mb base t D2 vm vt (.slice na t.nodes.length nc) da dc m vi vk vx vo) (by kernel_rfl) (by kernel_rfl) (by kernel_rfl) ?_ (Steps.cons 0 ?_ (Steps.cons 1 ?_ (Steps.cons 2 ?_ (Steps.cons 3 ?_ (Steps.cons 4 ?_ (Steps.cons 5 ?_ (Steps.cons 6 ?_ (Steps.cons 7 ?_ (Steps.cons 8 ?_ (Steps.cons 9 ?_ (Steps.cons 10 ?_ (Steps.cons 11 ?_ (Steps.cons 12 ?_ (Steps.cons 13 ?_ (Steps.nil 14))))))))))))))) 14 rfl ?_
  · intro x
    exact ⟨none, 0, 0, fun _ => hB0.keep (Keep.refl [] _).drew (by simp), fun h => absurd h (by decide), hM0.drew, fun _ => hR0.still (Keep.refl [] _).drew, fun h => absurd h (by decide), (Keep.refl _ _).drew, fun h => absurd h (by decide), fun h => absurd h (by decide), fun h => absurd h (by decide), fun h => absurd h (by decide), fun h => absurd h (by decide), fun h => absurd h (by decide), fun h => absurd h (by decide), fun h => absurd h (by decide), fun h => absurd h (by decide), fun h => absurd h (by decide), fun h => absurd h (by decide), fun h => absurd h (by decide), fun h => absurd h (by decide), fun h => absurd h (by decide), fun h => absurd h (by decide)⟩
  · intro l x w' hJ hi hd
    obtain ⟨ua, uc, sb, hB1, hB2, hM, hR1, hR2, hK, d13, h0, h1, h2, h3, h4, h5, h6, h7, h8, h9, h10, h11, h12, h13⟩ := hJ
    refine Runs.of (b := ?bN0) ?eN0 ?_
    case eN0 => simp only [putV, Act.put, List.setIfInBounds_toArray, List.set_cons_zero, List.set_cons_succ]; rfl
    intro K' hK'
    go_simp
    exact hK'.go _ rfl ⟨ua, uc, sb, hB1, hB2, hM, hR1, hR2, hK, d13, fun _ => rfl, h1, h2, h3, h4, h5, h6, h7, h8, h9, h10, h11, h12, h13⟩
  · intro l x w' hJ hi hd
    obtain ⟨ua, uc, sb, hB1, hB2, hM, hR1, hR2, hK, d13, h0, h1, h2, h3, h4, h5, h6, h7, h8, h9, h10, h11, h12, h13⟩ := hJ
    refine Runs.of (b := ?bN1) ?eN1 ?_
    case eN1 => simp only [putV, Act.put, List.setIfInBounds_toArray, List.set_cons_zero, List.set_cons_succ]; rfl
    intro K' hK'
    go_simp
    exact hK'.go _ rfl ⟨ua, uc, sb, hB1, hB2, hM, hR1, hR2, hK, d13, h0, fun _ => rfl, h2, h3, h4, h5, h6, h7, h8, h9, h10, h11, h12, h13⟩
  · intro l x w' hJ hi hd
    obtain ⟨ua, uc, sb, hB1, hB2, hM, hR1, hR2, hK, d13, h0, h1, h2, h3, h4, h5, h6, h7, h8, h9, h10, h11, h12, h13⟩ := hJ
    have e1 := h1 (show l 1 = true by first | exact hd.1 rfl | exact hd.2.1 rfl | exact hd.2.2.1 rfl | exact hd.2.2.2.1 rfl | exact hd.2.2.2.2.1 rfl | exact hd.2.2.2.2.2.1 rfl)
    refine Runs.of (b := ?bN2) ?eN2 ?_
    case eN2 => simp only [putV, Act.put, List.setIfInBounds_toArray, List.set_cons_zero, List.set_cons_succ, e1]; rfl
    intro K' hK'
    go_simp
    exact hK'.go _ rfl ⟨ua, uc, sb, hB1, hB2, hM, hR1, hR2, hK, d13, h0, h1, fun _ => rfl, h3, h4, h5, h6, h7, h8, h9, h10, h11, h12, h13⟩
  · intro l x w' hJ hi hd
    obtain ⟨ua, uc, sb, hB1, hB2, hM, hR1, hR2, hK, d13, h0, h1, h2, h3, h4, h5, h6, h7, h8, h9, h10, h11, h12, h13⟩ := hJ
    have e2 := h2 (show l 2 = true by first | exact hd.1 rfl | exact hd.2.1 rfl | exact hd.2.2.1 rfl | exact hd.2.2.2.1 rfl | exact hd.2.2.2.2.1 rfl | exact hd.2.2.2.2.2.1 rfl)
    refine Runs.of (b := ?bN3) ?eN3 ?_
    case eN3 => simp only [putV, Act.put, List.setIfInBounds_toArray, List.set_cons_zero, List.set_cons_succ, e2]; rfl
    intro K' hK'
    go_simp
    exact hK'.go _ rfl ⟨ua, uc, sb, hB1, hB2, hM, hR1, hR2, hK, d13, h0, h1, h2, fun _ => rfl, h4, h5, h6, h7, h8, h9, h10, h11, h12, h13⟩
  · intro l x w' hJ hi hd
    obtain ⟨ua, uc, sb, hB1, hB2, hM, hR1, hR2, hK, d13, h0, h1, h2, h3, h4, h5, h6, h7, h8, h9, h10, h11, h12, h13⟩ := hJ
    have e3 := h3 (show l 3 = true by first | exact hd.1 rfl | exact hd.2.1 rfl | exact hd.2.2.1 rfl | exact hd.2.2.2.1 rfl | exact hd.2.2.2.2.1 rfl | exact hd.2.2.2.2.2.1 rfl)
    refine Runs.of (b := ?bN4) ?eN4 ?_
    case eN4 => simp only [putV, Act.put, List.setIfInBounds_toArray, List.set_cons_zero, List.set_cons_succ, e3]; rfl
    intro K' hK'
    go_simp
    exact hK'.go _ rfl ⟨ua, uc, sb, hB1, hB2, hM, hR1, hR2, hK, d13, h0, h1, h2, h3, fun _ => rfl, h5, h6, h7, h8, h9, h10, h11, h12, h13⟩
  · intro l x w' hJ hi hd
    obtain ⟨ua, uc, sb, hB1, hB2, hM, hR1, hR2, hK, d13, h0, h1, h2, h3, h4, h5, h6, h7, h8, h9, h10, h11, h12, h13⟩ := hJ
    have e4 := h4 (show l 4 = true by first | exact hd.1 rfl | exact hd.2.1 rfl | exact hd.2.2.1 rfl | exact hd.2.2.2.1 rfl | exact hd.2.2.2.2.1 rfl | exact hd.2.2.2.2.2.1 rfl)
    have l13 : l 13 = false := by cases hh : l 13 with | false => rfl | true => have := (d13 hh); have := (h9 this).2.1; rw [hi] at this; cases this
    have cc := (ctc_10 (hB1 l13)).1
    refine Runs.of (b := ?bN5) ?eN5 ?_
    case eN5 => simp only [putV, Act.put, List.setIfInBounds_toArray, List.set_cons_zero, List.set_cons_succ, e4, e4]; rfl
    intro K' hK'
    go_simp
    exact hK'.go _ rfl ⟨ua, uc, sb, hB1, hB2, hM, hR1, hR2, hK, d13, h0, h1, h2, h3, h4, fun _ => fun _ => rfl, h6, h7, h8, fun h => absurd ((h9 h).2.1.symm.trans hi) (by decide), h10, h11, h12, h13⟩
  · intro l x w' hJ hi hd
    obtain ⟨ua, uc, sb, hB1, hB2, hM, hR1, hR2, hK, d13, h0, h1, h2, h3, h4, h5, h6, h7, h8, h9, h10, h11, h12, h13⟩ := hJ
    refine Runs.of (b := ?bN6) ?eN6 ?_
    case eN6 => simp only [putV, Act.put, List.setIfInBounds_toArray, List.set_cons_zero, List.set_cons_succ]; rfl
    intro K' hK'
    go_simp
    exact hK'.go _ rfl ⟨ua, uc, sb, hB1, hB2, hM, hR1, hR2, hK, d13, h0, h1, h2, h3, h4, h5, fun _ => rfl, h7, h8, h9, h10, h11, h12, h13⟩
  · intro l x w' hJ hi hd
    obtain ⟨ua, uc, sb, hB1, hB2, hM, hR1, hR2, hK, d13, h0, h1, h2, h3, h4, h5, h6, h7, h8, h9, h10, h11, h12, h13⟩ := hJ
    have e6 := h6 (show l 6 = true by first | exact hd.1 rfl | exact hd.2.1 rfl | exact hd.2.2.1 rfl | exact hd.2.2.2.1 rfl | exact hd.2.2.2.2.1 rfl | exact hd.2.2.2.2.2.1 rfl)
    have cc := msc_1 hM
    refine Runs.of (b := ?bN7) ?eN7 ?_
    case eN7 => simp only [putV, Act.put, List.setIfInBounds_toArray, List.set_cons_zero, List.set_cons_succ, e6]; rfl
    intro K' hK'
    go_simp
    exact hK'.go _ rfl ⟨ua, uc, sb, hB1, hB2, hM, hR1, hR2, hK, d13, h0, h1, h2, h3, h4, h5, h6, fun _ => rfl, h8, h9, h10, h11, h12, h13⟩
  · intro l x w' hJ hi hd
    obtain ⟨ua, uc, sb, hB1, hB2, hM, hR1, hR2, hK, d13, h0, h1, h2, h3, h4, h5, h6, h7, h8, h9, h10, h11, h12, h13⟩ := hJ
    have e7 := h7 (show l 7 = true by first | exact hd.1 rfl | exact hd.2.1 rfl | exact hd.2.2.1 rfl | exact hd.2.2.2.1 rfl | exact hd.2.2.2.2.1 rfl | exact hd.2.2.2.2.2.1 rfl)
    refine Runs.of (b := ?bN8) ?eN8 ?_
    case eN8 => simp only [putV, Act.put, List.setIfInBounds_toArray, List.set_cons_zero, List.set_cons_succ, e7]; rfl
    intro K' hK'
    go_simp
    exact hK'.go _ rfl ⟨ua, uc, w'.heap.size, fun h => (hB1 h).keep ((Keep.refl [] _).alloc _) (by simp), fun h => (hB2 h).keep ((Keep.refl [] _).alloc _) (by simp), hM.alloc _, fun h => (hR1 h).still ((Keep.refl [] _).alloc _), fun h => (hR2 h).still ((Keep.refl [] _).alloc _), hK.alloc _, d13, h0, h1, h2, h3, h4, h5, h6, h7, fun _ => ⟨rfl, fun _ => ⟨rfl, (Blk.new w' [.int .i64 m.src] 3).cell 0⟩⟩, fun h => absurd ((h9 h).2.2.symm.trans hi) (by decide), h10, h11, h12, h13⟩
  · intro l x w' hJ hi hd
    obtain ⟨ua, uc, sb, hB1, hB2, hM, hR1, hR2, hK, d13, h0, h1, h2, h3, h4, h5, h6, h7, h8, h9, h10, h11, h12, h13⟩ := hJ
    have L5 := Lib.hid (show l 5 = true by first | exact hd.1 rfl | exact hd.2.1 rfl | exact hd.2.2.1 rfl | exact hd.2.2.2.1 rfl | exact hd.2.2.2.2.1 rfl | exact hd.2.2.2.2.2.1 rfl)
    have L8 := Lib.hid (show l 8 = true by first | exact hd.1 rfl | exact hd.2.1 rfl | exact hd.2.2.1 rfl | exact hd.2.2.2.1 rfl | exact hd.2.2.2.2.1 rfl | exact hd.2.2.2.2.2.1 rfl)
    have e5 := h5 L5.out hi
    obtain ⟨_, h8b⟩ := h8 L8.out
    obtain ⟨e8, hb8⟩ := h8b hi
    have l13 : l 13 = false := by cases hh : l 13 with | false => rfl | true => have := d13 hh; rw [hi] at this; cases this
    have hRR := hR1 hi
    have hO := hRR.done
    have hsrc := src_at (P := Try.prog) Try.underlying37 w' _ _ hb8 rfl
    have hsz := hK.size
    have hdn := HDN.out
    have hbs := HBS.out
    refine Runs.of (b := ?bN9) ?eN9 ?_
    case eN9 => simp only [putV, Act.put, List.setIfInBounds_toArray, List.set_cons_zero, List.set_cons_succ, e5, e8]; rfl
    intro K' hK'
    refine step_append_src _ rfl _ _ 37 37 rfl base 3 i0 (.int .i64 0) 1 8 Try.underlying37 hi0 hz0 hz1 hz2 rfl (by decide) (Value.slice da t.done.length dc) (ints t.done).length (ints t.done) rfl hO _ 1 _ rfl hsrc (by rw [ints_length]; unfold maxLen; omega) (by rw [ints_length]; omega) (by omega) ?_
    intro v9 w4 h1' h2' _ h3'
    have hO9 := Own.app rfl h1'
    rw [show ints t.done ++ [Value.int .i64 m.src] = ints D2 by rw [HD.out, ints_append]; rfl] at hO9
    obtain ⟨ua', uc', rfl⟩ := hO9.islice
    have k2 := Keep.grown h2'
    have hT : ∀ q ∈ (Value.slice da t.done.length dc).ownBlock.toList, Ty w' q 3 := fun q hq => hO.ty q (Option.mem_toList.1 hq)
    have hge : ∀ q ∈ (Value.slice da t.done.length dc).ownBlock.toList, base ≤ q := fun q hq => (hO.lt q (Option.mem_toList.1 hq)).1
    have hR9 : CtR w4 { t with done := D2 } vm vt (.slice na t.nodes.length nc) (Value.slice ua' D2.length uc') base := ⟨hRR.mem.keep k2 (fun b hb hm => by have := hge b hm; have := hRR.l1 b hb; omega), hRR.dest.keep k2 (fun b hb hm => by have := hge b hm; have := hRR.l2 b hb; omega), hRR.nodes.keep k2 (fun b hb hm => by have := hge b hm; have := hRR.l3 b hb; omega), hO9, hRR.l1, hRR.l2, hRR.l3, hRR.memn, hRR.ton, hRR.nodesn, HD5.out⟩
    exact hK'.go _ rfl ⟨ua', uc', sb, fun h => (hB1 h).keep k2 (fun hm => (Blk.ty (hB1 h)).ne (hT _ hm) (by decide) rfl), fun h => absurd (l13.symm.trans h) (by decide), hM.keep k2 (fun hm => hM.ty.ne (hT _ hm) (by decide) rfl), fun h => Bool.noConfusion (show true = false from h), fun _ => hR9, hK.trans (k2.mono (fun q hq _ => List.mem_cons_of_mem _ hq)), fun _ => rfl, h0, h1, h2, h3, h4, fun _ h => Bool.noConfusion (show true = false from h), h6, h7, fun h => ⟨(h8 h).1, fun h' => Bool.noConfusion (show true = false from h')⟩, fun _ => ⟨rfl, L5.out, L8.out⟩, h10, h11, h12, h13⟩
  · intro l x w' hJ hi hd
    obtain ⟨ua, uc, sb, hB1, hB2, hM, hR1, hR2, hK, d13, h0, h1, h2, h3, h4, h5, h6, h7, h8, h9, h10, h11, h12, h13⟩ := hJ
    have e0 := h0 (show l 0 = true by first | exact hd.1 rfl | exact hd.2.1 rfl | exact hd.2.2.1 rfl | exact hd.2.2.2.1 rfl | exact hd.2.2.2.2.1 rfl | exact hd.2.2.2.2.2.1 rfl)
    refine Runs.of (b := ?bN10) ?eN10 ?_
    case eN10 => simp only [putV, Act.put, List.setIfInBounds_toArray, List.set_cons_zero, List.set_cons_succ, e0]; rfl
    intro K' hK'
    go_simp
    exact hK'.go _ rfl ⟨ua, uc, sb, hB1, hB2, hM, hR1, hR2, hK, d13, h0, h1, h2, h3, h4, h5, h6, h7, h8, h9, fun _ => rfl, h11, h12, h13⟩
  · intro l x w' hJ hi hd
    obtain ⟨ua, uc, sb, hB1, hB2, hM, hR1, hR2, hK, d13, h0, h1, h2, h3, h4, h5, h6, h7, h8, h9, h10, h11, h12, h13⟩ := hJ
    have e10 := h10 (show l 10 = true by first | exact hd.1 rfl | exact hd.2.1 rfl | exact hd.2.2.1 rfl | exact hd.2.2.2.1 rfl | exact hd.2.2.2.2.1 rfl | exact hd.2.2.2.2.2.1 rfl)
    refine Runs.of (b := ?bN11) ?eN11 ?_
    case eN11 => simp only [putV, Act.put, List.setIfInBounds_toArray, List.set_cons_zero, List.set_cons_succ, e10]; rfl
    intro K' hK'
    go_simp
    exact hK'.go _ rfl ⟨ua, uc, sb, hB1, hB2, hM, hR1, hR2, hK, d13, h0, h1, h2, h3, h4, h5, h6, h7, h8, h9, h10, fun _ => rfl, h12, h13⟩
  · intro l x w' hJ hi hd
    obtain ⟨ua, uc, sb, hB1, hB2, hM, hR1, hR2, hK, d13, h0, h1, h2, h3, h4, h5, h6, h7, h8, h9, h10, h11, h12, h13⟩ := hJ
    have e11 := h11 (show l 11 = true by first | exact hd.1 rfl | exact hd.2.1 rfl | exact hd.2.2.1 rfl | exact hd.2.2.2.1 rfl | exact hd.2.2.2.2.1 rfl | exact hd.2.2.2.2.2.1 rfl)
    refine Runs.of (b := ?bN12) ?eN12 ?_
    case eN12 => simp only [putV, Act.put, List.setIfInBounds_toArray, List.set_cons_zero, List.set_cons_succ, e11]; rfl
    intro K' hK'
    go_simp
    exact hK'.go _ rfl ⟨ua, uc, sb, hB1, hB2, hM, hR1, hR2, hK, d13, h0, h1, h2, h3, h4, h5, h6, h7, h8, h9, h10, h11, fun _ => rfl, h13⟩
  · intro l x w' hJ hi hd
    obtain ⟨ua, uc, sb, hB1, hB2, hM, hR1, hR2, hK, d13, h0, h1, h2, h3, h4, h5, h6, h7, h8, h9, h10, h11, h12, h13⟩ := hJ
    have e12 := h12 (show l 12 = true by first | exact hd.1 rfl | exact hd.2.1 rfl | exact hd.2.2.1 rfl | exact hd.2.2.2.1 rfl | exact hd.2.2.2.2.1 rfl | exact hd.2.2.2.2.2.1 rfl)
    have L9 := Lib.hid (show l 9 = true by first | exact hd.1 rfl | exact hd.2.1 rfl | exact hd.2.2.1 rfl | exact hd.2.2.2.1 rfl | exact hd.2.2.2.2.1 rfl | exact hd.2.2.2.2.2.1 rfl)
    have e9 := (h9 L9.out).1
    have hB := hB1 hi
    obtain ⟨b10, f10⟩ := ctc_10 hB
    refine Runs.of (b := ?bN13) ?eN13 ?_
    case eN13 => simp only [putV, Act.put, List.setIfInBounds_toArray, List.set_cons_zero, List.set_cons_succ, e12, e9]; rfl
    intro K' hK'
    go_simp
    have k2 : Keep [c] w' _ := ((Keep.refl [c] w').setCell (p := ⟨c, 10, none⟩) (.inl (by simp)) (Value.slice ua D2.length uc))
    have hQ : CtB _ c kb s g { t with done := D2 } vm vt (.slice na t.nodes.length nc) (Value.slice ua D2.length uc) := Blk.set hB 10 (Value.slice ua D2.length uc)
    have htc : ∀ q ∈ [c], ¬ Ty w' q 3 := fun q hq ht => by simp at hq; subst hq; exact (Blk.ty hB).ne ht (by decide) rfl
    exact hK'.go undef rfl ⟨ua, uc, sb, fun h => Bool.noConfusion (show true = false from h), fun _ => hQ, hM.keep k2 (fun hm => by simp at hm; subst hm; exact (Blk.ty hB).ne hM.ty (by decide) rfl), fun h => absurd (L9.out.symm.trans h) (by decide), fun h => (hR2 h).keep k2 htc, hK.trans (k2.mono (by simp)), fun _ => L9.out, h0, h1, h2, h3, h4, h5, h6, h7, fun h => ⟨(h8 h).1, fun h' => absurd (L9.out.symm.trans h') (by decide)⟩, h9, h10, h11, h12, fun _ => trivial⟩
  · intro l x w3 hJ hl
    obtain ⟨ua, uc, sb, hB1, hB2, hM, hR1, hR2, hK, d13, h0, h1, h2, h3, h4, h5, h6, h7, h8, h9, h10, h11, h12, h13⟩ := hJ
    have hB := hB2 (hl 13 (by decide))
    have hR := hR2 (hl 9 (by decide))
    clear h0 h1 h2 h3 h4 h5 h6 h7 h8 h9 h10 h11 h12 h13 hl hB1 hB2 hR1 hR2 d13 hB0 hR0 hM0 hM
    simp only [putV, Act.put, List.setIfInBounds_toArray, List.set_cons_zero, List.set_cons_succ]
    generalize x 0 = y0; generalize x 1 = y1; generalize x 2 = y2; generalize x 3 = y3; generalize x 4 = y4; generalize x 5 = y5; generalize x 6 = y6; generalize x 7 = y7; generalize x 8 = y8; generalize x 9 = y9; generalize x 10 = y10; generalize x 11 = y11; generalize x 12 = y12
    have KT : Keep (c :: (Value.slice da t.done.length dc).ownBlock.toList) w w3 := (K2.mono (by simp)).trans hK
    go_upto_region 5 with fail
    obtain ⟨c10, _⟩ := ctc_10 hB
    obtain ⟨c8, _⟩ := ctc_8 hB
    have q5 := HL.out
    have q6 : decide (D2.length < t.nodes.length) = true := by have := HL.out; simpa using this
    go_quiet (fail)
    have hB' := hB.keep (drewn_keep (Keep.refl [] _) nq) (by simp)
    have hR' := hR.still (drewn_keep (Keep.refl [] _) nq)
    have K' := drewn_keep KT nq
    generalize w3.drewN nq = w7 at *
    clear c10 c8
    go_wp2_with fail
    go_ret
    exact ⟨rfl, _, hB', hR', K'⟩
set_option maxHeartbeats 8000000 in
theorem note_add_true (h : CtB w c kb s g t vm vt vn vd) (hr : CtR w t vm vt vn vd base) (hbs : base ≤ w.heap.size) (hdn : t.done.length ≤ 4) (hph : 0 ≤ t.phase ∧ t.phase ≤ 10) (m : Ms) (vi vk vx vo : Value) (hy : t.hears m.epoch m.src t.phase) (hin : ¬ m.src ∈ t.done) (hf : t.full m.src = true) :
    Calls Try.prog 35 #[.pointer (some ⟨c, 0, none⟩), msV m vi vk vx vo, .int .i64 t.phase] w fun e w' => ∃ vd', e = .returned (.bool (t.full m.src)) ∧ CtB w' c kb s g (t.noted m.src) vm vt vn vd' ∧ CtR w' (t.noted m.src) vm vt vn vd' base ∧ Keep (c :: vd.ownBlock.toList) w w' := by
  obtain ⟨D2, hD2⟩ : ∃ D, D = t.done2 m.src := ⟨_, rfl⟩
  have HN : t.noted m.src = { t with phase := t.phase + 1, done := [] } := (by unfold Ct.noted; rw [hf]; rfl)
  have HL : Hid (decide ((D2.length : Int) < t.nodes.length) = false) := Lib.hid (by have h1 := hf; unfold Ct.full at h1; rw [← hD2] at h1; simp at h1; exact decide_eq_false (by omega))
  rw [hf, HN]
  clear HN
  have HD : Hid (D2 = t.done ++ [m.src]) := Lib.hid (by rw [hD2]; unfold Ct.done2; rw [if_neg hin])
  have HD5 : Hid (D2.length ≤ 5) := Lib.hid (by rw [HD.out, List.length_append]; simp; omega)
  have HDN := Lib.hid hdn
  clear hf hD2 hdn
  obtain ⟨i0, hi0, hz0, hz1, hz2⟩ := info_parts Try.infoI
  have hM := Blk.new w (msC m vi vk vx vo) 39
  have K0 := (Keep.refl [] w).alloc (.cells (msC m vi vk vx vo).toArray 39)
  have hBa := h.keep K0 (by simp)
  have hRa := hr.still K0
  have hMB : w.heap.size < (w.alloc (.cells (msC m vi vk vx vo).toArray 39)).heap.size := hM.lt
  obtain ⟨na, nc, rfl⟩ := hr.nodes.islice
  obtain ⟨da, dc, rfl⟩ := hr.done.islice
  have HBW := Lib.hid hbs
  clear hbs
  go_enter Try.func35, Try.ntmps35
  go_upto_region 1 with fail
  clear h hr
  generalize hmb : w.heap.size = mb at *
  generalize w.alloc (.cells (msC m vi vk vx vo).toArray 39) = w0 at *
  obtain ⟨c5, _⟩ := ctc_5 hBa
  obtain ⟨c6, _⟩ := ctc_6 hBa
  obtain ⟨c8, _⟩ := ctc_8 hBa
  have m1 := msc_1 hM
  have m3 := msc_3 hM
  obtain ⟨y1, y2, _, y4⟩ := hy
  have q1 : (t.num == 0) = false := by simpa using y1
  have q2 : (m.epoch != t.num) = false := by simpa using y2
  have q3 : (t.phase != t.phase) = false := by simp
  go_quiet ((go_at_call 30; refine Calls.quiet_of_same (flipc (Contains_any _ t.nodes m.src (drewn_rv hRa.nodes.irv _) (by have := hRa.nodesn; omega) true (decide_eq_true y4).symm))))
  have K1 := drewn_keep K0 nq
  have hB1 := hBa.keep (drewn_keep (Keep.refl [] w0) nq) (by simp)
  have hR1 := hRa.still (drewn_keep (Keep.refl [] w0) nq)
  have hM1 := hM.keep (drewn_keep (Keep.refl [] w0) nq) (by simp)
  clear c5 c6 c8 m1 m3 K0 hBa hRa hM y1 y2 y4 q1 q2 q3
  generalize w0.drewN nq = w1 at *
  go_upto_region 3 with fail
  obtain ⟨c10, _⟩ := ctc_10 hB1
  have m1 := msc_1 hM1
  go_quiet ((go_at_call 30; refine Calls.quiet_of_same (flipc (Contains_any _ t.done m.src (drewn_rv hR1.done.irv _) (by have := hR1.donen; omega) false (decide_eq_false hin).symm))))
  have K2 := drewn_keep K1 nq
  have hB0 := hB1.keep (drewn_keep (Keep.refl [] w1) nq) (by simp)
  have hR0 := hR1.still (drewn_keep (Keep.refl [] w1) nq)
  have hM0 := hM1.keep (drewn_keep (Keep.refl [] w1) nq) (by simp)
  clear c10 m1 K1 hB1 hR1 hM1
  generalize w1.drewN nq = w2 at *
  have HBS : Hid (base ≤ w2.heap.size) := Lib.hid (by have := HBW.out; have := K2.size; omega)
  go_upto_region 4 with fail
  refine wp_region_inv (noteJ w2 c kb s g mb base t D2 vm vt (.slice na t.nodes.length nc) da dc m vi vk vx vo) (by kernel_rfl) (by kernel_rfl) (by kernel_rfl) ?_ (Steps.cons 0 ?_ (Steps.cons 1 ?_ (Steps.cons 2 ?_ (Steps.cons 3 ?_ (Steps.cons 4 ?_ (Steps.cons 5 ?_ (Steps.cons 6 ?_ (Steps.cons 7 ?_ (Steps.cons 8 ?_ (Steps.cons 9 ?_ (Steps.cons 10 ?_ (Steps.cons 11 ?_ (Steps.cons 12 ?_ (Steps.cons 13 ?_ (Steps.nil 14))))))))))))))) 14 rfl ?_
  · intro x
    exact ⟨none, 0, 0, fun _ => hB0.keep (Keep.refl [] _).drew (by simp), fun h => absurd h (by decide), hM0.drew, fun _ => hR0.still (Keep.refl [] _).drew, fun h => absurd h (by decide), (Keep.refl _ _).drew, fun h => absurd h (by decide), fun h => absurd h (by decide), fun h => absurd h (by decide), fun h => absurd h (by decide), fun h => absurd h (by decide), fun h => absurd h (by decide), fun h => absurd h (by decide), fun h => absurd h (by decide), fun h => absurd h (by decide), fun h => absurd h (by decide), fun h => absurd h (by decide), fun h => absurd h (by decide), fun h => absurd h (by decide), fun h => absurd h (by decide), fun h => absurd h (by decide)⟩
  · intro l x w' hJ hi hd
    obtain ⟨ua, uc, sb, hB1, hB2, hM, hR1, hR2, hK, d13, h0, h1, h2, h3, h4, h5, h6, h7, h8, h9, h10, h11, h12, h13⟩ := hJ
    refine Runs.of (b := ?bN0) ?eN0 ?_
    case eN0 => simp only [putV, Act.put, List.setIfInBounds_toArray, List.set_cons_zero, List.set_cons_succ]; rfl
    intro K' hK'
    go_simp
    exact hK'.go _ rfl ⟨ua, uc, sb, hB1, hB2, hM, hR1, hR2, hK, d13, fun _ => rfl, h1, h2, h3, h4, h5, h6, h7, h8, h9, h10, h11, h12, h13⟩
  · intro l x w' hJ hi hd
    obtain ⟨ua, uc, sb, hB1, hB2, hM, hR1, hR2, hK, d13, h0, h1, h2, h3, h4, h5, h6, h7, h8, h9, h10, h11, h12, h13⟩ := hJ
    refine Runs.of (b := ?bN1) ?eN1 ?_
    case eN1 => simp only [putV, Act.put, List.setIfInBounds_toArray, List.set_cons_zero, List.set_cons_succ]; rfl
    intro K' hK'
    go_simp
    exact hK'.go _ rfl ⟨ua, uc, sb, hB1, hB2, hM, hR1, hR2, hK, d13, h0, fun _ => rfl, h2, h3, h4, h5, h6, h7, h8, h9, h10, h11, h12, h13⟩
  · intro l x w' hJ hi hd
    obtain ⟨ua, uc, sb, hB1, hB2, hM, hR1, hR2, hK, d13, h0, h1, h2, h3, h4, h5, h6, h7, h8, h9, h10, h11, h12, h13⟩ := hJ
    have e1 := h1 (show l 1 = true by first | exact hd.1 rfl | exact hd.2.1 rfl | exact hd.2.2.1 rfl | exact hd.2.2.2.1 rfl | exact hd.2.2.2.2.1 rfl | exact hd.2.2.2.2.2.1 rfl)
    refine Runs.of (b := ?bN2) ?eN2 ?_
    case eN2 => simp only [putV, Act.put, List.setIfInBounds_toArray, List.set_cons_zero, List.set_cons_succ, e1]; rfl
    intro K' hK'
    go_simp
    exact hK'.go _ rfl ⟨ua, uc, sb, hB1, hB2, hM, hR1, hR2, hK, d13, h0, h1, fun _ => rfl, h3, h4, h5, h6, h7, h8, h9, h10, h11, h12, h13⟩
  · intro l x w' hJ hi hd
    obtain ⟨ua, uc, sb, hB1, hB2, hM, hR1, hR2, hK, d13, h0, h1, h2, h3, h4, h5, h6, h7, h8, h9, h10, h11, h12, h13⟩ := hJ
    have e2 := h2 (show l 2 = true by first | exact hd.1 rfl | exact hd.2.1 rfl | exact hd.2.2.1 rfl | exact hd.2.2.2.1 rfl | exact hd.2.2.2.2.1 rfl | exact hd.2.2.2.2.2.1 rfl)
    refine Runs.of (b := ?bN3) ?eN3 ?_
    case eN3 => simp only [putV, Act.put, List.setIfInBounds_toArray, List.set_cons_zero, List.set_cons_succ, e2]; rfl
    intro K' hK'
    go_simp
    exact hK'.go _ rfl ⟨ua, uc, sb, hB1, hB2, hM, hR1, hR2, hK, d13, h0, h1, h2, fun _ => rfl, h4, h5, h6, h7, h8, h9, h10, h11, h12, h13⟩
  · intro l x w' hJ hi hd
    obtain ⟨ua, uc, sb, hB1, hB2, hM, hR1, hR2, hK, d13, h0, h1, h2, h3, h4, h5, h6, h7, h8, h9, h10, h11, h12, h13⟩ := hJ
    have e3 := h3 (show l 3 = true by first | exact hd.1 rfl | exact hd.2.1 rfl | exact hd.2.2.1 rfl | exact hd.2.2.2.1 rfl | exact hd.2.2.2.2.1 rfl | exact hd.2.2.2.2.2.1 rfl)
    refine Runs.of (b := ?bN4) ?eN4 ?_
    case eN4 => simp only [putV, Act.put, List.setIfInBounds_toArray, List.set_cons_zero, List.set_cons_succ, e3]; rfl
    intro K' hK'
    go_simp
    exact hK'.go _ rfl ⟨ua, uc, sb, hB1, hB2, hM, hR1, hR2, hK, d13, h0, h1, h2, h3, fun _ => rfl, h5, h6, h7, h8, h9, h10, h11, h12, h13⟩
  · intro l x w' hJ hi hd
    obtain ⟨ua, uc, sb, hB1, hB2, hM, hR1, hR2, hK, d13, h0, h1, h2, h3, h4, h5, h6, h7, h8, h9, h10, h11, h12, h13⟩ := hJ
    have e4 := h4 (show l 4 = true by first | exact hd.1 rfl | exact hd.2.1 rfl | exact hd.2.2.1 rfl | exact hd.2.2.2.1 rfl | exact hd.2.2.2.2.1 rfl | exact hd.2.2.2.2.2.1 rfl)
    have l13 : l 13 = false := by cases hh : l 13 with | false => rfl | true => have := (d13 hh); have := (h9 this).2.1; rw [hi] at this; cases this
    have cc := (ctc_10 (hB1 l13)).1
    refine Runs.of (b := ?bN5) ?eN5 ?_
    case eN5 => simp only [putV, Act.put, List.setIfInBounds_toArray, List.set_cons_zero, List.set_cons_succ, e4, e4]; rfl
    intro K' hK'
    go_simp
    exact hK'.go _ rfl ⟨ua, uc, sb, hB1, hB2, hM, hR1, hR2, hK, d13, h0, h1, h2, h3, h4, fun _ => fun _ => rfl, h6, h7, h8, fun h => absurd ((h9 h).2.1.symm.trans hi) (by decide), h10, h11, h12, h13⟩
  · intro l x w' hJ hi hd
    obtain ⟨ua, uc, sb, hB1, hB2, hM, hR1, hR2, hK, d13, h0, h1, h2, h3, h4, h5, h6, h7, h8, h9, h10, h11, h12, h13⟩ := hJ
    refine Runs.of (b := ?bN6) ?eN6 ?_
    case eN6 => simp only [putV, Act.put, List.setIfInBounds_toArray, List.set_cons_zero, List.set_cons_succ]; rfl
    intro K' hK'
    go_simp
    exact hK'.go _ rfl ⟨ua, uc, sb, hB1, hB2, hM, hR1, hR2, hK, d13, h0, h1, h2, h3, h4, h5, fun _ => rfl, h7, h8, h9, h10, h11, h12, h13⟩
  · intro l x w' hJ hi hd
    obtain ⟨ua, uc, sb, hB1, hB2, hM, hR1, hR2, hK, d13, h0, h1, h2, h3, h4, h5, h6, h7, h8, h9, h10, h11, h12, h13⟩ := hJ
    have e6 := h6 (show l 6 = true by first | exact hd.1 rfl | exact hd.2.1 rfl | exact hd.2.2.1 rfl | exact hd.2.2.2.1 rfl | exact hd.2.2.2.2.1 rfl | exact hd.2.2.2.2.2.1 rfl)
    have cc := msc_1 hM
    refine Runs.of (b := ?bN7) ?eN7 ?_
    case eN7 => simp only [putV, Act.put, List.setIfInBounds_toArray, List.set_cons_zero, List.set_cons_succ, e6]; rfl
    intro K' hK'
    go_simp
    exact hK'.go _ rfl ⟨ua, uc, sb, hB1, hB2, hM, hR1, hR2, hK, d13, h0, h1, h2, h3, h4, h5, h6, fun _ => rfl, h8, h9, h10, h11, h12, h13⟩
  · intro l x w' hJ hi hd
    obtain ⟨ua, uc, sb, hB1, hB2, hM, hR1, hR2, hK, d13, h0, h1, h2, h3, h4, h5, h6, h7, h8, h9, h10, h11, h12, h13⟩ := hJ
    have e7 := h7 (show l 7 = true by first | exact hd.1 rfl | exact hd.2.1 rfl | exact hd.2.2.1 rfl | exact hd.2.2.2.1 rfl | exact hd.2.2.2.2.1 rfl | exact hd.2.2.2.2.2.1 rfl)
    refine Runs.of (b := ?bN8) ?eN8 ?_
    case eN8 => simp only [putV, Act.put, List.setIfInBounds_toArray, List.set_cons_zero, List.set_cons_succ, e7]; rfl
    intro K' hK'
    go_simp
    exact hK'.go _ rfl ⟨ua, uc, w'.heap.size, fun h => (hB1 h).keep ((Keep.refl [] _).alloc _) (by simp), fun h => (hB2 h).keep ((Keep.refl [] _).alloc _) (by simp), hM.alloc _, fun h => (hR1 h).still ((Keep.refl [] _).alloc _), fun h => (hR2 h).still ((Keep.refl [] _).alloc _), hK.alloc _, d13, h0, h1, h2, h3, h4, h5, h6, h7, fun _ => ⟨rfl, fun _ => ⟨rfl, (Blk.new w' [.int .i64 m.src] 3).cell 0⟩⟩, fun h => absurd ((h9 h).2.2.symm.trans hi) (by decide), h10, h11, h12, h13⟩
  · intro l x w' hJ hi hd
    obtain ⟨ua, uc, sb, hB1, hB2, hM, hR1, hR2, hK, d13, h0, h1, h2, h3, h4, h5, h6, h7, h8, h9, h10, h11, h12, h13⟩ := hJ
    have L5 := Lib.hid (show l 5 = true by first | exact hd.1 rfl | exact hd.2.1 rfl | exact hd.2.2.1 rfl | exact hd.2.2.2.1 rfl | exact hd.2.2.2.2.1 rfl | exact hd.2.2.2.2.2.1 rfl)
    have L8 := Lib.hid (show l 8 = true by first | exact hd.1 rfl | exact hd.2.1 rfl | exact hd.2.2.1 rfl | exact hd.2.2.2.1 rfl | exact hd.2.2.2.2.1 rfl | exact hd.2.2.2.2.2.1 rfl)
    have e5 := h5 L5.out hi
    obtain ⟨_, h8b⟩ := h8 L8.out
    obtain ⟨e8, hb8⟩ := h8b hi
    have l13 : l 13 = false := by cases hh : l 13 with | false => rfl | true => have := d13 hh; rw [hi] at this; cases this
    have hRR := hR1 hi
    have hO := hRR.done
    have hsrc := src_at (P := Try.prog) Try.underlying37 w' _ _ hb8 rfl
    have hsz := hK.size
    have hdn := HDN.out
    have hbs := HBS.out
    refine Runs.of (b := ?bN9) ?eN9 ?_
    case eN9 => simp only [putV, Act.put, List.setIfInBounds_toArray, List.set_cons_zero, List.set_cons_succ, e5, e8]; rfl
    intro K' hK'
    refine step_append_src _ rfl _ _ 37 37 rfl base 3 i0 (.int .i64 0) 1 8 Try.underlying37 hi0 hz0 hz1 hz2 rfl (by decide) (Value.slice da t.done.length dc) (ints t.done).length (ints t.done) rfl hO _ 1 _ rfl hsrc (by rw [ints_length]; unfold maxLen; omega) (by rw [ints_length]; omega) (by omega) ?_
    intro v9 w4 h1' h2' _ h3'
    have hO9 := Own.app rfl h1'
    rw [show ints t.done ++ [Value.int .i64 m.src] = ints D2 by rw [HD.out, ints_append]; rfl] at hO9
    obtain ⟨ua', uc', rfl⟩ := hO9.islice
    have k2 := Keep.grown h2'
    have hT : ∀ q ∈ (Value.slice da t.done.length dc).ownBlock.toList, Ty w' q 3 := fun q hq => hO.ty q (Option.mem_toList.1 hq)
    have hge : ∀ q ∈ (Value.slice da t.done.length dc).ownBlock.toList, base ≤ q := fun q hq => (hO.lt q (Option.mem_toList.1 hq)).1
    have hR9 : CtR w4 { t with done := D2 } vm vt (.slice na t.nodes.length nc) (Value.slice ua' D2.length uc') base := ⟨hRR.mem.keep k2 (fun b hb hm => by have := hge b hm; have := hRR.l1 b hb; omega), hRR.dest.keep k2 (fun b hb hm => by have := hge b hm; have := hRR.l2 b hb; omega), hRR.nodes.keep k2 (fun b hb hm => by have := hge b hm; have := hRR.l3 b hb; omega), hO9, hRR.l1, hRR.l2, hRR.l3, hRR.memn, hRR.ton, hRR.nodesn, HD5.out⟩
    exact hK'.go _ rfl ⟨ua', uc', sb, fun h => (hB1 h).keep k2 (fun hm => (Blk.ty (hB1 h)).ne (hT _ hm) (by decide) rfl), fun h => absurd (l13.symm.trans h) (by decide), hM.keep k2 (fun hm => hM.ty.ne (hT _ hm) (by decide) rfl), fun h => Bool.noConfusion (show true = false from h), fun _ => hR9, hK.trans (k2.mono (fun q hq _ => List.mem_cons_of_mem _ hq)), fun _ => rfl, h0, h1, h2, h3, h4, fun _ h => Bool.noConfusion (show true = false from h), h6, h7, fun h => ⟨(h8 h).1, fun h' => Bool.noConfusion (show true = false from h')⟩, fun _ => ⟨rfl, L5.out, L8.out⟩, h10, h11, h12, h13⟩
  · intro l x w' hJ hi hd
    obtain ⟨ua, uc, sb, hB1, hB2, hM, hR1, hR2, hK, d13, h0, h1, h2, h3, h4, h5, h6, h7, h8, h9, h10, h11, h12, h13⟩ := hJ
    have e0 := h0 (show l 0 = true by first | exact hd.1 rfl | exact hd.2.1 rfl | exact hd.2.2.1 rfl | exact hd.2.2.2.1 rfl | exact hd.2.2.2.2.1 rfl | exact hd.2.2.2.2.2.1 rfl)
    refine Runs.of (b := ?bN10) ?eN10 ?_
    case eN10 => simp only [putV, Act.put, List.setIfInBounds_toArray, List.set_cons_zero, List.set_cons_succ, e0]; rfl
    intro K' hK'
    go_simp
    exact hK'.go _ rfl ⟨ua, uc, sb, hB1, hB2, hM, hR1, hR2, hK, d13, h0, h1, h2, h3, h4, h5, h6, h7, h8, h9, fun _ => rfl, h11, h12, h13⟩
  · intro l x w' hJ hi hd
    obtain ⟨ua, uc, sb, hB1, hB2, hM, hR1, hR2, hK, d13, h0, h1, h2, h3, h4, h5, h6, h7, h8, h9, h10, h11, h12, h13⟩ := hJ
    have e10 := h10 (show l 10 = true by first | exact hd.1 rfl | exact hd.2.1 rfl | exact hd.2.2.1 rfl | exact hd.2.2.2.1 rfl | exact hd.2.2.2.2.1 rfl | exact hd.2.2.2.2.2.1 rfl)
    refine Runs.of (b := ?bN11) ?eN11 ?_
    case eN11 => simp only [putV, Act.put, List.setIfInBounds_toArray, List.set_cons_zero, List.set_cons_succ, e10]; rfl
    intro K' hK'
    go_simp
    exact hK'.go _ rfl ⟨ua, uc, sb, hB1, hB2, hM, hR1, hR2, hK, d13, h0, h1, h2, h3, h4, h5, h6, h7, h8, h9, h10, fun _ => rfl, h12, h13⟩
  · intro l x w' hJ hi hd
    obtain ⟨ua, uc, sb, hB1, hB2, hM, hR1, hR2, hK, d13, h0, h1, h2, h3, h4, h5, h6, h7, h8, h9, h10, h11, h12, h13⟩ := hJ
    have e11 := h11 (show l 11 = true by first | exact hd.1 rfl | exact hd.2.1 rfl | exact hd.2.2.1 rfl | exact hd.2.2.2.1 rfl | exact hd.2.2.2.2.1 rfl | exact hd.2.2.2.2.2.1 rfl)
    refine Runs.of (b := ?bN12) ?eN12 ?_
    case eN12 => simp only [putV, Act.put, List.setIfInBounds_toArray, List.set_cons_zero, List.set_cons_succ, e11]; rfl
    intro K' hK'
    go_simp
    exact hK'.go _ rfl ⟨ua, uc, sb, hB1, hB2, hM, hR1, hR2, hK, d13, h0, h1, h2, h3, h4, h5, h6, h7, h8, h9, h10, h11, fun _ => rfl, h13⟩
  · intro l x w' hJ hi hd
    obtain ⟨ua, uc, sb, hB1, hB2, hM, hR1, hR2, hK, d13, h0, h1, h2, h3, h4, h5, h6, h7, h8, h9, h10, h11, h12, h13⟩ := hJ
    have e12 := h12 (show l 12 = true by first | exact hd.1 rfl | exact hd.2.1 rfl | exact hd.2.2.1 rfl | exact hd.2.2.2.1 rfl | exact hd.2.2.2.2.1 rfl | exact hd.2.2.2.2.2.1 rfl)
    have L9 := Lib.hid (show l 9 = true by first | exact hd.1 rfl | exact hd.2.1 rfl | exact hd.2.2.1 rfl | exact hd.2.2.2.1 rfl | exact hd.2.2.2.2.1 rfl | exact hd.2.2.2.2.2.1 rfl)
    have e9 := (h9 L9.out).1
    have hB := hB1 hi
    obtain ⟨b10, f10⟩ := ctc_10 hB
    refine Runs.of (b := ?bN13) ?eN13 ?_
    case eN13 => simp only [putV, Act.put, List.setIfInBounds_toArray, List.set_cons_zero, List.set_cons_succ, e12, e9]; rfl
    intro K' hK'
    go_simp
    have k2 : Keep [c] w' _ := ((Keep.refl [c] w').setCell (p := ⟨c, 10, none⟩) (.inl (by simp)) (Value.slice ua D2.length uc))
    have hQ : CtB _ c kb s g { t with done := D2 } vm vt (.slice na t.nodes.length nc) (Value.slice ua D2.length uc) := Blk.set hB 10 (Value.slice ua D2.length uc)
    have htc : ∀ q ∈ [c], ¬ Ty w' q 3 := fun q hq ht => by simp at hq; subst hq; exact (Blk.ty hB).ne ht (by decide) rfl
    exact hK'.go undef rfl ⟨ua, uc, sb, fun h => Bool.noConfusion (show true = false from h), fun _ => hQ, hM.keep k2 (fun hm => by simp at hm; subst hm; exact (Blk.ty hB).ne hM.ty (by decide) rfl), fun h => absurd (L9.out.symm.trans h) (by decide), fun h => (hR2 h).keep k2 htc, hK.trans (k2.mono (by simp)), fun _ => L9.out, h0, h1, h2, h3, h4, h5, h6, h7, fun h => ⟨(h8 h).1, fun h' => absurd (L9.out.symm.trans h') (by decide)⟩, h9, h10, h11, h12, fun _ => trivial⟩
  · intro l x w3 hJ hl
    obtain ⟨ua, uc, sb, hB1, hB2, hM, hR1, hR2, hK, d13, h0, h1, h2, h3, h4, h5, h6, h7, h8, h9, h10, h11, h12, h13⟩ := hJ
    have hB := hB2 (hl 13 (by decide))
    have hR := hR2 (hl 9 (by decide))
    clear h0 h1 h2 h3 h4 h5 h6 h7 h8 h9 h10 h11 h12 h13 hl hB1 hB2 hR1 hR2 d13 hB0 hR0 hM0 hM
    simp only [putV, Act.put, List.setIfInBounds_toArray, List.set_cons_zero, List.set_cons_succ]
    generalize x 0 = y0; generalize x 1 = y1; generalize x 2 = y2; generalize x 3 = y3; generalize x 4 = y4; generalize x 5 = y5; generalize x 6 = y6; generalize x 7 = y7; generalize x 8 = y8; generalize x 9 = y9; generalize x 10 = y10; generalize x 11 = y11; generalize x 12 = y12
    have KT : Keep (c :: (Value.slice da t.done.length dc).ownBlock.toList) w w3 := (K2.mono (by simp)).trans hK
    go_upto_region 5 with fail
    obtain ⟨c10, _⟩ := ctc_10 hB
    obtain ⟨c8, _⟩ := ctc_8 hB
    have q5 := HL.out
    have q6 : decide (D2.length < t.nodes.length) = false := by have := HL.out; simpa using this
    go_quiet (fail)
    have hB' := hB.keep (drewn_keep (Keep.refl [] _) nq) (by simp)
    have hR' := hR.still (drewn_keep (Keep.refl [] _) nq)
    have K' := drewn_keep KT nq
    generalize w3.drewN nq = w7 at *
    clear c10 c8
    obtain ⟨b6, f6⟩ := ctc_6 hB'
    obtain ⟨b10, f10⟩ := ctc_10 hB'
    go_wp2_with fail
    go_ret
    have k4 : Keep [c] w7 ((w7.setCell ⟨c, 6, none⟩ (.int .i64 (t.phase + 1))).setCell ⟨c, 10, none⟩ (.slice none 0 0)) := ((Keep.refl _ _).setCell (.inl (by simp)) _).setCell (.inl (by simp)) _
    have htc : ∀ q ∈ [c], ¬ Ty w7 q 3 := fun q hq ht => by simp at hq; subst hq; exact (Blk.ty hB').ne ht (by decide) rfl
    have hR8 := hR'.keep k4 htc
    have hQ : CtB ((w7.setCell ⟨c, 6, none⟩ (.int .i64 (t.phase + 1))).setCell ⟨c, 10, none⟩ (.slice none 0 0)) c kb s g { t with phase := t.phase + 1, done := [] } vm vt (.slice na t.nodes.length nc) (.slice none 0 0) := (Blk.set hB' 6 _).set 10 _
    exact ⟨rfl, _, hQ, ⟨hR8.mem, hR8.dest, hR8.nodes, Own.nil _ _ _, hR8.l1, hR8.l2, hR8.l3, hR8.memn, hR8.ton, hR8.nodesn, by simp⟩, K'.trans (k4.mono (by simp))⟩
end
end Go.Proofs.Ytcoaobdijlppgaa
/- The map of grants: numbers by nodes. -/
namespace Go.Proofs.Ytcoaobdijlppgaa
open Go.ChangeShapes Go.WideShapes Go.ChangeAt Go.RowKit
set_option linter.unusedVariables false
set_option linter.unusedSimpArgs false
set_option maxRecDepth 100000

theorem wf64 {n : Int} (h : I64 n) : (Lit.int .i64 n).wf = true := by
  unfold I64 at h
  simp [Lit.wf, IntKind.min, IntKind.max, IntKind.signed, IntKind.bits]
  omega
/-- Block g is a map of at most n entries that holds f. -/
def Gr (w : World) (g n : Nat) (f : Int → Option Int) : Prop :=
  ∃ D : DataW Unit, w.ownsMap Try.prog 3 (plainElem Try.prog 2) g n D ∧ Maps.IsMap D ∧
    ∀ k : Int, Maps.has D (.int .i64 k) = (f k).isSome ∧ ∀ x, f k = some x → D.atKey (.int .i64 k) (.lit (.int .i64 0)) = .lit (.int .i64 x)
theorem Gr.made (w : World) : Gr (w.alloc (.map #[] 0)) w.heap.size 0 (fun _ => none) :=
  ⟨.map [], World.ownsMap_made w _ _ _, Maps.isMap_empty, fun k => ⟨rfl, fun x h => by cases h⟩⟩
theorem Gr.lt {w : World} {g n : Nat} {f : Int → Option Int} (h : Gr w g n f) : g < w.heap.size := by
  obtain ⟨D, h, _⟩ := h
  exact h.lt
theorem Gr.keep {w w' : World} {g n : Nat} {f : Int → Option Int} {S : List Nat} (h : Gr w g n f) (k : Keep S w w') (hn : g ∉ S) : Gr w' g n f := by
  obtain ⟨D, ⟨es, clock, hb, r⟩, h2⟩ := h
  have hlt := (Array.getElem?_eq_some_iff.1 hb).1
  exact ⟨D, ⟨es, clock, by rw [k.block g hlt hn]; exact hb, r⟩, h2⟩
theorem Gr.ne {w : World} {g n b : Nat} {f : Int → Option Int} {T : TypeId} (h : Gr w g n f) (ht : Ty w b T) : b ≠ g := by
  obtain ⟨D, ⟨es, clock, hb, _⟩, _⟩ := h
  rintro rfl
  obtain ⟨_, _, h2⟩ := ht
  rw [hb] at h2
  cases h2
theorem Gr.look {w : World} {g n : Nat} {f : Int → Option Int} (h : Gr w g n f) (k : Int) (hk : I64 k) :
    (Instr.lookup 62 (.map (some g)) (.int .i64 k) true).run Try.prog w = .ok (.tuple #[.int .i64 ((f k).getD 0), .bool (f k).isSome]) w := by
  obtain ⟨D, hD, hm, hf⟩ := h
  have hz : (zeroValue 2).run Try.prog w = .ok (.int .i64 0) w := by rfl
  obtain ⟨v, ps, hrun, hv⟩ := hD.look_ok (t := 62) (Maps.int_keyed Try.underlying3) Try.underlying62 hz (plainElem_int Try.underlying2 (a := 0) (by decide)) (Maps.keyOf_int_mk Try.underlying3 (wf64 hk))
  obtain ⟨c, rfl, hc, _⟩ := plainElem_int_inv Try.underlying2 hv
  simp only [Prod.mk.injEq] at hc
  obtain ⟨h1, h2⟩ := hf k
  rw [hrun, h1]
  cases hx : f k with
  | none =>
    have hc := hc.1
    rw [Maps.atKey_of_not_has (by rw [h1, hx]; rfl)] at hc
    injection hc with hc
    injection hc with _ hc
    rw [← hc]
    rfl
  | some x =>
    have hc := hc.1
    rw [h2 x hx] at hc
    injection hc with hc
    injection hc with _ hc
    rw [← hc]
    rfl
theorem Gr.put {w : World} {g n : Nat} {f : Int → Option Int} (h : Gr w g n f) (k x : Int) (hk : I64 k) (hx : I64 x) (hn : n < maxLen) :
    ∃ w', (Instr.mapUpdate 62 (.map (some g)) (.int .i64 k) (.int .i64 x)).run Try.prog w = .ok () w' ∧ Gr w' g (n + 1) (fun j => if j = k then some x else f j) ∧ Keep [g] w w' := by
  obtain ⟨D, hD, hm, hf⟩ := h
  obtain ⟨w', hrun, r1, r2⟩ := hD.update (t := 62) (Maps.int_keyed Try.underlying3) Try.underlying62 hn (Maps.keyOf_int_mk Try.underlying3 (wf64 hk)) (plainElem_int Try.underlying2 (wf64 hx))
  have hkl := (Maps.int_keyed Try.underlying3).key (Maps.keyOf_int_mk Try.underlying3 (wf64 hk))
  refine ⟨w', hrun, ⟨_, r1, hm.put _ _, fun j => ?_⟩, by simpa using Keep.grown r2⟩
  by_cases hj : j = k
  · subst hj
    simp only [if_true]
    refine ⟨Maps.has_put_same hm hkl _, fun y hy => ?_⟩
    injection hy with hy
    subst hy
    exact Maps.atKey_put_same hm hkl _ _
  · have hne : Lit.int .i64 j ≠ Lit.int .i64 k := by intro h; injection h with _ h; exact hj h
    simp only [if_neg hj]
    rw [Maps.has_put_other hne]
    exact ⟨(hf j).1, fun y hy => by rw [Maps.atKey_put_other hne]; exact (hf j).2 y hy⟩
end Go.Proofs.Ytcoaobdijlppgaa
