/- The authority: Step at a renewal; Auth: renew, Back, Leave, Lose, Open, the device. -/
import Derived.Test.YtcoaobdijlppgaaHCtl22
namespace Go.Proofs.Ytcoaobdijlppgaa
open Go.ChangeShapes Go.WideShapes Go.ChangeAt Go.RowKit
set_option linter.unusedVariables false
set_option linter.unusedSimpArgs false
set_option maxRecDepth 100000

set_option maxHeartbeats 8000000 in
theorem Step_renew_via {w : World} {c kb s g : Nat} {t : Ct} {vm vt vn vd : Value} (h : CtB w c kb s g t vm vt vn vd) (m : Ms) (vi vk vx vo : Value) (hRd : MsRd w m vi vk vx vo) (hSz : MsSz m) (hmay : mayM m = true) (hdst : m.dst = 0) (hkind : m.kind = 1) (Q : Ending → World → Prop)
    (hc : ∀ w2, Keep [] w w2 → Calls Try.prog 34 #[.pointer (some ⟨c, 0, none⟩), msV m vi vk vx vo] w2 fun e w' => ∃ v, e = .returned v ∧ Q e w') :
    Calls Try.prog 12 #[.pointer (some ⟨c, 0, none⟩), msV m vi vk vx vo] w Q := by
  have q0 : (m.dst != 0) = false := by simp [hdst]
  have q1 : (m.kind == 1) = true := by simp [hkind]
  have hM := Blk.new w (msC m vi vk vx vo) 39
  have K0 := (Keep.refl [] w).alloc (.cells (msC m vi vk vx vo).toArray 39)
  have hrd := hRd.alloc (.cells (msC m vi vk vx vo).toArray 39)
  have HS := Lib.hid hSz
  have HMAY := Lib.hid hmay.symm
  have HC := Lib.hid hc
  clear hmay hSz hdst hkind hc
  go_enter Try.func12, Try.ntmps12
  go_upto_region 1 with fail
  clear h hRd
  generalize hmb : w.heap.size = mb at *
  generalize w.alloc (.cells (msC m vi vk vx vo).toArray 39) = w0 at *
  have m2 := msc_2 hM
  go_wp2_with (refine wpList_load_rowg 39 _ rfl mb rfl 39 (msC m vi vk vx vo).toArray (0, 0) _ hM Try.underlying39 rfl Try.sizeMsg (by rfl) ?_)
  refine (msMay_any m vi vk vx vo hrd HS.out true HMAY.out).mono ?_
  rintro e w1 ⟨rfl, k1⟩
  have hM1 := hM.keep k1 (by simp)
  have K1 := K0.trans k1
  clear hM hrd K0 k1 m2
  have m0 := msc_0 hM1
  have HQ := Lib.hid (HC.out w1 K1)
  clear HC
  go_wp2_with (refine wpList_load_rowg 39 _ rfl mb rfl 39 (msC m vi vk vx vo).toArray (0, 0) _ hM1 Try.underlying39 rfl Try.sizeMsg (by rfl) ?_)
  refine HQ.out.mono ?_
  rintro e w3 ⟨v, rfl, hq⟩
  have HQ2 := Lib.hid hq
  clear hq
  go_wp2_with fail
  first | exact HQ2.out | (go_ret; exact HQ2.out)
theorem Step_nil {w : World} (m : Ms) (vi vk vx vo : Value) : Calls Try.prog 12 #[.pointer none, msV m vi vk vx vo] w fun e w' => e = .returned (.slice none 0 0) ∧ Keep [] w w' := by
  go_enter Try.func12, Try.ntmps12
  go_wp2_with fail
  go_ret
  exact ⟨rfl, (Keep.refl [] w).alloc _⟩
theorem run_renew (W : World) (k n : Int) : (Instr.build 39 #[(0, .int .i64 1), (1, .int .i64 k), (3, .int .i64 n)]).run Try.prog W = .ok (msV (wordM 1 k n false) (.slice none 0 0) (.slice none 0 0) (.slice none 0 0) (.slice none 0 0)) W := run_build W _ _ _ (by rfl)
/-- A device that holds an authority's text. -/
def DevHas (lo : Nat) (w : World) (d : Nat) (T : List Nat) (B : Nat) : Prop := ∃ sb L k turn slot, IsDev w d sb L k ∧ Pair L 0 slot turn T ∧ slot ≤ 1 ∧ 0 < turn ∧ turn ≤ B ∧ k ≤ 2 * B + 5 ∧ lo ≤ d ∧ lo ≤ sb
theorem DevHas.keep {lo : Nat} {w w' : World} {d : Nat} {T : List Nat} {B : Nat} (h : DevHas lo w d T B) (k : Keep [] w w') : DevHas lo w' d T B := by
  obtain ⟨sb, L, kk, turn, slot, a, r⟩ := h
  exact ⟨sb, L, kk, turn, slot, a.keep k (by simp) (by simp), r⟩
section
variable {lo : Nat} {w : World} {c d kb g B n : Nat} {t : Ct} {f : Int → Option Int} {now : Int}
theorem Auth.has (h : Auth lo w c d kb g t B n f now) : DevHas lo w d (stT t.epoch t.top t.mem) B := by
  obtain ⟨s, sb, base, vm, vt, vn, vd, a1, a2, a3, a4, a5, al, a6, a7⟩ := h
  obtain ⟨L, k, turn, slot, b1, b2, b3, b4, b5, b6, b7⟩ := a4
  exact ⟨sb, L, k, turn, slot, b1, b3, b4, b5, b6, b7, al.2.1, al.2.2.1⟩
theorem DevHas.crash {T : List Nat} (h : DevHas lo w d T B) (hlo : lo ≤ w.heap.size) : Calls Try.prog 19 #[.pointer (some ⟨d, 0, none⟩), .slice none 0 0] w fun e w' => ∃ d', e = .returned (.pointer (some ⟨d', 0, none⟩)) ∧ DevHas lo w' d' T B ∧ Keep [] w w' := by
  obtain ⟨sb, L, k, turn, slot, a, b, c, e, f, g, i, j⟩ := h
  refine (Crash_any a (.slice none 0 0) [] (Rv.nil w 1) (by simp)).mono ?_
  rintro x w' ⟨d', sb', rfl, h1, k1, z1, z2⟩
  exact ⟨d', rfl, ⟨sb', _, 0, turn, slot, h1, b.crash [], c, e, f, by omega, by omega, by omega⟩, k1⟩
theorem DevHas.openA {ep top : Int} {mem : List Int} (h : DevHas lo w d (stT ep top mem) B) (hB : B ≤ 1000000) (hlo : lo ≤ w.heap.size) (hok : nodesOk mem = true) (he : 1 ≤ ep ∧ ep ≤ top ∧ top ≤ 1099511627776) (kv : Value) (now : Int) (hk : (kv = .pointer none ∧ now = 0) ∨ ∃ kb, kv = .pointer (some ⟨kb, 0, none⟩) ∧ IsClock w kb now) :
    Calls Try.prog 20 #[.pointer (some ⟨d, 0, none⟩), kv] w fun e w' => ∃ c kb g, e = .returned (.tuple #[.pointer (some ⟨c, 0, none⟩), .int .i64 0]) ∧ Auth lo w' c d kb g ⟨ep, top, mem, 0, 0, [], [], 0, []⟩ B 5 (gF now 5) now ∧ Keep [] w w' ∧ w.heap.size ≤ g ∧ (kv = .pointer (some ⟨kb, 0, none⟩) ∨ w.heap.size ≤ kb) := by
  obtain ⟨sb, L, k, turn, slot, a, b, c, e, f, g, i, j⟩ := h
  have hdl := a.dev.lt
  have hsl := a.secs.lt
  have h5 := (nodes_in hok).2.2
  refine (Open_ct a b c e (by omega) hok he kv now hk).mono ?_
  rintro x w' ⟨cc, kb, s, gg, vm, bb, rfl, hW, z1, z2, z3, z5, z4⟩
  refine ⟨cc, kb, gg, rfl, ⟨s, sb, w'.heap.size, vm, .slice none 0 0, .slice none 0 0, .slice none 0 0, hW.ct, ⟨hW.own.mono (Nat.zero_le _), Own.nil _ _ _, Own.nil _ _ _, Own.nil _ _ _, fun q hq => (hW.own.lt q hq).2, (fun q hq => by cases hq), (fun q hq => by cases hq), h5, by simp, by simp, by simp⟩, Nat.le_refl _, ?_, ⟨by omega, by omega, z3⟩, ⟨by omega, i, j, by omega, ?_⟩, hW.gr, hW.ck⟩, hW.keep, z5, z4⟩
  · exact ⟨L, k, turn, slot, hW.dev, hW.sup, b, c, e, f, g⟩
  · exact Nat.le_trans hlo hW.keep.size
theorem Auth.renew_grant (h : Auth lo w c d kb g t B n f now) (k ep : Int) (hk : 1 ≤ k ∧ k ≤ 5) (hep : 0 ≤ ep ∧ ep ≤ 1099511627776) (he : 0 ≤ t.epoch) (hin : k ∈ t.mem) (hnl : k ≠ t.lost) (h0 : 0 < t.mem.length) (hn : n < maxLen) :
    Calls Try.prog 12 #[.pointer (some ⟨c, 0, none⟩), msV (wordM 1 k ep false) (.slice none 0 0) (.slice none 0 0) (.slice none 0 0) (.slice none 0 0)] w fun e w' => ∃ v L, e = .returned v ∧ TRow w' w.heap.size v L ∧ L.map (·.m) = [memberM t 2 k 0] ∧ Auth lo w' c d kb g t B (n + 1) (fun i => if i = k then some now else f i) now ∧ Keep [g] w w' := by
  obtain ⟨s, sb, base, vm, vt, vn, vd, a1, a2, a3, a4, a5, al, a6, a7⟩ := h
  refine Step_renew_via a1 _ _ _ _ _ (wordM_rd w 1 k ep false) (wordM_sz _ _ _ _) (wordM_may (by decide) hk hep) rfl rfl _ ?_
  intro w2 k2
  have b1 := a1.keep k2 (by simp)
  have b2 := a2.still k2
  have b4 := a4.still k2
  have b6 := a6.keep k2 (by simp)
  have b7 := a7.keep k2 (by simp)
  refine (Go.Proofs.Ytcoaobdijlppgaa.renew_grant b1 b2 b6 b7 (wordM 1 k ep false) _ _ _ _ (by show (0 : Int) ≤ _; exact he) hin hnl (by show I64 k; exact ⟨by omega, by omega⟩) h0 hn).mono ?_
  rintro e w' ⟨v, L, rfl, hO, hL, c1, c2, c6, c7, k3⟩
  have hu : ∀ q ∈ [g], ¬ Ty w2 q 5 := fun q hq ht => by simp at hq; subst hq; exact b6.ne ht rfl
  have hd4 : CtD w' d sb s (stT t.epoch t.top t.mem) B := by
    have b40 := b4
    obtain ⟨L, kk, turn, slot, e1, e2, e3⟩ := b4
    have e20 := e2
    obtain ⟨tv, hb, _⟩ := e2
    refine b40.keep k3 ?_ ?_ ?_ hu
    · simp only [List.mem_singleton]; exact b6.ne e1.dev.ty
    · simp only [List.mem_singleton]; exact b6.ne e1.secs.ty
    · simp only [List.mem_singleton]; exact b6.ne hb.ty
  exact ⟨v, rfl, v, L, rfl, hO.mono k2.size, hL, ⟨s, sb, base, vm, vt, vn, vd, c1, c2, Nat.le_trans a3 (Nat.le_trans k2.size k3.size), hd4, a5, al, c6, c7⟩, (k2.mono (by simp)).trans k3⟩
theorem Auth.renew_no (h : Auth lo w c d kb g t B n f now) (k ep : Int) (hk : 1 ≤ k ∧ k ≤ 5) (hep : 0 ≤ ep ∧ ep ≤ 1099511627776) (he : 0 ≤ t.epoch ∧ t.epoch ≤ ep) (hno : ¬ (k ∈ t.mem ∧ k ≠ t.lost)) :
    Calls Try.prog 12 #[.pointer (some ⟨c, 0, none⟩), msV (wordM 1 k ep false) (.slice none 0 0) (.slice none 0 0) (.slice none 0 0) (.slice none 0 0)] w fun e w' => e = .returned (.slice none 0 0) ∧ Auth lo w' c d kb g t B n f now ∧ Keep [] w w' := by
  have h0 := h
  obtain ⟨s, sb, base, vm, vt, vn, vd, a1, a2, a3, a4, a5, al, a6, a7⟩ := h
  refine Step_renew_via a1 _ _ _ _ _ (wordM_rd w 1 k ep false) (wordM_sz _ _ _ _) (wordM_may (by decide) hk hep) rfl rfl _ ?_
  intro w2 k2
  refine (Go.Proofs.Ytcoaobdijlppgaa.renew_no (a1.keep k2 (by simp)) (a2.still k2) (wordM 1 k ep false) _ _ _ _ (by show (0 : Int) ≤ _; exact he.1) hno he.2).mono ?_
  rintro e w' ⟨rfl, k3⟩
  exact ⟨_, rfl, rfl, (h0.keep k2).keep k3, k2.trans k3⟩
theorem Auth.back (h : Auth lo w c d kb g t B n f now) (h0 : t.num ≠ 0) :
    Calls Try.prog 22 #[.pointer (some ⟨c, 0, none⟩)] w fun e w' => ∃ v L, e = .returned (.tuple #[v, .int .i64 0]) ∧ TRow w' w.heap.size v L ∧ L.map (·.m) = t.nodes.map (abortM t.num) ∧ Auth lo w' c d kb g t.idle B n f now ∧ Turn lo w w' := by
  obtain ⟨s, sb, base, vm, vt, vn, vd, a1, a2, a3, a4, a5, al, a6, a7⟩ := h
  refine (Back_any a1 a2 h0).mono ?_
  rintro e w' ⟨v, L, rfl, b1, b2, b3, b4, k⟩
  have K : Turn lo w w' := ⟨_, k, fun q hq => by simp at hq; subst hq; exact ⟨al.1, _, by simp [turnT], Blk.ty a1⟩⟩
  have hu : ∀ q ∈ [c], ¬ Ty w q 5 := fun q hq ht => by simp at hq; subst hq; exact (Blk.ty a1).ne ht (by decide) rfl
  exact ⟨v, L, rfl, b1, b2, ⟨s, sb, base, vm, _, _, _, b3, b4, Nat.le_trans a3 k.size, a4.keep k (by simp; omega) (by simp; omega) (by simp; omega) hu, a5, al, a6.turn K, a7.turn K⟩, K⟩
theorem Auth.leave (h : Auth lo w c d kb g t B n f now) (hB : B ≤ 100000) (hn : ∀ n ∈ t.mem, 1 ≤ n ∧ n ≤ 5) (h0 : 1 < t.mem.length) (he : I64 t.epoch) (ht : 0 ≤ t.top ∧ t.top < 1099511627776) (hnum : t.num = 0) (node lost : Int) (hin : node ∈ t.mem) (hto : 0 < (bothL t.mem [] node).length) :
    Calls Try.prog 38 #[.pointer (some ⟨c, 0, none⟩), .int .i64 node, .int .i64 lost] w fun e w' => ∃ v L, e = .returned (.tuple #[v, .int .i64 0]) ∧ TRow w' w.heap.size v L ∧
      L.map (·.m) = (bothL t.mem (bothL t.mem [] node) lost).map (tellM (t.begun (bothL t.mem [] node) lost) 3) ∧ Auth lo w' c d kb g (t.begun (bothL t.mem [] node) lost) (B + 1) n f now ∧ Turn lo w w' := by
  obtain ⟨s, sb, base, vm, vt, vn, vd, a1, a2, a3, a4, a5, al, a6, a7⟩ := h
  refine (without_ok a1 a2 a4 hB a5 hn h0 he ht hnum node lost hin hto).mono ?_
  rintro e w' ⟨v, L, v2, vn', base', rfl, b1, b2, b3, b4, b5, k⟩
  have K : Turn lo w w' := ⟨_, k, a4.turn4 a1 al⟩
  have hsz := k.size
  exact ⟨v, L, rfl, b1, b2, ⟨s, sb, _, vm, v2, vn', _, b3, b4.rebase rfl, Nat.le_refl _, b5, a5, ⟨al.1, al.2.1, al.2.2.1, al.2.2.2.1, by have := al.2.2.2.2; omega⟩, a6.turn K, a7.turn K⟩, K⟩
theorem Auth.leave_last (h : Auth lo w c d kb g t B n f now) (h0 : t.mem.length = 1) (hnum : t.num = 0) (node lost : Int) (hin : node ∈ t.mem) :
    Calls Try.prog 38 #[.pointer (some ⟨c, 0, none⟩), .int .i64 node, .int .i64 lost] w fun e w' => e = .returned (.tuple #[.slice none 0 0, .int .i64 1]) ∧ w = w' := by
  obtain ⟨s, sb, base, vm, vt, vn, vd, a1, a2, a3, a4, a5, al, a6, a7⟩ := h
  exact without_last a1 a2 h0 hnum node lost hin
end
end Go.Proofs.Ytcoaobdijlppgaa
