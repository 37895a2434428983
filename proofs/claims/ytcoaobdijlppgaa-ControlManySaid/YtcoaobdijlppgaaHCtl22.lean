/- The authority: renew. -/
import Derived.Test.YtcoaobdijlppgaaHCtl21
namespace Go.Proofs.Ytcoaobdijlppgaa
open Go.ChangeShapes Go.WideShapes Go.ChangeAt Go.RowKit
set_option linter.unusedVariables false
set_option linter.unusedSimpArgs false
set_option maxRecDepth 100000

def renewJ (w0 : World) (c kb s g mb n : Nat) (t : Ct) (vm vt vn vd : Value) (f : Int → Option Int) (now : Int) (m : Ms) (vi vk vx vo : Value) (l : Nat → Bool) (x : Nat → Value) (w' : World) : Prop :=
  (CtB w' c kb s g t vm vt vn vd) ∧
  (Blk w' mb (msC m vi vk vx vo) 39) ∧
  (IsClock w' kb now) ∧
  (l 11 = false → Gr w' g n f) ∧
  (l 11 = true → Gr w' g (n + 1) (fun i => if i = m.src then some now else f i)) ∧
  (Keep [g] w0 w') ∧
  (l 0 = true → x 0 = .pointer (some ⟨c, 0, none⟩)) ∧
  (l 1 = true → x 1 = .pointer (some ⟨c, 0, none⟩)) ∧
  (l 2 = true → x 2 = .pointer (some ⟨c, 11, none⟩)) ∧
  (l 3 = true → x 3 = .map (some g)) ∧
  (l 4 = true → x 4 = .pointer (some ⟨mb, 1, none⟩)) ∧
  (l 5 = true → x 5 = .int .i64 m.src) ∧
  (l 6 = true → x 6 = .pointer (some ⟨c, 0, none⟩)) ∧
  (l 7 = true → x 7 = .pointer (some ⟨c, 0, none⟩)) ∧
  (l 8 = true → x 8 = .pointer (some ⟨c, 0, none⟩)) ∧
  (l 9 = true → x 9 = .pointer (some ⟨kb, 0, none⟩)) ∧
  (l 10 = true → x 10 = .int .i64 now) ∧
  (l 11 = true → True)
section
variable {w : World} {c kb s g base n : Nat} {t : Ct} {vm vt vn vd : Value} {f : Int → Option Int} {now : Int}
set_option maxHeartbeats 8000000 in
theorem renew_no (h : CtB w c kb s g t vm vt vn vd) (hr : CtR w t vm vt vn vd base) (m : Ms) (vi vk vx vo : Value) (hseq : m.seq ≤ t.epoch) (hno : ¬ (m.src ∈ t.mem ∧ m.src ≠ t.lost)) (hep : t.epoch ≤ m.epoch) :
    Calls Try.prog 34 #[.pointer (some ⟨c, 0, none⟩), msV m vi vk vx vo] w fun e w' => e = .returned (.slice none 0 0) ∧ Keep [] w w' := by
  have q1 : decide (t.epoch < m.seq) = false := decide_eq_false (by omega)
  have q2 : decide (m.epoch < t.epoch) = false := decide_eq_false (by omega)
  have hM := Blk.new w (msC m vi vk vx vo) 39
  have K0 := (Keep.refl [] w).alloc (.cells (msC m vi vk vx vo).toArray 39)
  have hBa := h.keep K0 (by simp)
  have hRa := hr.still K0
  go_enter Try.func34, Try.ntmps34
  go_upto_region 2 with fail
  clear h hr
  generalize hmb : w.heap.size = mb at *
  generalize w.alloc (.cells (msC m vi vk vx vo).toArray 39) = w0 at *
  have m5 := msc_5 hM
  have c2 := (ctc_2 hBa).1
  go_quiet (fail)
  have k1 := drewn_keep (Keep.refl [] w0) nq
  have hM1 := hM.keep k1 (by simp)
  have hB1 := hBa.keep k1 (by simp)
  have hR1 := hRa.still k1
  have K1 := K0.trans k1
  clear hM hBa hRa m5 c2 K0 k1
  generalize w0.drewN nq = w1 at *
  have m1 := msc_1 hM1
  obtain ⟨ma, mc, rfl⟩ := hR1.mem.islice
  have c4 := (ctc_4 hB1).1
  have c9 := (ctc_9 hB1).1
  go_wp2_with fail
  by_cases hin : m.src ∈ t.mem
  · have hlo : m.src = t.lost := Classical.byContradiction fun h => hno ⟨hin, h⟩
    have q3 : (m.src != t.lost) = false := by simpa using hlo
    have HIN := Lib.hid hin
    have HR1 := Lib.hid hR1
    clear hlo hin hno hR1
    go_quiet ((go_at_call 30; refine Calls.quiet_of_same (flipc (Contains_any _ t.mem m.src (drewn_rv HR1.out.mem.irv _) (by have := HR1.out.memn; omega) true (decide_eq_true HIN.out).symm))))
    have k2 := drewn_keep (Keep.refl [] w1) nq
    have hM2 := hM1.keep k2 (by simp)
    have hB2 := hB1.keep k2 (by simp)
    have K2 := K1.trans k2
    clear hM1 hB1 K1 k2 m1 c4 c9 HR1
    generalize w1.drewN nq = w2 at *
    have m3 := msc_3 hM2
    have c2 := (ctc_2 hB2).1
    go_wp2_with fail
    go_quiet (fail)
    go_wp2_with fail
    go_ret
    exact ⟨rfl, K2.trans (drewn_keep (Keep.refl [] w2) nq)⟩
  · have HIN := Lib.hid hin
    have HR1 := Lib.hid hR1
    clear hin hno hR1
    go_quiet ((go_at_call 30; refine Calls.quiet_of_same (flipc (Contains_any _ t.mem m.src (drewn_rv HR1.out.mem.irv _) (by have := HR1.out.memn; omega) false (decide_eq_false HIN.out).symm))))
    have k2 := drewn_keep (Keep.refl [] w1) nq
    have hM2 := hM1.keep k2 (by simp)
    have hB2 := hB1.keep k2 (by simp)
    have K2 := K1.trans k2
    clear hM1 hB1 K1 k2 m1 c4 c9 HR1
    generalize w1.drewN nq = w2 at *
    have m3 := msc_3 hM2
    have c2 := (ctc_2 hB2).1
    go_wp2_with fail
    go_quiet (fail)
    go_wp2_with fail
    go_ret
    exact ⟨rfl, K2.trans (drewn_keep (Keep.refl [] w2) nq)⟩
set_option maxHeartbeats 8000000 in
theorem renew_grant (h : CtB w c kb s g t vm vt vn vd) (hr : CtR w t vm vt vn vd base) (hgr0 : Gr w g n f) (hck : IsClock w kb now) (m : Ms) (vi vk vx vo : Value) (hseq : m.seq ≤ t.epoch) (hin : m.src ∈ t.mem) (hnl : m.src ≠ t.lost) (hs64 : I64 m.src) (h0 : 0 < t.mem.length) (hnn : n < maxLen) :
    Calls Try.prog 34 #[.pointer (some ⟨c, 0, none⟩), msV m vi vk vx vo] w fun e w' => ∃ v L, e = .returned v ∧ TRow w' w.heap.size v L ∧ L.map (·.m) = [memberM t 2 m.src m.tick] ∧ CtB w' c kb s g t vm vt vn vd ∧ CtR w' t vm vt vn vd base ∧
      Gr w' g (n + 1) (fun i => if i = m.src then some now else f i) ∧ IsClock w' kb now ∧ Keep [g] w w' := by
  have q1 : decide (t.epoch < m.seq) = false := decide_eq_false (by omega)
  have q3 : (m.src != t.lost) = true := by simpa using hnl
  have HS := Lib.hid hs64
  have HIN := Lib.hid hin
  have H0 := Lib.hid h0
  have HNN := Lib.hid hnn
  have HWS := Lib.hid (show g < w.heap.size ∧ kb < w.heap.size from ⟨hgr0.lt, hck.blk.lt⟩)
  clear hnl hs64 hin h0 hnn hseq
  have hM := Blk.new w (msC m vi vk vx vo) 39
  have K0 := (Keep.refl [] w).alloc (.cells (msC m vi vk vx vo).toArray 39)
  have hBa := h.keep K0 (by simp)
  have hRa := hr.still K0
  have hGa := hgr0.keep K0 (by simp)
  have hKa := hck.keep K0 (by simp)
  go_enter Try.func34, Try.ntmps34
  go_upto_region 2 with fail
  clear h hr hgr0 hck
  generalize hmb : w.heap.size = mb at *
  generalize w.alloc (.cells (msC m vi vk vx vo).toArray 39) = w0 at *
  have m5 := msc_5 hM
  have c2 := (ctc_2 hBa).1
  go_quiet (fail)
  have k1 := drewn_keep (Keep.refl [] w0) nq
  have hMa := hM.keep k1 (by simp)
  have hBb := hBa.keep k1 (by simp)
  have hRb := hRa.still k1
  have hGb := hGa.keep k1 (by simp)
  have hKb := hKa.keep k1 (by simp)
  have K1 := K0.trans k1
  clear hM hBa hRa hGa hKa m5 c2 K0 k1
  generalize w0.drewN nq = wb at *
  have m1 := msc_1 hMa
  obtain ⟨ma, mc, rfl⟩ := hRb.mem.islice
  have c4 := (ctc_4 hBb).1
  have c9 := (ctc_9 hBb).1
  have HR1 := Lib.hid hRb
  clear hRb
  go_wp2_with fail
  go_quiet ((go_at_call 30; refine Calls.quiet_of_same (flipc (Contains_any _ t.mem m.src (drewn_rv HR1.out.mem.irv _) (by have := HR1.out.memn; omega) true (decide_eq_true HIN.out).symm))))
  have k2 := drewn_keep (Keep.refl [] wb) nq
  have hMr := hMa.keep k2 (by simp)
  have hCr := hBb.keep k2 (by simp)
  have hgr := hGb.keep k2 (by simp)
  have hkr := hKb.keep k2 (by simp)
  have HR2 := Lib.hid (HR1.out.still k2)
  have K2 := K1.trans k2
  clear hMa hBb hGb hKb K1 k2 m1 c4 c9 HR1
  generalize wb.drewN nq = w1 at *
  have HN64 := HS
  have HNW := Lib.hid (show I64 now from ⟨by have := hkr.lo; omega, by have := hkr.hi; omega⟩)
  have HNE := Lib.hid (show c ≠ g ∧ kb ≠ g ∧ mb ≠ g from ⟨hgr.ne (Blk.ty hCr), hgr.ne hkr.blk.ty, hgr.ne hMr.ty⟩)
  go_wp2_with fail
  refine wp_region_inv (renewJ w1 c kb s g mb n t (.slice ma t.mem.length mc) vt vn vd f now m vi vk vx vo) (by kernel_rfl) (by kernel_rfl) (by kernel_rfl) ?_ (Steps.cons 0 ?_ (Steps.cons 1 ?_ (Steps.cons 2 ?_ (Steps.cons 3 ?_ (Steps.cons 4 ?_ (Steps.cons 5 ?_ (Steps.cons 6 ?_ (Steps.cons 7 ?_ (Steps.cons 8 ?_ (Steps.cons 9 ?_ (Steps.cons 10 ?_ (Steps.cons 11 ?_ (Steps.nil 12))))))))))))) 12 rfl ?_
  · intro x
    exact ⟨hCr.keep ((Keep.refl [] _).drew) (by simp), hMr.keep ((Keep.refl [] _).drew) (by simp), hkr.keep ((Keep.refl [] _).drew) (by simp), fun _ => hgr.keep ((Keep.refl [] _).drew) (by simp), fun h => absurd h (by decide), (Keep.refl _ _).drew, fun h => absurd h (by decide), fun h => absurd h (by decide), fun h => absurd h (by decide), fun h => absurd h (by decide), fun h => absurd h (by decide), fun h => absurd h (by decide), fun h => absurd h (by decide), fun h => absurd h (by decide), fun h => absurd h (by decide), fun h => absurd h (by decide), fun h => absurd h (by decide), fun h => absurd h (by decide)⟩
  · intro l x w' hJ hi hd
    obtain ⟨hC, hM, hk, hgr0, hgr1, hK, h0, h1, h2, h3, h4, h5, h6, h7, h8, h9, h10, h11⟩ := hJ
    refine Runs.of (b := ?bR0) ?eR0 ?_
    case eR0 => simp only [putV, Act.put, List.setIfInBounds_toArray, List.set_cons_zero, List.set_cons_succ]; rfl
    intro K' hK'
    go_simp
    exact hK'.go _ rfl ⟨hC, hM, hk, hgr0, hgr1, hK, fun _ => rfl, h1, h2, h3, h4, h5, h6, h7, h8, h9, h10, h11⟩
  · intro l x w' hJ hi hd
    obtain ⟨hC, hM, hk, hgr0, hgr1, hK, h0, h1, h2, h3, h4, h5, h6, h7, h8, h9, h10, h11⟩ := hJ
    have e0 := h0 (show l 0 = true by first | exact hd.1 rfl | exact hd.2.1 rfl | exact hd.2.2.1 rfl | exact hd.2.2.2.1 rfl | exact hd.2.2.2.2.1 rfl | exact hd.2.2.2.2.2.1 rfl)
    refine Runs.of (b := ?bR1) ?eR1 ?_
    case eR1 => simp only [putV, Act.put, List.setIfInBounds_toArray, List.set_cons_zero, List.set_cons_succ, e0]; rfl
    intro K' hK'
    go_simp
    exact hK'.go _ rfl ⟨hC, hM, hk, hgr0, hgr1, hK, h0, fun _ => rfl, h2, h3, h4, h5, h6, h7, h8, h9, h10, h11⟩
  · intro l x w' hJ hi hd
    obtain ⟨hC, hM, hk, hgr0, hgr1, hK, h0, h1, h2, h3, h4, h5, h6, h7, h8, h9, h10, h11⟩ := hJ
    have e1 := h1 (show l 1 = true by first | exact hd.1 rfl | exact hd.2.1 rfl | exact hd.2.2.1 rfl | exact hd.2.2.2.1 rfl | exact hd.2.2.2.2.1 rfl | exact hd.2.2.2.2.2.1 rfl)
    refine Runs.of (b := ?bR2) ?eR2 ?_
    case eR2 => simp only [putV, Act.put, List.setIfInBounds_toArray, List.set_cons_zero, List.set_cons_succ, e1]; rfl
    intro K' hK'
    go_simp
    exact hK'.go _ rfl ⟨hC, hM, hk, hgr0, hgr1, hK, h0, h1, fun _ => rfl, h3, h4, h5, h6, h7, h8, h9, h10, h11⟩
  · intro l x w' hJ hi hd
    obtain ⟨hC, hM, hk, hgr0, hgr1, hK, h0, h1, h2, h3, h4, h5, h6, h7, h8, h9, h10, h11⟩ := hJ
    have e2 := h2 (show l 2 = true by first | exact hd.1 rfl | exact hd.2.1 rfl | exact hd.2.2.1 rfl | exact hd.2.2.2.1 rfl | exact hd.2.2.2.2.1 rfl | exact hd.2.2.2.2.2.1 rfl)
    have c11 := (ctc_11 hC).1
    refine Runs.of (b := ?bR3) ?eR3 ?_
    case eR3 => simp only [putV, Act.put, List.setIfInBounds_toArray, List.set_cons_zero, List.set_cons_succ, e2]; rfl
    intro K' hK'
    go_simp
    exact hK'.go _ rfl ⟨hC, hM, hk, hgr0, hgr1, hK, h0, h1, h2, fun _ => rfl, h4, h5, h6, h7, h8, h9, h10, h11⟩
  · intro l x w' hJ hi hd
    obtain ⟨hC, hM, hk, hgr0, hgr1, hK, h0, h1, h2, h3, h4, h5, h6, h7, h8, h9, h10, h11⟩ := hJ
    refine Runs.of (b := ?bR4) ?eR4 ?_
    case eR4 => simp only [putV, Act.put, List.setIfInBounds_toArray, List.set_cons_zero, List.set_cons_succ]; rfl
    intro K' hK'
    go_simp
    exact hK'.go _ rfl ⟨hC, hM, hk, hgr0, hgr1, hK, h0, h1, h2, h3, fun _ => rfl, h5, h6, h7, h8, h9, h10, h11⟩
  · intro l x w' hJ hi hd
    obtain ⟨hC, hM, hk, hgr0, hgr1, hK, h0, h1, h2, h3, h4, h5, h6, h7, h8, h9, h10, h11⟩ := hJ
    have e4 := h4 (show l 4 = true by first | exact hd.1 rfl | exact hd.2.1 rfl | exact hd.2.2.1 rfl | exact hd.2.2.2.1 rfl | exact hd.2.2.2.2.1 rfl | exact hd.2.2.2.2.2.1 rfl)
    have m1 := msc_1 hM
    refine Runs.of (b := ?bR5) ?eR5 ?_
    case eR5 => simp only [putV, Act.put, List.setIfInBounds_toArray, List.set_cons_zero, List.set_cons_succ, e4]; rfl
    intro K' hK'
    go_simp
    exact hK'.go _ rfl ⟨hC, hM, hk, hgr0, hgr1, hK, h0, h1, h2, h3, h4, fun _ => rfl, h6, h7, h8, h9, h10, h11⟩
  · intro l x w' hJ hi hd
    obtain ⟨hC, hM, hk, hgr0, hgr1, hK, h0, h1, h2, h3, h4, h5, h6, h7, h8, h9, h10, h11⟩ := hJ
    refine Runs.of (b := ?bR6) ?eR6 ?_
    case eR6 => simp only [putV, Act.put, List.setIfInBounds_toArray, List.set_cons_zero, List.set_cons_succ]; rfl
    intro K' hK'
    go_simp
    exact hK'.go _ rfl ⟨hC, hM, hk, hgr0, hgr1, hK, h0, h1, h2, h3, h4, h5, fun _ => rfl, h7, h8, h9, h10, h11⟩
  · intro l x w' hJ hi hd
    obtain ⟨hC, hM, hk, hgr0, hgr1, hK, h0, h1, h2, h3, h4, h5, h6, h7, h8, h9, h10, h11⟩ := hJ
    have e6 := h6 (show l 6 = true by first | exact hd.1 rfl | exact hd.2.1 rfl | exact hd.2.2.1 rfl | exact hd.2.2.2.1 rfl | exact hd.2.2.2.2.1 rfl | exact hd.2.2.2.2.2.1 rfl)
    refine Runs.of (b := ?bR7) ?eR7 ?_
    case eR7 => simp only [putV, Act.put, List.setIfInBounds_toArray, List.set_cons_zero, List.set_cons_succ, e6]; rfl
    intro K' hK'
    go_simp
    exact hK'.go _ rfl ⟨hC, hM, hk, hgr0, hgr1, hK, h0, h1, h2, h3, h4, h5, h6, fun _ => rfl, h8, h9, h10, h11⟩
  · intro l x w' hJ hi hd
    obtain ⟨hC, hM, hk, hgr0, hgr1, hK, h0, h1, h2, h3, h4, h5, h6, h7, h8, h9, h10, h11⟩ := hJ
    have e7 := h7 (show l 7 = true by first | exact hd.1 rfl | exact hd.2.1 rfl | exact hd.2.2.1 rfl | exact hd.2.2.2.1 rfl | exact hd.2.2.2.2.1 rfl | exact hd.2.2.2.2.2.1 rfl)
    refine Runs.of (b := ?bR8) ?eR8 ?_
    case eR8 => simp only [putV, Act.put, List.setIfInBounds_toArray, List.set_cons_zero, List.set_cons_succ, e7]; rfl
    intro K' hK'
    go_simp
    exact hK'.go _ rfl ⟨hC, hM, hk, hgr0, hgr1, hK, h0, h1, h2, h3, h4, h5, h6, h7, fun _ => rfl, h9, h10, h11⟩
  · intro l x w' hJ hi hd
    obtain ⟨hC, hM, hk, hgr0, hgr1, hK, h0, h1, h2, h3, h4, h5, h6, h7, h8, h9, h10, h11⟩ := hJ
    have e8 := h8 (show l 8 = true by first | exact hd.1 rfl | exact hd.2.1 rfl | exact hd.2.2.1 rfl | exact hd.2.2.2.1 rfl | exact hd.2.2.2.2.1 rfl | exact hd.2.2.2.2.2.1 rfl)
    have c0 := (ctc_0 hC).1
    refine Runs.of (b := ?bR9) ?eR9 ?_
    case eR9 => simp only [putV, Act.put, List.setIfInBounds_toArray, List.set_cons_zero, List.set_cons_succ, e8]; rfl
    intro K' hK'
    go_simp
    exact hK'.go _ rfl ⟨hC, hM, hk, hgr0, hgr1, hK, h0, h1, h2, h3, h4, h5, h6, h7, h8, fun _ => rfl, h10, h11⟩
  · intro l x w' hJ hi hd
    obtain ⟨hC, hM, hk, hgr0, hgr1, hK, h0, h1, h2, h3, h4, h5, h6, h7, h8, h9, h10, h11⟩ := hJ
    have e9 := h9 (show l 9 = true by first | exact hd.1 rfl | exact hd.2.1 rfl | exact hd.2.2.1 rfl | exact hd.2.2.2.1 rfl | exact hd.2.2.2.2.1 rfl | exact hd.2.2.2.2.2.1 rfl)
    refine Runs.of (b := ?bR10) ?eR10 ?_
    case eR10 => simp only [putV, Act.put, List.setIfInBounds_toArray, List.set_cons_zero, List.set_cons_succ, e9]; rfl
    intro K' hK'
    go_simp
    refine (now_any hk).mono ?_
    rintro e w2 ⟨rfl, rfl⟩
    go_simp
    exact hK'.go _ rfl ⟨hC, hM, hk, hgr0, hgr1, hK, h0, h1, h2, h3, h4, h5, h6, h7, h8, h9, fun _ => rfl, h11⟩
  · intro l x w' hJ hi hd
    obtain ⟨hC, hM, hk, hgr0, hgr1, hK, h0, h1, h2, h3, h4, h5, h6, h7, h8, h9, h10, h11⟩ := hJ
    have e3 := h3 (show l 3 = true by first | exact hd.1 rfl | exact hd.2.1 rfl | exact hd.2.2.1 rfl | exact hd.2.2.2.1 rfl | exact hd.2.2.2.2.1 rfl | exact hd.2.2.2.2.2.1 rfl)
    have e5 := h5 (show l 5 = true by first | exact hd.1 rfl | exact hd.2.1 rfl | exact hd.2.2.1 rfl | exact hd.2.2.2.1 rfl | exact hd.2.2.2.2.1 rfl | exact hd.2.2.2.2.2.1 rfl)
    have e10 := h10 (show l 10 = true by first | exact hd.1 rfl | exact hd.2.1 rfl | exact hd.2.2.1 rfl | exact hd.2.2.2.1 rfl | exact hd.2.2.2.2.1 rfl | exact hd.2.2.2.2.2.1 rfl)
    refine Runs.of (b := ?bR11) ?eR11 ?_
    case eR11 => simp only [putV, Act.put, List.setIfInBounds_toArray, List.set_cons_zero, List.set_cons_succ, e3, e5, e10]; rfl
    intro K' hK'
    obtain ⟨w2, hrun, hG2, k2⟩ := (hgr0 hi).put m.src now HN64.out HNW.out HNN.out
    go_simp
    have hne := HNE.out
    exact hK'.go undef rfl ⟨hC.keep k2 (by simp; omega), hM.keep k2 (by simp; omega), hk.keep k2 (by simp; omega), fun h => Bool.noConfusion (show true = false from h), fun _ => hG2, hK.trans k2, h0, h1, h2, h3, h4, h5, h6, h7, h8, h9, h10, fun _ => trivial⟩
  · intro l x w3 hJ hl
    obtain ⟨hC, hM, hk, hgr0, hgr1, hK, h0, h1, h2, h3, h4, h5, h6, h7, h8, h9, h10, h11⟩ := hJ
    have hg2 := hgr1 (hl 11 (by decide))
    simp only [putV, Act.put, List.setIfInBounds_toArray, List.set_cons_zero, List.set_cons_succ]
    simp only [Nat.zero_add, Nat.reduceAdd]
    have htg : ∀ q ∈ [g], ¬ Ty w1 q 3 := fun q hq ht => by
      simp at hq
      subst hq
      exact hgr.ne ht rfl
    have hR3 := HR2.out.keep hK htg
    have K3 : Keep [g] w w3 := (K2.mono (by simp)).trans hK
    clear hgr hkr hCr hMr hK K2 htg hgr0 hgr1 h0 h1 h2 h3 h4 h5 h6 h7 h8 h9 h10 h11 hl HR2
    have m1 := msc_1 hM
    have m4 := msc_4 hM
    go_wp2_with fail
    refine (member_any hC hR3 H0.out 2 m.src m.tick).mono ?_
    rintro e w6 ⟨v6, rfl, hY, k6⟩
    have hC6 := hC.keep k6 (by simp)
    have hR6 := hR3.still k6
    have hG6 := hg2.keep k6 (by simp)
    have hk6 := hk.keep k6 (by simp)
    have K6 : Keep [g] w w6 := K3.trans (k6.mono (by simp))
    obtain ⟨Y, hYd⟩ : ∃ Y, Y = (⟨memberM t 2 m.src m.tick, v6, .slice none 0 0⟩ : Tm) := ⟨_, rfl⟩
    rw [← hYd] at hY ⊢
    have HYM : Hid (Y.m = memberM t 2 m.src m.tick) := Lib.hid (by rw [hYd])
    clear hYd k6 hC hR3 hg2 hk K3 m1 m4
    obtain ⟨i0, hi, hz0, hz1, hz2⟩ := info_parts Try.infoMsg
    have hsz := K6.size
    have hY1 := hY.keep (S := []) ((Keep.refl [] w6).alloc (.cells (tmC Y).toArray 39)) (by simp)
    have hO1 := TRow.nil (w6.alloc (.cells (tmC Y).toArray 39)) w.heap.size
    have hsrc := src_tm (P := Try.prog) Try.underlying29 _ _ _ (Blk.new w6 (tmC Y) 39) hY.one
    go_wp2_with (first | (refine wpList_bs_tm rfl _ rfl Y rfl ?_) | (at_builtin; refine wpList_append_src _ rfl _ _ 29 29 rfl w.heap.size 39 i0 _ 21 256 Try.underlying29 hi hz0 hz1 hz2 rfl (by decide) (.slice none 0 0) 0 _ rfl hO1.own _ 1 _ rfl hsrc (by unfold maxLen; omega) (by omega) (by simp; omega) ?_; intro v1 w2 h2 h3 _ h4))
    have hO2 := hO1.snoc hY1 h2 (Keep.grown h3)
    have hK2 : Keep [] w6 w2 := ((Keep.refl [] w6).alloc _).then (Keep.grown h3) (fun q hq hlt => by simp [Value.ownBlock] at hq)
    go_ret
    have hR2 := hR6.still hK2
    exact ⟨_, rfl, [Y], (by have hh := hO2; rw [hmb] at hh; exact hh), (by simp [HYM.out]), hC6.keep hK2 (by simp), hR2, hG6.keep hK2 (by simp), hk6.keep hK2 (by simp), K6.trans (hK2.mono (by simp))⟩
end
end Go.Proofs.Ytcoaobdijlppgaa
