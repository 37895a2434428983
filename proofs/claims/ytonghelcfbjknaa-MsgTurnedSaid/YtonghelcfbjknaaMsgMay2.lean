/- Package msg: May. -/
import Derived.Test.YtonghelcfbjknaaMsgMay
namespace Go.Proofs.Ytonghelcfbjknaa
open Go.ChangeShapes Go.WideShapes Go.ChangeAt Go.RowKit
set_option linter.unusedVariables false
set_option linter.unusedSimpArgs false

theorem wpList_load_rowg {P : Program} {ops : Array Oper} {rest : List Oper} {o : Oper} {a : Act} {w : World} {Q : Exit → Act → World → Prop} (ty : TypeId) (x : Operand) (ho : o.op = .load ty x)
    (g : Nat) (hx : a.eval x = .pointer (some ⟨g, 0, none⟩)) (t : TypeId) (cs : Array Value) (fr : Nat × Nat) (d : TypeDesc) (hg : w.heap[g]? = some (.cells cs t fr))
    (hu : P.underlying ty = some d) (hd : (match d with | .struct _ | .array _ _ => true | _ => false) = true) (hi : (P.info? ty).map (·.size) = some cs.size)
    (hgd : Region.wanted o (yielded ops a.tmps) = true)
    (h : wpList P ops Q rest (a.put o.dst (.agg cs)) w) : wpList P ops Q (o :: rest) a w :=
  wpList_step fun K hK => by rw [if_pos hgd]; exact wp_load_row ty x ho g hx t cs fr d hg hu hd hi (hK _ _ h)
theorem itEq_zero (y : It) : itEq y.1 y.2.1 y.2.2.1 y.2.2.2 it0.1 it0.2.1 it0.2.2.1 it0.2.2.2 = decide (y = it0) := itEq_iff y it0
set_option maxHeartbeats 8000000 in
theorem msMay_any {w : World} (m : Ms) (vi vk vm vo : Value) (h : MsRd w m vi vk vm vo) (hz : MsSz m) (r : Bool) (hr : r = mayM m) :
    Calls Try.prog 11 #[msV m vi vk vm vo] w fun e w' => e = .returned (.bool r) ∧ Keep [] w w' := by
  have hM := Blk.new w (msC m vi vk vm vo) 29
  have h0 := h.alloc (.cells (msC m vi vk vm vo).toArray 29)
  have K0 := (Keep.refl [] w).alloc (.cells (msC m vi vk vm vo).toArray 29)
  have HR := Lib.hid hr
  clear hr
  go_enter Try.func11, Try.ntmps11
  have c0 := msc_0 hM
  have c1 := msc_1 hM
  have c2 := msc_2 hM
  by_cases g1 : m.kind < 1
  · have q1 : decide (m.kind < 1) = true := decide_eq_true g1
    have p1 : decide (1 ≤ m.kind) = false := decide_eq_false (by omega)
    go_wp2_with fail
    go_ret
    exact ⟨by rw [HR.out]; unfold mayM headOk; rw [p1]; rfl, K0⟩
  have q1 : decide (m.kind < 1) = false := decide_eq_false g1
  have p1 : decide (1 ≤ m.kind) = true := decide_eq_true (by omega)
  by_cases g2 : 14 < m.kind
  · have q2 : decide (14 < m.kind) = true := decide_eq_true g2
    have p2 : decide (m.kind ≤ 14) = false := decide_eq_false (by omega)
    go_wp2_with fail
    go_ret
    exact ⟨by rw [HR.out]; unfold mayM headOk; rw [p1, p2]; rfl, K0⟩
  have q2 : decide (14 < m.kind) = false := decide_eq_false g2
  have p2 : decide (m.kind ≤ 14) = true := decide_eq_true (by omega)
  by_cases g3 : m.src = m.dst
  · have q3 : (m.src == m.dst) = true := by simpa using g3
    have p3 : decide (m.src = m.dst) = true := decide_eq_true g3
    go_wp2_with fail
    go_ret
    exact ⟨by rw [HR.out]; unfold mayM headOk; rw [p1, p2, p3]; rfl, K0⟩
  have q3 : (m.src == m.dst) = false := by simpa using g3
  have p3 : decide (m.src = m.dst) = false := decide_eq_false g3
  obtain ⟨b4, hb4⟩ : ∃ b, b = inB 5 [m.src, m.dst] := ⟨_, rfl⟩
  have H4 := Lib.hid hb4
  clear hb4
  go_wp2_with fail
  have hv4 : Rv ((w.alloc (.cells (msC m vi vk vm vo).toArray 29)).alloc (.cells #[.int .i64 m.src, .int .i64 m.dst] 2)) 1 (.slice (some ⟨w.heap.size + 1, 0, none⟩) 2 2) 2 (ints [m.src, m.dst]) := Rv.new _ (ints [m.src, m.dst]) 2 1 2 2 rfl (by omega) (w.heap.size + 1) (by simp)
  refine (in_any 5 _ [m.src, m.dst] hv4 (by simp) b4 H4.out).mono ?_
  rintro e w5 ⟨rfl, rfl⟩
  clear hv4
  have hM4 := hM.alloc (.cells #[.int .i64 m.src, .int .i64 m.dst] 2)
  have K4 := K0.alloc (.cells #[.int .i64 m.src, .int .i64 m.dst] 2)
  have h4 := h0.alloc (.cells #[.int .i64 m.src, .int .i64 m.dst] 2)
  clear hM K0 h0 c0 c1 c2
  generalize (w.alloc (.cells (msC m vi vk vm vo).toArray 29)).alloc (.cells #[.int .i64 m.src, .int .i64 m.dst] 2) = w4 at *
  have hM := hM4
  have K0 := K4
  have h0 := h4
  clear hM4 K4 h4
  cases b4 with
  | false =>
    go_wp2_with fail
    go_ret
    exact ⟨by rw [HR.out]; unfold mayM headOk; rw [p1, p2, p3, ← H4.out]; rfl, K0⟩
  | true =>
  have c3 := msc_3 hM
  have c4 := msc_4 hM
  have c5 := msc_5 hM
  have c7 := msc_7 hM
  have c19 := msc_19 hM
  obtain ⟨b5, hb5⟩ : ∃ b, b = inB 1099511627776 [m.epoch, m.tick, m.seq, m.id, m.base] := ⟨_, rfl⟩
  have H5 := Lib.hid hb5
  clear hb5
  go_wp2_with fail
  have hv5 : Rv ((w4).alloc (.cells #[.int .i64 m.epoch, .int .i64 m.tick, .int .i64 m.seq, .int .i64 m.id, .int .i64 m.base] 2)) 1 (.slice (some ⟨w4.heap.size, 0, none⟩) 5 5) 5 (ints [m.epoch, m.tick, m.seq, m.id, m.base]) := Rv.new _ (ints [m.epoch, m.tick, m.seq, m.id, m.base]) 2 1 5 5 rfl (by omega) (w4.heap.size) (by simp)
  refine (in_any 1099511627776 _ [m.epoch, m.tick, m.seq, m.id, m.base] hv5 (by simp) b5 H5.out).mono ?_
  rintro e w5 ⟨rfl, rfl⟩
  clear hv5
  have hM5 := hM.alloc (.cells #[.int .i64 m.epoch, .int .i64 m.tick, .int .i64 m.seq, .int .i64 m.id, .int .i64 m.base] 2)
  have K5 := K0.alloc (.cells #[.int .i64 m.epoch, .int .i64 m.tick, .int .i64 m.seq, .int .i64 m.id, .int .i64 m.base] 2)
  have h5 := h0.alloc (.cells #[.int .i64 m.epoch, .int .i64 m.tick, .int .i64 m.seq, .int .i64 m.id, .int .i64 m.base] 2)
  clear hM K0 h0 c3 c4 c5 c7 c19
  generalize (w4).alloc (.cells #[.int .i64 m.epoch, .int .i64 m.tick, .int .i64 m.seq, .int .i64 m.id, .int .i64 m.base] 2) = w5 at *
  have hM := hM5
  have K0 := K5
  have h0 := h5
  clear hM5 K5 h5
  cases b5 with
  | false =>
    go_wp2_with fail
    go_ret
    exact ⟨by rw [HR.out]; unfold mayM headOk; rw [p1, p2, p3, ← H4.out, ← H5.out]; rfl, K0⟩
  | true =>
  have c6 := msc_6 hM
  obtain ⟨b6, hb6⟩ : ∃ b, b = inB 1073741824 [m.n] := ⟨_, rfl⟩
  have H6 := Lib.hid hb6
  clear hb6
  go_wp2_with fail
  have hv6 : Rv ((w5).alloc (.cells #[.int .i64 m.n] 2)) 1 (.slice (some ⟨w5.heap.size, 0, none⟩) 1 1) 1 (ints [m.n]) := Rv.new _ (ints [m.n]) 2 1 1 1 rfl (by omega) (w5.heap.size) (by simp)
  refine (in_any 1073741824 _ [m.n] hv6 (by simp) b6 H6.out).mono ?_
  rintro e w5 ⟨rfl, rfl⟩
  clear hv6
  have hM6 := hM.alloc (.cells #[.int .i64 m.n] 2)
  have K6 := K0.alloc (.cells #[.int .i64 m.n] 2)
  have h6 := h0.alloc (.cells #[.int .i64 m.n] 2)
  clear hM K0 h0 c6
  generalize (w5).alloc (.cells #[.int .i64 m.n] 2) = w6 at *
  have hM := hM6
  have K0 := K6
  have h0 := h6
  clear hM6 K6 h6
  cases b6 with
  | false =>
    go_wp2_with fail
    go_ret
    exact ⟨by rw [HR.out]; unfold mayM headOk; rw [p1, p2, p3, ← H4.out, ← H5.out, ← H6.out]; rfl, K0⟩
  | true =>
  have hh : headOk m = true := by unfold headOk; rw [p1, p2, p3, ← H4.out, ← H5.out, ← H6.out]; rfl
  clear p1 p2 p3 q1 q2 q3 g1 g2 g3 H4 H5 H6
  have c8 := msc_8 hM
  have c9 := msc_9 hM
  have c10 := msc_10 hM
  obtain ⟨b7, hb7⟩ : ∃ b, b = inB 2 [m.op] := ⟨_, rfl⟩
  have H7 := Lib.hid hb7
  clear hb7
  go_wp2_with fail
  have hv7 : Rv ((w6).alloc (.cells #[.int .i64 m.op] 2)) 1 (.slice (some ⟨w6.heap.size, 0, none⟩) 1 1) 1 (ints [m.op]) := Rv.new _ (ints [m.op]) 2 1 1 1 rfl (by omega) (w6.heap.size) (by simp)
  refine (in_any 2 _ [m.op] hv7 (by simp) b7 H7.out).mono ?_
  rintro e w5 ⟨rfl, rfl⟩
  clear hv7
  have hM7 := hM.alloc (.cells #[.int .i64 m.op] 2)
  have K7 := K0.alloc (.cells #[.int .i64 m.op] 2)
  have h7 := h0.alloc (.cells #[.int .i64 m.op] 2)
  clear hM K0 h0 c8 c9 c10
  generalize (w6).alloc (.cells #[.int .i64 m.op] 2) = w7 at *
  have hM := hM7
  have K0 := K7
  have h0 := h7
  clear hM7 K7 h7
  cases b7 with
  | false =>
    go_wp2_with fail
    go_ret
    exact ⟨by rw [HR.out]; unfold mayM midOk; rw [hh, ← H7.out]; rfl, K0⟩
  | true =>
  have c9 := msc_9 hM
  have c10 := msc_10 hM
  have hks := hz.key
  by_cases g8 : 40 < m.key.size
  · have q8 : decide (40 < (m.key.size : Int)) = true := decide_eq_true (by omega)
    have p8 : decide (m.key.size ≤ 40) = false := decide_eq_false (by omega)
    go_wp2_with fail
    go_ret
    exact ⟨by rw [HR.out]; unfold mayM midOk; rw [hh, ← H7.out, p8]; rfl, K0⟩
  have q8 : decide (40 < (m.key.size : Int)) = false := decide_eq_false (by omega)
  have p8 : decide (m.key.size ≤ 40) = true := decide_eq_true (by omega)
  obtain ⟨b9, hb9⟩ : ∃ b, b = inB 10 [m.err] := ⟨_, rfl⟩
  have H9 := Lib.hid hb9
  clear hb9
  go_wp2_with fail
  have hv9 : Rv ((w7).alloc (.cells #[.int .i64 m.err] 2)) 1 (.slice (some ⟨w7.heap.size, 0, none⟩) 1 1) 1 (ints [m.err]) := Rv.new _ (ints [m.err]) 2 1 1 1 rfl (by omega) (w7.heap.size) (by simp)
  refine (in_any 10 _ [m.err] hv9 (by simp) b9 H9.out).mono ?_
  rintro e w5 ⟨rfl, rfl⟩
  clear hv9
  have hM9 := hM.alloc (.cells #[.int .i64 m.err] 2)
  have K9 := K0.alloc (.cells #[.int .i64 m.err] 2)
  have h9 := h0.alloc (.cells #[.int .i64 m.err] 2)
  clear hM K0 h0 c9 c10
  generalize (w7).alloc (.cells #[.int .i64 m.err] 2) = w9 at *
  have hM := hM9
  have K0 := K9
  have h0 := h9
  clear hM9 K9 h9
  cases b9 with
  | false =>
    go_wp2_with fail
    go_ret
    exact ⟨by rw [HR.out]; unfold mayM midOk; rw [hh, ← H7.out, p8, ← H9.out]; rfl, K0⟩
  | true =>
  have hm : midOk m = true := by unfold midOk; rw [← H7.out, p8, ← H9.out]; rfl
  clear H7 H9 p8 q8 g8

  have c12 := msc_12 hM
  have c13 := msc_13 hM
  have c14 := msc_14 hM
  have c15 := msc_15 hM
  obtain ⟨bL, hbL⟩ : ∃ b, b = listsOk m := ⟨_, rfl⟩
  have HL := Lib.hid hbL
  clear hbL
  have hir : r = ((decide (m.it = it0) || mayIt m.it) && listsOk m) := by rw [HR.out]; unfold mayM; rw [hh, hm, Bool.true_and, Bool.true_and]
  have HIR := Lib.hid hir
  clear hir
  obtain ⟨hi1, hi2⟩ := hz.it
  by_cases hi0 : m.it = it0
  · have z1 : m.it.1.toList = [] := str_nil.2 (by rw [hi0]; rfl)
    have z2 : m.it.2.1.toList = [] := str_nil.2 (by rw [hi0]; rfl)
    have z3 : m.it.2.2.1 = 0 := by rw [hi0]; rfl
    have z4 : m.it.2.2.2 = false := by rw [hi0]; rfl
    have HI := Lib.hid (show decide (m.it = it0) = true from decide_eq_true hi0)
    clear hi0
    go_wp2_with (refine wpList_load_rowg 29 _ rfl w.heap.size rfl 29 (msC m vi vk vm vo).toArray (0, 0) _ hM Try.underlying29 rfl Try.sizeMsg (by rfl) ?_)
    refine (lists_any m vi vk vm vo h0 hz bL HL.out).mono ?_
    rintro e w5 ⟨rfl, k5⟩
    go_wp2_with fail
    go_ret
    have hfin : r = bL := by rw [HIR.out, HI.out, ← HL.out, Bool.true_or, Bool.true_and]
    exact ⟨by rw [hfin]; rfl, K0.trans k5⟩
  have HI := Lib.hid (show decide (m.it = it0) = false from decide_eq_false hi0)
  have HN := Lib.hid hi0
  clear hi0
  obtain ⟨bI, hbI⟩ : ∃ b, b = itMay m.it.1 m.it.2.1 m.it.2.2.1 m.it.2.2.2 := ⟨_, rfl⟩
  have HBI := Lib.hid hbI
  clear hbI
  by_cases z1 : m.it.1.toList = []
  case neg =>
      go_wp2_with fail
      refine (May_any m.it.1 m.it.2.1 m.it.2.2.1 m.it.2.2.2 hi1 hi2 bI HBI.out).mono ?_
      rintro e w5 ⟨rfl, k5⟩
      replace hM := hM.keep k5 (by simp)
      replace h0 := h0.keep k5
      replace K0 := K0.trans k5
      clear c12 c13 c14 c15 k5
      cases bI with
      | false =>
        go_wp2_with fail
        go_ret
        have hfin : r = false := by rw [HIR.out, HI.out, show mayIt m.it = false from HBI.out.symm, Bool.false_or, Bool.false_and]
        exact ⟨by rw [hfin]; rfl, K0⟩
      | true =>
        go_wp2_with (refine wpList_load_rowg 29 _ rfl w.heap.size rfl 29 (msC m vi vk vm vo).toArray (0, 0) _ hM Try.underlying29 rfl Try.sizeMsg (by rfl) ?_)
        refine (lists_any m vi vk vm vo h0 hz bL HL.out).mono ?_
        rintro e w6 ⟨rfl, k6⟩
        go_wp2_with fail
        go_ret
        have hfin : r = bL := by rw [HIR.out, HI.out, show mayIt m.it = true from HBI.out.symm, ← HL.out, Bool.false_or, Bool.true_and]
        exact ⟨by rw [hfin]; rfl, K0.trans k6⟩
  by_cases z2 : m.it.2.1.toList = []
  case neg =>
      go_wp2_with fail
      refine (May_any m.it.1 m.it.2.1 m.it.2.2.1 m.it.2.2.2 hi1 hi2 bI HBI.out).mono ?_
      rintro e w5 ⟨rfl, k5⟩
      replace hM := hM.keep k5 (by simp)
      replace h0 := h0.keep k5
      replace K0 := K0.trans k5
      clear c12 c13 c14 c15 k5
      cases bI with
      | false =>
        go_wp2_with fail
        go_ret
        have hfin : r = false := by rw [HIR.out, HI.out, show mayIt m.it = false from HBI.out.symm, Bool.false_or, Bool.false_and]
        exact ⟨by rw [hfin]; rfl, K0⟩
      | true =>
        go_wp2_with (refine wpList_load_rowg 29 _ rfl w.heap.size rfl 29 (msC m vi vk vm vo).toArray (0, 0) _ hM Try.underlying29 rfl Try.sizeMsg (by rfl) ?_)
        refine (lists_any m vi vk vm vo h0 hz bL HL.out).mono ?_
        rintro e w6 ⟨rfl, k6⟩
        go_wp2_with fail
        go_ret
        have hfin : r = bL := by rw [HIR.out, HI.out, show mayIt m.it = true from HBI.out.symm, ← HL.out, Bool.false_or, Bool.true_and]
        exact ⟨by rw [hfin]; rfl, K0.trans k6⟩
  by_cases z3 : m.it.2.2.1 = 0
  case neg =>
      go_wp2_with fail
      refine (May_any m.it.1 m.it.2.1 m.it.2.2.1 m.it.2.2.2 hi1 hi2 bI HBI.out).mono ?_
      rintro e w5 ⟨rfl, k5⟩
      replace hM := hM.keep k5 (by simp)
      replace h0 := h0.keep k5
      replace K0 := K0.trans k5
      clear c12 c13 c14 c15 k5
      cases bI with
      | false =>
        go_wp2_with fail
        go_ret
        have hfin : r = false := by rw [HIR.out, HI.out, show mayIt m.it = false from HBI.out.symm, Bool.false_or, Bool.false_and]
        exact ⟨by rw [hfin]; rfl, K0⟩
      | true =>
        go_wp2_with (refine wpList_load_rowg 29 _ rfl w.heap.size rfl 29 (msC m vi vk vm vo).toArray (0, 0) _ hM Try.underlying29 rfl Try.sizeMsg (by rfl) ?_)
        refine (lists_any m vi vk vm vo h0 hz bL HL.out).mono ?_
        rintro e w6 ⟨rfl, k6⟩
        go_wp2_with fail
        go_ret
        have hfin : r = bL := by rw [HIR.out, HI.out, show mayIt m.it = true from HBI.out.symm, ← HL.out, Bool.false_or, Bool.true_and]
        exact ⟨by rw [hfin]; rfl, K0.trans k6⟩
  by_cases z4 : m.it.2.2.2 = true
  case pos =>
      have HB4 : Hid (bI = itMay m.it.1 m.it.2.1 0 true) := Lib.hid (by have := HBI.out; rw [z3, z4] at this; exact this)
      go_wp2_with fail
      refine (May_any m.it.1 m.it.2.1 0 true hi1 hi2 bI HB4.out).mono ?_
      rintro e w5 ⟨rfl, k5⟩
      replace hM := hM.keep k5 (by simp)
      replace h0 := h0.keep k5
      replace K0 := K0.trans k5
      clear c12 c13 c14 c15 k5
      cases bI with
      | false =>
        go_wp2_with fail
        go_ret
        have hfin : r = false := by rw [HIR.out, HI.out, show mayIt m.it = false from HBI.out.symm, Bool.false_or, Bool.false_and]
        exact ⟨by rw [hfin]; rfl, K0⟩
      | true =>
        go_wp2_with (refine wpList_load_rowg 29 _ rfl w.heap.size rfl 29 (msC m vi vk vm vo).toArray (0, 0) _ hM Try.underlying29 rfl Try.sizeMsg (by rfl) ?_)
        refine (lists_any m vi vk vm vo h0 hz bL HL.out).mono ?_
        rintro e w6 ⟨rfl, k6⟩
        go_wp2_with fail
        go_ret
        have hfin : r = bL := by rw [HIR.out, HI.out, show mayIt m.it = true from HBI.out.symm, ← HL.out, Bool.false_or, Bool.true_and]
        exact ⟨by rw [hfin]; rfl, K0.trans k6⟩
  exact absurd (Prod.ext (tl_inj (z1.trans (str_nil.2 rfl).symm)) (Prod.ext (tl_inj (z2.trans (str_nil.2 rfl).symm)) (Prod.ext z3 (show m.it.2.2.2 = false by simpa using z4)))) HN.out
end Go.Proofs.Ytonghelcfbjknaa
