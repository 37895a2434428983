/- Package msg: Eq. -/
import Derived.Test.YtonghelcfbjknaaMsgEq2
namespace Go.Proofs.Ytonghelcfbjknaa
open Go.ChangeShapes Go.WideShapes Go.ChangeAt Go.RowKit
set_option linter.unusedVariables false
set_option linter.unusedSimpArgs false

def eqOne (a b : Ms) : Bool := decide (a.kind = b.kind ∧ a.src = b.src ∧ a.dst = b.dst ∧ a.epoch = b.epoch ∧ a.tick = b.tick ∧ a.seq = b.seq ∧ a.n = b.n ∧ a.id = b.id)
def eqTwo (a b : Ms) : Bool := decide (a.op = b.op ∧ a.key = b.key ∧ a.err = b.err ∧ a.last = b.last ∧ a.it = b.it ∧ a.base = b.base)
def eqRows (a b : Ms) : Bool := decide (a.its = b.its) && (decide (a.mks = b.mks) && (decide (a.mem = b.mem) && decide (a.old = b.old)))
def eqM (a b : Ms) : Bool := eqOne a b && (eqTwo a b && eqRows a b)
theorem eqM_iff (a b : Ms) : eqM a b = true ↔ a = b := by
  unfold eqM eqOne eqTwo eqRows
  simp only [Bool.and_eq_true, decide_eq_true_eq]
  constructor
  · rintro ⟨⟨h1, h2, h3, h4, h5, h6, h7, h8⟩, ⟨h9, h10, h11, h12, h13, h14⟩, h15, h16, h17, h18⟩
    cases a; cases b
    simp only at h1 h2 h3 h4 h5 h6 h7 h8 h9 h10 h11 h12 h13 h14 h15 h16 h17 h18
    subst h1 h2 h3 h4 h5 h6 h7 h8 h9 h10 h11 h12 h13 h14 h15 h16 h17 h18
    rfl
  · rintro rfl
    exact ⟨⟨rfl, rfl, rfl, rfl, rfl, rfl, rfl, rfl⟩, ⟨rfl, rfl, rfl, rfl, rfl, rfl⟩, rfl, rfl, rfl, rfl⟩
set_option maxRecDepth 100000 in
set_option maxHeartbeats 16000000 in
theorem msEq_any {w : World} (a b : Ms) (vi vk vm vo ui uk um uo : Value) (ha : MsRd w a vi vk vm vo) (hb : MsRd w b ui uk um uo) (hza : MsSz a) (hzb : MsSz b) (r : Bool) (hr : r = eqM a b) :
    Calls Try.prog 17 #[msV a vi vk vm vo, msV b ui uk um uo] w fun e w' => e = .returned (.bool r) ∧ Keep [] w w' := by
  have HR := Lib.hid hr
  clear hr
  have hA := (Blk.new w (msC a vi vk vm vo) 29).alloc (.cells (msC b ui uk um uo).toArray 29)
  have hB := Blk.new' (w.alloc (.cells (msC a vi vk vm vo).toArray 29)) (msC b ui uk um uo) 29 (w.heap.size + 1) (by simp)
  have ra := (ha.alloc (.cells (msC a vi vk vm vo).toArray 29)).alloc (.cells (msC b ui uk um uo).toArray 29)
  have rb := (hb.alloc (.cells (msC a vi vk vm vo).toArray 29)).alloc (.cells (msC b ui uk um uo).toArray 29)
  have K0 := ((Keep.refl [] w).alloc (.cells (msC a vi vk vm vo).toArray 29)).alloc (.cells (msC b ui uk um uo).toArray 29)
  go_enter Try.func17, Try.ntmps17
  go_upto_region 1 with fail
  change Code.wp _ _ _ _ ((w.alloc (.cells (msC a vi vk vm vo).toArray 29)).alloc (.cells (msC b ui uk um uo).toArray 29))
  generalize (w.alloc (.cells (msC a vi vk vm vo).toArray 29)).alloc (.cells (msC b ui uk um uo).toArray 29) = w1 at *
  go_cut [5] (fun s wc => s = .bool (eqOne a b) ∧ w1 = wc)
  case first =>
    have c0 := msc_0 hA
    have d0 := msc_0 hB
    have c1 := msc_1 hA
    have d1 := msc_1 hB
    have c2 := msc_2 hA
    have d2 := msc_2 hB
    have c3 := msc_3 hA
    have d3 := msc_3 hB
    have c4 := msc_4 hA
    have d4 := msc_4 hB
    have c5 := msc_5 hA
    have d5 := msc_5 hB
    have c6 := msc_6 hA
    have d6 := msc_6 hB
    have c7 := msc_7 hA
    have d7 := msc_7 hB
    by_cases g0 : a.kind = b.kind
    case neg =>
      have q0 : (a.kind == b.kind) = false := by simpa using g0
      have HE := Lib.hid (show eqOne a b = false from decide_eq_false (fun h => g0 h.1))
      go_wp2_with fail
      go_meet
      exact ⟨by rw [HE.out], rfl⟩
    have q0 : (a.kind == b.kind) = true := by simpa using g0
    have G0 := Lib.hid g0
    clear g0
    by_cases g1 : a.src = b.src
    case neg =>
      have q1 : (a.src == b.src) = false := by simpa using g1
      have HE := Lib.hid (show eqOne a b = false from decide_eq_false (fun h => g1 h.2.1))
      go_wp2_with fail
      go_meet
      exact ⟨by rw [HE.out], rfl⟩
    have q1 : (a.src == b.src) = true := by simpa using g1
    have G1 := Lib.hid g1
    clear g1
    by_cases g2 : a.dst = b.dst
    case neg =>
      have q2 : (a.dst == b.dst) = false := by simpa using g2
      have HE := Lib.hid (show eqOne a b = false from decide_eq_false (fun h => g2 h.2.2.1))
      go_wp2_with fail
      go_meet
      exact ⟨by rw [HE.out], rfl⟩
    have q2 : (a.dst == b.dst) = true := by simpa using g2
    have G2 := Lib.hid g2
    clear g2
    by_cases g3 : a.epoch = b.epoch
    case neg =>
      have q3 : (a.epoch == b.epoch) = false := by simpa using g3
      have HE := Lib.hid (show eqOne a b = false from decide_eq_false (fun h => g3 h.2.2.2.1))
      go_wp2_with fail
      go_meet
      exact ⟨by rw [HE.out], rfl⟩
    have q3 : (a.epoch == b.epoch) = true := by simpa using g3
    have G3 := Lib.hid g3
    clear g3
    by_cases g4 : a.tick = b.tick
    case neg =>
      have q4 : (a.tick == b.tick) = false := by simpa using g4
      have HE := Lib.hid (show eqOne a b = false from decide_eq_false (fun h => g4 h.2.2.2.2.1))
      go_wp2_with fail
      go_meet
      exact ⟨by rw [HE.out], rfl⟩
    have q4 : (a.tick == b.tick) = true := by simpa using g4
    have G4 := Lib.hid g4
    clear g4
    by_cases g5 : a.seq = b.seq
    case neg =>
      have q5 : (a.seq == b.seq) = false := by simpa using g5
      have HE := Lib.hid (show eqOne a b = false from decide_eq_false (fun h => g5 h.2.2.2.2.2.1))
      go_wp2_with fail
      go_meet
      exact ⟨by rw [HE.out], rfl⟩
    have q5 : (a.seq == b.seq) = true := by simpa using g5
    have G5 := Lib.hid g5
    clear g5
    by_cases g6 : a.n = b.n
    case neg =>
      have q6 : (a.n == b.n) = false := by simpa using g6
      have HE := Lib.hid (show eqOne a b = false from decide_eq_false (fun h => g6 h.2.2.2.2.2.2.1))
      go_wp2_with fail
      go_meet
      exact ⟨by rw [HE.out], rfl⟩
    have q6 : (a.n == b.n) = true := by simpa using g6
    have G6 := Lib.hid g6
    clear g6
    by_cases g7 : a.id = b.id
    case neg =>
      have q7 : (a.id == b.id) = false := by simpa using g7
      have HE := Lib.hid (show eqOne a b = false from decide_eq_false (fun h => g7 h.2.2.2.2.2.2.2))
      go_wp2_with fail
      go_meet
      exact ⟨by rw [HE.out], rfl⟩
    have q7 : (a.id == b.id) = true := by simpa using g7
    have G7 := Lib.hid g7
    clear g7
    have HE := Lib.hid (show eqOne a b = true from decide_eq_true ⟨G0.out, G1.out, G2.out, G3.out, G4.out, G5.out, G6.out, G7.out⟩)
    go_wp2_with fail
    go_meet
    exact ⟨by rw [HE.out], rfl⟩
  case rest =>
  obtain ⟨rfl, rfl⟩ := hcut
  go_upto_region 2 with fail
  go_cut [6] (fun s wc => s = .bool (eqTwo a b) ∧ w1 = wc)
  case first =>
    have c8 := msc_8 hA
    have d8 := msc_8 hB
    have c9 := msc_9 hA
    have d9 := msc_9 hB
    have c10 := msc_10 hA
    have d10 := msc_10 hB
    have c11 := msc_11 hA
    have d11 := msc_11 hB
    have c12 := msc_12 hA
    have d12 := msc_12 hB
    have c13 := msc_13 hA
    have d13 := msc_13 hB
    have c14 := msc_14 hA
    have d14 := msc_14 hB
    have c15 := msc_15 hA
    have d15 := msc_15 hB
    have c19 := msc_19 hA
    have d19 := msc_19 hB
    by_cases g8 : a.op = b.op
    case neg =>
      have q8 : (a.op == b.op) = false := by simpa using g8
      have HE := Lib.hid (show eqTwo a b = false from decide_eq_false (fun h => g8 h.1))
      go_wp2_with fail
      go_meet
      exact ⟨by rw [HE.out], rfl⟩
    have q8 : (a.op == b.op) = true := by simpa using g8
    have G8 := Lib.hid g8
    clear g8
    by_cases g9 : a.key.toList = b.key.toList
    case neg =>
      have q9 : (a.key.toList == b.key.toList) = false := by simpa using g9
      have HE := Lib.hid (show eqTwo a b = false from decide_eq_false (fun h => g9 (by rw [h.2.1])))
      go_wp2_with fail
      go_meet
      exact ⟨by rw [HE.out], rfl⟩
    have q9 : (a.key.toList == b.key.toList) = true := by simpa using g9
    have G9 := Lib.hid g9
    clear g9
    by_cases g10 : a.err = b.err
    case neg =>
      have q10 : (a.err == b.err) = false := by simpa using g10
      have HE := Lib.hid (show eqTwo a b = false from decide_eq_false (fun h => g10 h.2.2.1))
      go_wp2_with fail
      go_meet
      exact ⟨by rw [HE.out], rfl⟩
    have q10 : (a.err == b.err) = true := by simpa using g10
    have G10 := Lib.hid g10
    clear g10
    by_cases g11 : a.last = b.last
    case neg =>
      have q11 : (a.last == b.last) = false := by simpa using g11
      have HE := Lib.hid (show eqTwo a b = false from decide_eq_false (fun h => g11 h.2.2.2.1))
      go_wp2_with fail
      go_meet
      exact ⟨by rw [HE.out], rfl⟩
    have q11 : (a.last == b.last) = true := by simpa using g11
    have G11 := Lib.hid g11
    clear g11
    by_cases g12 : a.it.1.toList = b.it.1.toList
    case neg =>
      have HE := Lib.hid (show eqTwo a b = false from decide_eq_false (fun h => g12 (by rw [h.2.2.2.2.1])))
      go_wp2_with fail
      go_meet
      exact ⟨by rw [HE.out], rfl⟩
    by_cases g13 : a.it.2.1.toList = b.it.2.1.toList
    case neg =>
      have HE := Lib.hid (show eqTwo a b = false from decide_eq_false (fun h => g13 (by rw [h.2.2.2.2.1])))
      go_wp2_with fail
      go_meet
      exact ⟨by rw [HE.out], rfl⟩
    by_cases g14 : a.it.2.2.1 = b.it.2.2.1
    case neg =>
      have HE := Lib.hid (show eqTwo a b = false from decide_eq_false (fun h => g14 (by rw [h.2.2.2.2.1])))
      go_wp2_with fail
      go_meet
      exact ⟨by rw [HE.out], rfl⟩
    by_cases g15 : a.it.2.2.2 = b.it.2.2.2
    case neg =>
      have HE := Lib.hid (show eqTwo a b = false from decide_eq_false (fun h => g15 (by rw [h.2.2.2.2.1])))
      go_wp2_with fail
      go_meet
      exact ⟨by rw [HE.out], rfl⟩
    have G12 := Lib.hid (show a.it = b.it from Prod.ext (tl_inj g12) (Prod.ext (tl_inj g13) (Prod.ext g14 g15)))
    by_cases g19 : a.base = b.base
    case neg =>
      have q19 : (a.base == b.base) = false := by simpa using g19
      have HE := Lib.hid (show eqTwo a b = false from decide_eq_false (fun h => g19 h.2.2.2.2.2))
      go_wp2_with fail
      go_meet
      exact ⟨by rw [HE.out], rfl⟩
    have q19 : (a.base == b.base) = true := by simpa using g19
    have G19 := Lib.hid g19
    clear g19
    have HE := Lib.hid (show eqTwo a b = true from decide_eq_true ⟨G8.out, (tl_inj G9.out), G10.out, G11.out, G12.out, G19.out⟩)
    go_wp2_with fail
    go_meet
    exact ⟨by rw [HE.out], rfl⟩
  case rest =>
  obtain ⟨rfl, rfl⟩ := hcut
  go_upto_region 3 with fail
  have HM : Hid (r = (eqOne a b && (eqTwo a b && (decide (a.its = b.its) && (decide (a.mks = b.mks) && (decide (a.mem = b.mem) && decide (a.old = b.old))))))) := Lib.hid HR.out
  rcases Bool.eq_false_or_eq_true (eqOne a b) with e1 | e1
  case inr =>
    have HF : Hid (r = false) := Lib.hid (by rw [HM.out, e1, Bool.false_and])
    go_wp2_with fail
    go_ret
    exact ⟨by rw [HF.out]; rfl, K0⟩
  rcases Bool.eq_false_or_eq_true (eqTwo a b) with e2 | e2
  case inr =>
    have HF : Hid (r = false) := Lib.hid (by rw [HM.out, e1, e2, Bool.true_and, Bool.false_and])
    go_wp2_with fail
    go_ret
    exact ⟨by rw [HF.out]; rfl, K0⟩
  have HM2 : Hid (r = (decide (a.its = b.its) && (decide (a.mks = b.mks) && (decide (a.mem = b.mem) && decide (a.old = b.old))))) := Lib.hid (by rw [HM.out, e1, e2, Bool.true_and, Bool.true_and])
  have c16 := msc_16 hA
  have d16 := msc_16 hB
  obtain ⟨y1, hy1⟩ : ∃ y, y = decide (a.its = b.its) := ⟨_, rfl⟩
  have Y1 := Lib.hid hy1
  clear hy1
  go_wp2_with fail
  refine (slIts_any _ _ a.its b.its ra.its rb.its hza.itsn hzb.itsn y1 Y1.out).mono ?_
  rintro e w5 ⟨rfl, k5⟩
  replace hA := hA.keep k5 (by simp)
  replace hB := hB.keep k5 (by simp)
  replace ra := ra.keep k5
  replace rb := rb.keep k5
  replace K0 := K0.trans k5
  clear k5 c16 d16
  cases y1 with
  | false =>
    have HF : Hid (r = false) := Lib.hid (by rw [HM2.out]; rw [← Y1.out, Bool.false_and])
    go_wp2_with fail
    go_ret
    exact ⟨by rw [HF.out]; rfl, K0⟩
  | true =>
  have c17 := msc_17 hA
  have d17 := msc_17 hB
  obtain ⟨y2, hy2⟩ : ∃ y, y = decide (a.mks = b.mks) := ⟨_, rfl⟩
  have Y2 := Lib.hid hy2
  clear hy2
  go_wp2_with fail
  refine (slMks_any _ _ a.mks b.mks ra.mks rb.mks hza.mksn hzb.mksn y2 Y2.out).mono ?_
  rintro e w5 ⟨rfl, k5⟩
  replace hA := hA.keep k5 (by simp)
  replace hB := hB.keep k5 (by simp)
  replace ra := ra.keep k5
  replace rb := rb.keep k5
  replace K0 := K0.trans k5
  clear k5 c17 d17
  cases y2 with
  | false =>
    have HF : Hid (r = false) := Lib.hid (by rw [HM2.out]; rw [← Y1.out, Bool.true_and]; rw [← Y2.out, Bool.false_and])
    go_wp2_with fail
    go_ret
    exact ⟨by rw [HF.out]; rfl, K0⟩
  | true =>
  have c18 := msc_18 hA
  have d18 := msc_18 hB
  obtain ⟨y3, hy3⟩ : ∃ y, y = decide (a.mem = b.mem) := ⟨_, rfl⟩
  have Y3 := Lib.hid hy3
  clear hy3
  go_wp2_with fail
  refine (slInts_any _ _ a.mem b.mem ra.mem rb.mem hza.memn hzb.memn y3 Y3.out).mono ?_
  rintro e w5 ⟨rfl, k5⟩
  replace hA := hA.keep k5 (by simp)
  replace hB := hB.keep k5 (by simp)
  replace ra := ra.keep k5
  replace rb := rb.keep k5
  replace K0 := K0.trans k5
  clear k5 c18 d18
  cases y3 with
  | false =>
    have HF : Hid (r = false) := Lib.hid (by rw [HM2.out]; rw [← Y1.out, Bool.true_and]; rw [← Y2.out, Bool.true_and]; rw [← Y3.out, Bool.false_and])
    go_wp2_with fail
    go_ret
    exact ⟨by rw [HF.out]; rfl, K0⟩
  | true =>
  have c20 := msc_20 hA
  have d20 := msc_20 hB
  obtain ⟨y4, hy4⟩ : ∃ y, y = decide (a.old = b.old) := ⟨_, rfl⟩
  have Y4 := Lib.hid hy4
  clear hy4
  go_wp2_with fail
  refine (slInts_any _ _ a.old b.old ra.old rb.old hza.oldn hzb.oldn y4 Y4.out).mono ?_
  rintro e w5 ⟨rfl, k5⟩
  replace hA := hA.keep k5 (by simp)
  replace hB := hB.keep k5 (by simp)
  replace ra := ra.keep k5
  replace rb := rb.keep k5
  replace K0 := K0.trans k5
  clear k5 c20 d20
  have HF : Hid (r = y4) := Lib.hid (by rw [HM2.out]; rw [← Y1.out, Bool.true_and]; rw [← Y2.out, Bool.true_and]; rw [← Y3.out, Bool.true_and]; exact Y4.out.symm)
  go_wp2_with fail
  go_ret
  exact ⟨by rw [HF.out]; rfl, K0⟩
end Go.Proofs.Ytonghelcfbjknaa
