/- The reference's messages: Msg. -/
import Derived.Test.YtonghelcfbjknaaMsgRef2
namespace Go.Proofs.Ytonghelcfbjknaa
open Go.ChangeShapes Go.WideShapes Go.ChangeAt Go.RowKit
set_option linter.unusedVariables false
set_option linter.unusedSimpArgs false

def good3 (m : Ms) : Bool := (decide (m.it = it0) || mayIt m.it) && (decide (m.its.length ≤ 4) && (decide (m.mks.length ≤ 4) && ((decide (m.mem.length = 0) || nodesOk m.mem) && (decide (m.old.length = 0) || nodesOk m.old))))
theorem good3_lists (m : Ms) : ((decide (m.it = it0) || mayIt m.it) && listsOk m) = (good3 m && (m.its.all mayIt && mksOk m.mks)) := by
  unfold good3 listsOk
  rw [Bool.eq_iff_iff]
  simp only [Bool.and_eq_true]
  constructor
  · rintro ⟨h1, h2, h3, h4, h5, h6, h7⟩
    exact ⟨⟨h1, h4, h5, h6, h7⟩, h3, h2⟩
  · rintro ⟨⟨h1, h4, h5, h6, h7⟩, h3, h2⟩
    exact ⟨h1, h2, h3, h4, h5, h6, h7⟩
set_option maxRecDepth 100000 in
set_option maxHeartbeats 64000000 in
theorem refMsg_good {w : World} (m : Ms) (vi vk vm vo : Value) (h : MsRd w m vi vk vm vo) (hz : MsSz m) (r : Bool) (hgood : HeadM m) (hr : r = mayM m) :
    Calls Try.prog 12 #[msV m vi vk vm vo] w fun e w' => e = .returned (.bool r) ∧ Keep [] w w' := by
  have hM := Blk.new w (msC m vi vk vm vo) 29
  have h0 := h.alloc (.cells (msC m vi vk vm vo).toArray 29)
  have K0 := (Keep.refl [] w).alloc (.cells (msC m vi vk vm vo).toArray 29)
  have HR : Hid (r = true ↔ MayM m) := Lib.hid (by rw [hr]; exact mayM_iff m)
  have HF : Hid (¬ MayM m → r = false) := Lib.hid (fun hh => by cases hb : r with | false => rfl | true => exact absurd (HR.out.1 hb) hh)
  clear hr
  have HG0 := Lib.hid hgood
  clear hgood
  have hks := hz.key
  obtain ⟨_, ka, kcap, rfl, _, _⟩ := id h.mks
  obtain ⟨_, ia, icap, rfl, _, _⟩ := id h.its
  obtain ⟨_, ma, mcap, rfl, _, _⟩ := id h.mem
  obtain ⟨_, oa, ocap, rfl, _, _⟩ := id h.old
  have c0 := msc_0 hM
  have c1 := msc_1 hM
  have c2 := msc_2 hM
  have c3 := msc_3 hM
  have c4 := msc_4 hM
  have c5 := msc_5 hM
  have c7 := msc_7 hM
  have c19 := msc_19 hM
  have c6 := msc_6 hM
  have c8 := msc_8 hM
  have c9 := msc_9 hM
  have c10 := msc_10 hM
  go_enter Try.func12, Try.ntmps12
  by_cases g1 : m.kind < 1
  · exact absurd HG0.out.kind (by omega)
  have q1 : decide (m.kind < 1) = false := decide_eq_false g1
  by_cases g2 : 14 < m.kind
  · exact absurd HG0.out.kind (by omega)
  have q2 : decide (14 < m.kind) = false := decide_eq_false g2
  by_cases g3 : m.src < 0
  · exact absurd HG0.out.src (by omega)
  have q3 : decide (m.src < 0) = false := decide_eq_false g3
  by_cases g4 : 5 < m.src
  · exact absurd HG0.out.src (by omega)
  have q4 : decide (5 < m.src) = false := decide_eq_false g4
  by_cases g5 : m.dst < 0
  · exact absurd HG0.out.dst (by omega)
  have q5 : decide (m.dst < 0) = false := decide_eq_false g5
  by_cases g6 : 5 < m.dst
  · exact absurd HG0.out.dst (by omega)
  have q6 : decide (5 < m.dst) = false := decide_eq_false g6
  by_cases g7 : m.src = m.dst
  · exact absurd HG0.out.ne (by omega)
  have q7 : (m.src == m.dst) = false := by simpa using g7
  obtain ⟨b20, hb20⟩ : ∃ b, b = decide (0 ≤ m.epoch ∧ m.epoch ≤ 1099511627776) := ⟨_, rfl⟩
  have H20 := Lib.hid hb20
  clear hb20
  go_wp2_with fail
  refine (refNum_any m.epoch b20 H20.out).mono ?_
  rintro e w5 ⟨rfl, rfl⟩
  cases b20 with
  | false => exact absurd HG0.out.epoch (of_decide_eq_false H20.out.symm)
  | true =>
  obtain ⟨b21, hb21⟩ : ∃ b, b = decide (0 ≤ m.tick ∧ m.tick ≤ 1099511627776) := ⟨_, rfl⟩
  have H21 := Lib.hid hb21
  clear hb21
  go_wp2_with fail
  refine (refNum_any m.tick b21 H21.out).mono ?_
  rintro e w5 ⟨rfl, rfl⟩
  cases b21 with
  | false => exact absurd HG0.out.tick (of_decide_eq_false H21.out.symm)
  | true =>
  obtain ⟨b22, hb22⟩ : ∃ b, b = decide (0 ≤ m.seq ∧ m.seq ≤ 1099511627776) := ⟨_, rfl⟩
  have H22 := Lib.hid hb22
  clear hb22
  go_wp2_with fail
  refine (refNum_any m.seq b22 H22.out).mono ?_
  rintro e w5 ⟨rfl, rfl⟩
  cases b22 with
  | false => exact absurd HG0.out.seq (of_decide_eq_false H22.out.symm)
  | true =>
  obtain ⟨b23, hb23⟩ : ∃ b, b = decide (0 ≤ m.id ∧ m.id ≤ 1099511627776) := ⟨_, rfl⟩
  have H23 := Lib.hid hb23
  clear hb23
  go_wp2_with fail
  refine (refNum_any m.id b23 H23.out).mono ?_
  rintro e w5 ⟨rfl, rfl⟩
  cases b23 with
  | false => exact absurd HG0.out.id (of_decide_eq_false H23.out.symm)
  | true =>
  obtain ⟨b24, hb24⟩ : ∃ b, b = decide (0 ≤ m.base ∧ m.base ≤ 1099511627776) := ⟨_, rfl⟩
  have H24 := Lib.hid hb24
  clear hb24
  go_wp2_with fail
  refine (refNum_any m.base b24 H24.out).mono ?_
  rintro e w5 ⟨rfl, rfl⟩
  cases b24 with
  | false => exact absurd HG0.out.base (of_decide_eq_false H24.out.symm)
  | true =>
  by_cases g8 : m.n < 0
  · exact absurd HG0.out.n (by omega)
  have q8 : decide (m.n < 0) = false := decide_eq_false g8
  by_cases g9 : 1073741824 < m.n
  · exact absurd HG0.out.n (by omega)
  have q9 : decide (1073741824 < m.n) = false := decide_eq_false g9
  by_cases g10 : m.op < 0
  · exact absurd HG0.out.op (by omega)
  have q10 : decide (m.op < 0) = false := decide_eq_false g10
  by_cases g11 : 2 < m.op
  · exact absurd HG0.out.op (by omega)
  have q11 : decide (2 < m.op) = false := decide_eq_false g11
  by_cases g12 : 40 < (m.key.size : Int)
  · exact absurd HG0.out.key (by omega)
  have q12 : decide (40 < (m.key.size : Int)) = false := decide_eq_false g12
  by_cases g13 : m.err < 0
  · exact absurd HG0.out.err (by omega)
  have q13 : decide (m.err < 0) = false := decide_eq_false g13
  by_cases g14 : 10 < m.err
  · exact absurd HG0.out.err (by omega)
  have q14 : decide (10 < m.err) = false := decide_eq_false g14
  go_upto_region 3 with fail
  have hhead : headOk m = true ∧ midOk m = true := by
    have e1 := of_decide_eq_true H20.out.symm
    have e2 := of_decide_eq_true H21.out.symm
    have e3 := of_decide_eq_true H22.out.symm
    have e4 := of_decide_eq_true H23.out.symm
    have e5 := of_decide_eq_true H24.out.symm
    unfold headOk midOk inB
    simp only [Bool.and_eq_true, decide_eq_true_eq, Bool.not_eq_true', decide_eq_false_iff_not, List.all_cons, List.all_nil, and_true]
    omega
  have HH := Lib.hid hhead
  have HRR : Hid (r = ((decide (m.it = it0) || mayIt m.it) && listsOk m)) := Lib.hid (by
    have e : mayM m = ((decide (m.it = it0) || mayIt m.it) && listsOk m) := by unfold mayM; rw [HH.out.1, HH.out.2, Bool.true_and, Bool.true_and]
    rw [← e]
    cases hb : r with
    | false => cases hm : mayM m with | false => rfl | true => rw [HR.out.2 ((mayM_iff m).1 hm)] at hb; cases hb
    | true => exact ((mayM_iff m).2 (HR.out.1 hb)).symm)
  clear hhead H20 H21 H22 H23 H24
  clear q1 g1 q2 g2 q3 g3 q4 g4 q5 g5 q6 g6 q7 g7 q8 g8 q9 g9 q10 g10 q11 g11 q12 g12 q13 g13 q14 g14
  clear c0 c1 c2 c3 c4 c5 c7 c19 c6 c8 c9 c10
  have c12 := msc_12 hM
  have c13 := msc_13 hM
  have c14 := msc_14 hM
  have c15 := msc_15 hM
  have HLL : Hid (r = (good3 m && (m.its.all mayIt && mksOk m.mks))) := Lib.hid (by rw [HRR.out]; exact good3_lists m)
  clear HRR HH HR HF
  have hn1 := hz.mksn
  have hn2 := hz.itsn
  have hn3 := hz.memn
  have hn4 := hz.oldn
  change Code.wp _ _ _ _ (w.alloc (.cells (msC m (.slice ia m.its.length icap) (.slice ka m.mks.length kcap) (.slice ma m.mem.length mcap) (.slice oa m.old.length ocap)).toArray 29))
  generalize w.alloc (.cells (msC m (.slice ia m.its.length icap) (.slice ka m.mks.length kcap) (.slice ma m.mem.length mcap) (.slice oa m.old.length ocap)).toArray 29) = w1 at *
  go_cut [153] (fun s wc => (∃ bb, s = .bool bb ∧ bb = !good3 m) ∧ Blk wc w.heap.size (msC m (.slice ia m.its.length icap) (.slice ka m.mks.length kcap) (.slice ma m.mem.length mcap) (.slice oa m.old.length ocap)) 29 ∧ Keep [] w wc)
  case first =>
    obtain ⟨bE, hbE⟩ : ∃ b, b = decide (m.it = it0) := ⟨_, rfl⟩
    obtain ⟨bI, hbI⟩ : ∃ b, b = mayIt m.it := ⟨_, rfl⟩
    have HBE := Lib.hid hbE
    have HBI := Lib.hid hbI
    clear hbE hbI
    obtain ⟨hi1, hi2⟩ := hz.it
    go_wp2_with fail
    refine (EqItem_any m.it.1 m.it.2.1 m.it.2.2.1 m.it.2.2.2 it0.1 it0.2.1 it0.2.2.1 it0.2.2.2 bE (by rw [HBE.out]; exact (itEq_iff m.it it0).symm)).mono ?_
    rintro e w5 ⟨rfl, k5⟩
    replace hM := hM.keep k5 (by simp)
    replace h0 := h0.keep k5
    replace K0 := K0.trans k5
    clear k5 c12 c13 c14 c15
    cases bE with
    | true =>
      have HG := Lib.hid (show (decide (m.it = it0) || mayIt m.it) = true from by rw [← HBE.out]; rfl)
      have c16 := msc_16 hM
      by_cases g1 : m.its.length ≤ 4
      case neg =>
        have q1 : decide (4 < (m.its.length : Int)) = true := decide_eq_true (by omega)
        have p1 : decide (m.its.length ≤ 4) = false := decide_eq_false g1
        have HE := Lib.hid (show good3 m = false from by unfold good3; rw [HG.out, p1]; rfl)
        go_wp2_with fail
        go_meet
        exact ⟨⟨_, rfl, by rw [HE.out] <;> rfl⟩, hM, K0⟩
      have q1 : decide (4 < (m.its.length : Int)) = false := decide_eq_false (by omega)
      have p1 : decide (m.its.length ≤ 4) = true := decide_eq_true g1
      have c17 := msc_17 hM
      by_cases g2 : m.mks.length ≤ 4
      case neg =>
        have q2 : decide (4 < (m.mks.length : Int)) = true := decide_eq_true (by omega)
        have p2 : decide (m.mks.length ≤ 4) = false := decide_eq_false g2
        have HE := Lib.hid (show good3 m = false from by unfold good3; rw [HG.out, p1, p2]; rfl)
        go_wp2_with fail
        go_meet
        exact ⟨⟨_, rfl, by rw [HE.out] <;> rfl⟩, hM, K0⟩
      have q2 : decide (4 < (m.mks.length : Int)) = false := decide_eq_false (by omega)
      have p2 : decide (m.mks.length ≤ 4) = true := decide_eq_true g2
      have HGG : Hid (good3 m = ((decide (m.mem.length = 0) || nodesOk m.mem) && (decide (m.old.length = 0) || nodesOk m.old))) := Lib.hid (by unfold good3; rw [HG.out, p1, p2, Bool.true_and, Bool.true_and, Bool.true_and])
      clear g1 g2 p1 p2
      have c18 := msc_18 hM
      by_cases g3 : m.mem.length = 0
      · have q3 : decide (0 < m.mem.length) = false := decide_eq_false (by omega)
        have HMEM := Lib.hid (show (decide (m.mem.length = 0) || nodesOk m.mem) = true from by rw [decide_eq_true g3]; rfl)
        clear g3
        have c20 := msc_20 hM
        by_cases g4 : m.old.length = 0
        · have q4 : decide (0 < m.old.length) = false := decide_eq_false (by omega)
          have HE := Lib.hid (show good3 m = true from by rw [HGG.out, HMEM.out, decide_eq_true g4]; rfl)
          clear g4
          go_wp2_with fail
          go_meet
          exact ⟨⟨_, rfl, by rw [HE.out] <;> rfl⟩, hM, K0⟩
        · have q4 : decide (0 < m.old.length) = true := decide_eq_true (by omega)
          obtain ⟨b4, hb4⟩ : ∃ b, b = nodesOk m.old := ⟨_, rfl⟩
          have H4 := Lib.hid hb4
          clear hb4
          have HE := Lib.hid (show good3 m = b4 from by rw [HGG.out, HMEM.out, decide_eq_false g4, H4.out]; rfl)
          clear g4
          go_wp2_with fail
          refine (refNodes_any _ m.old h0.old (by omega) b4 H4.out).mono ?_
          rintro e w5 ⟨rfl, k5⟩
          replace hM := hM.keep k5 (by simp)
          replace K0 := K0.trans k5
          clear k5 c20 h0
          go_wp2_with fail
          go_meet
          exact ⟨⟨_, rfl, by rw [HE.out] <;> rfl⟩, hM, K0⟩
      · have q3 : decide (0 < m.mem.length) = true := decide_eq_true (by omega)
        obtain ⟨b3, hb3⟩ : ∃ b, b = nodesOk m.mem := ⟨_, rfl⟩
        have H3 := Lib.hid hb3
        clear hb3
        go_wp2_with fail
        refine (refNodes_any _ m.mem h0.mem (by omega) b3 H3.out).mono ?_
        rintro e w5 ⟨rfl, k5⟩
        replace hM := hM.keep k5 (by simp)
        replace h0 := h0.keep k5
        replace K0 := K0.trans k5
        clear k5 c16 c17 c18
        have HMEM := Lib.hid (show (decide (m.mem.length = 0) || nodesOk m.mem) = b3 from by rw [decide_eq_false g3, H3.out]; rfl)
        clear g3
        cases b3 with
        | false =>
          have HE := Lib.hid (show good3 m = false from by rw [HGG.out, HMEM.out]; rfl)
          go_wp2_with fail
          go_meet
          exact ⟨⟨_, rfl, by rw [HE.out] <;> rfl⟩, hM, K0⟩
        | true =>
          have c20 := msc_20 hM
          by_cases g4 : m.old.length = 0
          · have q4 : decide (0 < m.old.length) = false := decide_eq_false (by omega)
            have HE := Lib.hid (show good3 m = true from by rw [HGG.out, HMEM.out, decide_eq_true g4]; rfl)
            clear g4
            go_wp2_with fail
            go_meet
            exact ⟨⟨_, rfl, by rw [HE.out] <;> rfl⟩, hM, K0⟩
          · have q4 : decide (0 < m.old.length) = true := decide_eq_true (by omega)
            obtain ⟨b4, hb4⟩ : ∃ b, b = nodesOk m.old := ⟨_, rfl⟩
            have H4 := Lib.hid hb4
            clear hb4
            have HE := Lib.hid (show good3 m = b4 from by rw [HGG.out, HMEM.out, decide_eq_false g4, H4.out]; rfl)
            clear g4
            go_wp2_with fail
            refine (refNodes_any _ m.old h0.old (by omega) b4 H4.out).mono ?_
            rintro e w5 ⟨rfl, k5⟩
            replace hM := hM.keep k5 (by simp)
            replace K0 := K0.trans k5
            clear k5 c20 h0
            go_wp2_with fail
            go_meet
            exact ⟨⟨_, rfl, by rw [HE.out] <;> rfl⟩, hM, K0⟩
    | false =>
      have d12 := msc_12 hM
      have d13 := msc_13 hM
      have d14 := msc_14 hM
      have d15 := msc_15 hM
      go_wp2_with fail
      refine (RefMay_any m.it.1 m.it.2.1 m.it.2.2.1 m.it.2.2.2 hi1 hi2 bI HBI.out).mono ?_
      rintro e w5 ⟨rfl, k5⟩
      replace hM := hM.keep k5 (by simp)
      replace h0 := h0.keep k5
      replace K0 := K0.trans k5
      clear k5 d12 d13 d14 d15
      cases bI with
      | false =>
        have HE := Lib.hid (show good3 m = false from by unfold good3; rw [← HBE.out, ← HBI.out]; rfl)
        go_wp2_with fail
        go_meet
        exact ⟨⟨_, rfl, by rw [HE.out] <;> rfl⟩, hM, K0⟩
      | true =>
        have HG := Lib.hid (show (decide (m.it = it0) || mayIt m.it) = true from by rw [← HBI.out]; exact Bool.or_true _)
        have c16 := msc_16 hM
        by_cases g1 : m.its.length ≤ 4
        case neg =>
          have q1 : decide (4 < (m.its.length : Int)) = true := decide_eq_true (by omega)
          have p1 : decide (m.its.length ≤ 4) = false := decide_eq_false g1
          have HE := Lib.hid (show good3 m = false from by unfold good3; rw [HG.out, p1]; rfl)
          go_wp2_with fail
          go_meet
          exact ⟨⟨_, rfl, by rw [HE.out] <;> rfl⟩, hM, K0⟩
        have q1 : decide (4 < (m.its.length : Int)) = false := decide_eq_false (by omega)
        have p1 : decide (m.its.length ≤ 4) = true := decide_eq_true g1
        have c17 := msc_17 hM
        by_cases g2 : m.mks.length ≤ 4
        case neg =>
          have q2 : decide (4 < (m.mks.length : Int)) = true := decide_eq_true (by omega)
          have p2 : decide (m.mks.length ≤ 4) = false := decide_eq_false g2
          have HE := Lib.hid (show good3 m = false from by unfold good3; rw [HG.out, p1, p2]; rfl)
          go_wp2_with fail
          go_meet
          exact ⟨⟨_, rfl, by rw [HE.out] <;> rfl⟩, hM, K0⟩
        have q2 : decide (4 < (m.mks.length : Int)) = false := decide_eq_false (by omega)
        have p2 : decide (m.mks.length ≤ 4) = true := decide_eq_true g2
        have HGG : Hid (good3 m = ((decide (m.mem.length = 0) || nodesOk m.mem) && (decide (m.old.length = 0) || nodesOk m.old))) := Lib.hid (by unfold good3; rw [HG.out, p1, p2, Bool.true_and, Bool.true_and, Bool.true_and])
        clear g1 g2 p1 p2
        have c18 := msc_18 hM
        by_cases g3 : m.mem.length = 0
        · have q3 : decide (0 < m.mem.length) = false := decide_eq_false (by omega)
          have HMEM := Lib.hid (show (decide (m.mem.length = 0) || nodesOk m.mem) = true from by rw [decide_eq_true g3]; rfl)
          clear g3
          have c20 := msc_20 hM
          by_cases g4 : m.old.length = 0
          · have q4 : decide (0 < m.old.length) = false := decide_eq_false (by omega)
            have HE := Lib.hid (show good3 m = true from by rw [HGG.out, HMEM.out, decide_eq_true g4]; rfl)
            clear g4
            go_wp2_with fail
            go_meet
            exact ⟨⟨_, rfl, by rw [HE.out] <;> rfl⟩, hM, K0⟩
          · have q4 : decide (0 < m.old.length) = true := decide_eq_true (by omega)
            obtain ⟨b4, hb4⟩ : ∃ b, b = nodesOk m.old := ⟨_, rfl⟩
            have H4 := Lib.hid hb4
            clear hb4
            have HE := Lib.hid (show good3 m = b4 from by rw [HGG.out, HMEM.out, decide_eq_false g4, H4.out]; rfl)
            clear g4
            go_wp2_with fail
            refine (refNodes_any _ m.old h0.old (by omega) b4 H4.out).mono ?_
            rintro e w5 ⟨rfl, k5⟩
            replace hM := hM.keep k5 (by simp)
            replace K0 := K0.trans k5
            clear k5 c20 h0
            go_wp2_with fail
            go_meet
            exact ⟨⟨_, rfl, by rw [HE.out] <;> rfl⟩, hM, K0⟩
        · have q3 : decide (0 < m.mem.length) = true := decide_eq_true (by omega)
          obtain ⟨b3, hb3⟩ : ∃ b, b = nodesOk m.mem := ⟨_, rfl⟩
          have H3 := Lib.hid hb3
          clear hb3
          go_wp2_with fail
          refine (refNodes_any _ m.mem h0.mem (by omega) b3 H3.out).mono ?_
          rintro e w5 ⟨rfl, k5⟩
          replace hM := hM.keep k5 (by simp)
          replace h0 := h0.keep k5
          replace K0 := K0.trans k5
          clear k5 c16 c17 c18
          have HMEM := Lib.hid (show (decide (m.mem.length = 0) || nodesOk m.mem) = b3 from by rw [decide_eq_false g3, H3.out]; rfl)
          clear g3
          cases b3 with
          | false =>
            have HE := Lib.hid (show good3 m = false from by rw [HGG.out, HMEM.out]; rfl)
            go_wp2_with fail
            go_meet
            exact ⟨⟨_, rfl, by rw [HE.out] <;> rfl⟩, hM, K0⟩
          | true =>
            have c20 := msc_20 hM
            by_cases g4 : m.old.length = 0
            · have q4 : decide (0 < m.old.length) = false := decide_eq_false (by omega)
              have HE := Lib.hid (show good3 m = true from by rw [HGG.out, HMEM.out, decide_eq_true g4]; rfl)
              clear g4
              go_wp2_with fail
              go_meet
              exact ⟨⟨_, rfl, by rw [HE.out] <;> rfl⟩, hM, K0⟩
            · have q4 : decide (0 < m.old.length) = true := decide_eq_true (by omega)
              obtain ⟨b4, hb4⟩ : ∃ b, b = nodesOk m.old := ⟨_, rfl⟩
              have H4 := Lib.hid hb4
              clear hb4
              have HE := Lib.hid (show good3 m = b4 from by rw [HGG.out, HMEM.out, decide_eq_false g4, H4.out]; rfl)
              clear g4
              go_wp2_with fail
              refine (refNodes_any _ m.old h0.old (by omega) b4 H4.out).mono ?_
              rintro e w5 ⟨rfl, k5⟩
              replace hM := hM.keep k5 (by simp)
              replace K0 := K0.trans k5
              clear k5 c20 h0
              go_wp2_with fail
              go_meet
              exact ⟨⟨_, rfl, by rw [HE.out] <;> rfl⟩, hM, K0⟩
  case rest =>
  clear c12 c13 c14 c15 hM h0 K0
  obtain ⟨⟨bb, rfl, hbb⟩, hM, K0⟩ := hcut
  have HGB := Lib.hid hbb
  clear hbb
  cases bb with
  | true =>
    have HF : Hid (r = false) := Lib.hid (by rw [HLL.out, (show good3 m = false by have := HGB.out; simpa using this), Bool.false_and])
    go_wp2_with fail
    go_ret
    exact ⟨by rw [HF.out]; rfl, K0⟩
  | false =>
  have HL2 : Hid (r = (m.its.all mayIt && mksOk m.mks)) := Lib.hid (by rw [HLL.out, (show good3 m = true by have := HGB.out; simpa using this), Bool.true_and])
  clear HGB HLL
  go_wp2_with fail
  go_loopw [3] (fun i wr => ∃ j : Nat, i = .int .i64 j ∧ j ≤ m.its.length ∧ (∀ k y, k < j → m.its[k]? = some y → mayIt y = true) ∧ Blk wr w.heap.size (msC m (.slice ia m.its.length icap) (.slice ka m.mks.length kcap) (.slice ma m.mem.length mcap) (.slice oa m.old.length ocap)) 29 ∧ Keep [] w wr) (fun i _ => m.its.length - (intOf i).toNat)
  case atStart => exact ⟨0, rfl, by omega, fun k y hk => absurd hk (by omega), hM, K0⟩
  case round =>
    clear hM K0
    obtain ⟨j, rfl, hj, hall, hM, hK⟩ := hrel
    have hR := h.keep hK
    have HA := Lib.hid hall
    clear hall
    have c16 := msc_16 hM
    by_cases hlt : j < m.its.length
    · have q0 : (j : Int) < m.its.length := by omega
      obtain ⟨y, hy⟩ : ∃ y, m.its[j]? = some y := ⟨_, List.getElem?_eq_getElem hlt⟩
      obtain ⟨sb, so, c', he, _, _, e0, e1, e2, e3⟩ := its_at hR.its j y hy
      simp only [Value.slice.injEq] at he
      obtain ⟨rfl, _, rfl⟩ := he
      obtain ⟨hs1, hs2⟩ := hz.its y (List.mem_of_getElem? hy)
      have HB := Lib.hid (show mayIt y = false → m.its.all mayIt = false from fun hh => by rw [List.all_eq_false]; exact ⟨y, List.mem_of_getElem? hy, by rw [hh]; decide⟩)
      have HM := Lib.hid hM
      have HY := Lib.hid hy
      obtain ⟨k, v, n, g⟩ := y
      simp only at e0 e1 e2 e3 hs1 hs2
      clear hM hy hR
      cases hkk : itMay k v n g with
      | false =>
        have HK := Lib.hid hkk.symm
        clear hkk
        go_wp2_with fail
        refine (RefMay_any k v n g hs1 hs2 false HK.out).mono ?_
        rintro e w5 ⟨rfl, k5⟩
        go_wp2_with fail
        go_ret
        exact ⟨by rw [HL2.out, HB.out HK.out.symm]; rfl, hK.trans k5⟩
      | true =>
        have HK := Lib.hid hkk.symm
        clear hkk
        go_wp2_with fail
        refine (RefMay_any k v n g hs1 hs2 true HK.out).mono ?_
        rintro e w5 ⟨rfl, k5⟩
        go_wp2_with fail
        go_roundw
        case rel =>
          refine ⟨j + 1, by go_num, by omega, fun i z hi hz' => ?_, HM.out.keep k5 (by simp), hK.trans k5⟩
          by_cases hij : i < j
          · exact HA.out i z hij hz'
          · obtain rfl : i = j := by omega
            rw [HY.out] at hz'
            cases hz'
            exact HK.out.symm
        case measure => simp [intOf]; omega
    · obtain rfl : j = m.its.length := by omega
      have hall : m.its.all mayIt = true := by
        rw [List.all_eq_true]
        intro y hy
        obtain ⟨i, hi, rfl⟩ := List.getElem_of_mem hy
        exact HA.out i _ hi (List.getElem?_eq_getElem hi)
      have HL3 : Hid (r = mksOk m.mks) := Lib.hid (by rw [HL2.out, hall, Bool.true_and])
      clear HA hlt hall HL2 hR
      go_wp2_with fail
      clear c16
      go_loopw [4] (fun i wr => ∃ j : Nat, i = .int .i64 j ∧ j ≤ m.mks.length ∧ (∀ k, k < j → mkAt m.mks k) ∧ Blk wr w.heap.size (msC m (.slice ia m.its.length icap) (.slice ka m.mks.length kcap) (.slice ma m.mem.length mcap) (.slice oa m.old.length ocap)) 29 ∧ Keep [] w wr) (fun i _ => m.mks.length - (intOf i).toNat)
      case atStart => exact ⟨0, rfl, by omega, fun k hk => absurd hk (by omega), hM, hK⟩
      case round =>
        clear hM hK
        obtain ⟨j, rfl, hj, hall, hM, hK⟩ := hrel
        have hR := h.keep hK
        have HA := Lib.hid hall
        clear hall
        have c17 := msc_17 hM
        by_cases hlt : j < m.mks.length
        · have q0 : (j : Int) < m.mks.length := by omega
          obtain ⟨sb, so, c', he, hat⟩ := mks_at hR.mks (by omega)
          simp only [Value.slice.injEq] at he
          obtain ⟨rfl, _, rfl⟩ := he
          obtain ⟨e0, e1⟩ := hat j hlt
          have hks : (m.mks.getD j mk0).2.size ≤ 9223372036854775807 := by
            rw [List.getD_eq_getElem?_getD, List.getElem?_eq_getElem hlt]
            exact hz.mks _ (List.getElem_mem hlt)
          have HB := Lib.hid (show ¬ mkAt m.mks j → r = false from fun hh => by rw [HL3.out]; exact mksOk_false hlt hh)
          have HN := Lib.hid (show mkAt m.mks j ↔ 1 ≤ (m.mks.getD j mk0).1 ∧ (m.mks.getD j mk0).1 ≤ 1099511627776 ∧ itKey (m.mks.getD j mk0).2 = true ∧ (0 < j → (m.mks.getD (j - 1) mk0).1 < (m.mks.getD j mk0).1) from Iff.rfl)
          have HAA := Lib.hid (show mkAt m.mks j → ∀ k, k < j + 1 → mkAt m.mks k from fun a k hk => by
            by_cases hkj : k < j
            · exact HA.out k hkj
            · obtain rfl : k = j := by omega
              exact a)
          have hM0 := Lib.hid hM
          have hR0 := Lib.hid hR
          have hK0 := Lib.hid hK
          clear hat HA hM hR hK
          generalize m.mks.getD j mk0 = x at *
          obtain ⟨xs, xk⟩ := x
          simp only at e0 e1 hks HN
          go_upto_region 14 with fail
          have hX : Blk (wr.alloc (.cells (mkc (xs, xk)).toArray 42)) wr.heap.size [.int .i64 xs, .string xk] 42 := Blk.new wr (mkc (xs, xk)) 42
          have hM := hM0.out.alloc (.cells (mkc (xs, xk)).toArray 42)
          have hR := hR0.out.alloc (.cells (mkc (xs, xk)).toArray 42)
          have hK := hK0.out.alloc (.cells (mkc (xs, xk)).toArray 42)
          clear hM0 hR0 hK0 c17 e0 e1
          obtain ⟨xb, hxb⟩ : ∃ b, b = wr.heap.size := ⟨_, rfl⟩
          change Code.wp _ _ _ _ (wr.alloc (.cells (mkc (xs, xk)).toArray 42))
          rw [← hxb] at hX ⊢
          clear hxb
          generalize wr.alloc (.cells (mkc (xs, xk)).toArray 42) = w2 at *
          have d0 : w2.cell? ⟨xb, 0, none⟩ = some (.int .i64 xs) := hX.cell 0
          have d1 : w2.cell? ⟨xb, 1, none⟩ = some (.string xk) := hX.cell 1
          have c17 := msc_17 hM
          by_cases g1 : xs < 1
          · have q1 : decide (xs < 1) = true := decide_eq_true g1
            have HF := Lib.hid (HB.out (fun hh => by have := HN.out.1 hh; omega))
            go_quiet (fail)
            go_wp2_with fail
            go_ret
            exact ⟨by rw [HF.out]; rfl, keepN hK nq⟩
          have q1 : decide (xs < 1) = false := decide_eq_false g1
          by_cases g2 : 1099511627776 < xs
          · have q2 : decide (1099511627776 < xs) = true := decide_eq_true g2
            have HF := Lib.hid (HB.out (fun hh => by have := HN.out.1 hh; omega))
            go_quiet (fail)
            go_wp2_with fail
            go_ret
            exact ⟨by rw [HF.out]; rfl, keepN hK nq⟩
          have q2 : decide (1099511627776 < xs) = false := decide_eq_false g2
          cases hkk : itKey xk with
          | false =>
            have HK := Lib.hid hkk.symm
            have HF := Lib.hid (HB.out (fun hh => by have := (HN.out.1 hh).2.2.1; rw [hkk] at this; cases this))
            clear hkk
            go_quiet ((go_at_call 28; refine Calls.quiet_of_same ((RefKey_any xk hks false HK.out).mono (fun _ _ h => ⟨h.1, h.2.symm⟩))))
            go_wp2_with fail
            go_ret
            exact ⟨by rw [HF.out]; rfl, keepN hK nq⟩
          | true =>
          have HK := Lib.hid hkk.symm
          clear hkk
          by_cases hj0 : j = 0
          · have q3 : decide (0 < j) = false := decide_eq_false (by omega)
            have HG := Lib.hid (HAA.out (HN.out.2 ⟨by omega, by omega, HK.out.symm, fun h => absurd h (by omega)⟩))
            clear hj0 hR HN HB HAA
            go_quiet ((go_at_call 28; refine Calls.quiet_of_same ((RefKey_any xk hks true HK.out).mono (fun _ _ h => ⟨h.1, h.2.symm⟩))))
            go_wp2_with fail
            go_roundw
            case rel => exact ⟨j + 1, by go_num, by omega, HG.out, hM, keepN hK nq⟩
            case measure => simp [intOf]; omega
          have q3 : decide (0 < j) = true := decide_eq_true (by omega)
          have q4 : IntKind.i64.wrap ((j : Int) - 1) = ((j - 1 : Nat) : Int) := by rw [IntKind.wrap_i64]; omega
          have q5 : ((j - 1 : Nat) : Int) < m.mks.length := by omega
          obtain ⟨sb2, so2, c2, he, hat⟩ := mks_at hR.mks (by omega)
          simp only [Value.slice.injEq, Option.some.injEq, Addr.mk.injEq] at he
          obtain ⟨⟨rfl, rfl, _⟩, _, rfl⟩ := he
          obtain ⟨e0, _⟩ := hat (j - 1) (by omega)
          clear hat
          generalize (m.mks.getD (j - 1) mk0).1 = y at *
          by_cases g3 : xs ≤ y
          · have q6 : decide (xs ≤ y) = true := decide_eq_true g3
            have HF := Lib.hid (HB.out (fun hh => by have := (HN.out.1 hh).2.2.2 (by omega); omega))
            go_quiet ((go_at_call 28; refine Calls.quiet_of_same ((RefKey_any xk hks true HK.out).mono (fun _ _ h => ⟨h.1, h.2.symm⟩))))
            go_wp2_with fail
            go_ret
            exact ⟨by rw [HF.out]; rfl, keepN hK nq⟩
          have q6 : decide (xs ≤ y) = false := decide_eq_false g3
          have HG := Lib.hid (HAA.out (HN.out.2 ⟨by omega, by omega, HK.out.symm, fun h => by omega⟩))
          clear HN HB HAA
          go_quiet ((go_at_call 28; refine Calls.quiet_of_same ((RefKey_any xk hks true HK.out).mono (fun _ _ h => ⟨h.1, h.2.symm⟩))))
          go_wp2_with fail
          go_roundw
          case rel => exact ⟨j + 1, by go_num, by omega, HG.out, hM, keepN hK nq⟩
          case measure => simp [intOf]; omega
        · obtain rfl : j = m.mks.length := by omega
          have HF : Hid (r = true) := Lib.hid (by rw [HL3.out]; exact mksOk_true HA.out)
          clear HA
          go_wp2_with fail
          go_ret
          exact ⟨by rw [HF.out]; rfl, hK⟩
theorem refMsg_any {w : World} (m : Ms) (vi vk vm vo : Value) (h : MsRd w m vi vk vm vo) (hz : MsSz m) (r : Bool) (hr : r = mayM m) :
    Calls Try.prog 12 #[msV m vi vk vm vo] w fun e w' => e = .returned (.bool r) ∧ Keep [] w w' := by
  by_cases hg : HeadM m
  · exact refMsg_good m vi vk vm vo h hz r hg hr
  · exact refMsg_bad m vi vk vm vo h hz r hg hr
end Go.Proofs.Ytonghelcfbjknaa
