/- The reference's messages: Msg, where its first test says no. -/
import Derived.Test.YtonghelcfbjknaaMsgRef
namespace Go.Proofs.Ytonghelcfbjknaa
open Go.ChangeShapes Go.WideShapes Go.ChangeAt Go.RowKit
set_option linter.unusedVariables false
set_option linter.unusedSimpArgs false

structure HeadM (m : Ms) : Prop where
  kind : 1 ≤ m.kind ∧ m.kind ≤ 14
  ne : m.src ≠ m.dst
  src : 0 ≤ m.src ∧ m.src ≤ 5
  dst : 0 ≤ m.dst ∧ m.dst ≤ 5
  epoch : 0 ≤ m.epoch ∧ m.epoch ≤ 1099511627776
  tick : 0 ≤ m.tick ∧ m.tick ≤ 1099511627776
  seq : 0 ≤ m.seq ∧ m.seq ≤ 1099511627776
  id : 0 ≤ m.id ∧ m.id ≤ 1099511627776
  base : 0 ≤ m.base ∧ m.base ≤ 1099511627776
  n : 0 ≤ m.n ∧ m.n ≤ 1073741824
  op : 0 ≤ m.op ∧ m.op ≤ 2
  key : m.key.size ≤ 40
  err : 0 ≤ m.err ∧ m.err ≤ 10
theorem MayM.head {m : Ms} (h : MayM m) : HeadM m := ⟨h.kind, h.ne, h.src, h.dst, h.epoch, h.tick, h.seq, h.id, h.base, h.n, h.op, h.key, h.err⟩
set_option maxRecDepth 100000 in
set_option maxHeartbeats 64000000 in
theorem refMsg_bad {w : World} (m : Ms) (vi vk vm vo : Value) (h : MsRd w m vi vk vm vo) (hz : MsSz m) (r : Bool) (hbad : ¬ HeadM m) (hr : r = mayM m) :
    Calls Try.prog 12 #[msV m vi vk vm vo] w fun e w' => e = .returned (.bool r) ∧ Keep [] w w' := by
  have hM := Blk.new w (msC m vi vk vm vo) 29
  have h0 := h.alloc (.cells (msC m vi vk vm vo).toArray 29)
  have K0 := (Keep.refl [] w).alloc (.cells (msC m vi vk vm vo).toArray 29)
  have HR : Hid (r = true ↔ MayM m) := Lib.hid (by rw [hr]; exact mayM_iff m)
  have HF : Hid (¬ MayM m → r = false) := Lib.hid (fun hh => by cases hb : r with | false => rfl | true => exact absurd (HR.out.1 hb) hh)
  clear hr
  have HBAD := Lib.hid hbad
  clear hbad
  have hks := hz.key
  obtain ⟨_, ka, kcap, rfl, _, _⟩ := id h.mks
  obtain ⟨_, ia, icap, rfl, _, _⟩ := id h.its
  obtain ⟨_, ma, mcap, rfl, _, _⟩ := id h.mem
  obtain ⟨_, oa, ocap, rfl, _, _⟩ := id h.old
  have c0 := msc_0 hM
  have c1 := msc_1 hM
  have c2 := msc_2 hM
  have c3 := msc_3 hM
  have c4 := msc_4 hM
  have c5 := msc_5 hM
  have c7 := msc_7 hM
  have c19 := msc_19 hM
  have c6 := msc_6 hM
  have c8 := msc_8 hM
  have c9 := msc_9 hM
  have c10 := msc_10 hM
  go_enter Try.func12, Try.ntmps12
  by_cases g1 : m.kind < 1
  · have q1 : decide (m.kind < 1) = true := decide_eq_true g1
    go_wp2_with fail
    go_ret
    exact ⟨by first | rfl | (rw [HF.out (fun hm => by have := hm.kind; omega)]; rfl), K0⟩
  have q1 : decide (m.kind < 1) = false := decide_eq_false g1
  by_cases g2 : 14 < m.kind
  · have q2 : decide (14 < m.kind) = true := decide_eq_true g2
    go_wp2_with fail
    go_ret
    exact ⟨by first | rfl | (rw [HF.out (fun hm => by have := hm.kind; omega)]; rfl), K0⟩
  have q2 : decide (14 < m.kind) = false := decide_eq_false g2
  by_cases g3 : m.src < 0
  · have q3 : decide (m.src < 0) = true := decide_eq_true g3
    go_wp2_with fail
    go_ret
    exact ⟨by first | rfl | (rw [HF.out (fun hm => by have := hm.src; omega)]; rfl), K0⟩
  have q3 : decide (m.src < 0) = false := decide_eq_false g3
  by_cases g4 : 5 < m.src
  · have q4 : decide (5 < m.src) = true := decide_eq_true g4
    go_wp2_with fail
    go_ret
    exact ⟨by first | rfl | (rw [HF.out (fun hm => by have := hm.src; omega)]; rfl), K0⟩
  have q4 : decide (5 < m.src) = false := decide_eq_false g4
  by_cases g5 : m.dst < 0
  · have q5 : decide (m.dst < 0) = true := decide_eq_true g5
    go_wp2_with fail
    go_ret
    exact ⟨by first | rfl | (rw [HF.out (fun hm => by have := hm.dst; omega)]; rfl), K0⟩
  have q5 : decide (m.dst < 0) = false := decide_eq_false g5
  by_cases g6 : 5 < m.dst
  · have q6 : decide (5 < m.dst) = true := decide_eq_true g6
    go_wp2_with fail
    go_ret
    exact ⟨by first | rfl | (rw [HF.out (fun hm => by have := hm.dst; omega)]; rfl), K0⟩
  have q6 : decide (5 < m.dst) = false := decide_eq_false g6
  by_cases g7 : m.src = m.dst
  · have q7 : (m.src == m.dst) = true := by simpa using g7
    go_wp2_with fail
    go_ret
    exact ⟨by first | rfl | (rw [HF.out (fun hm => by have := hm.ne; omega)]; rfl), K0⟩
  have q7 : (m.src == m.dst) = false := by simpa using g7
  obtain ⟨b20, hb20⟩ : ∃ b, b = decide (0 ≤ m.epoch ∧ m.epoch ≤ 1099511627776) := ⟨_, rfl⟩
  have H20 := Lib.hid hb20
  clear hb20
  go_wp2_with fail
  refine (refNum_any m.epoch b20 H20.out).mono ?_
  rintro e w5 ⟨rfl, rfl⟩
  cases b20 with
  | false =>
    have g := of_decide_eq_false H20.out.symm
    have HG := Lib.hid g
    clear g
    go_wp2_with fail
    go_ret
    exact ⟨by first | rfl | (rw [HF.out (fun hm => HG.out hm.epoch)]; rfl), K0⟩
  | true =>
  obtain ⟨b21, hb21⟩ : ∃ b, b = decide (0 ≤ m.tick ∧ m.tick ≤ 1099511627776) := ⟨_, rfl⟩
  have H21 := Lib.hid hb21
  clear hb21
  go_wp2_with fail
  refine (refNum_any m.tick b21 H21.out).mono ?_
  rintro e w5 ⟨rfl, rfl⟩
  cases b21 with
  | false =>
    have g := of_decide_eq_false H21.out.symm
    have HG := Lib.hid g
    clear g
    go_wp2_with fail
    go_ret
    exact ⟨by first | rfl | (rw [HF.out (fun hm => HG.out hm.tick)]; rfl), K0⟩
  | true =>
  obtain ⟨b22, hb22⟩ : ∃ b, b = decide (0 ≤ m.seq ∧ m.seq ≤ 1099511627776) := ⟨_, rfl⟩
  have H22 := Lib.hid hb22
  clear hb22
  go_wp2_with fail
  refine (refNum_any m.seq b22 H22.out).mono ?_
  rintro e w5 ⟨rfl, rfl⟩
  cases b22 with
  | false =>
    have g := of_decide_eq_false H22.out.symm
    have HG := Lib.hid g
    clear g
    go_wp2_with fail
    go_ret
    exact ⟨by first | rfl | (rw [HF.out (fun hm => HG.out hm.seq)]; rfl), K0⟩
  | true =>
  obtain ⟨b23, hb23⟩ : ∃ b, b = decide (0 ≤ m.id ∧ m.id ≤ 1099511627776) := ⟨_, rfl⟩
  have H23 := Lib.hid hb23
  clear hb23
  go_wp2_with fail
  refine (refNum_any m.id b23 H23.out).mono ?_
  rintro e w5 ⟨rfl, rfl⟩
  cases b23 with
  | false =>
    have g := of_decide_eq_false H23.out.symm
    have HG := Lib.hid g
    clear g
    go_wp2_with fail
    go_ret
    exact ⟨by first | rfl | (rw [HF.out (fun hm => HG.out hm.id)]; rfl), K0⟩
  | true =>
  obtain ⟨b24, hb24⟩ : ∃ b, b = decide (0 ≤ m.base ∧ m.base ≤ 1099511627776) := ⟨_, rfl⟩
  have H24 := Lib.hid hb24
  clear hb24
  go_wp2_with fail
  refine (refNum_any m.base b24 H24.out).mono ?_
  rintro e w5 ⟨rfl, rfl⟩
  cases b24 with
  | false =>
    have g := of_decide_eq_false H24.out.symm
    have HG := Lib.hid g
    clear g
    go_wp2_with fail
    go_ret
    exact ⟨by first | rfl | (rw [HF.out (fun hm => HG.out hm.base)]; rfl), K0⟩
  | true =>
  by_cases g8 : m.n < 0
  · have q8 : decide (m.n < 0) = true := decide_eq_true g8
    go_wp2_with fail
    go_ret
    exact ⟨by first | rfl | (rw [HF.out (fun hm => by have := hm.n; omega)]; rfl), K0⟩
  have q8 : decide (m.n < 0) = false := decide_eq_false g8
  by_cases g9 : 1073741824 < m.n
  · have q9 : decide (1073741824 < m.n) = true := decide_eq_true g9
    go_wp2_with fail
    go_ret
    exact ⟨by first | rfl | (rw [HF.out (fun hm => by have := hm.n; omega)]; rfl), K0⟩
  have q9 : decide (1073741824 < m.n) = false := decide_eq_false g9
  by_cases g10 : m.op < 0
  · have q10 : decide (m.op < 0) = true := decide_eq_true g10
    go_wp2_with fail
    go_ret
    exact ⟨by first | rfl | (rw [HF.out (fun hm => by have := hm.op; omega)]; rfl), K0⟩
  have q10 : decide (m.op < 0) = false := decide_eq_false g10
  by_cases g11 : 2 < m.op
  · have q11 : decide (2 < m.op) = true := decide_eq_true g11
    go_wp2_with fail
    go_ret
    exact ⟨by first | rfl | (rw [HF.out (fun hm => by have := hm.op; omega)]; rfl), K0⟩
  have q11 : decide (2 < m.op) = false := decide_eq_false g11
  by_cases g12 : 40 < (m.key.size : Int)
  · have q12 : decide (40 < (m.key.size : Int)) = true := decide_eq_true g12
    go_wp2_with fail
    go_ret
    exact ⟨by first | rfl | (rw [HF.out (fun hm => by have := hm.key; omega)]; rfl), K0⟩
  have q12 : decide (40 < (m.key.size : Int)) = false := decide_eq_false g12
  by_cases g13 : m.err < 0
  · have q13 : decide (m.err < 0) = true := decide_eq_true g13
    go_wp2_with fail
    go_ret
    exact ⟨by first | rfl | (rw [HF.out (fun hm => by have := hm.err; omega)]; rfl), K0⟩
  have q13 : decide (m.err < 0) = false := decide_eq_false g13
  by_cases g14 : 10 < m.err
  · have q14 : decide (10 < m.err) = true := decide_eq_true g14
    go_wp2_with fail
    go_ret
    exact ⟨by first | rfl | (rw [HF.out (fun hm => by have := hm.err; omega)]; rfl), K0⟩
  have q14 : decide (10 < m.err) = false := decide_eq_false g14
  exact absurd (show HeadM m from ⟨⟨by omega, by omega⟩, by simpa using g7, ⟨by omega, by omega⟩, ⟨by omega, by omega⟩, of_decide_eq_true H20.out.symm, of_decide_eq_true H21.out.symm, of_decide_eq_true H22.out.symm, of_decide_eq_true H23.out.symm, of_decide_eq_true H24.out.symm, ⟨by omega, by omega⟩, ⟨by omega, by omega⟩, by omega, ⟨by omega, by omega⟩⟩) HBAD.out
end Go.Proofs.Ytonghelcfbjknaa
