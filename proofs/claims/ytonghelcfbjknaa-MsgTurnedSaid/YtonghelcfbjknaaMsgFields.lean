/- The reader of messages: fields. -/
import Derived.Test.YtonghelcfbjknaaMsgRead2
import Derived.Test.YtonghelcfbjknaaDevMem
import Derived.Laws.Rows
namespace Go.Proofs.Ytonghelcfbjknaa
open Go.ChangeShapes Go.WideShapes Go.ChangeAt Go.RowKit
set_option linter.unusedVariables false
set_option linter.unusedSimpArgs false

theorem Try.infoMsg : (Try.prog.info? 29).map (fun i => (i.zero, i.size, i.bytes)) = some (some (.agg #[.int .i64 0, .int .i64 0, .int .i64 0, .int .i64 0, .int .i64 0, .int .i64 0, .int .i64 0, .int .i64 0, .int .i64 0, .string ByteArray.empty, .int .i64 0, .bool false, .string ByteArray.empty, .string ByteArray.empty, .int .i64 0, .bool false, .slice none 0 0, .slice none 0 0, .slice none 0 0, .int .i64 0, .slice none 0 0]), 21, 256) := by kernel_rfl
theorem Try.sizeMsg : (Try.prog.info? 29).map (·.size) = some 21 := by kernel_rfl
/-- A message's cells: its rows' values beside it. -/
def msC (m : Ms) (vi vk vm vo : Value) : List Value := [.int .i64 m.kind, .int .i64 m.src, .int .i64 m.dst, .int .i64 m.epoch, .int .i64 m.tick, .int .i64 m.seq, .int .i64 m.n, .int .i64 m.id, .int .i64 m.op, .string m.key, .int .i64 m.err, .bool m.last, .string m.it.1, .string m.it.2.1, .int .i64 m.it.2.2.1, .bool m.it.2.2.2, vi, vk, vm, .int .i64 m.base, vo]
abbrev msV (m : Ms) (vi vk vm vo : Value) : Value := .agg (msC m vi vk vm vo).toArray
theorem msC_one (m : Ms) (a b c d : Option Addr) (na ca nb cb nc cc nd cd : Nat) : ∀ v ∈ msC m (.slice a na ca) (.slice b nb cb) (.slice c nc cc) (.slice d nd cd), v.oneCell' = true := by
  intro v hv
  simp only [msC, List.mem_cons, List.not_mem_nil, or_false] at hv
  rcases hv with rfl | rfl | rfl | rfl | rfl | rfl | rfl | rfl | rfl | rfl | rfl | rfl | rfl | rfl | rfl | rfl | rfl | rfl | rfl | rfl | rfl <;> rfl
def GotFields (w : World) (rb : Nat) (r : Ms × Rs) (x : Ending) (w' : World) : Prop :=
  ∃ vm vo, x = .returned (msV r.1 (.slice none 0 0) (.slice none 0 0) vm vo) ∧ NRow w' w.heap.size vm r.1.mem ∧ NRow w' w.heap.size vo r.1.old ∧ RdR w' rb r.2 ∧ Keep [rb] w w'
theorem rNodes_ok_go (f : Nat) : ∀ (n : Int) (acc : List Int) (s : Rs), Rok s → Rok (rNodesGo f n acc s).2 := by
  induction f with
  | zero => intro n acc s h; exact h
  | succ f ih =>
    intro n acc s h
    unfold rNodesGo
    split
    · exact ih _ _ _ h.num
    · exact h
theorem Rok.nodes {s : Rs} (h : Rok s) : Rok (rNodes s).2 := rNodes_ok_go _ _ _ _ h.num
set_option maxRecDepth 100000 in
set_option maxHeartbeats 16000000 in
theorem rFields_any {w : World} (rb : Nat) (s : Rs) (h : RdR w rb s) (hk : Rok s) (r : Ms × Rs) (hr : r = rFields s) :
    Calls Try.prog 32 #[.pointer (some ⟨rb, 0, none⟩)] w (GotFields w rb r) := by
  have k0 := hk
  obtain ⟨x0, s1, e0⟩ : ∃ a b, rNum s = (a, b) := ⟨_, _, rfl⟩
  have k1 := k0.num
  rw [e0] at k1
  obtain ⟨x1, s2, e1⟩ : ∃ a b, rNum s1 = (a, b) := ⟨_, _, rfl⟩
  have k2 := k1.num
  rw [e1] at k2
  obtain ⟨x2, s3, e2⟩ : ∃ a b, rNum s2 = (a, b) := ⟨_, _, rfl⟩
  have k3 := k2.num
  rw [e2] at k3
  obtain ⟨x3, s4, e3⟩ : ∃ a b, rNum s3 = (a, b) := ⟨_, _, rfl⟩
  have k4 := k3.num
  rw [e3] at k4
  obtain ⟨x4, s5, e4⟩ : ∃ a b, rNum s4 = (a, b) := ⟨_, _, rfl⟩
  have k5 := k4.num
  rw [e4] at k5
  obtain ⟨x5, s6, e5⟩ : ∃ a b, rNum s5 = (a, b) := ⟨_, _, rfl⟩
  have k6 := k5.num
  rw [e5] at k6
  obtain ⟨x6, s7, e6⟩ : ∃ a b, rNum s6 = (a, b) := ⟨_, _, rfl⟩
  have k7 := k6.num
  rw [e6] at k7
  obtain ⟨x7, s8, e7⟩ : ∃ a b, rNum s7 = (a, b) := ⟨_, _, rfl⟩
  have k8 := k7.num
  rw [e7] at k8
  obtain ⟨x8, s9, e8⟩ : ∃ a b, rNum s8 = (a, b) := ⟨_, _, rfl⟩
  have k9 := k8.num
  rw [e8] at k9
  obtain ⟨x9, s10, e9⟩ : ∃ a b, rNum s9 = (a, b) := ⟨_, _, rfl⟩
  have k10 := k9.num
  rw [e9] at k10
  obtain ⟨x10, s11, e10⟩ : ∃ a b, rNum s10 = (a, b) := ⟨_, _, rfl⟩
  have k11 := k10.num
  rw [e10] at k11
  obtain ⟨x11, s12, e11⟩ : ∃ a b, rNum s11 = (a, b) := ⟨_, _, rfl⟩
  have k12 := k11.num
  rw [e11] at k12
  obtain ⟨x12, s13, e12⟩ : ∃ a b, rText s12 = (a, b) := ⟨_, _, rfl⟩
  have k13 := k12.text
  rw [e12] at k13
  obtain ⟨x13, s14, e13⟩ : ∃ a b, rNodes s13 = (a, b) := ⟨_, _, rfl⟩
  have k14 := k13.nodes
  rw [e13] at k14
  obtain ⟨x14, s15, e14⟩ : ∃ a b, rNodes s14 = (a, b) := ⟨_, _, rfl⟩
  have k15 := k14.nodes
  rw [e14] at k15
  have hr2 : r = (⟨x0, x1, x2, x3, x4, x5, x6, x7, x8, x12, x9, x10 == 1, it0, [], [], x13, x11, x14⟩, s15) := by
    rw [hr]; unfold rFields; simp only [e0, e1, e2, e3, e4, e5, e6, e7, e8, e9, e10, e11, e12, e13, e14]
  clear hr
  have E0 := Lib.hid e0
  have E1 := Lib.hid e1
  have E2 := Lib.hid e2
  have E3 := Lib.hid e3
  have E4 := Lib.hid e4
  have E5 := Lib.hid e5
  have E6 := Lib.hid e6
  have E7 := Lib.hid e7
  have E8 := Lib.hid e8
  have E9 := Lib.hid e9
  have E10 := Lib.hid e10
  have E11 := Lib.hid e11
  have E12 := Lib.hid e12
  have E13 := Lib.hid e13
  have E14 := Lib.hid e14
  clear e0 e1 e2 e3 e4 e5 e6 e7 e8 e9 e10 e11 e12 e13 e14
  have HR2 := Lib.hid hr2
  clear hr2
  obtain ⟨i0, hi, hz0, hz1, hz2⟩ := info_parts Try.infoMsg
  have hrl := h.lt
  go_enter Try.func32, Try.ntmps32
  go_wp2_with fail
  have hR := Blk.new w [.int .i64 0, .int .i64 0, .int .i64 0, .int .i64 0, .int .i64 0, .int .i64 0, .int .i64 0, .int .i64 0, .int .i64 0, .string { data := #[] }, .int .i64 0, .bool false, .string { data := #[] }, .string { data := #[] }, .int .i64 0, .bool false, .slice none 0 0, .slice none 0 0, .slice none 0 0, .int .i64 0, .slice none 0 0] 29
  have hX := Blk.new (w.alloc (.cells ([.int .i64 0, .int .i64 0, .int .i64 0, .int .i64 0, .int .i64 0, .int .i64 0, .int .i64 0, .int .i64 0, .int .i64 0, .string { data := #[] }, .int .i64 0, .bool false, .string { data := #[] }, .string { data := #[] }, .int .i64 0, .bool false, .slice none 0 0, .slice none 0 0, .slice none 0 0, .int .i64 0, .slice none 0 0]).toArray 29)) [.int .i64 0, .int .i64 0, .int .i64 0, .int .i64 0, .int .i64 0, .int .i64 0, .int .i64 0, .int .i64 0, .int .i64 0, .string { data := #[] }, .int .i64 0, .bool false, .string { data := #[] }, .string { data := #[] }, .int .i64 0, .bool false, .slice none 0 0, .slice none 0 0, .slice none 0 0, .int .i64 0, .slice none 0 0] 29
  replace hR := hR.alloc (.cells ([.int .i64 0, .int .i64 0, .int .i64 0, .int .i64 0, .int .i64 0, .int .i64 0, .int .i64 0, .int .i64 0, .int .i64 0, .string { data := #[] }, .int .i64 0, .bool false, .string { data := #[] }, .string { data := #[] }, .int .i64 0, .bool false, .slice none 0 0, .slice none 0 0, .slice none 0 0, .int .i64 0, .slice none 0 0]).toArray 29)
  have hq := (h.alloc (.cells ([.int .i64 0, .int .i64 0, .int .i64 0, .int .i64 0, .int .i64 0, .int .i64 0, .int .i64 0, .int .i64 0, .int .i64 0, .string { data := #[] }, .int .i64 0, .bool false, .string { data := #[] }, .string { data := #[] }, .int .i64 0, .bool false, .slice none 0 0, .slice none 0 0, .slice none 0 0, .int .i64 0, .slice none 0 0]).toArray 29)).alloc (.cells ([.int .i64 0, .int .i64 0, .int .i64 0, .int .i64 0, .int .i64 0, .int .i64 0, .int .i64 0, .int .i64 0, .int .i64 0, .string { data := #[] }, .int .i64 0, .bool false, .string { data := #[] }, .string { data := #[] }, .int .i64 0, .bool false, .slice none 0 0, .slice none 0 0, .slice none 0 0, .int .i64 0, .slice none 0 0]).toArray 29)
  have K := ((Keep.refl [rb] w).alloc (.cells ([.int .i64 0, .int .i64 0, .int .i64 0, .int .i64 0, .int .i64 0, .int .i64 0, .int .i64 0, .int .i64 0, .int .i64 0, .string { data := #[] }, .int .i64 0, .bool false, .string { data := #[] }, .string { data := #[] }, .int .i64 0, .bool false, .slice none 0 0, .slice none 0 0, .slice none 0 0, .int .i64 0, .slice none 0 0]).toArray 29)).alloc (.cells ([.int .i64 0, .int .i64 0, .int .i64 0, .int .i64 0, .int .i64 0, .int .i64 0, .int .i64 0, .int .i64 0, .int .i64 0, .string { data := #[] }, .int .i64 0, .bool false, .string { data := #[] }, .string { data := #[] }, .int .i64 0, .bool false, .slice none 0 0, .slice none 0 0, .slice none 0 0, .int .i64 0, .slice none 0 0]).toArray 29)
  change Calls _ _ _ ((w.alloc (.cells ([.int .i64 0, .int .i64 0, .int .i64 0, .int .i64 0, .int .i64 0, .int .i64 0, .int .i64 0, .int .i64 0, .int .i64 0, .string { data := #[] }, .int .i64 0, .bool false, .string { data := #[] }, .string { data := #[] }, .int .i64 0, .bool false, .slice none 0 0, .slice none 0 0, .slice none 0 0, .int .i64 0, .slice none 0 0]).toArray 29)).alloc (.cells ([.int .i64 0, .int .i64 0, .int .i64 0, .int .i64 0, .int .i64 0, .int .i64 0, .int .i64 0, .int .i64 0, .int .i64 0, .string { data := #[] }, .int .i64 0, .bool false, .string { data := #[] }, .string { data := #[] }, .int .i64 0, .bool false, .slice none 0 0, .slice none 0 0, .slice none 0 0, .int .i64 0, .slice none 0 0]).toArray 29)) _
  have hsz : (w.alloc (.cells ([.int .i64 0, .int .i64 0, .int .i64 0, .int .i64 0, .int .i64 0, .int .i64 0, .int .i64 0, .int .i64 0, .int .i64 0, .string { data := #[] }, .int .i64 0, .bool false, .string { data := #[] }, .string { data := #[] }, .int .i64 0, .bool false, .slice none 0 0, .slice none 0 0, .slice none 0 0, .int .i64 0, .slice none 0 0]).toArray 29)).heap.size = w.heap.size + 1 := by simp
  rw [hsz] at hX
  generalize (w.alloc (.cells ([.int .i64 0, .int .i64 0, .int .i64 0, .int .i64 0, .int .i64 0, .int .i64 0, .int .i64 0, .int .i64 0, .int .i64 0, .string { data := #[] }, .int .i64 0, .bool false, .string { data := #[] }, .string { data := #[] }, .int .i64 0, .bool false, .slice none 0 0, .slice none 0 0, .slice none 0 0, .int .i64 0, .slice none 0 0]).toArray 29)).alloc (.cells ([.int .i64 0, .int .i64 0, .int .i64 0, .int .i64 0, .int .i64 0, .int .i64 0, .int .i64 0, .int .i64 0, .int .i64 0, .string { data := #[] }, .int .i64 0, .bool false, .string { data := #[] }, .string { data := #[] }, .int .i64 0, .bool false, .slice none 0 0, .slice none 0 0, .slice none 0 0, .int .i64 0, .slice none 0 0]).toArray 29) = v0 at *
  clear h hk hsz
  refine (rNum_any rb s hq k0 x0 s1 E0.out).mono ?_
  rintro e v0a ⟨rfl, hq', j⟩
  replace hR := hR.keep j (by simp; omega)
  replace hX := hX.keep j (by simp; omega)
  replace K := K.trans j
  clear hq j
  have f1 := hX.free 0
  have c1 := hX.cell 0
  simp only [List.getElem?_cons_zero, List.getElem?_cons_succ] at c1
  go_wp2_with fail
  have hX' : Blk (v0a.setCell ⟨w.heap.size + 1, 0, none⟩ (.int .i64 x0)) (w.heap.size + 1) [.int .i64 x0, .int .i64 0, .int .i64 0, .int .i64 0, .int .i64 0, .int .i64 0, .int .i64 0, .int .i64 0, .int .i64 0, .string { data := #[] }, .int .i64 0, .bool false, .string { data := #[] }, .string { data := #[] }, .int .i64 0, .bool false, .slice none 0 0, .slice none 0 0, .slice none 0 0, .int .i64 0, .slice none 0 0] 29 := hX.set 0 _
  have j : Keep [w.heap.size + 1] v0a (v0a.setCell ⟨w.heap.size + 1, 0, none⟩ (.int .i64 x0)) := (Keep.refl _ _).setCell (.inl (by simp)) _
  replace hR := hR.keep j (by simp)
  have hq := hq'.keep j (by intro b hb; simp at hb; omega)
  replace K := K.then j (by intro b hb hlt; simp at hb; omega)
  clear hX f1 c1 hq' j
  have hX := hX'
  clear hX'
  generalize v0a.setCell ⟨w.heap.size + 1, 0, none⟩ (.int .i64 x0) = v1 at *
  refine (rNum_any rb s1 hq k1 x1 s2 E1.out).mono ?_
  rintro e v1a ⟨rfl, hq', j⟩
  replace hR := hR.keep j (by simp; omega)
  replace hX := hX.keep j (by simp; omega)
  replace K := K.trans j
  clear hq j
  have f1 := hX.free 1
  have c1 := hX.cell 1
  simp only [List.getElem?_cons_zero, List.getElem?_cons_succ] at c1
  go_wp2_with fail
  have hX' : Blk (v1a.setCell ⟨w.heap.size + 1, 1, none⟩ (.int .i64 x1)) (w.heap.size + 1) [.int .i64 x0, .int .i64 x1, .int .i64 0, .int .i64 0, .int .i64 0, .int .i64 0, .int .i64 0, .int .i64 0, .int .i64 0, .string { data := #[] }, .int .i64 0, .bool false, .string { data := #[] }, .string { data := #[] }, .int .i64 0, .bool false, .slice none 0 0, .slice none 0 0, .slice none 0 0, .int .i64 0, .slice none 0 0] 29 := hX.set 1 _
  have j : Keep [w.heap.size + 1] v1a (v1a.setCell ⟨w.heap.size + 1, 1, none⟩ (.int .i64 x1)) := (Keep.refl _ _).setCell (.inl (by simp)) _
  replace hR := hR.keep j (by simp)
  have hq := hq'.keep j (by intro b hb; simp at hb; omega)
  replace K := K.then j (by intro b hb hlt; simp at hb; omega)
  clear hX f1 c1 hq' j
  have hX := hX'
  clear hX'
  generalize v1a.setCell ⟨w.heap.size + 1, 1, none⟩ (.int .i64 x1) = v2 at *
  refine (rNum_any rb s2 hq k2 x2 s3 E2.out).mono ?_
  rintro e v2a ⟨rfl, hq', j⟩
  replace hR := hR.keep j (by simp; omega)
  replace hX := hX.keep j (by simp; omega)
  replace K := K.trans j
  clear hq j
  have f1 := hX.free 2
  have c1 := hX.cell 2
  simp only [List.getElem?_cons_zero, List.getElem?_cons_succ] at c1
  go_wp2_with fail
  have hX' : Blk (v2a.setCell ⟨w.heap.size + 1, 2, none⟩ (.int .i64 x2)) (w.heap.size + 1) [.int .i64 x0, .int .i64 x1, .int .i64 x2, .int .i64 0, .int .i64 0, .int .i64 0, .int .i64 0, .int .i64 0, .int .i64 0, .string { data := #[] }, .int .i64 0, .bool false, .string { data := #[] }, .string { data := #[] }, .int .i64 0, .bool false, .slice none 0 0, .slice none 0 0, .slice none 0 0, .int .i64 0, .slice none 0 0] 29 := hX.set 2 _
  have j : Keep [w.heap.size + 1] v2a (v2a.setCell ⟨w.heap.size + 1, 2, none⟩ (.int .i64 x2)) := (Keep.refl _ _).setCell (.inl (by simp)) _
  replace hR := hR.keep j (by simp)
  have hq := hq'.keep j (by intro b hb; simp at hb; omega)
  replace K := K.then j (by intro b hb hlt; simp at hb; omega)
  clear hX f1 c1 hq' j
  have hX := hX'
  clear hX'
  generalize v2a.setCell ⟨w.heap.size + 1, 2, none⟩ (.int .i64 x2) = v3 at *
  refine (rNum_any rb s3 hq k3 x3 s4 E3.out).mono ?_
  rintro e v3a ⟨rfl, hq', j⟩
  replace hR := hR.keep j (by simp; omega)
  replace hX := hX.keep j (by simp; omega)
  replace K := K.trans j
  clear hq j
  have f1 := hX.free 3
  have c1 := hX.cell 3
  simp only [List.getElem?_cons_zero, List.getElem?_cons_succ] at c1
  go_wp2_with fail
  have hX' : Blk (v3a.setCell ⟨w.heap.size + 1, 3, none⟩ (.int .i64 x3)) (w.heap.size + 1) [.int .i64 x0, .int .i64 x1, .int .i64 x2, .int .i64 x3, .int .i64 0, .int .i64 0, .int .i64 0, .int .i64 0, .int .i64 0, .string { data := #[] }, .int .i64 0, .bool false, .string { data := #[] }, .string { data := #[] }, .int .i64 0, .bool false, .slice none 0 0, .slice none 0 0, .slice none 0 0, .int .i64 0, .slice none 0 0] 29 := hX.set 3 _
  have j : Keep [w.heap.size + 1] v3a (v3a.setCell ⟨w.heap.size + 1, 3, none⟩ (.int .i64 x3)) := (Keep.refl _ _).setCell (.inl (by simp)) _
  replace hR := hR.keep j (by simp)
  have hq := hq'.keep j (by intro b hb; simp at hb; omega)
  replace K := K.then j (by intro b hb hlt; simp at hb; omega)
  clear hX f1 c1 hq' j
  have hX := hX'
  clear hX'
  generalize v3a.setCell ⟨w.heap.size + 1, 3, none⟩ (.int .i64 x3) = v4 at *
  refine (rNum_any rb s4 hq k4 x4 s5 E4.out).mono ?_
  rintro e v4a ⟨rfl, hq', j⟩
  replace hR := hR.keep j (by simp; omega)
  replace hX := hX.keep j (by simp; omega)
  replace K := K.trans j
  clear hq j
  have f1 := hX.free 4
  have c1 := hX.cell 4
  simp only [List.getElem?_cons_zero, List.getElem?_cons_succ] at c1
  go_wp2_with fail
  have hX' : Blk (v4a.setCell ⟨w.heap.size + 1, 4, none⟩ (.int .i64 x4)) (w.heap.size + 1) [.int .i64 x0, .int .i64 x1, .int .i64 x2, .int .i64 x3, .int .i64 x4, .int .i64 0, .int .i64 0, .int .i64 0, .int .i64 0, .string { data := #[] }, .int .i64 0, .bool false, .string { data := #[] }, .string { data := #[] }, .int .i64 0, .bool false, .slice none 0 0, .slice none 0 0, .slice none 0 0, .int .i64 0, .slice none 0 0] 29 := hX.set 4 _
  have j : Keep [w.heap.size + 1] v4a (v4a.setCell ⟨w.heap.size + 1, 4, none⟩ (.int .i64 x4)) := (Keep.refl _ _).setCell (.inl (by simp)) _
  replace hR := hR.keep j (by simp)
  have hq := hq'.keep j (by intro b hb; simp at hb; omega)
  replace K := K.then j (by intro b hb hlt; simp at hb; omega)
  clear hX f1 c1 hq' j
  have hX := hX'
  clear hX'
  generalize v4a.setCell ⟨w.heap.size + 1, 4, none⟩ (.int .i64 x4) = v5 at *
  refine (rNum_any rb s5 hq k5 x5 s6 E5.out).mono ?_
  rintro e v5a ⟨rfl, hq', j⟩
  replace hR := hR.keep j (by simp; omega)
  replace hX := hX.keep j (by simp; omega)
  replace K := K.trans j
  clear hq j
  have f1 := hX.free 5
  have c1 := hX.cell 5
  simp only [List.getElem?_cons_zero, List.getElem?_cons_succ] at c1
  go_wp2_with fail
  have hX' : Blk (v5a.setCell ⟨w.heap.size + 1, 5, none⟩ (.int .i64 x5)) (w.heap.size + 1) [.int .i64 x0, .int .i64 x1, .int .i64 x2, .int .i64 x3, .int .i64 x4, .int .i64 x5, .int .i64 0, .int .i64 0, .int .i64 0, .string { data := #[] }, .int .i64 0, .bool false, .string { data := #[] }, .string { data := #[] }, .int .i64 0, .bool false, .slice none 0 0, .slice none 0 0, .slice none 0 0, .int .i64 0, .slice none 0 0] 29 := hX.set 5 _
  have j : Keep [w.heap.size + 1] v5a (v5a.setCell ⟨w.heap.size + 1, 5, none⟩ (.int .i64 x5)) := (Keep.refl _ _).setCell (.inl (by simp)) _
  replace hR := hR.keep j (by simp)
  have hq := hq'.keep j (by intro b hb; simp at hb; omega)
  replace K := K.then j (by intro b hb hlt; simp at hb; omega)
  clear hX f1 c1 hq' j
  have hX := hX'
  clear hX'
  generalize v5a.setCell ⟨w.heap.size + 1, 5, none⟩ (.int .i64 x5) = v6 at *
  refine (rNum_any rb s6 hq k6 x6 s7 E6.out).mono ?_
  rintro e v6a ⟨rfl, hq', j⟩
  replace hR := hR.keep j (by simp; omega)
  replace hX := hX.keep j (by simp; omega)
  replace K := K.trans j
  clear hq j
  have f1 := hX.free 6
  have c1 := hX.cell 6
  simp only [List.getElem?_cons_zero, List.getElem?_cons_succ] at c1
  go_wp2_with fail
  have hX' : Blk (v6a.setCell ⟨w.heap.size + 1, 6, none⟩ (.int .i64 x6)) (w.heap.size + 1) [.int .i64 x0, .int .i64 x1, .int .i64 x2, .int .i64 x3, .int .i64 x4, .int .i64 x5, .int .i64 x6, .int .i64 0, .int .i64 0, .string { data := #[] }, .int .i64 0, .bool false, .string { data := #[] }, .string { data := #[] }, .int .i64 0, .bool false, .slice none 0 0, .slice none 0 0, .slice none 0 0, .int .i64 0, .slice none 0 0] 29 := hX.set 6 _
  have j : Keep [w.heap.size + 1] v6a (v6a.setCell ⟨w.heap.size + 1, 6, none⟩ (.int .i64 x6)) := (Keep.refl _ _).setCell (.inl (by simp)) _
  replace hR := hR.keep j (by simp)
  have hq := hq'.keep j (by intro b hb; simp at hb; omega)
  replace K := K.then j (by intro b hb hlt; simp at hb; omega)
  clear hX f1 c1 hq' j
  have hX := hX'
  clear hX'
  generalize v6a.setCell ⟨w.heap.size + 1, 6, none⟩ (.int .i64 x6) = v7 at *
  refine (rNum_any rb s7 hq k7 x7 s8 E7.out).mono ?_
  rintro e v7a ⟨rfl, hq', j⟩
  replace hR := hR.keep j (by simp; omega)
  replace hX := hX.keep j (by simp; omega)
  replace K := K.trans j
  clear hq j
  have f1 := hX.free 7
  have c1 := hX.cell 7
  simp only [List.getElem?_cons_zero, List.getElem?_cons_succ] at c1
  go_wp2_with fail
  have hX' : Blk (v7a.setCell ⟨w.heap.size + 1, 7, none⟩ (.int .i64 x7)) (w.heap.size + 1) [.int .i64 x0, .int .i64 x1, .int .i64 x2, .int .i64 x3, .int .i64 x4, .int .i64 x5, .int .i64 x6, .int .i64 x7, .int .i64 0, .string { data := #[] }, .int .i64 0, .bool false, .string { data := #[] }, .string { data := #[] }, .int .i64 0, .bool false, .slice none 0 0, .slice none 0 0, .slice none 0 0, .int .i64 0, .slice none 0 0] 29 := hX.set 7 _
  have j : Keep [w.heap.size + 1] v7a (v7a.setCell ⟨w.heap.size + 1, 7, none⟩ (.int .i64 x7)) := (Keep.refl _ _).setCell (.inl (by simp)) _
  replace hR := hR.keep j (by simp)
  have hq := hq'.keep j (by intro b hb; simp at hb; omega)
  replace K := K.then j (by intro b hb hlt; simp at hb; omega)
  clear hX f1 c1 hq' j
  have hX := hX'
  clear hX'
  generalize v7a.setCell ⟨w.heap.size + 1, 7, none⟩ (.int .i64 x7) = v8 at *
  refine (rNum_any rb s8 hq k8 x8 s9 E8.out).mono ?_
  rintro e v8a ⟨rfl, hq', j⟩
  replace hR := hR.keep j (by simp; omega)
  replace hX := hX.keep j (by simp; omega)
  replace K := K.trans j
  clear hq j
  have f1 := hX.free 8
  have c1 := hX.cell 8
  simp only [List.getElem?_cons_zero, List.getElem?_cons_succ] at c1
  go_wp2_with fail
  have hX' : Blk (v8a.setCell ⟨w.heap.size + 1, 8, none⟩ (.int .i64 x8)) (w.heap.size + 1) [.int .i64 x0, .int .i64 x1, .int .i64 x2, .int .i64 x3, .int .i64 x4, .int .i64 x5, .int .i64 x6, .int .i64 x7, .int .i64 x8, .string { data := #[] }, .int .i64 0, .bool false, .string { data := #[] }, .string { data := #[] }, .int .i64 0, .bool false, .slice none 0 0, .slice none 0 0, .slice none 0 0, .int .i64 0, .slice none 0 0] 29 := hX.set 8 _
  have j : Keep [w.heap.size + 1] v8a (v8a.setCell ⟨w.heap.size + 1, 8, none⟩ (.int .i64 x8)) := (Keep.refl _ _).setCell (.inl (by simp)) _
  replace hR := hR.keep j (by simp)
  have hq := hq'.keep j (by intro b hb; simp at hb; omega)
  replace K := K.then j (by intro b hb hlt; simp at hb; omega)
  clear hX f1 c1 hq' j
  have hX := hX'
  clear hX'
  generalize v8a.setCell ⟨w.heap.size + 1, 8, none⟩ (.int .i64 x8) = v9 at *
  refine (rNum_any rb s9 hq k9 x9 s10 E9.out).mono ?_
  rintro e v9a ⟨rfl, hq', j⟩
  replace hR := hR.keep j (by simp; omega)
  replace hX := hX.keep j (by simp; omega)
  replace K := K.trans j
  clear hq j
  have f1 := hX.free 10
  have c1 := hX.cell 10
  simp only [List.getElem?_cons_zero, List.getElem?_cons_succ] at c1
  go_wp2_with fail
  have hX' : Blk (v9a.setCell ⟨w.heap.size + 1, 10, none⟩ (.int .i64 x9)) (w.heap.size + 1) [.int .i64 x0, .int .i64 x1, .int .i64 x2, .int .i64 x3, .int .i64 x4, .int .i64 x5, .int .i64 x6, .int .i64 x7, .int .i64 x8, .string { data := #[] }, .int .i64 x9, .bool false, .string { data := #[] }, .string { data := #[] }, .int .i64 0, .bool false, .slice none 0 0, .slice none 0 0, .slice none 0 0, .int .i64 0, .slice none 0 0] 29 := hX.set 10 _
  have j : Keep [w.heap.size + 1] v9a (v9a.setCell ⟨w.heap.size + 1, 10, none⟩ (.int .i64 x9)) := (Keep.refl _ _).setCell (.inl (by simp)) _
  replace hR := hR.keep j (by simp)
  have hq := hq'.keep j (by intro b hb; simp at hb; omega)
  replace K := K.then j (by intro b hb hlt; simp at hb; omega)
  clear hX f1 c1 hq' j
  have hX := hX'
  clear hX'
  generalize v9a.setCell ⟨w.heap.size + 1, 10, none⟩ (.int .i64 x9) = v10 at *
  refine (rNum_any rb s10 hq k10 x10 s11 E10.out).mono ?_
  rintro e v10a ⟨rfl, hq', j⟩
  replace hR := hR.keep j (by simp; omega)
  replace hX := hX.keep j (by simp; omega)
  replace K := K.trans j
  clear hq j
  have f1 := hX.free 11
  have c1 := hX.cell 11
  simp only [List.getElem?_cons_zero, List.getElem?_cons_succ] at c1
  go_wp2_with fail
  have hX' : Blk (v10a.setCell ⟨w.heap.size + 1, 11, none⟩ (.bool (x10 == 1))) (w.heap.size + 1) [.int .i64 x0, .int .i64 x1, .int .i64 x2, .int .i64 x3, .int .i64 x4, .int .i64 x5, .int .i64 x6, .int .i64 x7, .int .i64 x8, .string { data := #[] }, .int .i64 x9, .bool (x10 == 1), .string { data := #[] }, .string { data := #[] }, .int .i64 0, .bool false, .slice none 0 0, .slice none 0 0, .slice none 0 0, .int .i64 0, .slice none 0 0] 29 := hX.set 11 _
  have j : Keep [w.heap.size + 1] v10a (v10a.setCell ⟨w.heap.size + 1, 11, none⟩ (.bool (x10 == 1))) := (Keep.refl _ _).setCell (.inl (by simp)) _
  replace hR := hR.keep j (by simp)
  have hq := hq'.keep j (by intro b hb; simp at hb; omega)
  replace K := K.then j (by intro b hb hlt; simp at hb; omega)
  clear hX f1 c1 hq' j
  have hX := hX'
  clear hX'
  generalize v10a.setCell ⟨w.heap.size + 1, 11, none⟩ (.bool (x10 == 1)) = v11 at *
  refine (rNum_any rb s11 hq k11 x11 s12 E11.out).mono ?_
  rintro e v11a ⟨rfl, hq', j⟩
  replace hR := hR.keep j (by simp; omega)
  replace hX := hX.keep j (by simp; omega)
  replace K := K.trans j
  clear hq j
  have f1 := hX.free 19
  have c1 := hX.cell 19
  simp only [List.getElem?_cons_zero, List.getElem?_cons_succ] at c1
  go_wp2_with fail
  have hX' : Blk (v11a.setCell ⟨w.heap.size + 1, 19, none⟩ (.int .i64 x11)) (w.heap.size + 1) [.int .i64 x0, .int .i64 x1, .int .i64 x2, .int .i64 x3, .int .i64 x4, .int .i64 x5, .int .i64 x6, .int .i64 x7, .int .i64 x8, .string { data := #[] }, .int .i64 x9, .bool (x10 == 1), .string { data := #[] }, .string { data := #[] }, .int .i64 0, .bool false, .slice none 0 0, .slice none 0 0, .slice none 0 0, .int .i64 x11, .slice none 0 0] 29 := hX.set 19 _
  have j : Keep [w.heap.size + 1] v11a (v11a.setCell ⟨w.heap.size + 1, 19, none⟩ (.int .i64 x11)) := (Keep.refl _ _).setCell (.inl (by simp)) _
  replace hR := hR.keep j (by simp)
  have hq := hq'.keep j (by intro b hb; simp at hb; omega)
  replace K := K.then j (by intro b hb hlt; simp at hb; omega)
  clear hX f1 c1 hq' j
  have hX := hX'
  clear hX'
  generalize v11a.setCell ⟨w.heap.size + 1, 19, none⟩ (.int .i64 x11) = v12 at *
  refine (rText_any rb s12 hq k12 x12 s13 E12.out).mono ?_
  rintro e v12a ⟨rfl, hq', j⟩
  replace hR := hR.keep j (by simp; omega)
  replace hX := hX.keep j (by simp; omega)
  replace K := K.trans j
  clear hq j
  have f1 := hX.free 9
  have c1 := hX.cell 9
  simp only [List.getElem?_cons_zero, List.getElem?_cons_succ] at c1
  go_wp2_with fail
  have hX' : Blk (v12a.setCell ⟨w.heap.size + 1, 9, none⟩ (.string x12)) (w.heap.size + 1) [.int .i64 x0, .int .i64 x1, .int .i64 x2, .int .i64 x3, .int .i64 x4, .int .i64 x5, .int .i64 x6, .int .i64 x7, .int .i64 x8, .string x12, .int .i64 x9, .bool (x10 == 1), .string { data := #[] }, .string { data := #[] }, .int .i64 0, .bool false, .slice none 0 0, .slice none 0 0, .slice none 0 0, .int .i64 x11, .slice none 0 0] 29 := hX.set 9 _
  have j : Keep [w.heap.size + 1] v12a (v12a.setCell ⟨w.heap.size + 1, 9, none⟩ (.string x12)) := (Keep.refl _ _).setCell (.inl (by simp)) _
  replace hR := hR.keep j (by simp)
  have hq := hq'.keep j (by intro b hb; simp at hb; omega)
  replace K := K.then j (by intro b hb hlt; simp at hb; omega)
  clear hX f1 c1 hq' j
  have hX := hX'
  clear hX'
  generalize v12a.setCell ⟨w.heap.size + 1, 9, none⟩ (.string x12) = v13 at *
  have hXlt13 := hX.lt
  refine (rNodes_any rb s13 hq k13 (x13, s14) E13.out.symm).mono ?_
  rintro e v13a ⟨vm, rfl, hN13, hq', j⟩
  have hXl13 := hX.lt
  simp only at hq'
  replace hR := hR.keep j (by simp; omega)
  replace hX := hX.keep j (by simp; omega)
  replace K := K.trans j
  clear hq j
  have f1 := hX.free 18
  have c1 := hX.cell 18
  simp only [List.getElem?_cons_zero, List.getElem?_cons_succ] at c1
  obtain ⟨a13, n13, rfl⟩ := hN13.slice
  go_wp2_with fail
  have hX' : Blk (v13a.setCell ⟨w.heap.size + 1, 18, none⟩ (.slice a13 x13.length n13)) (w.heap.size + 1) [.int .i64 x0, .int .i64 x1, .int .i64 x2, .int .i64 x3, .int .i64 x4, .int .i64 x5, .int .i64 x6, .int .i64 x7, .int .i64 x8, .string x12, .int .i64 x9, .bool (x10 == 1), .string { data := #[] }, .string { data := #[] }, .int .i64 0, .bool false, .slice none 0 0, .slice none 0 0, .slice a13 x13.length n13, .int .i64 x11, .slice none 0 0] 29 := hX.set 18 _
  have j : Keep [w.heap.size + 1] v13a (v13a.setCell ⟨w.heap.size + 1, 18, none⟩ (.slice a13 x13.length n13)) := (Keep.refl _ _).setCell (.inl (by simp)) _
  replace hR := hR.keep j (by simp)
  have hq := hq'.keep j (by intro b hb; simp at hb; omega)
  replace hN13 := hN13.keep j (fun b hb hm => by have := hN13.lt b hb; simp at hm; omega)
  replace K := K.then j (by intro b hb hlt; simp at hb; omega)
  clear hX f1 c1 hq' j
  have hX := hX'
  clear hX'
  generalize v13a.setCell ⟨w.heap.size + 1, 18, none⟩ (.slice a13 x13.length n13) = v14 at *
  have hXlt14 := hX.lt
  refine (rNodes_any rb s14 hq k14 (x14, s15) E14.out.symm).mono ?_
  rintro e v14a ⟨vo, rfl, hN14, hq', j⟩
  replace hN13 := hN13.keep j (fun b hb hm => by have := hN13.lt b hb; simp at hm; omega)
  have hXl14 := hX.lt
  simp only at hq'
  replace hR := hR.keep j (by simp; omega)
  replace hX := hX.keep j (by simp; omega)
  replace K := K.trans j
  clear hq j
  have f1 := hX.free 20
  have c1 := hX.cell 20
  simp only [List.getElem?_cons_zero, List.getElem?_cons_succ] at c1
  obtain ⟨a14, n14, rfl⟩ := hN14.slice
  have hR0 := hR
  have hX0 := hX
  have hX' : Blk (v14a.setCell ⟨w.heap.size + 1, 20, none⟩ (.slice a14 x14.length n14)) (w.heap.size + 1) [.int .i64 x0, .int .i64 x1, .int .i64 x2, .int .i64 x3, .int .i64 x4, .int .i64 x5, .int .i64 x6, .int .i64 x7, .int .i64 x8, .string x12, .int .i64 x9, .bool (x10 == 1), .string { data := #[] }, .string { data := #[] }, .int .i64 0, .bool false, .slice none 0 0, .slice none 0 0, .slice a13 x13.length n13, .int .i64 x11, .slice a14 x14.length n14] 29 := hX.set 20 _
  have hX9 : Blk (v14a.setCell ⟨w.heap.size + 1, 20, none⟩ (.slice a14 x14.length n14)) (w.heap.size + 1) (msC r.1 (.slice none 0 0) (.slice none 0 0) (.slice a13 x13.length n13) (.slice a14 x14.length n14)) 29 := by rw [HR2.out]; exact hX'
  have j : Keep [w.heap.size + 1] v14a (v14a.setCell ⟨w.heap.size + 1, 20, none⟩ (.slice a14 x14.length n14)) := (Keep.refl _ _).setCell (.inl (by simp)) _
  have hR9 := hR.keep j (by simp)
  have hone := msC_one r.1 none none a13 a14 0 0 0 0 x13.length n13 x14.length n14
  have HONE := Lib.hid hone
  have hu := Try.underlying29
  clear hone
  go_wp2_with (first | (refine wpList_load_row rfl 29 _ rfl (w.heap.size + 1) rfl 29 (msC r.1 (.slice none 0 0) (.slice none 0 0) (.slice a13 x13.length n13) (.slice a14 x14.length n14)).toArray (0, 0) _ hX9 Try.underlying29 rfl Try.sizeMsg ?_) | (refine wpList_store_blk rfl 29 _ _ rfl w.heap.size [.int .i64 0, .int .i64 0, .int .i64 0, .int .i64 0, .int .i64 0, .int .i64 0, .int .i64 0, .int .i64 0, .int .i64 0, .string { data := #[] }, .int .i64 0, .bool false, .string { data := #[] }, .string { data := #[] }, .int .i64 0, .bool false, .slice none 0 0, .slice none 0 0, .slice none 0 0, .int .i64 0, .slice none 0 0] (msC r.1 (.slice none 0 0) (.slice none 0 0) (.slice a13 x13.length n13) (.slice a14 x14.length n14)) 29 rfl rfl hR9 rfl Try.sizeMsg HONE.out ?_; intro w9 hB9 hK9))
  have hrf := (hq'.keep j (by intro b hb; simp at hb; omega)).keep hK9 (by intro b hb; simp at hb; omega)
  have hN13f := ((hN13.keep j (fun b hb hm => by have := hN13.lt b hb; simp at hm; omega)).keep hK9 (fun b hb hm => by have := hN13.lt b hb; simp at hm; omega)).mono (by omega : w.heap.size ≤ _)
  have hN14f := ((hN14.keep j (fun b hb hm => by have := hN14.lt b hb; simp at hm; omega)).keep hK9 (fun b hb hm => by have := hN14.lt b hb; simp at hm; omega)).mono (by omega : w.heap.size ≤ _)
  have Kf := (K.then j (by intro b hb hlt; simp at hb; omega)).then hK9 (by intro b hb hlt; simp at hb; omega)
  refine bodyPost_ret (v := msV r.1 (.slice none 0 0) (.slice none 0 0) (.slice a13 x13.length n13) (.slice a14 x14.length n14)) ?_ rfl ?_
  · exact results_cell_row Try.results32 _ _ w.heap.size 29 _ (0, 0) _ rfl hB9 Try.underlying29 rfl Try.sizeMsg
  · exact ⟨_, _, rfl, by rw [HR2.out]; exact hN13f, by rw [HR2.out]; exact hN14f, by rw [HR2.out]; exact hrf, Kf⟩
end Go.Proofs.Ytonghelcfbjknaa
