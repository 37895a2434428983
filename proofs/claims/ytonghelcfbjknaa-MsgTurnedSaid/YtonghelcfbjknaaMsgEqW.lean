/- The law MsgEq: its walk. -/
import Derived.Test.YtonghelcfbjknaaMsgStep
namespace Go.Proofs.Ytonghelcfbjknaa
open Go.ChangeShapes Go.WideShapes Go.ChangeAt Go.RowKit
set_option linter.unusedVariables false
set_option linter.unusedSimpArgs false

def MsOff (S : List Nat) (m : Ms) (vi vk vm vo : Value) : Prop := (∀ b, vi.ownBlock = some b → 0 < m.its.length → b ∉ S) ∧ (∀ b, vk.ownBlock = some b → 0 < m.mks.length → b ∉ S) ∧ (∀ b, vm.ownBlock = some b → 0 < m.mem.length → b ∉ S) ∧ (∀ b, vo.ownBlock = some b → 0 < m.old.length → b ∉ S)
theorem MsRd.off {w w' : World} {m : Ms} {vi vk vm vo : Value} {S S' : List Nat} (h : MsRd w m vi vk vm vo) (k : Keep S' w w') (o : MsOff S m vi vk vm vo) (hs : ∀ z ∈ S', z ∈ S) : MsRd w' m vi vk vm vo :=
  h.keep0 k (fun b hb hp hm => o.1 b hb hp (hs b hm)) (fun b hb hp hm => o.2.1 b hb hp (hs b hm)) (fun b hb hp hm => o.2.2.1 b hb hp (hs b hm)) (fun b hb hp hm => o.2.2.2 b hb hp (hs b hm))
theorem MsOff.of_sep {w0 : World} {m : Ms} {vi vk vm vo ui uk um uo : Value} {n : Nat} {S : List Nat} (h0 : MsRd w0 m vi vk vm vo) (s : MsSep n ui uk um uo vm vo) (hS : ∀ z ∈ S, w0.heap.size ≤ z ∧ z < n) : MsOff S (msCut m) ui uk um uo :=
  ⟨fun q hq _ hm => by have := s.1 q hq; have := hS q hm; omega, fun q hq _ hm => by have := s.2.1 q hq; have := hS q hm; omega,
    fun q hq hp hm => by have := h0.memlo.1 q (s.2.2.1 ▸ hq) (by have : (msCut m).mem.length = (m.mem.take 7).length := rfl; rw [this] at hp; simp at hp; omega); have := hS q hm; omega,
    fun q hq hp hm => by have := h0.memlo.2 q (s.2.2.2 ▸ hq) (by have : (msCut m).old.length = (m.old.take 7).length := rfl; rw [this] at hp; simp at hp; omega); have := hS q hm; omega⟩
theorem MsRd.one {w : World} {m : Ms} {vi vk vm vo : Value} (h : MsRd w m vi vk vm vo) : ∀ v ∈ msC m vi vk vm vo, v.oneCell' = true := by
  obtain ⟨_, a, n, rfl, _, _⟩ := h.its
  obtain ⟨_, a2, n2, rfl, _, _⟩ := h.mks
  obtain ⟨_, a3, n3, rfl, _, _⟩ := h.mem
  obtain ⟨_, a4, n4, rfl, _, _⟩ := h.old
  exact msC_one _ _ _ _ _ _ _ _ _ _ _ _ _
theorem step_store_blk {P : Program} {ops : Array Oper} {op : Oper} {a : Act} {w : World} {K : Act → World → Prop} {Q : Exit → Act → World → Prop} {F : Prop} (hgd : op.guard = none) (ty : TypeId) (x y : Operand) (ho : op.op = .store ty x y)
    (b : Nat) (old cells : List Value) (T : TypeId) (hx : a.eval x = .pointer (some ⟨b, 0, none⟩)) (hy : a.eval y = .agg cells.toArray)
    (hb : Blk w b old T) (hl : old.length = cells.length) (hi : (P.info? ty).map (·.size) = some cells.length) (h1 : ∀ v ∈ cells, v.oneCell' = true)
    (h : ∀ w', Blk w' b cells T → Keep [b] w w' → K (a.put op.dst undef) w') : if Region.wanted op (yielded ops a.tmps) = true then Oper.wp P op a w K Q else F := by
  rw [if_pos (by simp [Region.wanted, hgd])]
  refine wp_store_mid ty x y ho b 0 cells.toArray hx hy (hb.there 0 _ (by simp; omega)) (by simpa using hi) (all_oneCell_toArray h1) (h _ ?_ (Keep.setCells _ _ _ _ (Keep.refl _ _) (.inl (by simp))))
  have := hb.setCells cells 0 w _ (by omega)
  unfold over at this
  rw [List.drop_of_length_le (by omega)] at this
  simpa using this
def mcutsJ (w1 : World) (p q : Nat) (a b : Ms) (va vk vm vo ua uk um uo : Value) (l : Nat → Bool) (x : Nat → Value) (w' : World) : Prop :=
  ∃ A1 A2 A3 A4 B1 B2 B3 B4, (Blk w' p (if l 4 = true then msC (msCut a) A1 A2 A3 A4 else msC a va vk vm vo) 29) ∧
  (Blk w' q (if l 5 = true then msC (msCut b) B1 B2 B3 B4 else msC b ua uk um uo) 29) ∧
  (Keep [p, q] w1 w') ∧
  (l 1 = true → l 0 = true) ∧
  (l 3 = true → l 2 = true) ∧
  (l 4 = true → l 1 = true) ∧
  (l 5 = true → l 3 = true) ∧
  (l 0 = true → x 0 = .agg (msC a va vk vm vo).toArray) ∧
  (l 1 = true → x 1 = .agg (msC (msCut a) A1 A2 A3 A4).toArray ∧ MsRd w' (msCut a) A1 A2 A3 A4 ∧ MsOff [p, q] (msCut a) A1 A2 A3 A4 ∧ ∀ v ∈ msC (msCut a) A1 A2 A3 A4, v.oneCell' = true) ∧
  (l 2 = true → x 2 = .agg (msC b ua uk um uo).toArray) ∧
  (l 3 = true → x 3 = .agg (msC (msCut b) B1 B2 B3 B4).toArray ∧ MsRd w' (msCut b) B1 B2 B3 B4 ∧ MsOff [p, q] (msCut b) B1 B2 B3 B4 ∧ ∀ v ∈ msC (msCut b) B1 B2 B3 B4, v.oneCell' = true) ∧
  (l 4 = true → True) ∧
  (l 5 = true → True)
def meq5J (w0 : World) (p q : Nat) (a1 b1 : Ms) (A1 A2 A3 A4 B1 B2 B3 B4 : Value) (r : Bool) (l : Nat → Bool) (x : Nat → Value) (w' : World) : Prop :=
  (Blk w' p (msC a1 A1 A2 A3 A4) 29) ∧
  (Blk w' q (msC b1 B1 B2 B3 B4) 29) ∧
  (MsRd w' a1 A1 A2 A3 A4) ∧
  (MsRd w' b1 B1 B2 B3 B4) ∧
  (Keep [] w0 w') ∧
  (l 0 = true → x 0 = .agg (msC a1 A1 A2 A3 A4).toArray) ∧
  (l 1 = true → x 1 = .agg (msC b1 B1 B2 B3 B4).toArray) ∧
  (l 2 = true → x 2 = .bool r) ∧
  (l 3 = true → x 3 = .agg (msC a1 A1 A2 A3 A4).toArray) ∧
  (l 4 = true → x 4 = .agg (msC b1 B1 B2 B3 B4).toArray) ∧
  (l 5 = true → x 5 = .bool r) ∧
  (l 6 = true → x 6 = .bool false) ∧
  (l 7 = true → x 7 = .bool false) ∧
  (l 8 = true → x 8 = .agg (msC a1 A1 A2 A3 A4).toArray) ∧
  (l 9 = true → x 9 = .agg (msC a1 A1 A2 A3 A4).toArray) ∧
  (l 10 = true → x 10 = .bool true) ∧
  (l 11 = true → x 11 = .bool false) ∧
  (l 12 = true → x 12 = .bool false) ∧
  (l 13 = true → x 13 = .bool false) ∧
  (l 14 = true → x 14 = .agg (msC a1 A1 A2 A3 A4).toArray) ∧
  (l 15 = true → x 15 = .agg (msC b1 B1 B2 B3 B4).toArray) ∧
  (l 16 = true → x 16 = .bool r) ∧
  (l 17 = true → x 17 = .agg (msC b1 B1 B2 B3 B4).toArray) ∧
  (l 18 = true → x 18 = .agg (msC a1 A1 A2 A3 A4).toArray) ∧
  (l 19 = true → x 19 = .bool r) ∧
  (l 20 = true → x 20 = .bool false) ∧
  (l 21 = true → x 21 = .bool false)
def meq9J (w0 : World) (p q : Nat) (a1 b1 : Ms) (A1 A2 A3 A4 B1 B2 B3 B4 : Value) (r : Bool) (EA EB : List Nat) (l : Nat → Bool) (x : Nat → Value) (w' : World) : Prop :=
  (Blk w' p (msC a1 A1 A2 A3 A4) 29) ∧
  (Blk w' q (msC b1 B1 B2 B3 B4) 29) ∧
  (MsRd w' a1 A1 A2 A3 A4) ∧
  (MsRd w' b1 B1 B2 B3 B4) ∧
  (Keep [] w0 w') ∧
  (l 0 = true → x 0 = .agg (msC a1 A1 A2 A3 A4).toArray) ∧
  (l 1 = true → Buf w' 0 5 (x 1) EA) ∧
  (l 2 = true → x 2 = .string (toStr EA)) ∧
  (l 3 = true → x 3 = .agg (msC b1 B1 B2 B3 B4).toArray) ∧
  (l 4 = true → Buf w' 0 5 (x 4) EB) ∧
  (l 5 = true → x 5 = .string (toStr EB)) ∧
  (l 6 = true → x 6 = .bool r) ∧
  (l 7 = true → x 7 = .agg (msC a1 A1 A2 A3 A4).toArray) ∧
  (l 8 = true → x 8 = .agg (msC b1 B1 B2 B3 B4).toArray) ∧
  (l 9 = true → x 9 = .bool r) ∧
  (l 10 = true → x 10 = .bool true) ∧
  (l 11 = true → x 11 = .bool true)
set_option maxRecDepth 100000 in
set_option maxHeartbeats 16000000 in
theorem msgEq_walk (v0 v1 : Value) (w : World) (w0 : IsMsg w v0) (w1 : IsMsg w v1) :
    Calls Try.prog 6 #[v0, v1] w fun e w' => e = .returned (.bool true) ∧ Below w.heap.size w w' := by
  obtain ⟨a, va, vk, vm, vo, rfl, hra00, hrawa, _⟩ := w0
  obtain ⟨b, ua, uk, um, uo, rfl, hrb00, hrawb, _⟩ := w1
  have hA0 := (Blk.new w (msC a va vk vm vo) 29).alloc (.cells (msC b ua uk um uo).toArray 29)
  have hB0 := Blk.new' (w.alloc (.cells (msC a va vk vm vo).toArray 29)) (msC b ua uk um uo) 29 (w.heap.size + 1) (by simp)
  have K1 := ((Keep.refl [] w).alloc (.cells (msC a va vk vm vo).toArray 29)).alloc (.cells (msC b ua uk um uo).toArray 29)
  go_enter Try.func6, Try.ntmps6
  go_wp2_with fail
  refine (begun19 _).mono ?_
  rintro e w1 ⟨rfl, k1⟩
  replace hA0 := hA0.keep k1 (by simp)
  replace hB0 := hB0.keep k1 (by simp)
  replace K1 := K1.trans k1
  have hbl := hB0.lt
  clear k1
  obtain ⟨q, hq⟩ : ∃ q, q = w.heap.size + 1 := ⟨_, rfl⟩
  rw [← hq] at hB0 hbl ⊢
  obtain ⟨p, hp⟩ : ∃ p, p = w.heap.size := ⟨_, rfl⟩
  rw [← hp] at hA0 ⊢
  have HPQ := Lib.hid (show w.heap.size ≤ p ∧ p < q ∧ q < w1.heap.size by omega)
  clear hq hp hbl
  have hra0 : MsRd w a va vk vm vo := hra00
  have hrb0 : MsRd w b ua uk um uo := hrb00
  have HRA : Hid (∀ w', Keep [p, q] w1 w' → MsRd w' a va vk vm vo) := Lib.hid (fun w' k => hra00.past (S := [p, q]) ((K1.mono (by simp)).trans k) (fun z hz => by have := HPQ.out; simp at hz; omega))
  have HRB : Hid (∀ w', Keep [p, q] w1 w' → MsRd w' b ua uk um uo) := Lib.hid (fun w' k => hrb00.past (S := [p, q]) ((K1.mono (by simp)).trans k) (fun z hz => by have := HPQ.out; simp at hz; omega))
  have hra0' := Lib.hid hra00
  have hrb0' := Lib.hid hrb00
  clear hra00 hrb00
  go_upto_region 4 with fail
  refine wp_region_inv (mcutsJ w1 p q a b va vk vm vo ua uk um uo) (by kernel_rfl) (by kernel_rfl) (by kernel_rfl) ?_ (Steps.cons 0 ?_ (Steps.cons 1 ?_ (Steps.cons 2 ?_ (Steps.cons 3 ?_ (Steps.cons 4 ?_ (Steps.cons 5 ?_ (Steps.nil 6))))))) 6 rfl ?_
  · intro x
    exact ⟨undef, undef, undef, undef, undef, undef, undef, undef, hA0.drew, hB0.drew, (Keep.refl _ _).drew, fun h => absurd h (by decide), fun h => absurd h (by decide), fun h => absurd h (by decide), fun h => absurd h (by decide), fun h => absurd h (by decide), fun h => absurd h (by decide), fun h => absurd h (by decide), fun h => absurd h (by decide), fun h => absurd h (by decide), fun h => absurd h (by decide)⟩
  · intro l x w' hJ hi hd
    obtain ⟨A1, A2, A3, A4, B1, B2, B3, B4, hA, hB, hW, d1, d3, d4, d5, h0, h1, h2, h3, h4, h5⟩ := hJ
    have l1 : l 1 = false := by cases hh : l 1 with | false => rfl | true => have := d1 hh; rw [hi] at this; cases this
    have l4 : l 4 = false := by cases hh : l 4 with | false => rfl | true => have := d1 (d4 hh); rw [hi] at this; cases this
    have hP : Blk w' p (msC a va vk vm vo) 29 := by have h := hA; rw [if_neg (by rw [l4]; decide)] at h; exact h
    refine Runs.of (b := ?bE0) ?eE0 ?_
    case eE0 => simp only [putV, Act.put, List.setIfInBounds_toArray, List.set_cons_zero, List.set_cons_succ]; rfl
    intro K' hK'
    refine step_load_rowg 29 _ rfl p rfl 29 (msC a va vk vm vo).toArray (0, 0) _ hP Try.underlying29 rfl Try.sizeMsg (by rfl) ?_
    exact hK'.go _ rfl ⟨A1, A2, A3, A4, B1, B2, B3, B4, hA, hB, hW, fun _ => rfl, d3, d4, d5, fun _ => rfl, h1, h2, h3, h4, h5⟩
  · intro l x w' hJ hi hd
    obtain ⟨A1, A2, A3, A4, B1, B2, B3, B4, hA, hB, hW, d1, d3, d4, d5, h0, h1, h2, h3, h4, h5⟩ := hJ
    have e0 := h0 (show l 0 = true by first | exact hd.1 rfl | exact hd.2.1 rfl | exact hd.2.2.1 rfl | exact hd.2.2.2.1 rfl | exact hd.2.2.2.2.1 rfl | exact hd.2.2.2.2.2.1 rfl)
    have L0 := Lib.hid (show l 0 = true by first | exact hd.1 rfl | exact hd.2.1 rfl | exact hd.2.2.1 rfl | exact hd.2.2.2.1 rfl | exact hd.2.2.2.2.1 rfl | exact hd.2.2.2.2.2.1 rfl)
    have l4 : l 4 = false := by cases hh : l 4 with | false => rfl | true => have := d4 hh; rw [hi] at this; cases this
    have hP : Blk w' p (msC a va vk vm vo) 29 := by have h := hA; rw [if_neg (by rw [l4]; decide)] at h; exact h
    refine Runs.of (b := ?bE1) ?eE1 ?_
    case eE1 => simp only [putV, Act.put, List.setIfInBounds_toArray, List.set_cons_zero, List.set_cons_succ, e0]; rfl
    intro K' hK'
    go_simp
    refine (msCut_any a va vk vm vo (HRA.out _ hW) hrawa).mono ?_
    rintro e w2 ⟨X1, X2, X3, X4, rfl, hr2, hsep, k2⟩
    have hoff := MsOff.of_sep (S := [p, q]) hra0'.out hsep (fun z hz => by have := HPQ.out; have := hW.size; simp at hz; omega)
    have hone := hr2.one
    go_simp
    exact hK'.go _ rfl ⟨X1, X2, X3, X4, B1, B2, B3, B4, (by show Blk w2 p (if l 4 = true then _ else _) 29; rw [if_neg (by rw [l4]; decide)]; exact hP.keep k2 (by simp)), hB.keep k2 (by simp), hW.trans (k2.mono (by simp)), fun _ => L0.out, d3, fun _ => rfl, d5, h0, fun _ => ⟨rfl, hr2, hoff, hone⟩, h2, fun h => ⟨(h3 h).1, ⟨(h3 h).2.1.keep k2, (h3 h).2.2⟩⟩, h4, h5⟩
  · intro l x w' hJ hi hd
    obtain ⟨A1, A2, A3, A4, B1, B2, B3, B4, hA, hB, hW, d1, d3, d4, d5, h0, h1, h2, h3, h4, h5⟩ := hJ
    have l3 : l 3 = false := by cases hh : l 3 with | false => rfl | true => have := d3 hh; rw [hi] at this; cases this
    have l5 : l 5 = false := by cases hh : l 5 with | false => rfl | true => have := d3 (d5 hh); rw [hi] at this; cases this
    have hP : Blk w' q (msC b ua uk um uo) 29 := by have h := hB; rw [if_neg (by rw [l5]; decide)] at h; exact h
    refine Runs.of (b := ?bE2) ?eE2 ?_
    case eE2 => simp only [putV, Act.put, List.setIfInBounds_toArray, List.set_cons_zero, List.set_cons_succ]; rfl
    intro K' hK'
    refine step_load_rowg 29 _ rfl q rfl 29 (msC b ua uk um uo).toArray (0, 0) _ hP Try.underlying29 rfl Try.sizeMsg (by rfl) ?_
    exact hK'.go _ rfl ⟨A1, A2, A3, A4, B1, B2, B3, B4, hA, hB, hW, d1, fun _ => rfl, d4, d5, h0, h1, fun _ => rfl, h3, h4, h5⟩
  · intro l x w' hJ hi hd
    obtain ⟨A1, A2, A3, A4, B1, B2, B3, B4, hA, hB, hW, d1, d3, d4, d5, h0, h1, h2, h3, h4, h5⟩ := hJ
    have e2 := h2 (show l 2 = true by first | exact hd.1 rfl | exact hd.2.1 rfl | exact hd.2.2.1 rfl | exact hd.2.2.2.1 rfl | exact hd.2.2.2.2.1 rfl | exact hd.2.2.2.2.2.1 rfl)
    have L2 := Lib.hid (show l 2 = true by first | exact hd.1 rfl | exact hd.2.1 rfl | exact hd.2.2.1 rfl | exact hd.2.2.2.1 rfl | exact hd.2.2.2.2.1 rfl | exact hd.2.2.2.2.2.1 rfl)
    have l5 : l 5 = false := by cases hh : l 5 with | false => rfl | true => have := d5 hh; rw [hi] at this; cases this
    have hP : Blk w' q (msC b ua uk um uo) 29 := by have h := hB; rw [if_neg (by rw [l5]; decide)] at h; exact h
    refine Runs.of (b := ?bE3) ?eE3 ?_
    case eE3 => simp only [putV, Act.put, List.setIfInBounds_toArray, List.set_cons_zero, List.set_cons_succ, e2]; rfl
    intro K' hK'
    go_simp
    refine (msCut_any b ua uk um uo (HRB.out _ hW) hrawb).mono ?_
    rintro e w2 ⟨X1, X2, X3, X4, rfl, hr2, hsep, k2⟩
    have hoff := MsOff.of_sep (S := [p, q]) hrb0'.out hsep (fun z hz => by have := HPQ.out; have := hW.size; simp at hz; omega)
    have hone := hr2.one
    go_simp
    exact hK'.go _ rfl ⟨A1, A2, A3, A4, X1, X2, X3, X4, hA.keep k2 (by simp), (by show Blk w2 q (if l 5 = true then _ else _) 29; rw [if_neg (by rw [l5]; decide)]; exact hP.keep k2 (by simp)), hW.trans (k2.mono (by simp)), d1, fun _ => L2.out, d4, fun _ => rfl, h0, fun h => ⟨(h1 h).1, ⟨(h1 h).2.1.keep k2, (h1 h).2.2⟩⟩, h2, fun _ => ⟨rfl, hr2, hoff, hone⟩, h4, h5⟩
  · intro l x w' hJ hi hd
    obtain ⟨A1, A2, A3, A4, B1, B2, B3, B4, hA, hB, hW, d1, d3, d4, d5, h0, h1, h2, h3, h4, h5⟩ := hJ
    have e1 := h1 (show l 1 = true by first | exact hd.1 rfl | exact hd.2.1 rfl | exact hd.2.2.1 rfl | exact hd.2.2.2.1 rfl | exact hd.2.2.2.2.1 rfl | exact hd.2.2.2.2.2.1 rfl)
    have L1 := Lib.hid (show l 1 = true by first | exact hd.1 rfl | exact hd.2.1 rfl | exact hd.2.2.1 rfl | exact hd.2.2.2.1 rfl | exact hd.2.2.2.2.1 rfl | exact hd.2.2.2.2.2.1 rfl)
    have hP : Blk w' p (msC a va vk vm vo) 29 := by have h := hA; rw [if_neg (by rw [hi]; decide)] at h; exact h
    refine Runs.of (b := ?bE4) ?eE4 ?_
    case eE4 => simp only [putV, Act.put, List.setIfInBounds_toArray, List.set_cons_zero, List.set_cons_succ, e1.1]; rfl
    intro K' hK'
    refine step_store_blk rfl 29 _ _ rfl p (msC a va vk vm vo) (msC (msCut a) A1 A2 A3 A4) 29 rfl rfl hP rfl Try.sizeMsg e1.2.2.2 ?_
    intro w2 hQ k2
    have hpq := HPQ.out
    exact hK'.go undef rfl ⟨A1, A2, A3, A4, B1, B2, B3, B4, hQ, hB.keep k2 (by simp; omega), hW.then k2 (fun z hz _ => by simp at hz; simp [hz]), d1, d3, fun _ => L1.out, d5, h0, fun h => ⟨(h1 h).1, (h1 h).2.1.off k2 (h1 h).2.2.1 (fun z hz => by simp at hz; simp [hz]), (h1 h).2.2⟩, h2, fun h => ⟨(h3 h).1, (h3 h).2.1.off k2 (h3 h).2.2.1 (fun z hz => by simp at hz; simp [hz]), (h3 h).2.2⟩, fun _ => trivial, h5⟩
  · intro l x w' hJ hi hd
    obtain ⟨A1, A2, A3, A4, B1, B2, B3, B4, hA, hB, hW, d1, d3, d4, d5, h0, h1, h2, h3, h4, h5⟩ := hJ
    have e3 := h3 (show l 3 = true by first | exact hd.1 rfl | exact hd.2.1 rfl | exact hd.2.2.1 rfl | exact hd.2.2.2.1 rfl | exact hd.2.2.2.2.1 rfl | exact hd.2.2.2.2.2.1 rfl)
    have L3 := Lib.hid (show l 3 = true by first | exact hd.1 rfl | exact hd.2.1 rfl | exact hd.2.2.1 rfl | exact hd.2.2.2.1 rfl | exact hd.2.2.2.2.1 rfl | exact hd.2.2.2.2.2.1 rfl)
    have hP : Blk w' q (msC b ua uk um uo) 29 := by have h := hB; rw [if_neg (by rw [hi]; decide)] at h; exact h
    refine Runs.of (b := ?bE5) ?eE5 ?_
    case eE5 => simp only [putV, Act.put, List.setIfInBounds_toArray, List.set_cons_zero, List.set_cons_succ, e3.1]; rfl
    intro K' hK'
    refine step_store_blk rfl 29 _ _ rfl q (msC b ua uk um uo) (msC (msCut b) B1 B2 B3 B4) 29 rfl rfl hP rfl Try.sizeMsg e3.2.2.2 ?_
    intro w2 hQ k2
    have hpq := HPQ.out
    exact hK'.go undef rfl ⟨A1, A2, A3, A4, B1, B2, B3, B4, hA.keep k2 (by simp; omega), hQ, hW.then k2 (fun z hz _ => by simp at hz; simp [hz]), d1, d3, d4, fun _ => L3.out, h0, fun h => ⟨(h1 h).1, (h1 h).2.1.off k2 (h1 h).2.2.1 (fun z hz => by simp at hz; simp [hz]), (h1 h).2.2⟩, h2, fun h => ⟨(h3 h).1, (h3 h).2.1.off k2 (h3 h).2.2.1 (fun z hz => by simp at hz; simp [hz]), (h3 h).2.2⟩, h4, fun _ => trivial⟩
  · intro l x w3 hJ hl
    obtain ⟨A1, A2, A3, A4, B1, B2, B3, B4, hA, hB, hW, d1, d3, d4, d5, h0, h1, h2, h3, h4, h5⟩ := hJ
    have e1 := h1 (hl 1 (by decide))
    have e3 := h3 (hl 3 (by decide))
    rw [if_pos (hl 4 (by decide))] at hA
    rw [if_pos (hl 5 (by decide))] at hB
    obtain ⟨_, hra, _, _⟩ := e1
    obtain ⟨_, hrb, _, _⟩ := e3
    simp only [putV, Act.put, List.setIfInBounds_toArray, List.set_cons_zero, List.set_cons_succ]
    have K3 : Keep [] w w3 := K1.then hW (fun z hz hlt => by have := HPQ.out; simp at hz; omega)
    have hza := msCut_sz a hrawa
    have hzb := msCut_sz b hrawb
    clear h0 h1 h2 h3 h4 h5 hl d1 d3 d4 d5 hW hA0 hB0 K1
    generalize msCut a = a1 at *
    generalize msCut b = b1 at *
    generalize x 0 = y0
    generalize x 1 = y1
    generalize x 2 = y2
    generalize x 3 = y3
    obtain ⟨r, hrr⟩ : ∃ r, r = eqM a1 b1 := ⟨_, rfl⟩
    have HR := Lib.hid hrr
    have HRS : Hid (r = eqM b1 a1) := Lib.hid (by rw [hrr, Bool.eq_iff_iff, eqM_iff, eqM_iff]; exact eq_comm)
    clear hrr
    have hA0 := hA
    have hB0 := hB
    have hra0 := hra
    have hrb0 := hrb
    have K0 := K3
    clear hA hB hra hrb K3 HRA HRB hra0' hrb0'
    go_upto_region 5 with fail
    refine wp_region_inv (meq5J w p q a1 b1 A1 A2 A3 A4 B1 B2 B3 B4 r) (by kernel_rfl) (by kernel_rfl) (by kernel_rfl) ?_ (Steps.cons 0 ?_ (Steps.cons 1 ?_ (Steps.cons 2 ?_ (Steps.cons 3 ?_ (Steps.cons 4 ?_ (Steps.cons 5 ?_ (Steps.cons 6 ?_ (Steps.cons 7 ?_ (Steps.cons 8 ?_ (Steps.cons 9 ?_ (Steps.cons 10 ?_ (Steps.cons 11 ?_ (Steps.cons 12 ?_ (Steps.cons 13 ?_ (Steps.cons 14 ?_ (Steps.cons 15 ?_ (Steps.cons 16 ?_ (Steps.cons 17 ?_ (Steps.cons 18 ?_ (Steps.cons 19 ?_ (Steps.cons 20 ?_ (Steps.cons 21 ?_ (Steps.nil 22))))))))))))))))))))))) 22 rfl ?_
    · intro x
      exact ⟨hA0.drew, hB0.drew, hra0.keep (Keep.refl [] _).drew, hrb0.keep (Keep.refl [] _).drew, K0.drew, fun h => absurd h (by decide), fun h => absurd h (by decide), fun h => absurd h (by decide), fun h => absurd h (by decide), fun h => absurd h (by decide), fun h => absurd h (by decide), fun h => absurd h (by decide), fun h => absurd h (by decide), fun h => absurd h (by decide), fun h => absurd h (by decide), fun h => absurd h (by decide), fun h => absurd h (by decide), fun h => absurd h (by decide), fun h => absurd h (by decide), fun h => absurd h (by decide), fun h => absurd h (by decide), fun h => absurd h (by decide), fun h => absurd h (by decide), fun h => absurd h (by decide), fun h => absurd h (by decide), fun h => absurd h (by decide), fun h => absurd h (by decide)⟩
    · intro l x w' hJ hi hd
      obtain ⟨hA, hB, hra, hrb, hK, h0, h1, h2, h3, h4, h5, h6, h7, h8, h9, h10, h11, h12, h13, h14, h15, h16, h17, h18, h19, h20, h21⟩ := hJ
      refine Runs.of (b := ?bF0) ?eF0 ?_
      case eF0 => simp only [putV, Act.put, List.setIfInBounds_toArray, List.set_cons_zero, List.set_cons_succ]; rfl
      intro K' hK'
      refine step_load_rowg 29 _ rfl p rfl 29 (msC a1 A1 A2 A3 A4).toArray (0, 0) _ hA Try.underlying29 rfl Try.sizeMsg (by rfl) ?_
      exact hK'.go _ rfl ⟨hA, hB, hra, hrb, hK, fun _ => rfl, h1, h2, h3, h4, h5, h6, h7, h8, h9, h10, h11, h12, h13, h14, h15, h16, h17, h18, h19, h20, h21⟩
    · intro l x w' hJ hi hd
      obtain ⟨hA, hB, hra, hrb, hK, h0, h1, h2, h3, h4, h5, h6, h7, h8, h9, h10, h11, h12, h13, h14, h15, h16, h17, h18, h19, h20, h21⟩ := hJ
      refine Runs.of (b := ?bF1) ?eF1 ?_
      case eF1 => simp only [putV, Act.put, List.setIfInBounds_toArray, List.set_cons_zero, List.set_cons_succ]; rfl
      intro K' hK'
      refine step_load_rowg 29 _ rfl q rfl 29 (msC b1 B1 B2 B3 B4).toArray (0, 0) _ hB Try.underlying29 rfl Try.sizeMsg (by rfl) ?_
      exact hK'.go _ rfl ⟨hA, hB, hra, hrb, hK, h0, fun _ => rfl, h2, h3, h4, h5, h6, h7, h8, h9, h10, h11, h12, h13, h14, h15, h16, h17, h18, h19, h20, h21⟩
    · intro l x w' hJ hi hd
      obtain ⟨hA, hB, hra, hrb, hK, h0, h1, h2, h3, h4, h5, h6, h7, h8, h9, h10, h11, h12, h13, h14, h15, h16, h17, h18, h19, h20, h21⟩ := hJ
      have e0 := h0 (show l 0 = true by first | exact hd.1 rfl | exact hd.2.1 rfl | exact hd.2.2.1 rfl | exact hd.2.2.2.1 rfl | exact hd.2.2.2.2.1 rfl | exact hd.2.2.2.2.2.1 rfl)
      have e1 := h1 (show l 1 = true by first | exact hd.1 rfl | exact hd.2.1 rfl | exact hd.2.2.1 rfl | exact hd.2.2.2.1 rfl | exact hd.2.2.2.2.1 rfl | exact hd.2.2.2.2.2.1 rfl)
      refine Runs.of (b := ?bF2) ?eF2 ?_
      case eF2 => simp only [putV, Act.put, List.setIfInBounds_toArray, List.set_cons_zero, List.set_cons_succ, e0, e1]; rfl
      intro K' hK'
      go_simp
      refine (msEq_any a1 b1 _ _ _ _ _ _ _ _ hra hrb hza hzb r HR.out).mono ?_
      rintro e w2 ⟨rfl, k2⟩
      go_simp
      exact hK'.go _ rfl ⟨hA.keep k2 (by simp), hB.keep k2 (by simp), hra.keep k2, hrb.keep k2, hK.trans k2, h0, h1, fun _ => rfl, h3, h4, h5, h6, h7, h8, h9, h10, h11, h12, h13, h14, h15, h16, h17, h18, h19, h20, h21⟩
    · intro l x w' hJ hi hd
      obtain ⟨hA, hB, hra, hrb, hK, h0, h1, h2, h3, h4, h5, h6, h7, h8, h9, h10, h11, h12, h13, h14, h15, h16, h17, h18, h19, h20, h21⟩ := hJ
      refine Runs.of (b := ?bF3) ?eF3 ?_
      case eF3 => simp only [putV, Act.put, List.setIfInBounds_toArray, List.set_cons_zero, List.set_cons_succ]; rfl
      intro K' hK'
      refine step_load_rowg 29 _ rfl p rfl 29 (msC a1 A1 A2 A3 A4).toArray (0, 0) _ hA Try.underlying29 rfl Try.sizeMsg (by rfl) ?_
      exact hK'.go _ rfl ⟨hA, hB, hra, hrb, hK, h0, h1, h2, fun _ => rfl, h4, h5, h6, h7, h8, h9, h10, h11, h12, h13, h14, h15, h16, h17, h18, h19, h20, h21⟩
    · intro l x w' hJ hi hd
      obtain ⟨hA, hB, hra, hrb, hK, h0, h1, h2, h3, h4, h5, h6, h7, h8, h9, h10, h11, h12, h13, h14, h15, h16, h17, h18, h19, h20, h21⟩ := hJ
      refine Runs.of (b := ?bF4) ?eF4 ?_
      case eF4 => simp only [putV, Act.put, List.setIfInBounds_toArray, List.set_cons_zero, List.set_cons_succ]; rfl
      intro K' hK'
      refine step_load_rowg 29 _ rfl q rfl 29 (msC b1 B1 B2 B3 B4).toArray (0, 0) _ hB Try.underlying29 rfl Try.sizeMsg (by rfl) ?_
      exact hK'.go _ rfl ⟨hA, hB, hra, hrb, hK, h0, h1, h2, h3, fun _ => rfl, h5, h6, h7, h8, h9, h10, h11, h12, h13, h14, h15, h16, h17, h18, h19, h20, h21⟩
    · intro l x w' hJ hi hd
      obtain ⟨hA, hB, hra, hrb, hK, h0, h1, h2, h3, h4, h5, h6, h7, h8, h9, h10, h11, h12, h13, h14, h15, h16, h17, h18, h19, h20, h21⟩ := hJ
      have e3 := h3 (show l 3 = true by first | exact hd.1 rfl | exact hd.2.1 rfl | exact hd.2.2.1 rfl | exact hd.2.2.2.1 rfl | exact hd.2.2.2.2.1 rfl | exact hd.2.2.2.2.2.1 rfl)
      have e4 := h4 (show l 4 = true by first | exact hd.1 rfl | exact hd.2.1 rfl | exact hd.2.2.1 rfl | exact hd.2.2.2.1 rfl | exact hd.2.2.2.2.1 rfl | exact hd.2.2.2.2.2.1 rfl)
      refine Runs.of (b := ?bF5) ?eF5 ?_
      case eF5 => simp only [putV, Act.put, List.setIfInBounds_toArray, List.set_cons_zero, List.set_cons_succ, e3, e4]; rfl
      intro K' hK'
      go_simp
      refine (EqMsg_any a1 b1 _ _ _ _ _ _ _ _ hra hrb hza hzb r HR.out).mono ?_
      rintro e w2 ⟨rfl, k2⟩
      go_simp
      exact hK'.go _ rfl ⟨hA.keep k2 (by simp), hB.keep k2 (by simp), hra.keep k2, hrb.keep k2, hK.trans k2, h0, h1, h2, h3, h4, fun _ => rfl, h6, h7, h8, h9, h10, h11, h12, h13, h14, h15, h16, h17, h18, h19, h20, h21⟩
    · intro l x w' hJ hi hd
      obtain ⟨hA, hB, hra, hrb, hK, h0, h1, h2, h3, h4, h5, h6, h7, h8, h9, h10, h11, h12, h13, h14, h15, h16, h17, h18, h19, h20, h21⟩ := hJ
      have e2 := h2 (show l 2 = true by first | exact hd.1 rfl | exact hd.2.1 rfl | exact hd.2.2.1 rfl | exact hd.2.2.2.1 rfl | exact hd.2.2.2.2.1 rfl | exact hd.2.2.2.2.2.1 rfl)
      have e5 := h5 (show l 5 = true by first | exact hd.1 rfl | exact hd.2.1 rfl | exact hd.2.2.1 rfl | exact hd.2.2.2.1 rfl | exact hd.2.2.2.2.1 rfl | exact hd.2.2.2.2.2.1 rfl)
      refine Runs.of (b := ?bF6) ?eF6 ?_
      case eF6 => simp only [putV, Act.put, List.setIfInBounds_toArray, List.set_cons_zero, List.set_cons_succ, e2, e5]; rfl
      intro K' hK'
      go_simp
      exact hK'.go _ rfl ⟨hA, hB, hra, hrb, hK, h0, h1, h2, h3, h4, h5, fun _ => rfl, h7, h8, h9, h10, h11, h12, h13, h14, h15, h16, h17, h18, h19, h20, h21⟩
    · intro l x w' hJ hi hd
      obtain ⟨hA, hB, hra, hrb, hK, h0, h1, h2, h3, h4, h5, h6, h7, h8, h9, h10, h11, h12, h13, h14, h15, h16, h17, h18, h19, h20, h21⟩ := hJ
      have e6 := h6 (show l 6 = true by first | exact hd.1 rfl | exact hd.2.1 rfl | exact hd.2.2.1 rfl | exact hd.2.2.2.1 rfl | exact hd.2.2.2.2.1 rfl | exact hd.2.2.2.2.2.1 rfl)
      refine Runs.of (b := ?bF7) ?eF7 ?_
      case eF7 => simp only [putV, Act.put, List.setIfInBounds_toArray, List.set_cons_zero, List.set_cons_succ, e6]; rfl
      intro K' hK'
      go_simp
      exact hK'.go _ rfl ⟨hA, hB, hra, hrb, hK, h0, h1, h2, h3, h4, h5, h6, fun _ => rfl, h8, h9, h10, h11, h12, h13, h14, h15, h16, h17, h18, h19, h20, h21⟩
    · intro l x w' hJ hi hd
      obtain ⟨hA, hB, hra, hrb, hK, h0, h1, h2, h3, h4, h5, h6, h7, h8, h9, h10, h11, h12, h13, h14, h15, h16, h17, h18, h19, h20, h21⟩ := hJ
      have e7 := h7 (show l 7 = true by first | exact hd.1 rfl | exact hd.2.1 rfl | exact hd.2.2.1 rfl | exact hd.2.2.2.1 rfl | exact hd.2.2.2.2.1 rfl | exact hd.2.2.2.2.2.1 rfl)
      refine Runs.of (b := ?bF8) ?eF8 ?_
      case eF8 => simp only [putV, Act.put, List.setIfInBounds_toArray, List.set_cons_zero, List.set_cons_succ, e7]; rfl
      intro K' hK'
      refine step_load_rowg 29 _ rfl p rfl 29 (msC a1 A1 A2 A3 A4).toArray (0, 0) _ hA Try.underlying29 rfl Try.sizeMsg (by rfl) ?_
      exact hK'.go _ rfl ⟨hA, hB, hra, hrb, hK, h0, h1, h2, h3, h4, h5, h6, h7, fun _ => rfl, h9, h10, h11, h12, h13, h14, h15, h16, h17, h18, h19, h20, h21⟩
    · intro l x w' hJ hi hd
      obtain ⟨hA, hB, hra, hrb, hK, h0, h1, h2, h3, h4, h5, h6, h7, h8, h9, h10, h11, h12, h13, h14, h15, h16, h17, h18, h19, h20, h21⟩ := hJ
      have e7 := h7 (show l 7 = true by first | exact hd.1 rfl | exact hd.2.1 rfl | exact hd.2.2.1 rfl | exact hd.2.2.2.1 rfl | exact hd.2.2.2.2.1 rfl | exact hd.2.2.2.2.2.1 rfl)
      refine Runs.of (b := ?bF9) ?eF9 ?_
      case eF9 => simp only [putV, Act.put, List.setIfInBounds_toArray, List.set_cons_zero, List.set_cons_succ, e7]; rfl
      intro K' hK'
      refine step_load_rowg 29 _ rfl p rfl 29 (msC a1 A1 A2 A3 A4).toArray (0, 0) _ hA Try.underlying29 rfl Try.sizeMsg (by rfl) ?_
      exact hK'.go _ rfl ⟨hA, hB, hra, hrb, hK, h0, h1, h2, h3, h4, h5, h6, h7, h8, fun _ => rfl, h10, h11, h12, h13, h14, h15, h16, h17, h18, h19, h20, h21⟩
    · intro l x w' hJ hi hd
      obtain ⟨hA, hB, hra, hrb, hK, h0, h1, h2, h3, h4, h5, h6, h7, h8, h9, h10, h11, h12, h13, h14, h15, h16, h17, h18, h19, h20, h21⟩ := hJ
      have e7 := h7 (show l 7 = true by first | exact hd.1 rfl | exact hd.2.1 rfl | exact hd.2.2.1 rfl | exact hd.2.2.2.1 rfl | exact hd.2.2.2.2.1 rfl | exact hd.2.2.2.2.2.1 rfl)
      have e8 := h8 (show l 8 = true by first | exact hd.1 rfl | exact hd.2.1 rfl | exact hd.2.2.1 rfl | exact hd.2.2.2.1 rfl | exact hd.2.2.2.2.1 rfl | exact hd.2.2.2.2.2.1 rfl)
      have e9 := h9 (show l 9 = true by first | exact hd.1 rfl | exact hd.2.1 rfl | exact hd.2.2.1 rfl | exact hd.2.2.2.1 rfl | exact hd.2.2.2.2.1 rfl | exact hd.2.2.2.2.2.1 rfl)
      refine Runs.of (b := ?bF10) ?eF10 ?_
      case eF10 => simp only [putV, Act.put, List.setIfInBounds_toArray, List.set_cons_zero, List.set_cons_succ, e7, e8, e9]; rfl
      intro K' hK'
      go_simp
      refine (msEq_any a1 a1 _ _ _ _ _ _ _ _ hra hra hza hza true (eqM_self a1).symm).mono ?_
      rintro e w2 ⟨rfl, k2⟩
      go_simp
      exact hK'.go _ rfl ⟨hA.keep k2 (by simp), hB.keep k2 (by simp), hra.keep k2, hrb.keep k2, hK.trans k2, h0, h1, h2, h3, h4, h5, h6, h7, h8, h9, fun _ => rfl, h11, h12, h13, h14, h15, h16, h17, h18, h19, h20, h21⟩
    · intro l x w' hJ hi hd
      obtain ⟨hA, hB, hra, hrb, hK, h0, h1, h2, h3, h4, h5, h6, h7, h8, h9, h10, h11, h12, h13, h14, h15, h16, h17, h18, h19, h20, h21⟩ := hJ
      have e7 := h7 (show l 7 = true by first | exact hd.1 rfl | exact hd.2.1 rfl | exact hd.2.2.1 rfl | exact hd.2.2.2.1 rfl | exact hd.2.2.2.2.1 rfl | exact hd.2.2.2.2.2.1 rfl)
      have e10 := h10 (show l 10 = true by first | exact hd.1 rfl | exact hd.2.1 rfl | exact hd.2.2.1 rfl | exact hd.2.2.2.1 rfl | exact hd.2.2.2.2.1 rfl | exact hd.2.2.2.2.2.1 rfl)
      refine Runs.of (b := ?bF11) ?eF11 ?_
      case eF11 => simp only [putV, Act.put, List.setIfInBounds_toArray, List.set_cons_zero, List.set_cons_succ, e7, e10]; rfl
      intro K' hK'
      go_simp
      exact hK'.go _ rfl ⟨hA, hB, hra, hrb, hK, h0, h1, h2, h3, h4, h5, h6, h7, h8, h9, h10, fun _ => rfl, h12, h13, h14, h15, h16, h17, h18, h19, h20, h21⟩
    · intro l x w' hJ hi hd
      obtain ⟨hA, hB, hra, hrb, hK, h0, h1, h2, h3, h4, h5, h6, h7, h8, h9, h10, h11, h12, h13, h14, h15, h16, h17, h18, h19, h20, h21⟩ := hJ
      have e7 := h7 (show l 7 = true by first | exact hd.1 rfl | exact hd.2.1 rfl | exact hd.2.2.1 rfl | exact hd.2.2.2.1 rfl | exact hd.2.2.2.2.1 rfl | exact hd.2.2.2.2.2.1 rfl)
      have e11 := h11 (show l 11 = true by first | exact hd.1 rfl | exact hd.2.1 rfl | exact hd.2.2.1 rfl | exact hd.2.2.2.1 rfl | exact hd.2.2.2.2.1 rfl | exact hd.2.2.2.2.2.1 rfl)
      refine Runs.of (b := ?bF12) ?eF12 ?_
      case eF12 => simp only [putV, Act.put, List.setIfInBounds_toArray, List.set_cons_zero, List.set_cons_succ, e7, e11]; rfl
      intro K' hK'
      go_simp
      exact hK'.go _ rfl ⟨hA, hB, hra, hrb, hK, h0, h1, h2, h3, h4, h5, h6, h7, h8, h9, h10, h11, fun _ => rfl, h13, h14, h15, h16, h17, h18, h19, h20, h21⟩
    · intro l x w' hJ hi hd
      obtain ⟨hA, hB, hra, hrb, hK, h0, h1, h2, h3, h4, h5, h6, h7, h8, h9, h10, h11, h12, h13, h14, h15, h16, h17, h18, h19, h20, h21⟩ := hJ
      have e12 := h12 (show l 12 = true by first | exact hd.1 rfl | exact hd.2.1 rfl | exact hd.2.2.1 rfl | exact hd.2.2.2.1 rfl | exact hd.2.2.2.2.1 rfl | exact hd.2.2.2.2.2.1 rfl)
      refine Runs.of (b := ?bF13) ?eF13 ?_
      case eF13 => simp only [putV, Act.put, List.setIfInBounds_toArray, List.set_cons_zero, List.set_cons_succ, e12]; rfl
      intro K' hK'
      go_simp
      exact hK'.go _ rfl ⟨hA, hB, hra, hrb, hK, h0, h1, h2, h3, h4, h5, h6, h7, h8, h9, h10, h11, h12, fun _ => rfl, h14, h15, h16, h17, h18, h19, h20, h21⟩
    · intro l x w' hJ hi hd
      obtain ⟨hA, hB, hra, hrb, hK, h0, h1, h2, h3, h4, h5, h6, h7, h8, h9, h10, h11, h12, h13, h14, h15, h16, h17, h18, h19, h20, h21⟩ := hJ
      have e13 := h13 (show l 13 = true by first | exact hd.1 rfl | exact hd.2.1 rfl | exact hd.2.2.1 rfl | exact hd.2.2.2.1 rfl | exact hd.2.2.2.2.1 rfl | exact hd.2.2.2.2.2.1 rfl)
      refine Runs.of (b := ?bF14) ?eF14 ?_
      case eF14 => simp only [putV, Act.put, List.setIfInBounds_toArray, List.set_cons_zero, List.set_cons_succ, e13]; rfl
      intro K' hK'
      refine step_load_rowg 29 _ rfl p rfl 29 (msC a1 A1 A2 A3 A4).toArray (0, 0) _ hA Try.underlying29 rfl Try.sizeMsg (by rfl) ?_
      exact hK'.go _ rfl ⟨hA, hB, hra, hrb, hK, h0, h1, h2, h3, h4, h5, h6, h7, h8, h9, h10, h11, h12, h13, fun _ => rfl, h15, h16, h17, h18, h19, h20, h21⟩
    · intro l x w' hJ hi hd
      obtain ⟨hA, hB, hra, hrb, hK, h0, h1, h2, h3, h4, h5, h6, h7, h8, h9, h10, h11, h12, h13, h14, h15, h16, h17, h18, h19, h20, h21⟩ := hJ
      have e13 := h13 (show l 13 = true by first | exact hd.1 rfl | exact hd.2.1 rfl | exact hd.2.2.1 rfl | exact hd.2.2.2.1 rfl | exact hd.2.2.2.2.1 rfl | exact hd.2.2.2.2.2.1 rfl)
      refine Runs.of (b := ?bF15) ?eF15 ?_
      case eF15 => simp only [putV, Act.put, List.setIfInBounds_toArray, List.set_cons_zero, List.set_cons_succ, e13]; rfl
      intro K' hK'
      refine step_load_rowg 29 _ rfl q rfl 29 (msC b1 B1 B2 B3 B4).toArray (0, 0) _ hB Try.underlying29 rfl Try.sizeMsg (by rfl) ?_
      exact hK'.go _ rfl ⟨hA, hB, hra, hrb, hK, h0, h1, h2, h3, h4, h5, h6, h7, h8, h9, h10, h11, h12, h13, h14, fun _ => rfl, h16, h17, h18, h19, h20, h21⟩
    · intro l x w' hJ hi hd
      obtain ⟨hA, hB, hra, hrb, hK, h0, h1, h2, h3, h4, h5, h6, h7, h8, h9, h10, h11, h12, h13, h14, h15, h16, h17, h18, h19, h20, h21⟩ := hJ
      have e13 := h13 (show l 13 = true by first | exact hd.1 rfl | exact hd.2.1 rfl | exact hd.2.2.1 rfl | exact hd.2.2.2.1 rfl | exact hd.2.2.2.2.1 rfl | exact hd.2.2.2.2.2.1 rfl)
      have e14 := h14 (show l 14 = true by first | exact hd.1 rfl | exact hd.2.1 rfl | exact hd.2.2.1 rfl | exact hd.2.2.2.1 rfl | exact hd.2.2.2.2.1 rfl | exact hd.2.2.2.2.2.1 rfl)
      have e15 := h15 (show l 15 = true by first | exact hd.1 rfl | exact hd.2.1 rfl | exact hd.2.2.1 rfl | exact hd.2.2.2.1 rfl | exact hd.2.2.2.2.1 rfl | exact hd.2.2.2.2.2.1 rfl)
      refine Runs.of (b := ?bF16) ?eF16 ?_
      case eF16 => simp only [putV, Act.put, List.setIfInBounds_toArray, List.set_cons_zero, List.set_cons_succ, e13, e14, e15]; rfl
      intro K' hK'
      go_simp
      refine (msEq_any a1 b1 _ _ _ _ _ _ _ _ hra hrb hza hzb r HR.out).mono ?_
      rintro e w2 ⟨rfl, k2⟩
      go_simp
      exact hK'.go _ rfl ⟨hA.keep k2 (by simp), hB.keep k2 (by simp), hra.keep k2, hrb.keep k2, hK.trans k2, h0, h1, h2, h3, h4, h5, h6, h7, h8, h9, h10, h11, h12, h13, h14, h15, fun _ => rfl, h17, h18, h19, h20, h21⟩
    · intro l x w' hJ hi hd
      obtain ⟨hA, hB, hra, hrb, hK, h0, h1, h2, h3, h4, h5, h6, h7, h8, h9, h10, h11, h12, h13, h14, h15, h16, h17, h18, h19, h20, h21⟩ := hJ
      have e13 := h13 (show l 13 = true by first | exact hd.1 rfl | exact hd.2.1 rfl | exact hd.2.2.1 rfl | exact hd.2.2.2.1 rfl | exact hd.2.2.2.2.1 rfl | exact hd.2.2.2.2.2.1 rfl)
      refine Runs.of (b := ?bF17) ?eF17 ?_
      case eF17 => simp only [putV, Act.put, List.setIfInBounds_toArray, List.set_cons_zero, List.set_cons_succ, e13]; rfl
      intro K' hK'
      refine step_load_rowg 29 _ rfl q rfl 29 (msC b1 B1 B2 B3 B4).toArray (0, 0) _ hB Try.underlying29 rfl Try.sizeMsg (by rfl) ?_
      exact hK'.go _ rfl ⟨hA, hB, hra, hrb, hK, h0, h1, h2, h3, h4, h5, h6, h7, h8, h9, h10, h11, h12, h13, h14, h15, h16, fun _ => rfl, h18, h19, h20, h21⟩
    · intro l x w' hJ hi hd
      obtain ⟨hA, hB, hra, hrb, hK, h0, h1, h2, h3, h4, h5, h6, h7, h8, h9, h10, h11, h12, h13, h14, h15, h16, h17, h18, h19, h20, h21⟩ := hJ
      have e13 := h13 (show l 13 = true by first | exact hd.1 rfl | exact hd.2.1 rfl | exact hd.2.2.1 rfl | exact hd.2.2.2.1 rfl | exact hd.2.2.2.2.1 rfl | exact hd.2.2.2.2.2.1 rfl)
      refine Runs.of (b := ?bF18) ?eF18 ?_
      case eF18 => simp only [putV, Act.put, List.setIfInBounds_toArray, List.set_cons_zero, List.set_cons_succ, e13]; rfl
      intro K' hK'
      refine step_load_rowg 29 _ rfl p rfl 29 (msC a1 A1 A2 A3 A4).toArray (0, 0) _ hA Try.underlying29 rfl Try.sizeMsg (by rfl) ?_
      exact hK'.go _ rfl ⟨hA, hB, hra, hrb, hK, h0, h1, h2, h3, h4, h5, h6, h7, h8, h9, h10, h11, h12, h13, h14, h15, h16, h17, fun _ => rfl, h19, h20, h21⟩
    · intro l x w' hJ hi hd
      obtain ⟨hA, hB, hra, hrb, hK, h0, h1, h2, h3, h4, h5, h6, h7, h8, h9, h10, h11, h12, h13, h14, h15, h16, h17, h18, h19, h20, h21⟩ := hJ
      have e13 := h13 (show l 13 = true by first | exact hd.1 rfl | exact hd.2.1 rfl | exact hd.2.2.1 rfl | exact hd.2.2.2.1 rfl | exact hd.2.2.2.2.1 rfl | exact hd.2.2.2.2.2.1 rfl)
      have e17 := h17 (show l 17 = true by first | exact hd.1 rfl | exact hd.2.1 rfl | exact hd.2.2.1 rfl | exact hd.2.2.2.1 rfl | exact hd.2.2.2.2.1 rfl | exact hd.2.2.2.2.2.1 rfl)
      have e18 := h18 (show l 18 = true by first | exact hd.1 rfl | exact hd.2.1 rfl | exact hd.2.2.1 rfl | exact hd.2.2.2.1 rfl | exact hd.2.2.2.2.1 rfl | exact hd.2.2.2.2.2.1 rfl)
      refine Runs.of (b := ?bF19) ?eF19 ?_
      case eF19 => simp only [putV, Act.put, List.setIfInBounds_toArray, List.set_cons_zero, List.set_cons_succ, e13, e17, e18]; rfl
      intro K' hK'
      go_simp
      refine (msEq_any b1 a1 _ _ _ _ _ _ _ _ hrb hra hzb hza r HRS.out).mono ?_
      rintro e w2 ⟨rfl, k2⟩
      go_simp
      exact hK'.go _ rfl ⟨hA.keep k2 (by simp), hB.keep k2 (by simp), hra.keep k2, hrb.keep k2, hK.trans k2, h0, h1, h2, h3, h4, h5, h6, h7, h8, h9, h10, h11, h12, h13, h14, h15, h16, h17, h18, fun _ => rfl, h20, h21⟩
    · intro l x w' hJ hi hd
      obtain ⟨hA, hB, hra, hrb, hK, h0, h1, h2, h3, h4, h5, h6, h7, h8, h9, h10, h11, h12, h13, h14, h15, h16, h17, h18, h19, h20, h21⟩ := hJ
      have e13 := h13 (show l 13 = true by first | exact hd.1 rfl | exact hd.2.1 rfl | exact hd.2.2.1 rfl | exact hd.2.2.2.1 rfl | exact hd.2.2.2.2.1 rfl | exact hd.2.2.2.2.2.1 rfl)
      have e16 := h16 (show l 16 = true by first | exact hd.1 rfl | exact hd.2.1 rfl | exact hd.2.2.1 rfl | exact hd.2.2.2.1 rfl | exact hd.2.2.2.2.1 rfl | exact hd.2.2.2.2.2.1 rfl)
      have e19 := h19 (show l 19 = true by first | exact hd.1 rfl | exact hd.2.1 rfl | exact hd.2.2.1 rfl | exact hd.2.2.2.1 rfl | exact hd.2.2.2.2.1 rfl | exact hd.2.2.2.2.2.1 rfl)
      refine Runs.of (b := ?bF20) ?eF20 ?_
      case eF20 => simp only [putV, Act.put, List.setIfInBounds_toArray, List.set_cons_zero, List.set_cons_succ, e13, e16, e19]; rfl
      intro K' hK'
      go_simp
      exact hK'.go _ rfl ⟨hA, hB, hra, hrb, hK, h0, h1, h2, h3, h4, h5, h6, h7, h8, h9, h10, h11, h12, h13, h14, h15, h16, h17, h18, h19, fun _ => rfl, h21⟩
    · intro l x w' hJ hi hd
      obtain ⟨hA, hB, hra, hrb, hK, h0, h1, h2, h3, h4, h5, h6, h7, h8, h9, h10, h11, h12, h13, h14, h15, h16, h17, h18, h19, h20, h21⟩ := hJ
      have e13 := h13 (show l 13 = true by first | exact hd.1 rfl | exact hd.2.1 rfl | exact hd.2.2.1 rfl | exact hd.2.2.2.1 rfl | exact hd.2.2.2.2.1 rfl | exact hd.2.2.2.2.2.1 rfl)
      have e20 := h20 (show l 20 = true by first | exact hd.1 rfl | exact hd.2.1 rfl | exact hd.2.2.1 rfl | exact hd.2.2.2.1 rfl | exact hd.2.2.2.2.1 rfl | exact hd.2.2.2.2.2.1 rfl)
      refine Runs.of (b := ?bF21) ?eF21 ?_
      case eF21 => simp only [putV, Act.put, List.setIfInBounds_toArray, List.set_cons_zero, List.set_cons_succ, e13, e20]; rfl
      intro K' hK'
      go_simp
      exact hK'.go _ rfl ⟨hA, hB, hra, hrb, hK, h0, h1, h2, h3, h4, h5, h6, h7, h8, h9, h10, h11, h12, h13, h14, h15, h16, h17, h18, h19, h20, fun _ => rfl⟩
    · intro l x w3 hJ hl
      obtain ⟨hA, hB, hra, hrb, hK, h0, h1, h2, h3, h4, h5, h6, h7, h8, h9, h10, h11, h12, h13, h14, h15, h16, h17, h18, h19, h20, h21⟩ := hJ
      have e21 := h21 (hl 21 (by decide))
      simp only [putV, Act.put, List.setIfInBounds_toArray, List.set_cons_zero, List.set_cons_succ, e21]
      clear h0 h1 h2 h3 h4 h5 h6 h7 h8 h9 h10 h11 h12 h13 h14 h15 h16 h17 h18 h19 h20 h21 e21 hl hA0 hB0 hra0 hrb0 K0
      generalize x 0 = z0; generalize x 1 = z1; generalize x 2 = z2; generalize x 3 = z3; generalize x 4 = z4; generalize x 5 = z5; generalize x 6 = z6; generalize x 7 = z7; generalize x 8 = z8; generalize x 9 = z9; generalize x 10 = z10
      generalize x 11 = z11; generalize x 12 = z12; generalize x 13 = z13; generalize x 14 = z14; generalize x 15 = z15; generalize x 16 = z16; generalize x 17 = z17; generalize x 18 = z18; generalize x 19 = z19; generalize x 20 = z20
      obtain ⟨ra, hra1⟩ : ∃ r, r = mayM a1 := ⟨_, rfl⟩
      obtain ⟨rb, hrb1⟩ : ∃ r, r = mayM b1 := ⟨_, rfl⟩
      have HMA := Lib.hid hra1
      have HMB := Lib.hid hrb1
      clear hra1 hrb1
      go_wp2_with (refine wpList_load_rowg 29 _ rfl p rfl 29 (msC a1 A1 A2 A3 A4).toArray (0, 0) _ hA Try.underlying29 rfl Try.sizeMsg (by rfl) ?_)
      refine (refMsg_any a1 _ _ _ _ hra hza ra HMA.out).mono ?_
      rintro e w4 ⟨rfl, k4⟩
      replace hA := hA.keep k4 (by simp)
      replace hB := hB.keep k4 (by simp)
      replace hra := hra.keep k4
      replace hrb := hrb.keep k4
      replace hK := hK.trans k4
      clear k4
      cases ra with
      | false =>
        go_wp2_with fail
        go_ret
        exact ⟨rfl, hK.below⟩
      | true =>
      go_wp2_with (refine wpList_load_rowg 29 _ rfl q rfl 29 (msC b1 B1 B2 B3 B4).toArray (0, 0) _ hB Try.underlying29 rfl Try.sizeMsg (by rfl) ?_)
      refine (refMsg_any b1 _ _ _ _ hrb hzb rb HMB.out).mono ?_
      rintro e w5 ⟨rfl, k5⟩
      have hA0 := hA.keep k5 (by simp)
      have hB0 := hB.keep k5 (by simp)
      have hra0 := hra.keep k5
      have hrb0 := hrb.keep k5
      have K0 := hK.trans k5
      clear k5 hA hB hra hrb hK
      cases rb with
      | false =>
        go_wp2_with fail
        go_ret
        exact ⟨rfl, K0.below⟩
      | true =>
      have hq : ((toStr (encM a1)).toList == (toStr (encM b1)).toList) = r := by
        rw [HR.out, Bool.eq_iff_iff, eqM_iff, beq_iff_eq]
        constructor
        · intro h
          exact encM_inj HMA.out.symm (toStr_inj (encM_byte a1) (encM_byte b1) (tl_inj h))
        · rintro rfl
          rfl
      have HEA := Lib.hid (encM_byte a1)
      have HEB := Lib.hid (encM_byte b1)
      have HCA := fun W (h : MsRd W a1 A1 A2 A3 A4) => encode_any (w := W) a1 _ _ _ _ h hza
      have HCB := fun W (h : MsRd W b1 B1 B2 B3 B4) => encode_any (w := W) b1 _ _ _ _ h hzb
      unfold GotEnc at HCA HCB
      generalize encM a1 = EA at *
      generalize encM b1 = EB at *
      have HCA' := Lib.hid HCA
      have HCB' := Lib.hid HCB
      clear HCA HCB
      go_upto_region 9 with fail
      refine wp_region_inv (meq9J w p q a1 b1 A1 A2 A3 A4 B1 B2 B3 B4 r EA EB) (by kernel_rfl) (by kernel_rfl) (by kernel_rfl) ?_ (Steps.cons 0 ?_ (Steps.cons 1 ?_ (Steps.cons 2 ?_ (Steps.cons 3 ?_ (Steps.cons 4 ?_ (Steps.cons 5 ?_ (Steps.cons 6 ?_ (Steps.cons 7 ?_ (Steps.cons 8 ?_ (Steps.cons 9 ?_ (Steps.cons 10 ?_ (Steps.cons 11 ?_ (Steps.nil 12))))))))))))) 12 rfl ?_
      · intro x
        exact ⟨hA0.drew, hB0.drew, hra0.keep (Keep.refl [] _).drew, hrb0.keep (Keep.refl [] _).drew, K0.drew, fun h => absurd h (by decide), fun h => absurd h (by decide), fun h => absurd h (by decide), fun h => absurd h (by decide), fun h => absurd h (by decide), fun h => absurd h (by decide), fun h => absurd h (by decide), fun h => absurd h (by decide), fun h => absurd h (by decide), fun h => absurd h (by decide), fun h => absurd h (by decide), fun h => absurd h (by decide)⟩
      · intro l x w' hJ hi hd
        obtain ⟨hA, hB, hra, hrb, hK, h0, h1, h2, h3, h4, h5, h6, h7, h8, h9, h10, h11⟩ := hJ
        refine Runs.of (b := ?bH0) ?eH0 ?_
        case eH0 => simp only [putV, Act.put, List.setIfInBounds_toArray, List.set_cons_zero, List.set_cons_succ]; rfl
        intro K' hK'
        refine step_load_rowg 29 _ rfl p rfl 29 (msC a1 A1 A2 A3 A4).toArray (0, 0) _ hA Try.underlying29 rfl Try.sizeMsg (by rfl) ?_
        exact hK'.go _ rfl ⟨hA, hB, hra, hrb, hK, fun _ => rfl, h1, h2, h3, h4, h5, h6, h7, h8, h9, h10, h11⟩
      · intro l x w' hJ hi hd
        obtain ⟨hA, hB, hra, hrb, hK, h0, h1, h2, h3, h4, h5, h6, h7, h8, h9, h10, h11⟩ := hJ
        have e0 := h0 (show l 0 = true by first | exact hd.1 rfl | exact hd.2.1 rfl | exact hd.2.2.1 rfl | exact hd.2.2.2.1 rfl | exact hd.2.2.2.2.1 rfl | exact hd.2.2.2.2.2.1 rfl)
        refine Runs.of (b := ?bH1) ?eH1 ?_
        case eH1 => simp only [putV, Act.put, List.setIfInBounds_toArray, List.set_cons_zero, List.set_cons_succ, e0]; rfl
        intro K' hK'
        go_simp
        refine (HCA'.out _ hra).mono ?_
        rintro e w2 ⟨v2, rfl, hb2, _, k2⟩
        go_simp
        exact hK'.go v2 rfl ⟨hA.keep k2 (by simp), hB.keep k2 (by simp), hra.keep k2, hrb.keep k2, hK.trans k2, h0, fun _ => hb2.mono (by omega), h2, h3, fun h => (h4 h).keep k2 (by simp), h5, h6, h7, h8, h9, h10, h11⟩
      · intro l x w' hJ hi hd
        obtain ⟨hA, hB, hra, hrb, hK, h0, h1, h2, h3, h4, h5, h6, h7, h8, h9, h10, h11⟩ := hJ
        have e1 := h1 (show l 1 = true by first | exact hd.1 rfl | exact hd.2.1 rfl | exact hd.2.2.1 rfl | exact hd.2.2.2.1 rfl | exact hd.2.2.2.2.1 rfl | exact hd.2.2.2.2.2.1 rfl)
        have hc := Rd.str (P := Try.prog) (dst := 9) e1.rd HEA.out Try.underlying33 Try.underlying5 Try.underlying9
        obtain ⟨ta, tcap, ht⟩ := e1.slice
        rw [ht] at hc
        refine Runs.of (b := ?bH2) ?eH2 ?_
        case eH2 => simp only [putV, Act.put, List.setIfInBounds_toArray, List.set_cons_zero, List.set_cons_succ, ht]; rfl
        intro K' hK'
        go_simp
        exact hK'.go _ rfl ⟨hA, hB, hra, hrb, hK, h0, h1, fun _ => rfl, h3, h4, h5, h6, h7, h8, h9, h10, h11⟩
      · intro l x w' hJ hi hd
        obtain ⟨hA, hB, hra, hrb, hK, h0, h1, h2, h3, h4, h5, h6, h7, h8, h9, h10, h11⟩ := hJ
        refine Runs.of (b := ?bH3) ?eH3 ?_
        case eH3 => simp only [putV, Act.put, List.setIfInBounds_toArray, List.set_cons_zero, List.set_cons_succ]; rfl
        intro K' hK'
        refine step_load_rowg 29 _ rfl q rfl 29 (msC b1 B1 B2 B3 B4).toArray (0, 0) _ hB Try.underlying29 rfl Try.sizeMsg (by rfl) ?_
        exact hK'.go _ rfl ⟨hA, hB, hra, hrb, hK, h0, h1, h2, fun _ => rfl, h4, h5, h6, h7, h8, h9, h10, h11⟩
      · intro l x w' hJ hi hd
        obtain ⟨hA, hB, hra, hrb, hK, h0, h1, h2, h3, h4, h5, h6, h7, h8, h9, h10, h11⟩ := hJ
        have e3 := h3 (show l 3 = true by first | exact hd.1 rfl | exact hd.2.1 rfl | exact hd.2.2.1 rfl | exact hd.2.2.2.1 rfl | exact hd.2.2.2.2.1 rfl | exact hd.2.2.2.2.2.1 rfl)
        refine Runs.of (b := ?bH4) ?eH4 ?_
        case eH4 => simp only [putV, Act.put, List.setIfInBounds_toArray, List.set_cons_zero, List.set_cons_succ, e3]; rfl
        intro K' hK'
        go_simp
        refine (HCB'.out _ hrb).mono ?_
        rintro e w2 ⟨v2, rfl, hb2, _, k2⟩
        go_simp
        exact hK'.go v2 rfl ⟨hA.keep k2 (by simp), hB.keep k2 (by simp), hra.keep k2, hrb.keep k2, hK.trans k2, h0, fun h => (h1 h).keep k2 (by simp), h2, h3, fun _ => hb2.mono (by omega), h5, h6, h7, h8, h9, h10, h11⟩
      · intro l x w' hJ hi hd
        obtain ⟨hA, hB, hra, hrb, hK, h0, h1, h2, h3, h4, h5, h6, h7, h8, h9, h10, h11⟩ := hJ
        have e4 := h4 (show l 4 = true by first | exact hd.1 rfl | exact hd.2.1 rfl | exact hd.2.2.1 rfl | exact hd.2.2.2.1 rfl | exact hd.2.2.2.2.1 rfl | exact hd.2.2.2.2.2.1 rfl)
        have hc := Rd.str (P := Try.prog) (dst := 9) e4.rd HEB.out Try.underlying33 Try.underlying5 Try.underlying9
        obtain ⟨ta, tcap, ht⟩ := e4.slice
        rw [ht] at hc
        refine Runs.of (b := ?bH5) ?eH5 ?_
        case eH5 => simp only [putV, Act.put, List.setIfInBounds_toArray, List.set_cons_zero, List.set_cons_succ, ht]; rfl
        intro K' hK'
        go_simp
        exact hK'.go _ rfl ⟨hA, hB, hra, hrb, hK, h0, h1, h2, h3, h4, fun _ => rfl, h6, h7, h8, h9, h10, h11⟩
      · intro l x w' hJ hi hd
        obtain ⟨hA, hB, hra, hrb, hK, h0, h1, h2, h3, h4, h5, h6, h7, h8, h9, h10, h11⟩ := hJ
        have e2 := h2 (show l 2 = true by first | exact hd.1 rfl | exact hd.2.1 rfl | exact hd.2.2.1 rfl | exact hd.2.2.2.1 rfl | exact hd.2.2.2.2.1 rfl | exact hd.2.2.2.2.2.1 rfl)
        have e5 := h5 (show l 5 = true by first | exact hd.1 rfl | exact hd.2.1 rfl | exact hd.2.2.1 rfl | exact hd.2.2.2.1 rfl | exact hd.2.2.2.2.1 rfl | exact hd.2.2.2.2.2.1 rfl)
        refine Runs.of (b := ?bH6) ?eH6 ?_
        case eH6 => simp only [putV, Act.put, List.setIfInBounds_toArray, List.set_cons_zero, List.set_cons_succ, e2, e5]; rfl
        intro K' hK'
        go_simp
        exact hK'.go _ rfl ⟨hA, hB, hra, hrb, hK, h0, h1, h2, h3, h4, h5, fun _ => rfl, h7, h8, h9, h10, h11⟩
      · intro l x w' hJ hi hd
        obtain ⟨hA, hB, hra, hrb, hK, h0, h1, h2, h3, h4, h5, h6, h7, h8, h9, h10, h11⟩ := hJ
        refine Runs.of (b := ?bH7) ?eH7 ?_
        case eH7 => simp only [putV, Act.put, List.setIfInBounds_toArray, List.set_cons_zero, List.set_cons_succ]; rfl
        intro K' hK'
        refine step_load_rowg 29 _ rfl p rfl 29 (msC a1 A1 A2 A3 A4).toArray (0, 0) _ hA Try.underlying29 rfl Try.sizeMsg (by rfl) ?_
        exact hK'.go _ rfl ⟨hA, hB, hra, hrb, hK, h0, h1, h2, h3, h4, h5, h6, fun _ => rfl, h8, h9, h10, h11⟩
      · intro l x w' hJ hi hd
        obtain ⟨hA, hB, hra, hrb, hK, h0, h1, h2, h3, h4, h5, h6, h7, h8, h9, h10, h11⟩ := hJ
        refine Runs.of (b := ?bH8) ?eH8 ?_
        case eH8 => simp only [putV, Act.put, List.setIfInBounds_toArray, List.set_cons_zero, List.set_cons_succ]; rfl
        intro K' hK'
        refine step_load_rowg 29 _ rfl q rfl 29 (msC b1 B1 B2 B3 B4).toArray (0, 0) _ hB Try.underlying29 rfl Try.sizeMsg (by rfl) ?_
        exact hK'.go _ rfl ⟨hA, hB, hra, hrb, hK, h0, h1, h2, h3, h4, h5, h6, h7, fun _ => rfl, h9, h10, h11⟩
      · intro l x w' hJ hi hd
        obtain ⟨hA, hB, hra, hrb, hK, h0, h1, h2, h3, h4, h5, h6, h7, h8, h9, h10, h11⟩ := hJ
        have e7 := h7 (show l 7 = true by first | exact hd.1 rfl | exact hd.2.1 rfl | exact hd.2.2.1 rfl | exact hd.2.2.2.1 rfl | exact hd.2.2.2.2.1 rfl | exact hd.2.2.2.2.2.1 rfl)
        have e8 := h8 (show l 8 = true by first | exact hd.1 rfl | exact hd.2.1 rfl | exact hd.2.2.1 rfl | exact hd.2.2.2.1 rfl | exact hd.2.2.2.2.1 rfl | exact hd.2.2.2.2.2.1 rfl)
        refine Runs.of (b := ?bH9) ?eH9 ?_
        case eH9 => simp only [putV, Act.put, List.setIfInBounds_toArray, List.set_cons_zero, List.set_cons_succ, e7, e8]; rfl
        intro K' hK'
        go_simp
        refine (EqMsg_any a1 b1 _ _ _ _ _ _ _ _ hra hrb hza hzb r HR.out).mono ?_
        rintro e w2 ⟨rfl, k2⟩
        go_simp
        exact hK'.go _ rfl ⟨hA.keep k2 (by simp), hB.keep k2 (by simp), hra.keep k2, hrb.keep k2, hK.trans k2, h0, fun h => (h1 h).keep k2 (by simp), h2, h3, fun h => (h4 h).keep k2 (by simp), h5, h6, h7, h8, fun _ => rfl, h10, h11⟩
      · intro l x w' hJ hi hd
        obtain ⟨hA, hB, hra, hrb, hK, h0, h1, h2, h3, h4, h5, h6, h7, h8, h9, h10, h11⟩ := hJ
        have e6 := h6 (show l 6 = true by first | exact hd.1 rfl | exact hd.2.1 rfl | exact hd.2.2.1 rfl | exact hd.2.2.2.1 rfl | exact hd.2.2.2.2.1 rfl | exact hd.2.2.2.2.2.1 rfl)
        have e9 := h9 (show l 9 = true by first | exact hd.1 rfl | exact hd.2.1 rfl | exact hd.2.2.1 rfl | exact hd.2.2.2.1 rfl | exact hd.2.2.2.2.1 rfl | exact hd.2.2.2.2.2.1 rfl)
        refine Runs.of (b := ?bH10) ?eH10 ?_
        case eH10 => simp only [putV, Act.put, List.setIfInBounds_toArray, List.set_cons_zero, List.set_cons_succ, e6, e9]; rfl
        intro K' hK'
        go_simp
        exact hK'.go _ rfl ⟨hA, hB, hra, hrb, hK, h0, h1, h2, h3, h4, h5, h6, h7, h8, h9, fun _ => rfl, h11⟩
      · intro l x w' hJ hi hd
        obtain ⟨hA, hB, hra, hrb, hK, h0, h1, h2, h3, h4, h5, h6, h7, h8, h9, h10, h11⟩ := hJ
        have e10 := h10 (show l 10 = true by first | exact hd.1 rfl | exact hd.2.1 rfl | exact hd.2.2.1 rfl | exact hd.2.2.2.1 rfl | exact hd.2.2.2.2.1 rfl | exact hd.2.2.2.2.2.1 rfl)
        refine Runs.of (b := ?bH11) ?eH11 ?_
        case eH11 => simp only [putV, Act.put, List.setIfInBounds_toArray, List.set_cons_zero, List.set_cons_succ, e10]; rfl
        intro K' hK'
        go_simp
        exact hK'.go _ rfl ⟨hA, hB, hra, hrb, hK, h0, h1, h2, h3, h4, h5, h6, h7, h8, h9, h10, fun _ => rfl⟩
      · intro l x w3 hJ hl
        obtain ⟨hA, hB, hra, hrb, hK, h0, h1, h2, h3, h4, h5, h6, h7, h8, h9, h10, h11⟩ := hJ
        have e11 := h11 (hl 11 (by decide))
        simp only [putV, Act.put, List.setIfInBounds_toArray, List.set_cons_zero, List.set_cons_succ, e11]
        clear h0 h1 h2 h3 h4 h5 h6 h7 h8 h9 h10 h11 e11 hl hA0 hB0 hra0 hrb0 K0
        go_wp2_with fail
        go_ret
        exact ⟨rfl, hK.below⟩
end Go.Proofs.Ytonghelcfbjknaa
