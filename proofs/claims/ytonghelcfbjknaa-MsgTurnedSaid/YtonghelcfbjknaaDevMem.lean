/- A device's cells: sectors one behind the other in one block; what a store of some cells does to them. No program. -/
import Derived.Test.YtonghelcfbjknaaMem
import Derived.Laws.IdiomCopy
import Derived.Deep.MidRow
import Derived.StillTailTactics
namespace Go.Proofs.Ytonghelcfbjknaa
open Go.ChangeShapes Go.WideShapes Go.ChangeAt Go.RowKit
set_option linter.unusedVariables false
set_option linter.unusedSimpArgs false

/-- A part of a list written over. -/
def over {α : Type} (l : List α) (o : Nat) (vs : List α) : List α := l.take o ++ (vs ++ l.drop (o + vs.length))
theorem over_length {α : Type} (l : List α) (o : Nat) (vs : List α) (h : o + vs.length ≤ l.length) : (over l o vs).length = l.length := by
  unfold over; simp; omega
theorem over_nil {α : Type} (l : List α) (o : Nat) : over l o [] = l := by simp [over]
theorem over_cons {α : Type} (l : List α) (o : Nat) (v : α) (vs : List α) (h : o + (vs.length + 1) ≤ l.length) : over (l.set o v) (o + 1) vs = over l o (v :: vs) := by
  unfold over
  have e1 : (l.set o v).take (o + 1) = l.take o ++ [v] := by
    rw [List.take_succ_eq_append_getElem (by simp; omega), List.take_set_of_le (Nat.le_refl _)]
    simp
  have e2 : (l.set o v).drop (o + 1 + vs.length) = l.drop (o + (vs.length + 1)) := by
    rw [List.drop_set_of_lt (by omega), show o + 1 + vs.length = o + (vs.length + 1) by omega]
  rw [e1, e2]
  simp

theorem Blk.setCells {b : Nat} {T : TypeId} : ∀ (vs : List Value) (o : Nat) (w : World) (cs : List Value), Blk w b cs T → o + vs.length ≤ cs.length → Blk (w.setCells b o vs) b (over cs o vs) T := by
  intro vs
  induction vs with
  | nil => intro o w cs h _; rw [over_nil]; exact h
  | cons v vs ih =>
    intro o w cs h hle
    simp only [List.length_cons] at hle
    rw [← over_cons cs o v vs (by omega)]
    exact ih (o + 1) _ _ (h.set o v) (by simp; omega)
theorem Keep.setCells {S : List Nat} {b : Nat} : ∀ (vs : List Value) (o : Nat) (a w : World), Keep S a w → b ∈ S ∨ a.heap.size ≤ b → Keep S a (w.setCells b o vs) := by
  intro vs
  induction vs with
  | nil => intro o a w h _; exact h
  | cons v vs ih => intro o a w h hb; exact ih (o + 1) a _ (h.setCell hb v) hb
theorem Blk.range {w : World} {b : Nat} {cs : List Value} {T : TypeId} (h : Blk w b cs T) (o n : Nat) : w.rangeAt b o ((cs.drop o).take n) := by
  intro j v hj
  rw [h.cell]
  rw [List.getElem?_take] at hj
  split at hj
  · rw [← hj, List.getElem?_drop]
  · cases hj
theorem Blk.there {w : World} {b : Nat} {cs : List Value} {T : TypeId} (h : Blk w b cs T) (o n : Nat) (hn : o + n ≤ cs.length) : w.there b o n := by
  intro j hj
  exact ⟨by rw [h.cell, List.getElem?_eq_getElem (by omega)]; rfl, h.free _⟩

/-- A store of all cells of a block. -/
theorem wpList_store_blk {P : Program} {ops : Array Oper} {rest : List Oper} {op : Oper} {a : Act} {w : World} {Q : Exit → Act → World → Prop} (hgd : op.guard = none) (ty : TypeId) (x y : Operand) (ho : op.op = .store ty x y)
    (b : Nat) (old cells : List Value) (T : TypeId) (hx : a.eval x = .pointer (some ⟨b, 0, none⟩)) (hy : a.eval y = .agg cells.toArray)
    (hb : Blk w b old T) (hl : old.length = cells.length) (hi : (P.info? ty).map (·.size) = some cells.length) (h1 : ∀ v ∈ cells, v.oneCell' = true)
    (h : ∀ w', Blk w' b cells T → Keep [b] w w' → wpList P ops Q rest (a.put op.dst undef) w') : wpList P ops Q (op :: rest) a w := by
  refine wpList_store_mid hgd ty x y ho b 0 cells.toArray hx hy (hb.there 0 _ (by simp; omega)) (by simpa using hi) (all_oneCell_toArray h1) (h _ ?_ (Keep.setCells _ _ _ _ (Keep.refl _ _) (.inl (by simp))))
  have := hb.setCells cells 0 w _ (by omega)
  unfold over at this
  rw [List.drop_of_length_le (by omega)] at this
  simpa using this
/-- A load of a row in the midst of a block, in a region that draws its order and ends in one store ('wp_region_still_tail'). -/
theorem wpStill_load_mid {P : Program} {ops : Array Oper} {w : World} {Q : Act → Prop} {a : Act} {op : Oper} {rest : List Oper} (hgd : op.guard = none) (ty : TypeId) (x : Operand) (ho : op.op = .load ty x)
    (b o : Nat) (hx : a.eval x = .pointer (some ⟨b, o, none⟩)) (cs : List Value) (d : TypeDesc) (hc : w.rangeAt b o cs)
    (hu : P.underlying ty = some d) (hd : d.isRow = true) (hi : (P.info? ty).map (·.size) = some cs.length)
    (h : wpStill P ops w Q rest (a.put op.dst (.agg cs.toArray))) : wpStill P ops w Q (op :: rest) a := by
  refine wpStill_step (fun K hK => ?_)
  rw [if_pos (by simp [Region.wanted, hgd])]
  unfold Oper.still execOp
  simp only [ho, hx, Instr.loadAt, Instr.sureAddr, Sem.run_bind, Sem.run_pure, Result.andThen_ok, run_loadVar_mid w b o ty cs d hc hu hd hi]
  exact ⟨rfl, hK _ h⟩
/-- A struct or a row that is built, in such a region. -/
theorem wpStill_build {P : Program} {ops : Array Oper} {w : World} {Q : Act → Prop} {a : Act} {op : Oper} {rest : List Oper} (hgd : op.guard = none) (t : TypeId) (parts : Array (Nat × Operand)) (ho : op.op = .build t parts)
    (ps : Array (Nat × Value)) (hp : (parts.map fun (i, x) => (i, a.eval x)) = ps) (v : Value) (hr : (Instr.build t ps).run P w = .ok v w)
    (h : wpStill P ops w Q rest (a.put op.dst v)) : wpStill P ops w Q (op :: rest) a := by
  refine wpStill_step (fun K hK => ?_)
  rw [if_pos (by simp [Region.wanted, hgd])]
  unfold Oper.still execOp
  simp only [ho, hp, Sem.run_bind, Sem.run_pure, Result.andThen_ok, hr]
  exact ⟨rfl, hK _ h⟩
/-- A sector: what is there, what lasts, whether they may differ. -/
structure Sec where
  now : List Nat
  lasts : List Nat
  loose : Bool
def Sec.ok (s : Sec) : Prop := s.now.length = 64 ∧ s.lasts.length = 64 ∧ (∀ c ∈ s.now, c < 256) ∧ ∀ c ∈ s.lasts, c < 256
def secCells (s : Sec) : List Value := bcs s.now ++ (bcs s.lasts ++ [.bool s.loose])
theorem secCells_length {s : Sec} (h : s.ok) : (secCells s).length = 129 := by
  unfold secCells; simp [h.1, h.2.1]
def devCells (l : List Sec) : List Value := (l.map secCells).flatten
theorem devCells_length {l : List Sec} (h : ∀ s ∈ l, s.ok) : (devCells l).length = 129 * l.length := by
  induction l with
  | nil => rfl
  | cons s l ih =>
    have := ih (fun x hx => h x (by simp [hx]))
    have h1 := secCells_length (h s (by simp))
    simp only [devCells, List.map_cons, List.flatten_cons, List.length_append, List.length_cons] at *
    omega
theorem devCells_append (l m : List Sec) : devCells (l ++ m) = devCells l ++ devCells m := by simp [devCells]
theorem devCells_cons (s : Sec) (m : List Sec) : devCells (s :: m) = secCells s ++ devCells m := by simp [devCells]
theorem dev_split {l : List Sec} (i : Nat) (s : Sec) (hi : l[i]? = some s) : l = l.take i ++ s :: l.drop (i + 1) := by
  have hlt : i < l.length := (List.getElem?_eq_some_iff.1 hi).1
  have e := (List.getElem?_eq_some_iff.1 hi).2
  rw [← e, ← List.drop_eq_getElem_cons hlt, List.take_append_drop]
theorem devCells_range {l : List Sec} (h : ∀ s ∈ l, s.ok) (i : Nat) (s : Sec) (hi : l[i]? = some s) (j n : Nat) (hj : j + n ≤ 129) :
    ((devCells l).drop (i * 129 + j)).take n = ((secCells s).drop j).take n := by
  have hlt : i < l.length := (List.getElem?_eq_some_iff.1 hi).1
  have e := dev_split i s hi
  have hs : s.ok := h s (List.mem_of_getElem? hi)
  have hl := secCells_length hs
  have hp : (devCells (l.take i)).length = i * 129 := by
    rw [devCells_length (fun x hx => h x (List.mem_of_mem_take hx)), List.length_take]; omega
  rw [e, devCells_append, devCells_cons, List.drop_append, hp, List.drop_of_length_le (by omega), List.nil_append,
    show i * 129 + j - i * 129 = j by omega, List.drop_append, hl, List.take_append_of_le_length (by rw [List.length_drop]; omega)]
theorem devCells_over {l : List Sec} (h : ∀ s ∈ l, s.ok) (i : Nat) (s s' : Sec) (hi : l[i]? = some s) (hs' : s'.ok) (j : Nat) (vs : List Value) (hj : j + vs.length ≤ 129) (he : over (secCells s) j vs = secCells s') :
    over (devCells l) (i * 129 + j) vs = devCells (l.set i s') := by
  have hlt : i < l.length := (List.getElem?_eq_some_iff.1 hi).1
  have e := dev_split i s hi
  have hs : s.ok := h s (List.mem_of_getElem? hi)
  have hl := secCells_length hs
  have hp : (devCells (l.take i)).length = i * 129 := by
    rw [devCells_length (fun x hx => h x (List.mem_of_mem_take hx)), List.length_take]; omega
  have e2 : l.set i s' = l.take i ++ s' :: l.drop (i + 1) := by
    rw [List.set_eq_take_append_cons_drop, if_pos hlt]
  rw [e2, devCells_append, devCells_cons, ← he]
  conv => lhs; rw [e]
  rw [devCells_append, devCells_cons]
  unfold over
  rw [List.take_append, hp, List.take_of_length_le (by omega), show i * 129 + j - i * 129 = j by omega, List.take_append_of_le_length (by omega),
    List.drop_append, hp, List.drop_of_length_le (by omega), List.nil_append, show i * 129 + j + vs.length - i * 129 = j + vs.length by omega, List.drop_append_of_le_length (by omega)]
  simp
theorem mem_set_ok {l : List Sec} (h : ∀ s ∈ l, s.ok) (i : Nat) (s' : Sec) (hs' : s'.ok) : ∀ s ∈ l.set i s', s.ok := by
  intro s hs
  rcases List.mem_or_eq_of_mem_set hs with h1 | rfl
  · exact h s h1
  · exact hs'

/-! make of so many zero elements -/
theorem madeCells_rep (z : Array Value) (hz : 0 < z.size) (n : Nat) : madeCells z (n * z.size) = ((List.replicate n z.toList).flatten).toArray := by
  apply Array.ext'
  simp only [madeCells, Array.toList_map, Array.toList_range]
  induction n with
  | zero => simp
  | succ n ih =>
    rw [Nat.succ_mul, List.range_add, List.map_append, ih, List.replicate_succ']
    simp only [List.flatten_append, List.flatten_cons, List.flatten_nil, List.append_nil, List.map_map]
    congr 1
    apply List.ext_getElem
    · simp
    · intro j h1 h2
      simp at h1
      simp only [List.getElem_map, List.getElem_range, Function.comp_apply]
      rw [Nat.add_comm, Nat.add_mul_mod_self_right, Nat.mod_eq_of_lt h1, getElem!_pos z j h1]
      simp
theorem wpList_make_n {P : Program} (w : World) {ops : Array Oper} {rest : List Oper} {o : Oper} {a : Act} {Q : Exit → Act → World → Prop}
    (hg : o.guard = none) (l c : Operand) (t : TypeId) (hop : o.op = Op.makeSlice t l c)
    (e : TypeId) (i : TypeInfo) (z : Value) (h1 : P.underlying t = some (.slice e)) (h2 : P.info? e = some i) (h3 : i.zero = some z) (h4 : i.size = z.cells.size) (h5 : 0 < z.cells.size)
    (C : Int) (n : Nat) (hl : a.eval l = .int .i64 C) (hc : a.eval c = .int .i64 C) (hC : C = (n : Int)) (b2 : i.bytes * n ≤ 281474976710656) (b3 : n ≤ 9223372036854775807)
    (hK : wpList P ops Q rest (a.put o.dst (.slice (some ⟨w.heap.size, 0, none⟩) n n)) (w.alloc (.cells ((List.replicate n z.cells.toList).flatten).toArray e))) :
    wpList P ops Q (o :: rest) a w := by
  subst hC
  refine wpList_plain hg fun K hK' => ?_
  have hb2 : (i.bytes : Int) * (n : Int) ≤ 281474976710656 := by
    have h : ((i.bytes * n : Nat) : Int) ≤ 281474976710656 := by omega
    rw [Int.natCast_mul] at h
    exact h
  have hr := run_make (P := P) w t e i z h1 h2 h3 .i64 .i64 (n : Int) (n : Int) (by omega) (by omega) hb2 (by omega)
  rw [h4, Int.toNat_natCast, madeCells_rep _ h5] at hr
  unfold Oper.wp execOp
  simp only [hop, Sem.run_bind, Sem.run_pure, Result.andThen_ok, hl, hc, hr]
  exact hK' _ _ hK

/-! copy into the midst of a block -/
theorem run_copy_mid {P : Program} (w : World) (t tx ty e : TypeId) (i : TypeInfo) (ht : P.underlying t = some (.slice e)) (hi : P.info? e = some i) (hz : i.size = 1) (b off dl dc : Nat) (x : Value) (n : Nat) (news : List Value)
    (hs : Src P 1 tx x n news w) (hn : n ≤ dl) (hth : w.there b off n) :
    (Builtin.copy_ #[t, tx] ty #[.slice (some ⟨b, off, none⟩) dl dc, x]).run P w = .ok (goInt n) (w.setCells b off news) := by
  have hl : news.length = n := by have := hs.newsLen; omega
  have hst := run_storeCells_cells (P := P) b off news 0 w (fun j hj => by simpa using (hth j (by omega)).1) (fun j hj => by simpa using (hth j (by omega)).2) hs.one
  have hm : min n dl = n := Nat.min_eq_left hn
  have h0 := hs.cells
  simp only [Nat.add_zero] at hst
  simp [Builtin.copy_, run_underlying ht, sizeOf, typeInfo, hi, hz, hs.len, hm, h0, Addr.add_lit, hst]
theorem wpList_copy_mid {P : Program} (w : World) {ops : Array Oper} {rest : List Oper} {o : Oper} {a : Act} {Q : Exit → Act → World → Prop} (hgd : o.guard = none) (s x : Operand) (t tx : TypeId)
    (ho : o.op = .call { callee := .builtin .copy, args := #[s, x], argTypes := #[t, tx] }) (e : TypeId) (i : TypeInfo) (ht : P.underlying t = some (.slice e)) (hi : P.info? e = some i) (hz : i.size = 1)
    (b off dl dc : Nat) (hsv : a.eval s = .slice (some ⟨b, off, none⟩) dl dc) (xv : Value) (n : Nat) (news : List Value) (hx : a.eval x = xv) (hs : Src P 1 tx xv n news w) (hn : n ≤ dl) (hth : w.there b off n)
    (h : wpList P ops Q rest (a.put o.dst (goInt n)) (w.setCells b off news)) : wpList P ops Q (o :: rest) a w := by
  have hr := run_copy_mid (P := P) w t tx o.type e i ht hi hz b off dl dc xv n news hs hn hth
  refine wpList_plain hgd fun K hK => ?_
  unfold Oper.wp execOp
  simp only [ho, resolve, invoke, builtin, Sem.run_bind, Sem.run_pure, Result.andThen_ok, List.map_toArray, List.map_cons, List.map_nil, hsv, hx, hr]
  exact hK _ _ h
end Go.Proofs.Ytonghelcfbjknaa
