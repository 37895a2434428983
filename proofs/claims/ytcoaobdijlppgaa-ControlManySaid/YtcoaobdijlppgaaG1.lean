/- Base, Mem, Info, NumMath, Bits, Num -/
import Derived.Test.YtcoaobdijlppgaaRows
import Derived.WalkKit
import Derived.ProofKit
import Derived.OpenShut
import Derived.Handy
import Derived.Lib.Hide
import Derived.Deep.AppendSrc
import Derived.WalkSpells
/- Plain lemmas on the model's world, of this work's own: what is kept when a few blocks are written ('Keep'), a block known whole ('Blk'). No condition. -/
namespace Go.Proofs.Ytcoaobdijlppgaa
open Go.ChangeShapes Go.WideShapes Go.ChangeAt Go.RowKit

/-- All that was there is as it was, but for the blocks in S. -/
structure Keep (S : List Nat) (w w' : World) : Prop where
  os : w'.os = w.os
  tape : w'.tape = w.tape
  output : w'.output = w.output
  size : w.heap.size ≤ w'.heap.size
  block : ∀ k, k < w.heap.size → k ∉ S → w'.heap[k]? = w.heap[k]?

theorem Keep.refl (S : List Nat) (w : World) : Keep S w w := ⟨rfl, rfl, rfl, Nat.le_refl _, fun _ _ _ => rfl⟩
theorem Keep.mono {S S' : List Nat} {w w' : World} (h : Keep S w w') (hs : ∀ k ∈ S, k < w.heap.size → k ∈ S') : Keep S' w w' :=
  ⟨h.os, h.tape, h.output, h.size, fun k hk hn => h.block k hk (fun hm => hn (hs k hm hk))⟩
theorem Keep.trans {S : List Nat} {a b c : World} (h : Keep S a b) (k : Keep S b c) : Keep S a c :=
  ⟨k.os.trans h.os, k.tape.trans h.tape, k.output.trans h.output, Nat.le_trans h.size k.size,
   fun i hi hn => (k.block i (Nat.lt_of_lt_of_le hi h.size) hn).trans (h.block i hi hn)⟩
/-- Two steps: what the second one writes may be what the first one made. -/
theorem Keep.then {S S' : List Nat} {a b c : World} (h : Keep S a b) (k : Keep S' b c) (hs : ∀ x ∈ S', x < a.heap.size → x ∈ S) : Keep S a c :=
  ⟨k.os.trans h.os, k.tape.trans h.tape, k.output.trans h.output, Nat.le_trans h.size k.size,
   fun i hi hn => (k.block i (Nat.lt_of_lt_of_le hi h.size) (fun hm => hn (hs i hm hi))).trans (h.block i hi hn)⟩
theorem Keep.below {w w' : World} (h : Keep [] w w') : Below w.heap.size w w' := ⟨h.os, h.tape, h.output, h.size, fun k hk => h.block k hk (by simp)⟩
theorem Keep.of_below {S : List Nat} {w w' : World} (h : Below w.heap.size w w') : Keep S w w' := ⟨h.os, h.tape, h.output, h.size, fun k hk _ => h.block k hk⟩
theorem Keep.alloc {S : List Nat} {a w : World} (h : Keep S a w) (o : Obj) : Keep S a (w.alloc o) :=
  ⟨h.os, h.tape, h.output, by have := h.size; simp; omega, fun k hk hn => (Below.heap_alloc _ _ _ (by have := h.size; omega)).trans (h.block k hk hn)⟩
theorem Keep.drew {S : List Nat} {a w : World} (h : Keep S a w) : Keep S a w.drew := ⟨h.os, h.tape, h.output, h.size, h.block⟩
theorem Keep.setCell {S : List Nat} {a w : World} (h : Keep S a w) {p : Addr} (hp : p.block ∈ S ∨ a.heap.size ≤ p.block) (u : Value) : Keep S a (w.setCell p u) :=
  ⟨h.os, h.tape, h.output, by have := h.size; simpa [World.setCell] using this, fun k hk hn => (Below.heap_setCell _ _ _ _ (by
    intro e; subst e; rcases hp with hp | hp
    · exact hn hp
    · omega)).trans (h.block k hk hn)⟩
theorem Keep.cell {S : List Nat} {w w' : World} (h : Keep S w w') {p : Addr} (hp : p.block < w.heap.size) (hn : p.block ∉ S) : w'.cell? p = w.cell? p := World.cell?_of_block (w := w) (h.block p.block hp hn)
theorem Keep.frozen {S : List Nat} {w w' : World} (h : Keep S w w') {p : Addr} (hp : p.block < w.heap.size) (hn : p.block ∉ S) : w'.frozen? p = w.frozen? p := World.frozen?_of_block (w := w) (h.block p.block hp hn)

/-- Block b holds the cells cs, none frozen. -/
def Blk (w : World) (b : Nat) (cs : List Value) (T : TypeId) : Prop := w.heap[b]? = some (.cells cs.toArray T (0, 0))
theorem Blk.lt {w : World} {b : Nat} {cs : List Value} {T : TypeId} (h : Blk w b cs T) : b < w.heap.size := by
  unfold Blk at h
  rcases Nat.lt_or_ge b w.heap.size with h' | h'
  · exact h'
  · rw [Array.getElem?_eq_none h'] at h; cases h
theorem Blk.cell {w : World} {b : Nat} {cs : List Value} {T : TypeId} (h : Blk w b cs T) (i : Nat) : w.cell? ⟨b, i, none⟩ = cs[i]? := by
  unfold Blk at h; simp [World.cell?, h]
theorem Blk.free {w : World} {b : Nat} {cs : List Value} {T : TypeId} (h : Blk w b cs T) (i : Nat) : w.frozen? ⟨b, i, none⟩ = false := by
  unfold Blk at h; simp [World.frozen?, h]
theorem Blk.keep {S : List Nat} {w w' : World} {b : Nat} {cs : List Value} {T : TypeId} (h : Blk w b cs T) (k : Keep S w w') (hn : b ∉ S) : Blk w' b cs T := by
  have := k.block b h.lt hn; unfold Blk at *; rw [this]; exact h
theorem Blk.alloc {w : World} {b : Nat} {cs : List Value} {T : TypeId} (h : Blk w b cs T) (o : Obj) : Blk (w.alloc o) b cs T := by
  have := Below.heap_alloc w o b h.lt; unfold Blk at *; rw [this]; exact h
theorem Blk.new (w : World) (cs : List Value) (T : TypeId) : Blk (w.alloc (.cells cs.toArray T)) w.heap.size cs T := by
  unfold Blk
  show (w.heap.push _)[w.heap.size]? = _
  simp
theorem Blk.new' (w : World) (cs : List Value) (T : TypeId) (b : Nat) (hb : b = w.heap.size) : Blk (w.alloc (.cells cs.toArray T)) b cs T := by
  subst hb; exact Blk.new _ _ _
theorem Blk.drew {w : World} {b : Nat} {cs : List Value} {T : TypeId} (h : Blk w b cs T) : Blk w.drew b cs T := h
theorem Blk.set {w : World} {b : Nat} {cs : List Value} {T : TypeId} (h : Blk w b cs T) (i : Nat) (v : Value) : Blk (w.setCell ⟨b, i, none⟩ v) b (cs.set i v) T := by
  unfold Blk at *
  simp only [World.setCell, Array.getElem?_modify, if_true, h, Option.map_some]
  simp
theorem Blk.other {w : World} {b : Nat} {cs : List Value} {T : TypeId} (h : Blk w b cs T) {a : Addr} (hn : b ≠ a.block) (v : Value) : Blk (w.setCell a v) b cs T := by
  have := Below.heap_setCell w a v b hn; unfold Blk at *; rw [this]; exact h

theorem setCell_setCell (w : World) (b i : Nat) (v v' : Value) : (w.setCell ⟨b, i, none⟩ v).setCell ⟨b, i, none⟩ v' = w.setCell ⟨b, i, none⟩ v' := by
  unfold World.setCell
  simp only
  congr 1
  apply Array.ext_getElem?
  intro j
  simp only [Array.getElem?_modify]
  split
  · cases w.heap[j]? with
    | none => rfl
    | some o => cases o <;> simp
  · rfl

theorem take_succ_getD {α : Type} (l : List α) (d : α) (k : Nat) (h : k < l.length) : l.take (k+1) = l.take k ++ [l.getD k d] := by
  rw [List.take_succ_eq_append_getElem h]; simp [List.getD_eq_getElem?_getD, h]
end Go.Proofs.Ytcoaobdijlppgaa
/- Laws of this work's own on memory that a call makes: append of whatever source onto an owned row; rows of bytes. No condition. -/
namespace Go.Proofs.Ytcoaobdijlppgaa
open Go.ChangeShapes Go.WideShapes Go.ChangeAt Go.RowKit
set_option linter.unusedVariables false
set_option linter.unusedSimpArgs false
set_option maxRecDepth 100000

section
variable {P : Program} (w : World)

theorem run_append_room_s (t tx ty e : TypeId) (i : TypeInfo) (ht : P.underlying t = some (.slice e)) (hi : P.info? e = some i)
    (g sLen sCap : Nat) (cur : Array Value) (hg : w.heap[g]? = some (.cells cur e (0, 0))) (x : Value) (m : Nat) (news : List Value) (hs : Src P i.size tx x m news w)
    (hroom : sLen + m ≤ sCap) (hfit : sLen * i.size + news.length ≤ cur.size) :
    (Builtin.append_ #[t, tx] ty #[.slice (some ⟨g, 0, none⟩) sLen sCap, x]).run P w =
      .ok (.slice (some ⟨g, 0, none⟩) (sLen + m) sCap) (w.setRow g (cur.toList.take (sLen * i.size) ++ news ++ cur.toList.drop (sLen * i.size + news.length)).toArray) := by
  have hst := run_storeCells_at P g (sLen * i.size) e news 0 cur w hg (by simpa using hfit) hs.one
  simp only [Nat.add_zero] at hst
  rcases hs.kind with ⟨e', hk⟩ | hk <;> simp [Builtin.append_, run_underlying ht, run_underlying hk, sizeOf, typeInfo, hi, hs.len, hroom, hs.cells, Addr.add_lit, hst]

theorem run_append_src (base : Nat) (t tx ty e : TypeId) (i : TypeInfo) (z : Value) (size bytes : Nat) (ht : P.underlying t = some (.slice e)) (hi : P.info? e = some i) (hz : i.zero = some z)
    (hsize : i.size = size) (hby : i.bytes = bytes) (hzs : z.cells.size = size) (hsz : 0 < size)
    (v : Value) (n : Nat) (xs : List Value) (hown : w.ownsRow base e size v n xs)
    (x : Value) (m : Nat) (news : List Value) (hs : Src P size tx x m news w)
    (h63 : n + m ≤ maxLen) (hbytes : (n + m) * bytes ≤ 140737488355328) (hbase : base ≤ w.heap.size) :
    ∃ v' w', (Builtin.append_ #[t, tx] ty #[v, x]).run P w = .ok v' w' ∧ w'.ownsRow base e size v' (n + m) (xs ++ news) ∧ w.grownBy w' v.ownBlock ∧
      (v' = .slice none 0 0 ↔ v = .slice none 0 0 ∧ m = 0) ∧ (∀ k, v'.ownBlock = some k → v.ownBlock = some k ∨ w.heap.size ≤ k) := by
  subst hsize
  subst hby
  have hl : news.length = m * i.size := hs.newsLen
  have hsmall : n + m ≤ 9223372036854775807 := by simp only [maxLen] at h63; omega
  have hlen : (xs ++ news).length = (n + m) * i.size := by rw [List.length_append, hown.1, hl, Nat.add_mul]
  have grown : ∀ (old : Nat), old < n + m → ∀ (row : Option Nat),
      (w.drew.alloc (.cells ((xs ++ news).toArray ++ Builtin.zeroCells z.cells (grownCap w (n + m) old e - (n + m))) e)).ownsRow base e i.size
        (.slice (some ⟨w.heap.size, 0, none⟩) (n + m) (grownCap w (n + m) old e)) (n + m) (xs ++ news) ∧
      w.grownBy (w.drew.alloc (.cells ((xs ++ news).toArray ++ Builtin.zeroCells z.cells (grownCap w (n + m) old e - (n + m))) e)) row := by
    intro old ho row
    have hge := grownCap_ge w (n + m) old e
    have hcm : grownCap w (n + m) old e ≤ maxLen := grownCap_le_maxLen w (n + m) old e h63
    refine ⟨⟨hlen, .inr ⟨w.heap.size, _, _, rfl, hbase, heap_alloc_new w.drew _, hge, hcm, ?_, ?_⟩⟩, ⟨rfl, rfl, rfl, by simp, fun k hk _ => Below.heap_alloc w.drew _ k hk⟩⟩
    · simp only [Array.size_append, List.size_toArray, size_zeroCells, hzs, hlen, ← Nat.add_mul]
      congr 1
      omega
    · simp only [Array.toList_append]
      rw [← hlen]
      exact List.take_left
  rcases hown.2 with ⟨rfl, rfl⟩ | ⟨g, cap, cur, rfl, hbg, hg, hnc, hcm, hcs, htake⟩
  · have hx : xs = [] := List.eq_nil_of_length_eq_zero (by simpa using hown.1)
    subst hx
    by_cases hm : m = 0
    · subst hm
      have hn : news = [] := List.eq_nil_of_length_eq_zero (by simpa using hl)
      subst hn
      refine ⟨.slice none 0 0, w, ?_, World.ownsRow_nil w base e i.size, ⟨rfl, rfl, rfl, Nat.le_refl _, fun _ _ _ => rfl⟩, by simp, fun k hk => .inl hk⟩
      have h0 := hs.cells
      rcases hs.kind with ⟨e', hk⟩ | hk <;> simp [Builtin.append_, run_underlying ht, run_underlying hk, sizeOf, typeInfo, hi, hs.len, h0]
    · have hr := run_append_grow_src (P := P) w t tx ty e i z ht hi hz none 0 0 [] (run_firstCells_none _ _ _ _ _) x m news hs (by omega) (by omega) (growslice_fits (by omega) hbytes)
      have hgr := grown 0 (by omega) (Value.ownBlock (.slice none 0 0))
      simp only [Nat.zero_add, List.nil_append] at hgr hr ⊢
      exact ⟨_, _, hr, hgr.1, hgr.2, by simp [hm], fun k hk => .inr (by cases hk; exact Nat.le_refl _)⟩
  · by_cases hroom : n + m ≤ cap
    · have hfit : n * i.size + news.length ≤ cur.size := by rw [hl, hcs, ← Nat.add_mul]; exact Nat.mul_le_mul_right _ hroom
      have hr := run_append_room_s (P := P) w t tx ty e i ht hi g n cap cur hg x m news hs hroom hfit
      refine ⟨_, _, hr, ⟨hlen, .inr ⟨g, cap, _, rfl, hbg, setRow_heap w g cur _ e _ hg, hroom, hcm, ?_, ?_⟩⟩, ⟨rfl, rfl, rfl, by simp, fun k _ hk => setRow_other w g k _ (fun e => hk (by simp [Value.ownBlock, e]))⟩, by simp, fun k hk => .inl hk⟩
      · simp only [List.size_toArray, List.length_append, List.length_take, List.length_drop, Array.length_toList]
        omega
      · rw [htake, ← hlen]
        exact List.take_left
    · have holds : ∀ j u, xs[j]? = some u → w.cell? ((⟨g, 0, none⟩ : Addr).add j) = some u := hown.cells (g := g) rfl
      have hr := run_append_grow_src (P := P) w t tx ty e i z ht hi hz (some ⟨g, 0, none⟩) n cap xs (run_firstCells_some w.drew i.size n ⟨g, 0, none⟩ n cap xs hown.1 (by simpa using holds)) x m news hs (by omega) (by omega) (growslice_fits (by omega) hbytes)
      have hgr := grown cap (by omega) (Value.ownBlock (.slice (some ⟨g, 0, none⟩) n cap))
      exact ⟨_, _, hr, hgr.1, hgr.2, by simp, fun k hk => .inr (by cases hk; exact Nat.le_refl _)⟩

/-- An append of whatever source onto a row of the call's own. -/
theorem wpList_append_src {ops : Array Oper} {rest : List Oper} {o : Oper} {a : Act} {Q : Exit → Act → World → Prop} (hgd : o.guard = none) (s x : Operand) (t tx : TypeId)
    (ho : o.op = .call { callee := .builtin .append, args := #[s, x], argTypes := #[t, tx] })
    (base : Nat) (e : TypeId) (i : TypeInfo) (z : Value) (size bytes : Nat) (ht : P.underlying t = some (.slice e)) (hi : P.info? e = some i) (hz : i.zero = some z)
    (hsize : i.size = size) (hby : i.bytes = bytes) (hzs : z.cells.size = size) (hsz : 0 < size)
    (v : Value) (n : Nat) (xs : List Value) (hs : a.eval s = v) (hown : w.ownsRow base e size v n xs)
    (xv : Value) (m : Nat) (news : List Value) (hx : a.eval x = xv) (hsrc : Src P size tx xv m news w)
    (h63 : n + m ≤ maxLen) (hbytes : (n + m) * bytes ≤ 140737488355328) (hbase : base ≤ w.heap.size)
    (h : ∀ v' w', w'.ownsRow base e size v' (n + m) (xs ++ news) → w.grownBy w' v.ownBlock → (v' = .slice none 0 0 ↔ v = .slice none 0 0 ∧ m = 0) → (∀ k, v'.ownBlock = some k → v.ownBlock = some k ∨ w.heap.size ≤ k) → wpList P ops Q rest (a.put o.dst v') w') : wpList P ops Q (o :: rest) a w := by
  obtain ⟨v', w', hr, h2, h3, h4, h5⟩ := run_append_src (P := P) w base t tx o.type e i z size bytes ht hi hz hsize hby hzs hsz v n xs hown xv m news hsrc h63 hbytes hbase
  refine wpList_plain hgd fun K hK => ?_
  unfold Oper.wp execOp
  simp only [ho, resolve, invoke, builtin, Sem.run_bind, Sem.run_pure, Result.andThen_ok, List.map_toArray, List.map_cons, List.map_nil, hs, hx, hr]
  exact hK _ _ (h v' w' h2 h3 h4 h5)
end

/-- A byte as a cell. -/
def bc (b : Nat) : Value := .int .u8 (b : Int)
def bcs (l : List Nat) : List Value := l.map bc
@[simp] theorem bcs_length (l : List Nat) : (bcs l).length = l.length := by simp [bcs]
@[simp] theorem bcs_append (l m : List Nat) : bcs (l ++ m) = bcs l ++ bcs m := by simp [bcs]
theorem bcs_one (l : List Nat) : ∀ u ∈ bcs l, u.oneCell' = true := by
  intro u hu
  obtain ⟨b, _, rfl⟩ := List.mem_map.1 hu
  rfl
theorem bcs_at (l : List Nat) (i : Nat) (h : i < l.length) : (bcs l)[i]? = some (bc (l.getD i 0)) := by
  simp [bcs, List.getElem?_map, List.getD_eq_getElem?_getD, h]

/-- A slice that can be read: nil, or a row of cells, sz for each of its n elements. -/
structure Rv (w : World) (sz : Nat) (v : Value) (n : Nat) (vs : List Value) : Prop where
  len : vs.length = n * sz
  val : ∃ a cap, v = .slice a n cap ∧ n ≤ cap ∧ (0 < vs.length → ∃ sb so, a = some ⟨sb, so, none⟩ ∧ sb < w.heap.size ∧ ∀ i, i < vs.length → w.cell? ⟨sb, so + i, none⟩ = vs[i]?)
theorem Rv.nil (w : World) (sz : Nat) : Rv w sz (.slice none 0 0) 0 [] := ⟨by simp, none, 0, rfl, by simp, fun h => by simp at h⟩
theorem Rv.keep {w w' : World} {sz : Nat} {v : Value} {n : Nat} {vs : List Value} {S : List Nat} (h : Rv w sz v n vs) (k : Keep S w w') (hS : ∀ b, v.ownBlock = some b → b < w.heap.size → b ∉ S) : Rv w' sz v n vs := by
  obtain ⟨hl, a, cap, rfl, hc, h⟩ := h
  refine ⟨hl, a, cap, rfl, hc, fun hl => ?_⟩
  obtain ⟨sb, so, rfl, hs, hat⟩ := h hl
  exact ⟨sb, so, rfl, Nat.lt_of_lt_of_le hs k.size, fun i hi => by rw [k.cell hs (hS sb rfl hs)]; exact hat i hi⟩
theorem Rv.alloc {w : World} {sz : Nat} {v : Value} {n : Nat} {vs : List Value} (h : Rv w sz v n vs) (o : Obj) : Rv (w.alloc o) sz v n vs := h.keep ((Keep.refl [] _).alloc o) (by simp)
/-- What an append of such a slice brings. -/
theorem Rv.src {P : Program} {w : World} {sz : Nat} {v : Value} {n : Nat} {vs : List Value} {t e : TypeId} (h : Rv w sz v n vs) (ht : P.underlying t = some (.slice e)) (h1 : ∀ u ∈ vs, u.oneCell' = true) : Src P sz t v n vs w := by
  obtain ⟨hl, a, cap, rfl, hc, h⟩ := h
  by_cases hp : 0 < vs.length
  · obtain ⟨sb, so, rfl, hs, hat⟩ := h hp
    refine Src.ofSlice w ht ⟨sb, so, none⟩ n cap vs hl ?_ h1
    intro j u hu
    have hj : j < vs.length := (List.getElem?_eq_some_iff.1 hu).1
    rw [← hu, ← hat j hj]
    by_cases h0 : j = 0
    · subst h0; simp [Addr.add]
    · simp [Addr.add, h0]
  · have : vs = [] := List.eq_nil_of_length_eq_zero (by omega)
    subst this
    cases a with
    | none =>
      rcases Nat.eq_zero_or_pos n with rfl | hn
      · exact Src.ofNil w ht cap
      · have hz : sz = 0 := by
          rcases Nat.mul_eq_zero.1 (show n * sz = 0 from hl.symm) with h0 | h0
          · omega
          · exact h0
        subst hz
        exact ⟨.inl ⟨e, ht⟩, fun _ => rfl, by simp [Builtin.firstCells, loadCells, loadCellsFrom], by simp [Builtin.firstCells, loadCells, loadCellsFrom], hl, fun _ h => by cases h⟩
    | some a => exact Src.ofSlice w ht a n cap [] hl (by simp) (by simp)
/-- The cell of an element of one cell. -/
theorem Rv.at1 {w : World} {v : Value} {n : Nat} {vs : List Value} (h : Rv w 1 v n vs) (hn : 0 < n) : ∃ sb so cap, v = .slice (some ⟨sb, so, none⟩) n cap ∧ n ≤ cap ∧ sb < w.heap.size ∧ ∀ i, i < n → w.cell? ⟨sb, so + i, none⟩ = vs[i]? := by
  obtain ⟨hl, a, cap, rfl, hc, h⟩ := h
  obtain ⟨sb, so, rfl, hs, hat⟩ := h (by omega)
  exact ⟨sb, so, cap, rfl, hc, hs, fun i hi => hat i (by omega)⟩
theorem ownsRow_rv {w : World} {base : Nat} {e : TypeId} {sz : Nat} {v : Value} {n : Nat} {vs : List Value} (h : w.ownsRow base e sz v n vs) : Rv w sz v n vs := by
  rcases h.2 with ⟨rfl, hn⟩ | ⟨g, cap, cur, rfl, hb, hg, hle, _⟩
  · subst hn
    have : vs = [] := List.eq_nil_of_length_eq_zero (by simpa using h.1)
    subst this; exact Rv.nil w sz
  · refine ⟨h.1, _, cap, rfl, hle, fun hl => ⟨g, 0, rfl, ?_, fun i hi => ?_⟩⟩
    · rcases Nat.lt_or_ge g w.heap.size with h' | h'
      · exact h'
      · rw [Array.getElem?_eq_none h'] at hg; cases hg
    · have := World.ownsRow.cells h (g := g) rfl i _ (List.getElem?_eq_getElem hi)
      rw [List.getElem?_eq_getElem hi, ← this]
      by_cases h0 : i = 0
      · subst h0; simp [Addr.add]
      · simp [Addr.add, h0]
theorem ownsRow_slice {w : World} {base : Nat} {e : TypeId} {sz : Nat} {v : Value} {n : Nat} {xs : List Value} (h : w.ownsRow base e sz v n xs) : ∃ a c, v = .slice a n c := by
  rcases h.2 with ⟨rfl, rfl⟩ | ⟨g, c, cur, rfl, _⟩
  · exact ⟨none, 0, rfl⟩
  · exact ⟨_, c, rfl⟩
/-- A new block, as a slice. -/
theorem Rv.new (w : World) (vs : List Value) (T : TypeId) (sz n cap : Nat) (hl : vs.length = n * sz) (hc : n ≤ cap) (b : Nat) (hb : b = w.heap.size) : Rv (w.alloc (.cells vs.toArray T)) sz (.slice (some ⟨b, 0, none⟩) n cap) n vs := by
  subst hb
  refine ⟨hl, _, cap, rfl, hc, fun _ => ⟨w.heap.size, 0, rfl, by simp, fun i hi => ?_⟩⟩
  rw [(Blk.new w vs T).cell, Nat.zero_add]

/-- Bytes that can be read. -/
abbrev Rd (w : World) (v : Value) (l : List Nat) : Prop := Rv w 1 v l.length (bcs l)
theorem Rd.keep0 {w w' : World} {v : Value} {l : List Nat} {S : List Nat} (h : Rd w v l) (k : Keep S w w') (hS : ∀ b, v.ownBlock = some b → 0 < l.length → b ∉ S) : Rd w' v l := by
  obtain ⟨hl, a, cap, rfl, hc, h⟩ := h
  refine ⟨hl, a, cap, rfl, hc, fun hl => ?_⟩
  obtain ⟨sb, so, rfl, hs, hat⟩ := h hl
  exact ⟨sb, so, rfl, Nat.lt_of_lt_of_le hs k.size, fun i hi => by rw [k.cell hs (hS sb rfl (by simpa using hl))]; exact hat i hi⟩
theorem Rd.lo {w : World} {v : Value} {l : List Nat} (h : Rd w v l) : ∀ b, v.ownBlock = some b → 0 < l.length → b < w.heap.size := by
  obtain ⟨hl, a, cap, rfl, hc, h⟩ := h
  intro b hb hp
  obtain ⟨sb, so, rfl, hs, hat⟩ := h (by simpa using hp)
  cases hb
  exact hs
theorem Rd.src {P : Program} {w : World} {v : Value} {l : List Nat} {t e : TypeId} (h : Rd w v l) (ht : P.underlying t = some (.slice e)) : Src P 1 t v l.length (bcs l) w := Rv.src h ht (bcs_one l)

/-- A row of bytes of the call's own, from block 'base' on. -/
def Buf (w : World) (base : Nat) (E : TypeId) (v : Value) (l : List Nat) : Prop := w.ownsRow base E 1 v l.length (bcs l)
theorem Buf.nil (w : World) (base : Nat) (E : TypeId) : Buf w base E (.slice none 0 0) [] := World.ownsRow_nil w base E 1
theorem Buf.slice {w : World} {base : Nat} {E : TypeId} {v : Value} {l : List Nat} (h : Buf w base E v l) : ∃ a cap, v = .slice a l.length cap := by
  rcases h.2 with ⟨rfl, hn⟩ | ⟨g, cap, cur, rfl, _⟩
  · exact ⟨none, 0, by rw [hn]⟩
  · exact ⟨_, _, rfl⟩
theorem Buf.rd {w : World} {base : Nat} {E : TypeId} {v : Value} {l : List Nat} (h : Buf w base E v l) : Rd w v l := ownsRow_rv h
theorem Buf.keep {w w' : World} {base : Nat} {E : TypeId} {v : Value} {l : List Nat} {S : List Nat} (h : Buf w base E v l) (k : Keep S w w') (hS : ∀ b, v.ownBlock = some b → b ∉ S) : Buf w' base E v l := by
  refine ⟨h.1, ?_⟩
  rcases h.2 with ⟨rfl, hn⟩ | ⟨g, cap, cur, rfl, hb, hg, r⟩
  · exact .inl ⟨rfl, hn⟩
  · refine .inr ⟨g, cap, cur, rfl, hb, ?_, r⟩
    have hlt : g < w.heap.size := by
      rcases Nat.lt_or_ge g w.heap.size with h' | h'
      · exact h'
      · rw [Array.getElem?_eq_none h'] at hg; cases hg
    rw [k.block g hlt (hS g rfl)]; exact hg
theorem Buf.alloc {w : World} {base : Nat} {E : TypeId} {v : Value} {l : List Nat} (h : Buf w base E v l) (o : Obj) : Buf (w.alloc o) base E v l :=
  h.keep ((Keep.refl [] _).alloc _) (by simp)
/-- One byte, laid in a block of its own ahead of an append. -/
theorem src_new1 {P : Program} {t e : TypeId} (ht : P.underlying t = some (.slice e)) (w : World) (X : Nat) (T : TypeId) :
    Src P 1 t (.slice (some ⟨w.heap.size, 0, none⟩) 1 1) 1 (bcs [X]) (w.alloc (.cells #[.int .u8 (X : Int)] T)) := by
  refine Src.ofSlice _ ht ⟨w.heap.size, 0, none⟩ 1 1 (bcs [X]) rfl ?_ (bcs_one _)
  intro j u hu
  match j, hu with
  | 0, hu => simp [bcs] at hu; subst hu; simp [Addr.add, bc]
  | j + 1, hu => simp [bcs] at hu
theorem Buf.mono {w : World} {base base' : Nat} {E : TypeId} {v : Value} {l : List Nat} (h : Buf w base E v l) (hb : base' ≤ base) : Buf w base' E v l := by
  refine ⟨h.1, ?_⟩
  rcases h.2 with ⟨rfl, hn⟩ | ⟨g, cap, cur, rfl, hg, r⟩
  · exact .inl ⟨rfl, hn⟩
  · exact .inr ⟨g, cap, cur, rfl, Nat.le_trans hb hg, r⟩
theorem Buf.lt {w : World} {base : Nat} {E : TypeId} {v : Value} {l : List Nat} (h : Buf w base E v l) : ∀ k, v.ownBlock = some k → base ≤ k ∧ k < w.heap.size := World.ownsRow.lt h
theorem Keep.grown {w w' : World} {row : Option Nat} (h : w.grownBy w' row) : Keep row.toList w w' :=
  ⟨h.os, h.tape, h.output, h.size, fun k hk hn => h.block k hk (fun e => hn (by simp [← e]))⟩

/-- What an append or a Put leaves: the row longer, in the same block or a new one; nothing else has turned. -/
structure Onto (w : World) (base : Nat) (E : TypeId) (v : Value) (l : List Nat) (v' : Value) (w' : World) : Prop where
  buf : Buf w' base E v' l
  keep : Keep v.ownBlock.toList w w'
  own : ∀ k, v'.ownBlock = some k → v.ownBlock = some k ∨ w.heap.size ≤ k
theorem Onto.refl {w : World} {base : Nat} {E : TypeId} {v : Value} {l : List Nat} (h : Buf w base E v l) : Onto w base E v l v w := ⟨h, Keep.refl _ _, fun _ h => .inl h⟩
theorem Onto.alloc {w w' : World} {base : Nat} {E : TypeId} {v v' : Value} {l : List Nat} (h : Onto w base E v l v' w') (o : Obj) : Onto w base E v l v' (w'.alloc o) := ⟨h.buf.alloc o, h.keep.alloc o, h.own⟩
theorem Onto.app {w w1 w2 : World} {base : Nat} {E : TypeId} {v v1 v2 : Value} {l m : List Nat} (h : Onto w base E v l v1 w1) (h1 : w2.ownsRow base E 1 v2 (l.length + m.length) (bcs l ++ bcs m)) (h2 : w1.grownBy w2 v1.ownBlock)
    (h3 : ∀ k, v2.ownBlock = some k → v1.ownBlock = some k ∨ w1.heap.size ≤ k) : Onto w base E v (l ++ m) v2 w2 := by
  refine ⟨by unfold Buf; rw [List.length_append, bcs_append]; exact h1, h.keep.then (Keep.grown h2) ?_, fun k hk => ?_⟩
  · intro x hx hlt
    have e : v1.ownBlock = some x := by simpa using hx
    rcases h.own x e with h' | h'
    · simp [h']
    · omega
  · rcases h3 k hk with h' | h'
    · exact h.own k h'
    · exact .inr (Nat.le_trans h.keep.size h')
theorem Onto.trans {w w1 w2 : World} {base : Nat} {E : TypeId} {v v1 v2 : Value} {l m : List Nat} (h : Onto w base E v l v1 w1) (k : Onto w1 base E v1 m v2 w2) : Onto w base E v m v2 w2 := by
  refine ⟨k.buf, h.keep.then k.keep ?_, fun x hx => ?_⟩
  · intro x hx hlt
    have e : v1.ownBlock = some x := by simpa using hx
    rcases h.own x e with h' | h'
    · simp [h']
    · omega
  · rcases k.own x hx with h' | h'
    · exact h.own x h'
    · exact .inr (Nat.le_trans h.keep.size h')

/-- A slice of integers that came in: nil, or a row. -/
def IsRow (k : IntKind) (w : World) (a : Option Addr) (len cap : Nat) (zs : List Int) : Prop :=
  (a = none ∧ len = 0 ∧ cap = 0 ∧ zs = []) ∨
  ∃ x, a = some x ∧ len ≤ cap ∧ cap ≤ maxLen ∧ zs.length = cap ∧ (∀ i, i < zs.length → w.cell? (x.add i) = some (.int k (zs.getD i 0))) ∧ ∀ n ∈ zs, (Lit.int k n).wf = true
/-- An address that leads to a cell, and those behind it. -/
theorem addr_cell {w : World} {a : Addr} (h : (w.cell? a).isSome = true) : ∃ sb so, a = ⟨sb, so, none⟩ ∧ sb < w.heap.size ∧ ∀ i, a.add i = ⟨sb, so + i, none⟩ := by
  obtain ⟨sb, so, sp⟩ := a
  have hsp : sp = none := by
    cases sp with
    | none => rfl
    | some q => unfold World.cell? at h; split at h <;> simp at h
  subst hsp
  have hb : sb < w.heap.size := by
    rcases Nat.lt_or_ge sb w.heap.size with h' | h'
    · exact h'
    · simp [World.cell?, Array.getElem?_eq_none h'] at h
  refine ⟨sb, so, rfl, hb, fun i => ?_⟩
  by_cases hi : i = 0
  · subst hi; simp [Addr.add]
  · simp [Addr.add, hi]
theorem IsRow.rv {k : IntKind} {w : World} {a : Option Addr} {len cap : Nat} {zs : List Int} (h : IsRow k w a len cap zs) :
    (zs.take len).length = len ∧ len ≤ 9223372036854775807 ∧ Rv w 1 (.slice a len cap) len ((zs.take len).map (Value.int k)) ∧ ∀ n ∈ zs.take len, (Lit.int k n).wf = true := by
  rcases h with ⟨rfl, rfl, rfl, rfl⟩ | ⟨x, rfl, hlc, hcm, hzl, hz, hwf⟩
  · exact ⟨rfl, by omega, Rv.nil w 1, by simp⟩
  · unfold maxLen at hcm
    have hl : (zs.take len).length = len := by rw [List.length_take]; omega
    refine ⟨hl, by omega, ⟨by simp [hl]; omega, some x, cap, rfl, hlc, fun hp => ?_⟩, fun n hn => hwf n (List.mem_of_mem_take hn)⟩
    rw [List.length_map, hl] at hp
    have h0 := hz 0 (by omega)
    have h00 : x.add 0 = x := by simp [Addr.add]
    obtain ⟨sb, so, rfl, hsb, hadd⟩ := addr_cell (w := w) (a := x) (by rw [← h00, h0]; rfl)
    refine ⟨sb, so, rfl, hsb, fun i hi => ?_⟩
    rw [List.length_map, hl] at hi
    have := hz i (by omega)
    rw [hadd] at this
    rw [this, List.getElem?_map, List.getElem?_take, if_pos hi, List.getElem?_eq_getElem (by omega)]
    simp [List.getD_eq_getElem?_getD, List.getElem?_eq_getElem (show i < zs.length by omega)]
/-- Bytes that came in. -/
theorem IsRow.rd {w : World} {a : Option Addr} {len cap : Nat} {zs : List Int} (h : IsRow .u8 w a len cap zs) : ∃ l : List Nat, l.length = len ∧ len ≤ 9223372036854775807 ∧ Rd w (.slice a len cap) l ∧ ∀ c ∈ l, c < 256 := by
  obtain ⟨h1, h2, h3, h4⟩ := h.rv
  have hb : ∀ n ∈ zs.take len, 0 ≤ n ∧ n < 256 := fun n hn => by
    have := h4 n hn
    simp [Lit.wf, IntKind.min, IntKind.max, IntKind.signed, IntKind.bits] at this
    omega
  refine ⟨(zs.take len).map Int.toNat, by simpa using h1, h2, ?_, ?_⟩
  · unfold Rd
    have e : bcs ((zs.take len).map Int.toNat) = (zs.take len).map (Value.int .u8) := by
      unfold bcs
      rw [List.map_map]
      apply List.map_congr_left
      intro n hn
      have := hb n hn
      simp [bc]; omega
    rw [e, List.length_map, h1]
    exact h3
  · intro c hc
    obtain ⟨n, hn, rfl⟩ := List.mem_map.1 hc
    have := hb n hn
    omega
theorem i64_wf {n : Int} (h : (Lit.int .i64 n).wf = true) : -9223372036854775808 ≤ n ∧ n ≤ 9223372036854775807 := by
  simp [Lit.wf, IntKind.min, IntKind.max, IntKind.signed, IntKind.bits] at h
  omega
end Go.Proofs.Ytcoaobdijlppgaa
/- The rows of a few types in the program's table; integers and texts as cells. No condition. -/
namespace Go.Proofs.Ytcoaobdijlppgaa
open Go.ChangeShapes Go.WideShapes Go.ChangeAt Go.RowKit
set_option linter.unusedVariables false
set_option linter.unusedSimpArgs false
set_option maxRecDepth 100000

theorem Try.info8 : (Try.prog.info? 5).map (fun i => (i.zero, i.size, i.bytes)) = some (some (.int .u8 0), 1, 1) := by kernel_rfl
theorem Try.infoS : (Try.prog.info? 9).map (fun i => (i.zero, i.size, i.bytes)) = some (some (.string ByteArray.empty), 1, 16) := by kernel_rfl
theorem Try.infoI : (Try.prog.info? 3).map (fun i => (i.zero, i.size, i.bytes)) = some (some (.int .i64 0), 1, 8) := by kernel_rfl
theorem Try.info64 : (Try.prog.info? 2).map (fun i => (i.zero, i.size, i.bytes)) = some (some (.int .i64 0), 1, 8) := by kernel_rfl
theorem Try.infoB : (Try.prog.info? 4).map (fun i => (i.zero, i.size, i.bytes)) = some (some (.bool false), 1, 1) := by kernel_rfl
theorem Try.infoBs : (Try.prog.info? 70).map (fun i => (i.zero, i.size, i.bytes)) = some (some (.slice none 0 0), 1, 24) := by kernel_rfl

def ints (l : List Int) : List Value := l.map (Value.int .i64)
theorem ints_at (l : List Int) (i : Nat) (h : i < l.length) : (ints l)[i]? = some (.int .i64 (l.getD i 0)) := by
  simp [ints, List.getElem?_map, List.getD_eq_getElem?_getD, h]
def I64 (n : Int) : Prop := -9223372036854775808 ≤ n ∧ n ≤ 9223372036854775807

/-- A text's bytes as numbers. -/
def sb (t : ByteArray) : List Nat := t.data.toList.map UInt8.toNat
theorem sb_length (t : ByteArray) : (sb t).length = t.size := by simp [sb]
theorem byteCells_sb (t : ByteArray) : byteCells t = bcs (sb t) := by
  simp [byteCells, bcs, sb, bc, List.map_map, Function.comp_def]
def strs (l : List ByteArray) : List Value := l.map Value.string
theorem strs_at (l : List ByteArray) (i : Nat) (h : i < l.length) : (strs l)[i]? = some (.string (l.getD i ByteArray.empty)) := by
  simp [strs, List.getElem?_map, List.getD_eq_getElem?_getD, h]
theorem ints_one (l : List Int) : ∀ u ∈ ints l, u.oneCell' = true := by
  intro u hu
  obtain ⟨b, _, rfl⟩ := List.mem_map.1 hu
  rfl
@[simp] theorem ints_length (l : List Int) : (ints l).length = l.length := by simp [ints]
@[simp] theorem ints_append (l m : List Int) : ints (l ++ m) = ints l ++ ints m := by simp [ints]
theorem strs_one (l : List ByteArray) : ∀ u ∈ strs l, u.oneCell' = true := by
  intro u hu
  obtain ⟨b, _, rfl⟩ := List.mem_map.1 hu
  rfl
@[simp] theorem strs_length (l : List ByteArray) : (strs l).length = l.length := by simp [strs]
/-- Truth values as cells. -/
def bools (l : List Bool) : List Value := l.map Value.bool
@[simp] theorem bools_length (l : List Bool) : (bools l).length = l.length := by simp [bools]
theorem bools_at (l : List Bool) (i : Nat) (h : i < l.length) : (bools l)[i]? = some (.bool (l.getD i false)) := by
  simp [bools, List.getElem?_map, List.getD_eq_getElem?_getD, h]
end Go.Proofs.Ytcoaobdijlppgaa
/- Numbers and texts as bytes: plain Lean, no program. -/
namespace Go.Proofs.Ytcoaobdijlppgaa

/-- An integer's number, and back. -/
def zz (n : Int) : Nat := if 0 ≤ n then (2 * n).toNat else (-2 * n - 1).toNat
def unzz (u : Nat) : Int := if u % 2 = 1 then -((u / 2 : Nat) : Int) - 1 else ((u / 2 : Nat) : Int)
theorem unzz_zz (n : Int) : unzz (zz n) = n := by
  unfold unzz zz; split <;> split <;> omega
theorem zz_unzz (u : Nat) : zz (unzz u) = u := by
  unfold unzz zz; split <;> split <;> omega
theorem zz_lt (n : Int) (h0 : -9223372036854775808 ≤ n) (h1 : n ≤ 9223372036854775807) : zz n < 18446744073709551616 := by
  unfold zz; split <;> omega

/-- Seven bits a byte. -/
def leb (u : Nat) : List Nat := if u < 128 then [u] else (u % 128 + 128) :: leb (u / 128)
termination_by u
decreasing_by omega
theorem leb_small (u : Nat) (h : u < 128) : leb u = [u] := by rw [leb, if_pos h]
theorem leb_big (u : Nat) (h : 128 ≤ u) : leb u = (u % 128 + 128) :: leb (u / 128) := by rw [leb, if_neg (by omega)]
theorem leb_ne (u : Nat) : leb u ≠ [] := by rw [leb]; split <;> simp
theorem leb_byte (u : Nat) : ∀ c ∈ leb u, c < 256 := by
  induction u using Nat.strongRecOn with
  | _ u ih =>
    intro c hc
    by_cases h : u < 128
    · rw [leb_small u h] at hc; simp at hc; omega
    · rw [leb_big u (by omega)] at hc
      rcases List.mem_cons.1 hc with rfl | hc
      · omega
      · exact ih (u / 128) (by omega) c hc
theorem leb_len (k : Nat) : ∀ u, u < 128 ^ k → 0 < k → (leb u).length ≤ k := by
  induction k with
  | zero => intro u _ h; omega
  | succ k ih =>
    intro u hu _
    by_cases h : u < 128
    · rw [leb_small u h]; simp
    · rw [leb_big u (by omega)]
      by_cases hk : k = 0
      · subst hk; simp at hu; omega
      · have := ih (u / 128) (by rw [Nat.pow_succ] at hu; omega) (by omega)
        simp; omega

/-- A number read off bytes: the number, how many bytes, the error. -/
def getGo : List Nat → Nat → Nat → Int × Nat × Nat
  | [], _, _ => (0, 0, 2)
  | c :: r, i, u => if i = 9 ∧ 1 < c then (0, 0, 1) else if 127 < c then getGo r (i + 1) (u + (c % 128) * 128 ^ i) else if 0 < i ∧ c = 0 then (0, 0, 1) else (unzz (u + c * 128 ^ i), i + 1, 0)
def get (l : List Nat) : Int × Nat × Nat := getGo l 0 0

/-- What was written is read, whatever stands behind. -/
theorem getGo_leb (r : List Nat) : ∀ (v : Nat) (i u : Nat), i ≤ 9 → v < 2 ^ (64 - 7 * i) → (0 < i → 0 < v) → getGo (leb v ++ r) i u = (unzz (u + v * 128 ^ i), i + (leb v).length, 0) := by
  intro v
  induction v using Nat.strongRecOn with
  | _ v ih =>
    intro i u hi hv hp
    by_cases h : v < 128
    · rw [leb_small v h]
      have h9 : ¬ (i = 9 ∧ 1 < v) := by
        rintro ⟨rfl, h2⟩
        simp at hv; omega
      simp only [List.cons_append, List.nil_append, getGo, h9, if_false, List.length_singleton]
      rw [if_neg (by omega), if_neg (by omega)]
    · rw [leb_big v (by omega)]
      have hi9 : i < 9 := by
        rcases Nat.lt_or_ge i 9 with h' | h'
        · exact h'
        · have : i = 9 := by omega
          subst this
          simp at hv; omega
      have h9 : ¬ (i = 9 ∧ 1 < v % 128 + 128) := by omega
      simp only [List.cons_append, getGo, h9, if_false, List.length_cons]
      rw [if_pos (by omega)]
      have hd : v / 128 < 2 ^ (64 - 7 * (i + 1)) := by
        have e : 64 - 7 * i = (64 - 7 * (i + 1)) + 7 := by omega
        rw [e, Nat.pow_add] at hv
        have : (2 : Nat) ^ 7 = 128 := rfl
        rw [this] at hv
        exact Nat.div_lt_of_lt_mul (by rw [Nat.mul_comm]; exact hv)
      rw [ih (v / 128) (by omega) (i + 1) _ (by omega) hd (by omega)]
      have e1 : (v % 128 + 128) % 128 = v % 128 := by omega
      rw [e1]
      have e2 : u + v % 128 * 128 ^ i + v / 128 * 128 ^ (i + 1) = u + v * 128 ^ i := by
        have : v = 128 * (v / 128) + v % 128 := by omega
        rw [Nat.pow_succ]
        have e3 : v * 128 ^ i = (128 * (v / 128) + v % 128) * 128 ^ i := by rw [← this]
        rw [e3, Nat.add_mul]
        have e4 : v / 128 * (128 ^ i * 128) = 128 * (v / 128) * 128 ^ i := by rw [Nat.mul_comm (128 ^ i) 128, ← Nat.mul_assoc, Nat.mul_comm (v / 128) 128]
        rw [e4]; omega
      rw [e2, show i + 1 + (leb (v / 128)).length = i + ((leb (v / 128)).length + 1) by omega]
theorem get_leb (n : Int) (h0 : -9223372036854775808 ≤ n) (h1 : n ≤ 9223372036854775807) (r : List Nat) : get (leb (zz n) ++ r) = (n, (leb (zz n)).length, 0) := by
  unfold get
  rw [getGo_leb r (zz n) 0 0 (by omega) (zz_lt n h0 h1) (by omega)]
  simp [unzz_zz]

/-- What is cut off is not all there. -/
theorem getGo_cut : ∀ (v : Nat) (i u k : Nat), i ≤ 9 → v < 2 ^ (64 - 7 * i) → k < (leb v).length → getGo ((leb v).take k) i u = (0, 0, 2) := by
  intro v
  induction v using Nat.strongRecOn with
  | _ v ih =>
    intro i u k hi hv hk
    cases k with
    | zero => simp [getGo]
    | succ k =>
      by_cases h : v < 128
      · rw [leb_small v h] at hk; simp at hk
      · rw [leb_big v (by omega)] at hk ⊢
        have hi9 : i < 9 := by
          rcases Nat.lt_or_ge i 9 with h' | h'
          · exact h'
          · have : i = 9 := by omega
            subst this
            simp at hv; omega
        have h9 : ¬ (i = 9 ∧ 1 < v % 128 + 128) := by omega
        simp only [List.take_succ_cons, getGo, h9, if_false]
        rw [if_pos (by omega)]
        have hd : v / 128 < 2 ^ (64 - 7 * (i + 1)) := by
          have e : 64 - 7 * i = (64 - 7 * (i + 1)) + 7 := by omega
          rw [e, Nat.pow_add] at hv
          have : (2 : Nat) ^ 7 = 128 := rfl
          rw [this] at hv
          exact Nat.div_lt_of_lt_mul (by rw [Nat.mul_comm]; exact hv)
        exact ih (v / 128) (by omega) (i + 1) _ k (by omega) hd (by simpa using hk)

/-- How many bytes a number took: at least one, no more than there are; its size. -/
theorem getGo_facts : ∀ (l : List Nat) (i u : Nat), i ≤ 9 → u < 128 ^ i → (∀ c ∈ l, c < 256) →
    ((getGo l i u).2.2 = 0 ∧ i < (getGo l i u).2.1 ∧ (getGo l i u).2.1 ≤ i + l.length ∧ (getGo l i u).2.1 ≤ 10 ∧ -9223372036854775808 ≤ (getGo l i u).1 ∧ (getGo l i u).1 ≤ 9223372036854775807) ∨
    ((getGo l i u).2.2 ≠ 0 ∧ (getGo l i u).2.2 ≤ 2 ∧ (getGo l i u).1 = 0 ∧ (getGo l i u).2.1 = 0) := by
  intro l
  induction l with
  | nil => intro i u _ _ _; right; simp [getGo]
  | cons c r ih =>
    intro i u hi hu hc
    have hcc : c < 256 := hc c (by simp)
    unfold getGo
    split
    · right; simp
    · rename_i h9
      split
      · rename_i h127
        have hi9 : i < 9 := by omega
        have hu' : u + c % 128 * 128 ^ i < 128 ^ (i + 1) := by
          rw [Nat.pow_succ]
          have : c % 128 * 128 ^ i ≤ 127 * 128 ^ i := Nat.mul_le_mul_right _ (by omega)
          omega
        rcases ih (i + 1) _ (by omega) hu' (fun x hx => hc x (by simp [hx])) with ⟨a, b, d, e, f, g⟩ | h
        · left; exact ⟨a, by omega, by simp; omega, e, f, g⟩
        · right; exact h
      · split
        · right; simp
        · left
          rename_i h127 h0
          have hb : u + c * 128 ^ i < 18446744073709551616 := by
            by_cases h : i = 9
            · subst h
              have hc1 : c ≤ 1 := by omega
              have : c * 128 ^ 9 ≤ 1 * 128 ^ 9 := Nat.mul_le_mul_right _ hc1
              have e9 : (128 : Nat) ^ 9 = 9223372036854775808 := rfl
              rw [e9] at *
              omega
            · have h8 : i ≤ 8 := by omega
              have hp : (128 : Nat) ^ i ≤ 128 ^ 8 := Nat.pow_le_pow_right (by decide) h8
              have e8 : (128 : Nat) ^ 8 = 72057594037927936 := rfl
              rw [e8] at hp
              have : c * 128 ^ i ≤ 127 * 128 ^ i := Nat.mul_le_mul_right _ (by omega)
              omega
          refine ⟨rfl, by dsimp only; omega, by simp only [List.length_cons]; omega, by dsimp only; omega, ?_, ?_⟩
          · simp only [unzz]; split <;> omega
          · simp only [unzz]; split <;> omega
end Go.Proofs.Ytcoaobdijlppgaa
/- Bit operations on numbers in their range, as Lean's own: plain lemmas. -/
namespace Go.Proofs.Ytcoaobdijlppgaa

theorem bits_and_u8_nat (a b : Nat) (ha : a < 256) (hb : b < 256) : bits .and .u8 (a : Int) (b : Int) = ((a &&& b : Nat) : Int) := by
  have hx : a &&& b < 2 ^ 8 := Nat.and_lt_two_pow _ (by omega)
  have h1 : (BitVec.ofInt 8 (a : Int)).toNat = a := by
    rw [BitVec.ofInt_natCast, BitVec.toNat_ofNat]; exact Nat.mod_eq_of_lt (by omega)
  have h2 : (BitVec.ofInt 8 (b : Int)).toNat = b := by
    rw [BitVec.ofInt_natCast, BitVec.toNat_ofNat]; exact Nat.mod_eq_of_lt (by omega)
  show IntKind.u8.wrap ((BitVec.ofInt 8 (a : Int) &&& BitVec.ofInt 8 (b : Int)).toNat : Int) = _
  rw [BitVec.toNat_and, h1, h2, IntKind.wrap_u8]
  omega
theorem bits_or_u8_nat (a b : Nat) (ha : a < 256) (hb : b < 256) : bits .or .u8 (a : Int) (b : Int) = ((a ||| b : Nat) : Int) := by
  have hx : a ||| b < 2 ^ 8 := Nat.or_lt_two_pow (by omega) (by omega)
  have h1 : (BitVec.ofInt 8 (a : Int)).toNat = a := by
    rw [BitVec.ofInt_natCast, BitVec.toNat_ofNat]; exact Nat.mod_eq_of_lt (by omega)
  have h2 : (BitVec.ofInt 8 (b : Int)).toNat = b := by
    rw [BitVec.ofInt_natCast, BitVec.toNat_ofNat]; exact Nat.mod_eq_of_lt (by omega)
  show IntKind.u8.wrap ((BitVec.ofInt 8 (a : Int) ||| BitVec.ofInt 8 (b : Int)).toNat : Int) = _
  rw [BitVec.toNat_or, h1, h2, IntKind.wrap_u8]
  omega
theorem or128 : ∀ x, x < 256 → x ||| 128 = x % 128 + 128 := by decide +kernel
theorem and127 (x : Nat) : x &&& 127 = x % 128 := Nat.and_two_pow_sub_one_eq_mod x 7
/-- byte(u) | 128 -/
theorem or8 (u : Nat) : bits .or .u8 (IntKind.u8.wrap (u : Int)) 128 = ((u % 128 + 128 : Nat) : Int) := by
  have e : IntKind.u8.wrap (u : Int) = ((u % 256 : Nat) : Int) := by rw [IntKind.wrap_u8]; omega
  rw [e, show (128 : Int) = ((128 : Nat) : Int) from rfl, bits_or_u8_nat _ _ (by omega) (by omega), or128 _ (by omega)]
  omega
theorem or8m (u : Nat) : bits .or .u8 ((u : Int) % 256) 128 = ((u % 128 + 128 : Nat) : Int) := by
  rw [← or8, IntKind.wrap_u8]
/-- c & 127 -/
theorem and8 (c : Nat) (h : c < 256) : bits .and .u8 (c : Int) 127 = ((c % 128 : Nat) : Int) := by
  rw [show (127 : Int) = ((127 : Nat) : Int) from rfl, bits_and_u8_nat _ _ h (by omega), and127]
theorem xor_ones (x : Nat) (h : x < 18446744073709551616) : 18446744073709551615 ^^^ x = 18446744073709551615 - x := by
  have h1 := BitVec.toNat_not (x := BitVec.ofNat 64 x)
  have h2 : (~~~ (BitVec.ofNat 64 x)) = BitVec.allOnes 64 ^^^ BitVec.ofNat 64 x := by rw [BitVec.allOnes_xor]
  rw [h2, BitVec.toNat_xor, BitVec.toNat_allOnes, BitVec.toNat_ofNat, Nat.mod_eq_of_lt h] at h1
  simpa using h1
/-- u | x << s, nothing of x below -/
theorem or_disjoint (u x s : Nat) (h : u < 2 ^ s) : u ||| x * 2 ^ s = u + x * 2 ^ s := by
  rw [Nat.or_comm, Nat.mul_comm, ← Nat.two_pow_add_eq_or_of_lt h x]
  omega
/-- ^n -/
theorem not_i64 (x : Nat) (h : x < 9223372036854775808) : bits .xor .i64 (-1) (x : Int) = -(x : Int) - 1 := by
  have h1 : BitVec.ofInt 64 (-1) = BitVec.allOnes 64 := by decide
  have h2 : (BitVec.ofInt 64 (x : Int)).toNat = x := by
    rw [BitVec.ofInt_natCast, BitVec.toNat_ofNat]; exact Nat.mod_eq_of_lt (by omega)
  show IntKind.i64.wrap ((BitVec.ofInt 64 (-1) ^^^ BitVec.ofInt 64 (x : Int)).toNat : Int) = _
  rw [h1, BitVec.toNat_xor, h2, BitVec.toNat_allOnes]
  have h3 := xor_ones x (by omega)
  have e : (2 ^ 64 - 1 : Nat) = 18446744073709551615 := rfl
  rw [e, h3, IntKind.wrap_i64]
  omega
end Go.Proofs.Ytcoaobdijlppgaa
/- The contracts of package num: put, Put, Get, PutText, GetText. -/
namespace Go.Proofs.Ytcoaobdijlppgaa
open Go.ChangeShapes Go.WideShapes Go.ChangeAt Go.RowKit
set_option linter.unusedVariables false
set_option linter.unusedSimpArgs false
set_option maxRecDepth 100000

theorem put_neg (n : Int) (n0 : -9223372036854775808 ≤ n) (hn : n < 0) : bits .xor .u64 IntKind.u64.max (IntKind.u64.wrap (IntKind.u64.wrap n * 2)) = (zz n : Int) := by
  have e : IntKind.u64.wrap (IntKind.u64.wrap n * 2) = ((18446744073709551615 - zz n : Nat) : Int) := by
    simp only [IntKind.wrap_u64]
    unfold zz
    rw [if_neg (by omega)]
    omega
  have hz := zz_lt n n0 (by omega)
  rw [e, show IntKind.u64.max = ((18446744073709551615 : Nat) : Int) from rfl, bits_xor_u64_nat _ _ (by omega) (by omega), xor_ones _ (by omega)]
  omega
theorem put_pos (n : Int) (hn : 0 ≤ n) : n * 2 = (zz n : Int) := by
  unfold zz; rw [if_pos hn]; omega
set_option maxHeartbeats 400000 in
theorem nput_any {w : World} (base : Nat) (v : Value) (l : List Nat) (n : Int) (hb : Buf w base 5 v l) (n0 : -9223372036854775808 ≤ n) (n1 : n ≤ 9223372036854775807) (hl : l.length ≤ 1099511627776) (hbase : base ≤ w.heap.size) :
    Calls Try.prog 64 #[v, .int .i64 n] w fun e w' => ∃ v', e = .returned v' ∧ Onto w base 5 v (l ++ leb (zz n)) v' w' := by
  obtain ⟨a, cap, rfl⟩ := hb.slice
  obtain ⟨i0, hi, hz0, hz1, hz2⟩ := info_parts Try.info8
  have hcase : n < 0 ∨ 0 ≤ n := by omega
  rcases hcase with hn | hn
  · go_enter Try.func64, Try.ntmps64
    go_wp2_with fail
    rw [put_neg n n0 hn]
    have hz := zz_lt n n0 n1
    generalize hZ : zz n = Z at *
    have HZ := Lib.hid hZ
    clear hZ
    go_loopw [0, 5] (fun b u wr => ∃ (l' : List Nat) (U : Nat) (v' : Value), b = v' ∧ u = .int .u64 U ∧ U < 18446744073709551616 ∧ l' ++ leb U = l ++ leb Z ∧ Onto w base 5 (.slice a l.length cap) l' v' wr) (fun _ u _ => (intOf u).toNat)
    case atStart => exact ⟨l, Z, _, rfl, rfl, hz, rfl, Onto.refl hb⟩
    case round =>
      obtain ⟨l', U, v', rfl, rfl, hU, hE, hO⟩ := hrel
      have HE := Lib.hid hE
      clear hE hb
      by_cases hbig : 127 < U
      · have q1 : (127 : Int) < U := by omega
        obtain ⟨a', cap', rfl⟩ := hO.buf.slice
        have hlen : l'.length + (leb U).length = l.length + (leb Z).length := by have := congrArg List.length HE.out; simpa using this
        have hZl := leb_len 10 Z (by omega) (by omega)
        have hks := hO.keep.size
        obtain ⟨X, hX⟩ : ∃ X : Nat, X = U % 128 + 128 := ⟨_, rfl⟩
        have hor := or8m U
        rw [← hX] at hor
        have HX := Lib.hid hX
        clear hX
        have hbuf := hO.buf
        go_wp2_with (at_builtin; refine wpList_append_src _ rfl _ _ 70 70 rfl base 5 i0 (.int .u8 0) 1 1 Try.underlying70 hi hz0 hz1 hz2 rfl (by decide) _ _ _ rfl (hbuf.alloc _) _ 1 (bcs [X]) rfl (src_new1 Try.underlying70 _ X _) (by unfold maxLen; omega) (by omega) (by simp; omega) ?_; intro v1 w1 h1 h2 _ h3)
        go_roundw
        case rel =>
          refine ⟨l' ++ [X], U / 128, v1, rfl, by go_num, by omega, ?_, (hO.alloc _).app h1 h2 h3⟩
          rw [← HE.out, leb_big U (by omega), HX.out]; simp
        case measure => simp [intOf]; omega
      · have q1 : (U : Int) ≤ 127 := by omega
        obtain ⟨a', cap', rfl⟩ := hO.buf.slice
        have hlen : l'.length + (leb U).length = l.length + (leb Z).length := by have := congrArg List.length HE.out; simpa using this
        have hZl := leb_len 10 Z (by omega) (by omega)
        have hUl := leb_ne U
        have hU1 : 0 < (leb U).length := List.length_pos_iff.2 hUl
        have hks := hO.keep.size
        have HUL := Lib.hid hUl
        clear hUl
        have hbuf := hO.buf
        go_wp2_with (at_builtin; refine wpList_append_src _ rfl _ _ 70 70 rfl base 5 i0 (.int .u8 0) 1 1 Try.underlying70 hi hz0 hz1 hz2 rfl (by decide) _ _ _ rfl (hbuf.alloc _) _ 1 (bcs [U]) rfl (src_new1 Try.underlying70 _ U _) (by unfold maxLen; omega) (by omega) (by simp; omega) ?_; intro v1 w1 h1 h2 _ h3)
        go_ret
        refine ⟨v1, rfl, ?_⟩
        have hr := (hO.alloc (.cells #[.int .u8 (U : Int)] 5)).app h1 h2 h3
        rw [← leb_small U (by omega), HE.out, ← HZ.out] at hr
        exact hr
  · go_enter Try.func64, Try.ntmps64
    go_wp2_with fail
    rw [put_pos n hn]
    have hz := zz_lt n n0 n1
    generalize hZ : zz n = Z at *
    have HZ := Lib.hid hZ
    clear hZ
    go_loopw [0, 5] (fun b u wr => ∃ (l' : List Nat) (U : Nat) (v' : Value), b = v' ∧ u = .int .u64 U ∧ U < 18446744073709551616 ∧ l' ++ leb U = l ++ leb Z ∧ Onto w base 5 (.slice a l.length cap) l' v' wr) (fun _ u _ => (intOf u).toNat)
    case atStart => exact ⟨l, Z, _, rfl, rfl, hz, rfl, Onto.refl hb⟩
    case round =>
      obtain ⟨l', U, v', rfl, rfl, hU, hE, hO⟩ := hrel
      have HE := Lib.hid hE
      clear hE hb
      by_cases hbig : 127 < U
      · have q1 : (127 : Int) < U := by omega
        obtain ⟨a', cap', rfl⟩ := hO.buf.slice
        have hlen : l'.length + (leb U).length = l.length + (leb Z).length := by have := congrArg List.length HE.out; simpa using this
        have hZl := leb_len 10 Z (by omega) (by omega)
        have hks := hO.keep.size
        obtain ⟨X, hX⟩ : ∃ X : Nat, X = U % 128 + 128 := ⟨_, rfl⟩
        have hor := or8m U
        rw [← hX] at hor
        have HX := Lib.hid hX
        clear hX
        have hbuf := hO.buf
        go_wp2_with (at_builtin; refine wpList_append_src _ rfl _ _ 70 70 rfl base 5 i0 (.int .u8 0) 1 1 Try.underlying70 hi hz0 hz1 hz2 rfl (by decide) _ _ _ rfl (hbuf.alloc _) _ 1 (bcs [X]) rfl (src_new1 Try.underlying70 _ X _) (by unfold maxLen; omega) (by omega) (by simp; omega) ?_; intro v1 w1 h1 h2 _ h3)
        go_roundw
        case rel =>
          refine ⟨l' ++ [X], U / 128, v1, rfl, by go_num, by omega, ?_, (hO.alloc _).app h1 h2 h3⟩
          rw [← HE.out, leb_big U (by omega), HX.out]; simp
        case measure => simp [intOf]; omega
      · have q1 : (U : Int) ≤ 127 := by omega
        obtain ⟨a', cap', rfl⟩ := hO.buf.slice
        have hlen : l'.length + (leb U).length = l.length + (leb Z).length := by have := congrArg List.length HE.out; simpa using this
        have hZl := leb_len 10 Z (by omega) (by omega)
        have hUl := leb_ne U
        have hU1 : 0 < (leb U).length := List.length_pos_iff.2 hUl
        have hks := hO.keep.size
        have HUL := Lib.hid hUl
        clear hUl
        have hbuf := hO.buf
        go_wp2_with (at_builtin; refine wpList_append_src _ rfl _ _ 70 70 rfl base 5 i0 (.int .u8 0) 1 1 Try.underlying70 hi hz0 hz1 hz2 rfl (by decide) _ _ _ rfl (hbuf.alloc _) _ 1 (bcs [U]) rfl (src_new1 Try.underlying70 _ U _) (by unfold maxLen; omega) (by omega) (by simp; omega) ?_; intro v1 w1 h1 h2 _ h3)
        go_ret
        refine ⟨v1, rfl, ?_⟩
        have hr := (hO.alloc (.cells #[.int .u8 (U : Int)] 5)).app h1 h2 h3
        rw [← leb_small U (by omega), HE.out, ← HZ.out] at hr
        exact hr

/-- The bytes of many numbers. -/
def putAll (l : List Int) : List Nat := (l.map fun n => leb (zz n)).flatten
theorem putAll_snoc (l : List Int) (n : Int) : putAll (l ++ [n]) = putAll l ++ leb (zz n) := by simp [putAll]

set_option maxHeartbeats 400000 in
theorem Put_any {w : World} (base : Nat) (v : Value) (l : List Nat) (ns : Value) (zs : List Int) (hb : Buf w base 5 v l) (hz : Rv w 1 ns zs.length (ints zs)) (hsep : 0 < zs.length → ∀ b, ns.ownBlock = some b → v.ownBlock ≠ some b)
    (hr : ∀ n ∈ zs, I64 n) (hl : l.length + 10 * zs.length ≤ 1099511627776) (hbase : base ≤ w.heap.size) :
    Calls Try.prog 48 #[v, ns] w fun e w' => ∃ v', e = .returned v' ∧ Onto w base 5 v (l ++ putAll zs) v' w' := by
  obtain ⟨a, cap, rfl⟩ := hb.slice
  have hz2 := hz
  obtain ⟨_, a2, cap2, rfl, hc2, _⟩ := hz
  go_enter Try.func48, Try.ntmps48
  go_wp2_with fail
  go_loopw [0, 9] (fun b i wr => ∃ (k : Nat) (v' : Value), k ≤ zs.length ∧ b = v' ∧ i = .int .i64 k ∧ Onto w base 5 (.slice a l.length cap) (l ++ putAll (zs.take k)) v' wr ∧ (l ++ putAll (zs.take k)).length ≤ l.length + 10 * k) (fun _ i _ => zs.length - (intOf i).toNat)
  case atStart => exact ⟨0, _, by omega, rfl, rfl, by simpa [putAll] using Onto.refl hb, by simp [putAll]⟩
  case round =>
    obtain ⟨k, v', hk, rfl, rfl, hO, hL⟩ := hrel
    by_cases hlt : k < zs.length
    · obtain ⟨sb, so, cap3, he, _, hsb, hat⟩ := hz2.at1 (by omega)
      simp only [Value.slice.injEq] at he
      obtain ⟨rfl, _, rfl⟩ := he
      have g4 : wr.cell? ⟨sb, so + k, none⟩ = some (.int .i64 (zs.getD k 0)) := by
        rw [hO.keep.cell hsb (by have := hsep (by omega) sb rfl; simp at this ⊢; intro e; exact this e), hat k hlt, ints_at zs k hlt]
      have st := putAll_snoc (zs.take k) (zs.getD k 0)
      rw [← take_succ_getD _ _ _ hlt] at st
      have ST := Lib.hid st
      have hx : I64 (zs.getD k 0) := hr _ (by simp [List.getD_eq_getElem?_getD, hlt])
      clear st hat hz2
      generalize zs.getD k 0 = x at *
      have hk1 : (k : Int) < zs.length := by omega
      have hks := hO.keep.size
      have h10 := leb_len 10 (zz x) (by have := zz_lt x hx.1 hx.2; omega) (by omega)
      go_wp2_with fail
      refine (nput_any base _ _ x hO.buf hx.1 hx.2 (by omega) (by omega)).mono ?_
      rintro e w1 ⟨v1, rfl, hO1⟩
      go_wp2_with fail
      go_roundw
      case rel => exact ⟨k + 1, v1, by omega, rfl, by go_num, by rw [ST.out, ← List.append_assoc]; exact hO.trans hO1, by rw [ST.out, ← List.append_assoc, List.length_append]; omega⟩
      case measure => simp [intOf]; omega
    · obtain rfl : k = zs.length := by omega
      rw [List.take_length] at hO
      go_wp2_with fail
      go_ret
      exact ⟨_, rfl, hO⟩

def putText (t : ByteArray) : List Nat := leb (zz (t.size : Int)) ++ sb t
def putTexts (l : List ByteArray) : List Nat := (l.map putText).flatten
theorem putTexts_snoc (l : List ByteArray) (t : ByteArray) : putTexts (l ++ [t]) = putTexts l ++ putText t := by simp [putTexts]

theorem putAll_len (l : List Int) (h : ∀ n ∈ l, I64 n) : (putAll l).length ≤ 10 * l.length := by
  induction l with
  | nil => simp [putAll]
  | cons x l ih =>
    have hx := h x (by simp)
    have := ih (fun n hn => h n (by simp [hn]))
    have h10 := leb_len 10 (zz x) (by have := zz_lt x hx.1 hx.2; omega) (by omega)
    simp only [putAll, List.map_cons, List.flatten_cons, List.length_append, List.length_cons] at *
    omega
theorem putAll_byte (l : List Int) : ∀ c ∈ putAll l, c < 256 := by
  intro c hc
  simp only [putAll, List.mem_flatten, List.mem_map] at hc
  obtain ⟨x, ⟨n, _, rfl⟩, hx⟩ := hc
  exact leb_byte _ c hx
end Go.Proofs.Ytcoaobdijlppgaa
