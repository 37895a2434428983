/- Base, Mem, Info, Own, Open, DevMem, Str, RegInv, Step, Short, Crc, Bump, NumMath, Bits, Num, NumGet, NumText, RefPut, Item -/
import Derived.Test.YtpibpapolcdeiaaRows
import Derived.WalkKit
import Derived.ProofKit
import Derived.OpenShut
import Derived.Handy
import Derived.Lib.Hide
import Derived.Deep.AppendSrc
import Derived.Deep.RegionHeld3
import Derived.Deep.DrawnRows
import Derived.ChangeArms
import Derived.Deep.Slices
import Derived.Laws.IdiomCopy
import Derived.Deep.MidRow
import Derived.StillTailTactics
import Derived.Lib.BufferRead
import Derived.RegionTactic
import Derived.Laws.BitsAllLaws
import Derived.Laws.BitsLemmas
import Derived.Laws.OwnMore
import Derived.Laws.Closers25b
import Derived.WalkSpells
import Derived.Deep.RegionWith
/- Plain lemmas on the model's world, of this work's own: what is kept when a few blocks are written ('Keep'), a block known whole ('Blk'). No condition. -/
namespace Go.Proofs.Ytpibpapolcdeiaa
open Go.ChangeShapes Go.WideShapes Go.ChangeAt Go.RowKit

/-- All that was there is as it was, but for the blocks in S. -/
structure Keep (S : List Nat) (w w' : World) : Prop where
  os : w'.os = w.os
  tape : w'.tape = w.tape
  output : w'.output = w.output
  size : w.heap.size ≤ w'.heap.size
  block : ∀ k, k < w.heap.size → k ∉ S → w'.heap[k]? = w.heap[k]?

theorem Keep.refl (S : List Nat) (w : World) : Keep S w w := ⟨rfl, rfl, rfl, Nat.le_refl _, fun _ _ _ => rfl⟩
theorem Keep.mono {S S' : List Nat} {w w' : World} (h : Keep S w w') (hs : ∀ k ∈ S, k < w.heap.size → k ∈ S') : Keep S' w w' :=
  ⟨h.os, h.tape, h.output, h.size, fun k hk hn => h.block k hk (fun hm => hn (hs k hm hk))⟩
theorem Keep.trans {S : List Nat} {a b c : World} (h : Keep S a b) (k : Keep S b c) : Keep S a c :=
  ⟨k.os.trans h.os, k.tape.trans h.tape, k.output.trans h.output, Nat.le_trans h.size k.size,
   fun i hi hn => (k.block i (Nat.lt_of_lt_of_le hi h.size) hn).trans (h.block i hi hn)⟩
/-- Two steps: what the second one writes may be what the first one made. -/
theorem Keep.then {S S' : List Nat} {a b c : World} (h : Keep S a b) (k : Keep S' b c) (hs : ∀ x ∈ S', x < a.heap.size → x ∈ S) : Keep S a c :=
  ⟨k.os.trans h.os, k.tape.trans h.tape, k.output.trans h.output, Nat.le_trans h.size k.size,
   fun i hi hn => (k.block i (Nat.lt_of_lt_of_le hi h.size) (fun hm => hn (hs i hm hi))).trans (h.block i hi hn)⟩
theorem Keep.below {w w' : World} (h : Keep [] w w') : Below w.heap.size w w' := ⟨h.os, h.tape, h.output, h.size, fun k hk => h.block k hk (by simp)⟩
theorem Keep.of_below {S : List Nat} {w w' : World} (h : Below w.heap.size w w') : Keep S w w' := ⟨h.os, h.tape, h.output, h.size, fun k hk _ => h.block k hk⟩
theorem Keep.alloc {S : List Nat} {a w : World} (h : Keep S a w) (o : Obj) : Keep S a (w.alloc o) :=
  ⟨h.os, h.tape, h.output, by have := h.size; simp; omega, fun k hk hn => (Below.heap_alloc _ _ _ (by have := h.size; omega)).trans (h.block k hk hn)⟩
theorem Keep.drew {S : List Nat} {a w : World} (h : Keep S a w) : Keep S a w.drew := ⟨h.os, h.tape, h.output, h.size, h.block⟩
theorem Keep.setCell {S : List Nat} {a w : World} (h : Keep S a w) {p : Addr} (hp : p.block ∈ S ∨ a.heap.size ≤ p.block) (u : Value) : Keep S a (w.setCell p u) :=
  ⟨h.os, h.tape, h.output, by have := h.size; simpa [World.setCell] using this, fun k hk hn => (Below.heap_setCell _ _ _ _ (by
    intro e; subst e; rcases hp with hp | hp
    · exact hn hp
    · omega)).trans (h.block k hk hn)⟩
theorem Keep.cell {S : List Nat} {w w' : World} (h : Keep S w w') {p : Addr} (hp : p.block < w.heap.size) (hn : p.block ∉ S) : w'.cell? p = w.cell? p := World.cell?_of_block (w := w) (h.block p.block hp hn)
theorem Keep.frozen {S : List Nat} {w w' : World} (h : Keep S w w') {p : Addr} (hp : p.block < w.heap.size) (hn : p.block ∉ S) : w'.frozen? p = w.frozen? p := World.frozen?_of_block (w := w) (h.block p.block hp hn)

/-- Block b holds the cells cs, none frozen. -/
def Blk (w : World) (b : Nat) (cs : List Value) (T : TypeId) : Prop := w.heap[b]? = some (.cells cs.toArray T (0, 0))
theorem Blk.lt {w : World} {b : Nat} {cs : List Value} {T : TypeId} (h : Blk w b cs T) : b < w.heap.size := by
  unfold Blk at h
  rcases Nat.lt_or_ge b w.heap.size with h' | h'
  · exact h'
  · rw [Array.getElem?_eq_none h'] at h; cases h
theorem Blk.cell {w : World} {b : Nat} {cs : List Value} {T : TypeId} (h : Blk w b cs T) (i : Nat) : w.cell? ⟨b, i, none⟩ = cs[i]? := by
  unfold Blk at h; simp [World.cell?, h]
theorem Blk.free {w : World} {b : Nat} {cs : List Value} {T : TypeId} (h : Blk w b cs T) (i : Nat) : w.frozen? ⟨b, i, none⟩ = false := by
  unfold Blk at h; simp [World.frozen?, h]
theorem Blk.keep {S : List Nat} {w w' : World} {b : Nat} {cs : List Value} {T : TypeId} (h : Blk w b cs T) (k : Keep S w w') (hn : b ∉ S) : Blk w' b cs T := by
  have := k.block b h.lt hn; unfold Blk at *; rw [this]; exact h
theorem Blk.alloc {w : World} {b : Nat} {cs : List Value} {T : TypeId} (h : Blk w b cs T) (o : Obj) : Blk (w.alloc o) b cs T := by
  have := Below.heap_alloc w o b h.lt; unfold Blk at *; rw [this]; exact h
theorem Blk.new (w : World) (cs : List Value) (T : TypeId) : Blk (w.alloc (.cells cs.toArray T)) w.heap.size cs T := by
  unfold Blk
  show (w.heap.push _)[w.heap.size]? = _
  simp
theorem Blk.new' (w : World) (cs : List Value) (T : TypeId) (b : Nat) (hb : b = w.heap.size) : Blk (w.alloc (.cells cs.toArray T)) b cs T := by
  subst hb; exact Blk.new _ _ _
theorem Blk.drew {w : World} {b : Nat} {cs : List Value} {T : TypeId} (h : Blk w b cs T) : Blk w.drew b cs T := h
theorem Blk.set {w : World} {b : Nat} {cs : List Value} {T : TypeId} (h : Blk w b cs T) (i : Nat) (v : Value) : Blk (w.setCell ⟨b, i, none⟩ v) b (cs.set i v) T := by
  unfold Blk at *
  simp only [World.setCell, Array.getElem?_modify, if_true, h, Option.map_some]
  simp
theorem Blk.other {w : World} {b : Nat} {cs : List Value} {T : TypeId} (h : Blk w b cs T) {a : Addr} (hn : b ≠ a.block) (v : Value) : Blk (w.setCell a v) b cs T := by
  have := Below.heap_setCell w a v b hn; unfold Blk at *; rw [this]; exact h

theorem setCell_setCell (w : World) (b i : Nat) (v v' : Value) : (w.setCell ⟨b, i, none⟩ v).setCell ⟨b, i, none⟩ v' = w.setCell ⟨b, i, none⟩ v' := by
  unfold World.setCell
  simp only
  congr 1
  apply Array.ext_getElem?
  intro j
  simp only [Array.getElem?_modify]
  split
  · cases w.heap[j]? with
    | none => rfl
    | some o => cases o <;> simp
  · rfl

theorem take_succ_getD {α : Type} (l : List α) (d : α) (k : Nat) (h : k < l.length) : l.take (k+1) = l.take k ++ [l.getD k d] := by
  rw [List.take_succ_eq_append_getElem h]; simp [List.getD_eq_getElem?_getD, h]
end Go.Proofs.Ytpibpapolcdeiaa
/- Laws of this work's own on memory that a call makes: append of whatever source onto an owned row; rows of bytes. No condition. -/
namespace Go.Proofs.Ytpibpapolcdeiaa
open Go.ChangeShapes Go.WideShapes Go.ChangeAt Go.RowKit
set_option linter.unusedVariables false
set_option linter.unusedSimpArgs false
set_option maxRecDepth 100000

section
variable {P : Program} (w : World)

theorem run_append_room_s (t tx ty e : TypeId) (i : TypeInfo) (ht : P.underlying t = some (.slice e)) (hi : P.info? e = some i)
    (g sLen sCap : Nat) (cur : Array Value) (hg : w.heap[g]? = some (.cells cur e (0, 0))) (x : Value) (m : Nat) (news : List Value) (hs : Src P i.size tx x m news w)
    (hroom : sLen + m ≤ sCap) (hfit : sLen * i.size + news.length ≤ cur.size) :
    (Builtin.append_ #[t, tx] ty #[.slice (some ⟨g, 0, none⟩) sLen sCap, x]).run P w =
      .ok (.slice (some ⟨g, 0, none⟩) (sLen + m) sCap) (w.setRow g (cur.toList.take (sLen * i.size) ++ news ++ cur.toList.drop (sLen * i.size + news.length)).toArray) := by
  have hst := run_storeCells_at P g (sLen * i.size) e news 0 cur w hg (by simpa using hfit) hs.one
  simp only [Nat.add_zero] at hst
  rcases hs.kind with ⟨e', hk⟩ | hk <;> simp [Builtin.append_, run_underlying ht, run_underlying hk, sizeOf, typeInfo, hi, hs.len, hroom, hs.cells, Addr.add_lit, hst]

theorem run_append_src (base : Nat) (t tx ty e : TypeId) (i : TypeInfo) (z : Value) (size bytes : Nat) (ht : P.underlying t = some (.slice e)) (hi : P.info? e = some i) (hz : i.zero = some z)
    (hsize : i.size = size) (hby : i.bytes = bytes) (hzs : z.cells.size = size) (hsz : 0 < size)
    (v : Value) (n : Nat) (xs : List Value) (hown : w.ownsRow base e size v n xs)
    (x : Value) (m : Nat) (news : List Value) (hs : Src P size tx x m news w)
    (h63 : n + m ≤ maxLen) (hbytes : (n + m) * bytes ≤ 140737488355328) (hbase : base ≤ w.heap.size) :
    ∃ v' w', (Builtin.append_ #[t, tx] ty #[v, x]).run P w = .ok v' w' ∧ w'.ownsRow base e size v' (n + m) (xs ++ news) ∧ w.grownBy w' v.ownBlock ∧
      (v' = .slice none 0 0 ↔ v = .slice none 0 0 ∧ m = 0) ∧ (∀ k, v'.ownBlock = some k → v.ownBlock = some k ∨ w.heap.size ≤ k) := by
  subst hsize
  subst hby
  have hl : news.length = m * i.size := hs.newsLen
  have hsmall : n + m ≤ 9223372036854775807 := by simp only [maxLen] at h63; omega
  have hlen : (xs ++ news).length = (n + m) * i.size := by rw [List.length_append, hown.1, hl, Nat.add_mul]
  have grown : ∀ (old : Nat), old < n + m → ∀ (row : Option Nat),
      (w.drew.alloc (.cells ((xs ++ news).toArray ++ Builtin.zeroCells z.cells (grownCap w (n + m) old e - (n + m))) e)).ownsRow base e i.size
        (.slice (some ⟨w.heap.size, 0, none⟩) (n + m) (grownCap w (n + m) old e)) (n + m) (xs ++ news) ∧
      w.grownBy (w.drew.alloc (.cells ((xs ++ news).toArray ++ Builtin.zeroCells z.cells (grownCap w (n + m) old e - (n + m))) e)) row := by
    intro old ho row
    have hge := grownCap_ge w (n + m) old e
    have hcm : grownCap w (n + m) old e ≤ maxLen := grownCap_le_maxLen w (n + m) old e h63
    refine ⟨⟨hlen, .inr ⟨w.heap.size, _, _, rfl, hbase, heap_alloc_new w.drew _, hge, hcm, ?_, ?_⟩⟩, ⟨rfl, rfl, rfl, by simp, fun k hk _ => Below.heap_alloc w.drew _ k hk⟩⟩
    · simp only [Array.size_append, List.size_toArray, size_zeroCells, hzs, hlen, ← Nat.add_mul]
      congr 1
      omega
    · simp only [Array.toList_append]
      rw [← hlen]
      exact List.take_left
  rcases hown.2 with ⟨rfl, rfl⟩ | ⟨g, cap, cur, rfl, hbg, hg, hnc, hcm, hcs, htake⟩
  · have hx : xs = [] := List.eq_nil_of_length_eq_zero (by simpa using hown.1)
    subst hx
    by_cases hm : m = 0
    · subst hm
      have hn : news = [] := List.eq_nil_of_length_eq_zero (by simpa using hl)
      subst hn
      refine ⟨.slice none 0 0, w, ?_, World.ownsRow_nil w base e i.size, ⟨rfl, rfl, rfl, Nat.le_refl _, fun _ _ _ => rfl⟩, by simp, fun k hk => .inl hk⟩
      have h0 := hs.cells
      rcases hs.kind with ⟨e', hk⟩ | hk <;> simp [Builtin.append_, run_underlying ht, run_underlying hk, sizeOf, typeInfo, hi, hs.len, h0]
    · have hr := run_append_grow_src (P := P) w t tx ty e i z ht hi hz none 0 0 [] (run_firstCells_none _ _ _ _ _) x m news hs (by omega) (by omega) (growslice_fits (by omega) hbytes)
      have hgr := grown 0 (by omega) (Value.ownBlock (.slice none 0 0))
      simp only [Nat.zero_add, List.nil_append] at hgr hr ⊢
      exact ⟨_, _, hr, hgr.1, hgr.2, by simp [hm], fun k hk => .inr (by cases hk; exact Nat.le_refl _)⟩
  · by_cases hroom : n + m ≤ cap
    · have hfit : n * i.size + news.length ≤ cur.size := by rw [hl, hcs, ← Nat.add_mul]; exact Nat.mul_le_mul_right _ hroom
      have hr := run_append_room_s (P := P) w t tx ty e i ht hi g n cap cur hg x m news hs hroom hfit
      refine ⟨_, _, hr, ⟨hlen, .inr ⟨g, cap, _, rfl, hbg, setRow_heap w g cur _ e _ hg, hroom, hcm, ?_, ?_⟩⟩, ⟨rfl, rfl, rfl, by simp, fun k _ hk => setRow_other w g k _ (fun e => hk (by simp [Value.ownBlock, e]))⟩, by simp, fun k hk => .inl hk⟩
      · simp only [List.size_toArray, List.length_append, List.length_take, List.length_drop, Array.length_toList]
        omega
      · rw [htake, ← hlen]
        exact List.take_left
    · have holds : ∀ j u, xs[j]? = some u → w.cell? ((⟨g, 0, none⟩ : Addr).add j) = some u := hown.cells (g := g) rfl
      have hr := run_append_grow_src (P := P) w t tx ty e i z ht hi hz (some ⟨g, 0, none⟩) n cap xs (run_firstCells_some w.drew i.size n ⟨g, 0, none⟩ n cap xs hown.1 (by simpa using holds)) x m news hs (by omega) (by omega) (growslice_fits (by omega) hbytes)
      have hgr := grown cap (by omega) (Value.ownBlock (.slice (some ⟨g, 0, none⟩) n cap))
      exact ⟨_, _, hr, hgr.1, hgr.2, by simp, fun k hk => .inr (by cases hk; exact Nat.le_refl _)⟩

/-- An append of whatever source onto a row of the call's own. -/
theorem wpList_append_src {ops : Array Oper} {rest : List Oper} {o : Oper} {a : Act} {Q : Exit → Act → World → Prop} (hgd : o.guard = none) (s x : Operand) (t tx : TypeId)
    (ho : o.op = .call { callee := .builtin .append, args := #[s, x], argTypes := #[t, tx] })
    (base : Nat) (e : TypeId) (i : TypeInfo) (z : Value) (size bytes : Nat) (ht : P.underlying t = some (.slice e)) (hi : P.info? e = some i) (hz : i.zero = some z)
    (hsize : i.size = size) (hby : i.bytes = bytes) (hzs : z.cells.size = size) (hsz : 0 < size)
    (v : Value) (n : Nat) (xs : List Value) (hs : a.eval s = v) (hown : w.ownsRow base e size v n xs)
    (xv : Value) (m : Nat) (news : List Value) (hx : a.eval x = xv) (hsrc : Src P size tx xv m news w)
    (h63 : n + m ≤ maxLen) (hbytes : (n + m) * bytes ≤ 140737488355328) (hbase : base ≤ w.heap.size)
    (h : ∀ v' w', w'.ownsRow base e size v' (n + m) (xs ++ news) → w.grownBy w' v.ownBlock → (v' = .slice none 0 0 ↔ v = .slice none 0 0 ∧ m = 0) → (∀ k, v'.ownBlock = some k → v.ownBlock = some k ∨ w.heap.size ≤ k) → wpList P ops Q rest (a.put o.dst v') w') : wpList P ops Q (o :: rest) a w := by
  obtain ⟨v', w', hr, h2, h3, h4, h5⟩ := run_append_src (P := P) w base t tx o.type e i z size bytes ht hi hz hsize hby hzs hsz v n xs hown xv m news hsrc h63 hbytes hbase
  refine wpList_plain hgd fun K hK => ?_
  unfold Oper.wp execOp
  simp only [ho, resolve, invoke, builtin, Sem.run_bind, Sem.run_pure, Result.andThen_ok, List.map_toArray, List.map_cons, List.map_nil, hs, hx, hr]
  exact hK _ _ (h v' w' h2 h3 h4 h5)
end

/-- A byte as a cell. -/
def bc (b : Nat) : Value := .int .u8 (b : Int)
def bcs (l : List Nat) : List Value := l.map bc
@[simp] theorem bcs_length (l : List Nat) : (bcs l).length = l.length := by simp [bcs]
@[simp] theorem bcs_append (l m : List Nat) : bcs (l ++ m) = bcs l ++ bcs m := by simp [bcs]
theorem bcs_one (l : List Nat) : ∀ u ∈ bcs l, u.oneCell' = true := by
  intro u hu
  obtain ⟨b, _, rfl⟩ := List.mem_map.1 hu
  rfl
theorem bcs_at (l : List Nat) (i : Nat) (h : i < l.length) : (bcs l)[i]? = some (bc (l.getD i 0)) := by
  simp [bcs, List.getElem?_map, List.getD_eq_getElem?_getD, h]

/-- A slice that can be read: nil, or a row of cells, sz for each of its n elements. -/
structure Rv (w : World) (sz : Nat) (v : Value) (n : Nat) (vs : List Value) : Prop where
  len : vs.length = n * sz
  val : ∃ a cap, v = .slice a n cap ∧ n ≤ cap ∧ (0 < vs.length → ∃ sb so, a = some ⟨sb, so, none⟩ ∧ sb < w.heap.size ∧ ∀ i, i < vs.length → w.cell? ⟨sb, so + i, none⟩ = vs[i]?)
theorem Rv.nil (w : World) (sz : Nat) : Rv w sz (.slice none 0 0) 0 [] := ⟨by simp, none, 0, rfl, by simp, fun h => by simp at h⟩
theorem Rv.keep {w w' : World} {sz : Nat} {v : Value} {n : Nat} {vs : List Value} {S : List Nat} (h : Rv w sz v n vs) (k : Keep S w w') (hS : ∀ b, v.ownBlock = some b → b < w.heap.size → b ∉ S) : Rv w' sz v n vs := by
  obtain ⟨hl, a, cap, rfl, hc, h⟩ := h
  refine ⟨hl, a, cap, rfl, hc, fun hl => ?_⟩
  obtain ⟨sb, so, rfl, hs, hat⟩ := h hl
  exact ⟨sb, so, rfl, Nat.lt_of_lt_of_le hs k.size, fun i hi => by rw [k.cell hs (hS sb rfl hs)]; exact hat i hi⟩
theorem Rv.alloc {w : World} {sz : Nat} {v : Value} {n : Nat} {vs : List Value} (h : Rv w sz v n vs) (o : Obj) : Rv (w.alloc o) sz v n vs := h.keep ((Keep.refl [] _).alloc o) (by simp)
/-- What an append of such a slice brings. -/
theorem Rv.src {P : Program} {w : World} {sz : Nat} {v : Value} {n : Nat} {vs : List Value} {t e : TypeId} (h : Rv w sz v n vs) (ht : P.underlying t = some (.slice e)) (h1 : ∀ u ∈ vs, u.oneCell' = true) : Src P sz t v n vs w := by
  obtain ⟨hl, a, cap, rfl, hc, h⟩ := h
  by_cases hp : 0 < vs.length
  · obtain ⟨sb, so, rfl, hs, hat⟩ := h hp
    refine Src.ofSlice w ht ⟨sb, so, none⟩ n cap vs hl ?_ h1
    intro j u hu
    have hj : j < vs.length := (List.getElem?_eq_some_iff.1 hu).1
    rw [← hu, ← hat j hj]
    by_cases h0 : j = 0
    · subst h0; simp [Addr.add]
    · simp [Addr.add, h0]
  · have : vs = [] := List.eq_nil_of_length_eq_zero (by omega)
    subst this
    cases a with
    | none =>
      rcases Nat.eq_zero_or_pos n with rfl | hn
      · exact Src.ofNil w ht cap
      · have hz : sz = 0 := by
          rcases Nat.mul_eq_zero.1 (show n * sz = 0 from hl.symm) with h0 | h0
          · omega
          · exact h0
        subst hz
        exact ⟨.inl ⟨e, ht⟩, fun _ => rfl, by simp [Builtin.firstCells, loadCells, loadCellsFrom], by simp [Builtin.firstCells, loadCells, loadCellsFrom], hl, fun _ h => by cases h⟩
    | some a => exact Src.ofSlice w ht a n cap [] hl (by simp) (by simp)
/-- The cell of an element of one cell. -/
theorem Rv.at1 {w : World} {v : Value} {n : Nat} {vs : List Value} (h : Rv w 1 v n vs) (hn : 0 < n) : ∃ sb so cap, v = .slice (some ⟨sb, so, none⟩) n cap ∧ n ≤ cap ∧ sb < w.heap.size ∧ ∀ i, i < n → w.cell? ⟨sb, so + i, none⟩ = vs[i]? := by
  obtain ⟨hl, a, cap, rfl, hc, h⟩ := h
  obtain ⟨sb, so, rfl, hs, hat⟩ := h (by omega)
  exact ⟨sb, so, cap, rfl, hc, hs, fun i hi => hat i (by omega)⟩
theorem ownsRow_rv {w : World} {base : Nat} {e : TypeId} {sz : Nat} {v : Value} {n : Nat} {vs : List Value} (h : w.ownsRow base e sz v n vs) : Rv w sz v n vs := by
  rcases h.2 with ⟨rfl, hn⟩ | ⟨g, cap, cur, rfl, hb, hg, hle, _⟩
  · subst hn
    have : vs = [] := List.eq_nil_of_length_eq_zero (by simpa using h.1)
    subst this; exact Rv.nil w sz
  · refine ⟨h.1, _, cap, rfl, hle, fun hl => ⟨g, 0, rfl, ?_, fun i hi => ?_⟩⟩
    · rcases Nat.lt_or_ge g w.heap.size with h' | h'
      · exact h'
      · rw [Array.getElem?_eq_none h'] at hg; cases hg
    · have := World.ownsRow.cells h (g := g) rfl i _ (List.getElem?_eq_getElem hi)
      rw [List.getElem?_eq_getElem hi, ← this]
      by_cases h0 : i = 0
      · subst h0; simp [Addr.add]
      · simp [Addr.add, h0]
theorem ownsRow_slice {w : World} {base : Nat} {e : TypeId} {sz : Nat} {v : Value} {n : Nat} {xs : List Value} (h : w.ownsRow base e sz v n xs) : ∃ a c, v = .slice a n c := by
  rcases h.2 with ⟨rfl, rfl⟩ | ⟨g, c, cur, rfl, _⟩
  · exact ⟨none, 0, rfl⟩
  · exact ⟨_, c, rfl⟩
/-- A new block, as a slice. -/
theorem Rv.new (w : World) (vs : List Value) (T : TypeId) (sz n cap : Nat) (hl : vs.length = n * sz) (hc : n ≤ cap) (b : Nat) (hb : b = w.heap.size) : Rv (w.alloc (.cells vs.toArray T)) sz (.slice (some ⟨b, 0, none⟩) n cap) n vs := by
  subst hb
  refine ⟨hl, _, cap, rfl, hc, fun _ => ⟨w.heap.size, 0, rfl, by simp, fun i hi => ?_⟩⟩
  rw [(Blk.new w vs T).cell, Nat.zero_add]

/-- Bytes that can be read. -/
abbrev Rd (w : World) (v : Value) (l : List Nat) : Prop := Rv w 1 v l.length (bcs l)
theorem Rd.keep0 {w w' : World} {v : Value} {l : List Nat} {S : List Nat} (h : Rd w v l) (k : Keep S w w') (hS : ∀ b, v.ownBlock = some b → 0 < l.length → b ∉ S) : Rd w' v l := by
  obtain ⟨hl, a, cap, rfl, hc, h⟩ := h
  refine ⟨hl, a, cap, rfl, hc, fun hl => ?_⟩
  obtain ⟨sb, so, rfl, hs, hat⟩ := h hl
  exact ⟨sb, so, rfl, Nat.lt_of_lt_of_le hs k.size, fun i hi => by rw [k.cell hs (hS sb rfl (by simpa using hl))]; exact hat i hi⟩
theorem Rd.lo {w : World} {v : Value} {l : List Nat} (h : Rd w v l) : ∀ b, v.ownBlock = some b → 0 < l.length → b < w.heap.size := by
  obtain ⟨hl, a, cap, rfl, hc, h⟩ := h
  intro b hb hp
  obtain ⟨sb, so, rfl, hs, hat⟩ := h (by simpa using hp)
  cases hb
  exact hs
theorem Rd.src {P : Program} {w : World} {v : Value} {l : List Nat} {t e : TypeId} (h : Rd w v l) (ht : P.underlying t = some (.slice e)) : Src P 1 t v l.length (bcs l) w := Rv.src h ht (bcs_one l)

/-- A row of bytes of the call's own, from block 'base' on. -/
def Buf (w : World) (base : Nat) (E : TypeId) (v : Value) (l : List Nat) : Prop := w.ownsRow base E 1 v l.length (bcs l)
theorem Buf.nil (w : World) (base : Nat) (E : TypeId) : Buf w base E (.slice none 0 0) [] := World.ownsRow_nil w base E 1
theorem Buf.slice {w : World} {base : Nat} {E : TypeId} {v : Value} {l : List Nat} (h : Buf w base E v l) : ∃ a cap, v = .slice a l.length cap := by
  rcases h.2 with ⟨rfl, hn⟩ | ⟨g, cap, cur, rfl, _⟩
  · exact ⟨none, 0, by rw [hn]⟩
  · exact ⟨_, _, rfl⟩
theorem Buf.rd {w : World} {base : Nat} {E : TypeId} {v : Value} {l : List Nat} (h : Buf w base E v l) : Rd w v l := ownsRow_rv h
theorem Buf.keep {w w' : World} {base : Nat} {E : TypeId} {v : Value} {l : List Nat} {S : List Nat} (h : Buf w base E v l) (k : Keep S w w') (hS : ∀ b, v.ownBlock = some b → b ∉ S) : Buf w' base E v l := by
  refine ⟨h.1, ?_⟩
  rcases h.2 with ⟨rfl, hn⟩ | ⟨g, cap, cur, rfl, hb, hg, r⟩
  · exact .inl ⟨rfl, hn⟩
  · refine .inr ⟨g, cap, cur, rfl, hb, ?_, r⟩
    have hlt : g < w.heap.size := by
      rcases Nat.lt_or_ge g w.heap.size with h' | h'
      · exact h'
      · rw [Array.getElem?_eq_none h'] at hg; cases hg
    rw [k.block g hlt (hS g rfl)]; exact hg
theorem Buf.alloc {w : World} {base : Nat} {E : TypeId} {v : Value} {l : List Nat} (h : Buf w base E v l) (o : Obj) : Buf (w.alloc o) base E v l :=
  h.keep ((Keep.refl [] _).alloc _) (by simp)
/-- One byte, laid in a block of its own ahead of an append. -/
theorem src_new1 {P : Program} {t e : TypeId} (ht : P.underlying t = some (.slice e)) (w : World) (X : Nat) (T : TypeId) :
    Src P 1 t (.slice (some ⟨w.heap.size, 0, none⟩) 1 1) 1 (bcs [X]) (w.alloc (.cells #[.int .u8 (X : Int)] T)) := by
  refine Src.ofSlice _ ht ⟨w.heap.size, 0, none⟩ 1 1 (bcs [X]) rfl ?_ (bcs_one _)
  intro j u hu
  match j, hu with
  | 0, hu => simp [bcs] at hu; subst hu; simp [Addr.add, bc]
  | j + 1, hu => simp [bcs] at hu
theorem Buf.mono {w : World} {base base' : Nat} {E : TypeId} {v : Value} {l : List Nat} (h : Buf w base E v l) (hb : base' ≤ base) : Buf w base' E v l := by
  refine ⟨h.1, ?_⟩
  rcases h.2 with ⟨rfl, hn⟩ | ⟨g, cap, cur, rfl, hg, r⟩
  · exact .inl ⟨rfl, hn⟩
  · exact .inr ⟨g, cap, cur, rfl, Nat.le_trans hb hg, r⟩
theorem Buf.lt {w : World} {base : Nat} {E : TypeId} {v : Value} {l : List Nat} (h : Buf w base E v l) : ∀ k, v.ownBlock = some k → base ≤ k ∧ k < w.heap.size := World.ownsRow.lt h
theorem Keep.grown {w w' : World} {row : Option Nat} (h : w.grownBy w' row) : Keep row.toList w w' :=
  ⟨h.os, h.tape, h.output, h.size, fun k hk hn => h.block k hk (fun e => hn (by simp [← e]))⟩

/-- What an append or a Put leaves: the row longer, in the same block or a new one; nothing else has turned. -/
structure Onto (w : World) (base : Nat) (E : TypeId) (v : Value) (l : List Nat) (v' : Value) (w' : World) : Prop where
  buf : Buf w' base E v' l
  keep : Keep v.ownBlock.toList w w'
  own : ∀ k, v'.ownBlock = some k → v.ownBlock = some k ∨ w.heap.size ≤ k
theorem Onto.refl {w : World} {base : Nat} {E : TypeId} {v : Value} {l : List Nat} (h : Buf w base E v l) : Onto w base E v l v w := ⟨h, Keep.refl _ _, fun _ h => .inl h⟩
theorem Onto.alloc {w w' : World} {base : Nat} {E : TypeId} {v v' : Value} {l : List Nat} (h : Onto w base E v l v' w') (o : Obj) : Onto w base E v l v' (w'.alloc o) := ⟨h.buf.alloc o, h.keep.alloc o, h.own⟩
theorem Onto.app {w w1 w2 : World} {base : Nat} {E : TypeId} {v v1 v2 : Value} {l m : List Nat} (h : Onto w base E v l v1 w1) (h1 : w2.ownsRow base E 1 v2 (l.length + m.length) (bcs l ++ bcs m)) (h2 : w1.grownBy w2 v1.ownBlock)
    (h3 : ∀ k, v2.ownBlock = some k → v1.ownBlock = some k ∨ w1.heap.size ≤ k) : Onto w base E v (l ++ m) v2 w2 := by
  refine ⟨by unfold Buf; rw [List.length_append, bcs_append]; exact h1, h.keep.then (Keep.grown h2) ?_, fun k hk => ?_⟩
  · intro x hx hlt
    have e : v1.ownBlock = some x := by simpa using hx
    rcases h.own x e with h' | h'
    · simp [h']
    · omega
  · rcases h3 k hk with h' | h'
    · exact h.own k h'
    · exact .inr (Nat.le_trans h.keep.size h')
theorem Onto.trans {w w1 w2 : World} {base : Nat} {E : TypeId} {v v1 v2 : Value} {l m : List Nat} (h : Onto w base E v l v1 w1) (k : Onto w1 base E v1 m v2 w2) : Onto w base E v m v2 w2 := by
  refine ⟨k.buf, h.keep.then k.keep ?_, fun x hx => ?_⟩
  · intro x hx hlt
    have e : v1.ownBlock = some x := by simpa using hx
    rcases h.own x e with h' | h'
    · simp [h']
    · omega
  · rcases k.own x hx with h' | h'
    · exact h.own x h'
    · exact .inr (Nat.le_trans h.keep.size h')

/-- A slice of integers that came in: nil, or a row. -/
def IsRow (k : IntKind) (w : World) (a : Option Addr) (len cap : Nat) (zs : List Int) : Prop :=
  (a = none ∧ len = 0 ∧ cap = 0 ∧ zs = []) ∨
  ∃ x, a = some x ∧ len ≤ cap ∧ cap ≤ maxLen ∧ zs.length = cap ∧ (∀ i, i < zs.length → w.cell? (x.add i) = some (.int k (zs.getD i 0))) ∧ ∀ n ∈ zs, (Lit.int k n).wf = true
/-- An address that leads to a cell, and those behind it. -/
theorem addr_cell {w : World} {a : Addr} (h : (w.cell? a).isSome = true) : ∃ sb so, a = ⟨sb, so, none⟩ ∧ sb < w.heap.size ∧ ∀ i, a.add i = ⟨sb, so + i, none⟩ := by
  obtain ⟨sb, so, sp⟩ := a
  have hsp : sp = none := by
    cases sp with
    | none => rfl
    | some q => unfold World.cell? at h; split at h <;> simp at h
  subst hsp
  have hb : sb < w.heap.size := by
    rcases Nat.lt_or_ge sb w.heap.size with h' | h'
    · exact h'
    · simp [World.cell?, Array.getElem?_eq_none h'] at h
  refine ⟨sb, so, rfl, hb, fun i => ?_⟩
  by_cases hi : i = 0
  · subst hi; simp [Addr.add]
  · simp [Addr.add, hi]
theorem IsRow.rv {k : IntKind} {w : World} {a : Option Addr} {len cap : Nat} {zs : List Int} (h : IsRow k w a len cap zs) :
    (zs.take len).length = len ∧ len ≤ 9223372036854775807 ∧ Rv w 1 (.slice a len cap) len ((zs.take len).map (Value.int k)) ∧ ∀ n ∈ zs.take len, (Lit.int k n).wf = true := by
  rcases h with ⟨rfl, rfl, rfl, rfl⟩ | ⟨x, rfl, hlc, hcm, hzl, hz, hwf⟩
  · exact ⟨rfl, by omega, Rv.nil w 1, by simp⟩
  · unfold maxLen at hcm
    have hl : (zs.take len).length = len := by rw [List.length_take]; omega
    refine ⟨hl, by omega, ⟨by simp [hl]; omega, some x, cap, rfl, hlc, fun hp => ?_⟩, fun n hn => hwf n (List.mem_of_mem_take hn)⟩
    rw [List.length_map, hl] at hp
    have h0 := hz 0 (by omega)
    have h00 : x.add 0 = x := by simp [Addr.add]
    obtain ⟨sb, so, rfl, hsb, hadd⟩ := addr_cell (w := w) (a := x) (by rw [← h00, h0]; rfl)
    refine ⟨sb, so, rfl, hsb, fun i hi => ?_⟩
    rw [List.length_map, hl] at hi
    have := hz i (by omega)
    rw [hadd] at this
    rw [this, List.getElem?_map, List.getElem?_take, if_pos hi, List.getElem?_eq_getElem (by omega)]
    simp [List.getD_eq_getElem?_getD, List.getElem?_eq_getElem (show i < zs.length by omega)]
/-- Bytes that came in. -/
theorem IsRow.rd {w : World} {a : Option Addr} {len cap : Nat} {zs : List Int} (h : IsRow .u8 w a len cap zs) : ∃ l : List Nat, l.length = len ∧ len ≤ 9223372036854775807 ∧ Rd w (.slice a len cap) l ∧ ∀ c ∈ l, c < 256 := by
  obtain ⟨h1, h2, h3, h4⟩ := h.rv
  have hb : ∀ n ∈ zs.take len, 0 ≤ n ∧ n < 256 := fun n hn => by
    have := h4 n hn
    simp [Lit.wf, IntKind.min, IntKind.max, IntKind.signed, IntKind.bits] at this
    omega
  refine ⟨(zs.take len).map Int.toNat, by simpa using h1, h2, ?_, ?_⟩
  · unfold Rd
    have e : bcs ((zs.take len).map Int.toNat) = (zs.take len).map (Value.int .u8) := by
      unfold bcs
      rw [List.map_map]
      apply List.map_congr_left
      intro n hn
      have := hb n hn
      simp [bc]; omega
    rw [e, List.length_map, h1]
    exact h3
  · intro c hc
    obtain ⟨n, hn, rfl⟩ := List.mem_map.1 hc
    have := hb n hn
    omega
theorem i64_wf {n : Int} (h : (Lit.int .i64 n).wf = true) : -9223372036854775808 ≤ n ∧ n ≤ 9223372036854775807 := by
  simp [Lit.wf, IntKind.min, IntKind.max, IntKind.signed, IntKind.bits] at h
  omega
end Go.Proofs.Ytpibpapolcdeiaa
/- The rows of a few types in the program's table; integers and texts as cells. No condition. -/
namespace Go.Proofs.Ytpibpapolcdeiaa
open Go.ChangeShapes Go.WideShapes Go.ChangeAt Go.RowKit
set_option linter.unusedVariables false
set_option linter.unusedSimpArgs false
set_option maxRecDepth 100000

theorem Try.info8 : (Try.prog.info? 5).map (fun i => (i.zero, i.size, i.bytes)) = some (some (.int .u8 0), 1, 1) := by kernel_rfl
theorem Try.infoS : (Try.prog.info? 9).map (fun i => (i.zero, i.size, i.bytes)) = some (some (.string ByteArray.empty), 1, 16) := by kernel_rfl
theorem Try.infoI : (Try.prog.info? 3).map (fun i => (i.zero, i.size, i.bytes)) = some (some (.int .i64 0), 1, 8) := by kernel_rfl
theorem Try.info64 : (Try.prog.info? 2).map (fun i => (i.zero, i.size, i.bytes)) = some (some (.int .i64 0), 1, 8) := by kernel_rfl
theorem Try.infoB : (Try.prog.info? 4).map (fun i => (i.zero, i.size, i.bytes)) = some (some (.bool false), 1, 1) := by kernel_rfl
theorem Try.infoBs : (Try.prog.info? 30).map (fun i => (i.zero, i.size, i.bytes)) = some (some (.slice none 0 0), 1, 24) := by kernel_rfl

def ints (l : List Int) : List Value := l.map (Value.int .i64)
theorem ints_at (l : List Int) (i : Nat) (h : i < l.length) : (ints l)[i]? = some (.int .i64 (l.getD i 0)) := by
  simp [ints, List.getElem?_map, List.getD_eq_getElem?_getD, h]
def I64 (n : Int) : Prop := -9223372036854775808 ≤ n ∧ n ≤ 9223372036854775807

/-- A text's bytes as numbers. -/
def sb (t : ByteArray) : List Nat := t.data.toList.map UInt8.toNat
theorem sb_length (t : ByteArray) : (sb t).length = t.size := by simp [sb]
theorem byteCells_sb (t : ByteArray) : byteCells t = bcs (sb t) := by
  simp [byteCells, bcs, sb, bc, List.map_map, Function.comp_def]
def strs (l : List ByteArray) : List Value := l.map Value.string
theorem strs_at (l : List ByteArray) (i : Nat) (h : i < l.length) : (strs l)[i]? = some (.string (l.getD i ByteArray.empty)) := by
  simp [strs, List.getElem?_map, List.getD_eq_getElem?_getD, h]
theorem ints_one (l : List Int) : ∀ u ∈ ints l, u.oneCell' = true := by
  intro u hu
  obtain ⟨b, _, rfl⟩ := List.mem_map.1 hu
  rfl
@[simp] theorem ints_length (l : List Int) : (ints l).length = l.length := by simp [ints]
@[simp] theorem ints_append (l m : List Int) : ints (l ++ m) = ints l ++ ints m := by simp [ints]
theorem strs_one (l : List ByteArray) : ∀ u ∈ strs l, u.oneCell' = true := by
  intro u hu
  obtain ⟨b, _, rfl⟩ := List.mem_map.1 hu
  rfl
@[simp] theorem strs_length (l : List ByteArray) : (strs l).length = l.length := by simp [strs]
/-- Truth values as cells. -/
def bools (l : List Bool) : List Value := l.map Value.bool
@[simp] theorem bools_length (l : List Bool) : (bools l).length = l.length := by simp [bools]
theorem bools_at (l : List Bool) (i : Nat) (h : i < l.length) : (bools l)[i]? = some (.bool (l.getD i false)) := by
  simp [bools, List.getElem?_map, List.getD_eq_getElem?_getD, h]
end Go.Proofs.Ytpibpapolcdeiaa
/- Laws of this work's own on rows that a call owns, of whatever elements of one cell; blocks told apart by their types; an append in a region that draws its order. No condition. -/
namespace Go.Proofs.Ytpibpapolcdeiaa
open Go.ChangeShapes Go.WideShapes Go.ChangeAt Go.RowKit
set_option linter.unusedVariables false
set_option linter.unusedSimpArgs false
set_option maxRecDepth 100000

/-- Block b is one of cells of the type T. -/
def Ty (w : World) (b : Nat) (T : TypeId) : Prop := ∃ cs fr, w.heap[b]? = some (.cells cs T fr)
theorem Ty.ne {w : World} {b b' : Nat} {T T' : TypeId} (h : Ty w b T) (h' : Ty w b' T') (hn : T ≠ T') : b ≠ b' := by
  rintro rfl
  obtain ⟨c, f, h⟩ := h
  obtain ⟨c', f', h'⟩ := h'
  rw [h] at h'
  injection h' with h'
  injection h' with _ ht
  exact hn ht
theorem Blk.ty {w : World} {b : Nat} {cs : List Value} {T : TypeId} (h : Blk w b cs T) : Ty w b T := ⟨_, _, h⟩
theorem Ty.lt {w : World} {b : Nat} {T : TypeId} (h : Ty w b T) : b < w.heap.size := by
  obtain ⟨c, f, h⟩ := h
  rcases Nat.lt_or_ge b w.heap.size with h' | h'
  · exact h'
  · rw [Array.getElem?_eq_none h'] at h; cases h
theorem Ty.keep {w w' : World} {b : Nat} {T : TypeId} {S : List Nat} (h : Ty w b T) (k : Keep S w w') (hn : b ∉ S) : Ty w' b T := by
  have hl := h.lt
  obtain ⟨c, f, h⟩ := h
  exact ⟨c, f, by rw [k.block b hl hn]; exact h⟩

/-- v is a row of the call's own, from block 'base' on, of the cells vs. -/
def Own (w : World) (base : Nat) (E : TypeId) (v : Value) (vs : List Value) : Prop := w.ownsRow base E 1 v vs.length vs
theorem Own.nil (w : World) (base : Nat) (E : TypeId) : Own w base E (.slice none 0 0) [] := World.ownsRow_nil w base E 1
theorem Own.lt {w : World} {base : Nat} {E : TypeId} {v : Value} {vs : List Value} (h : Own w base E v vs) : ∀ k, v.ownBlock = some k → base ≤ k ∧ k < w.heap.size := World.ownsRow.lt h
theorem Own.ty {w : World} {base : Nat} {E : TypeId} {v : Value} {vs : List Value} (h : Own w base E v vs) : ∀ k, v.ownBlock = some k → Ty w k E := by
  intro k hk
  rcases h.2 with ⟨rfl, _⟩ | ⟨g, cap, cur, rfl, _, hg, _⟩
  · cases hk
  · cases hk; exact ⟨_, _, hg⟩
theorem Own.slice {w : World} {base : Nat} {E : TypeId} {v : Value} {vs : List Value} (h : Own w base E v vs) : ∃ a cap, v = .slice a vs.length cap := by
  rcases h.2 with ⟨rfl, hn⟩ | ⟨g, cap, cur, rfl, _⟩
  · exact ⟨none, 0, by rw [hn]⟩
  · exact ⟨_, _, rfl⟩
theorem Own.rv {w : World} {base : Nat} {E : TypeId} {v : Value} {vs : List Value} (h : Own w base E v vs) : Rv w 1 v vs.length vs := ownsRow_rv h
theorem Own.keep {w w' : World} {base : Nat} {E : TypeId} {v : Value} {vs : List Value} {S : List Nat} (h : Own w base E v vs) (k : Keep S w w') (hS : ∀ b, v.ownBlock = some b → b ∉ S) : Own w' base E v vs := by
  refine ⟨h.1, ?_⟩
  have hl := h.lt
  rcases h.2 with ⟨rfl, hn⟩ | ⟨g, cap, cur, rfl, hb, hg, r⟩
  · exact .inl ⟨rfl, hn⟩
  · exact .inr ⟨g, cap, cur, rfl, hb, by rw [k.block g (hl g rfl).2 (hS g rfl)]; exact hg, r⟩
theorem Own.alloc {w : World} {base : Nat} {E : TypeId} {v : Value} {vs : List Value} (h : Own w base E v vs) (o : Obj) : Own (w.alloc o) base E v vs := World.ownsRow.alloc h o
theorem Own.drew {w : World} {base : Nat} {E : TypeId} {v : Value} {vs : List Value} (h : Own w base E v vs) : Own w.drew base E v vs := h
theorem Own.mono {w : World} {base base' : Nat} {E : TypeId} {v : Value} {vs : List Value} (h : Own w base E v vs) (hb : base' ≤ base) : Own w base' E v vs := by
  refine ⟨h.1, ?_⟩
  rcases h.2 with ⟨rfl, hn⟩ | ⟨g, cap, cur, rfl, hg, r⟩
  · exact .inl ⟨rfl, hn⟩
  · exact .inr ⟨g, cap, cur, rfl, Nat.le_trans hb hg, r⟩
/-- A row that is not empty lies at the head of a block that is known whole. -/
theorem Own.blk {w : World} {base : Nat} {E : TypeId} {v : Value} {vs : List Value} (h : Own w base E v vs) (hp : 0 < vs.length) :
    ∃ g cap spare, v = .slice (some ⟨g, 0, none⟩) vs.length cap ∧ vs.length ≤ cap ∧ base ≤ g ∧ Blk w g (vs ++ spare) E := by
  rcases h.2 with ⟨rfl, hn⟩ | ⟨g, cap, cur, rfl, hb, hg, hc, hm, hs, ht⟩
  · omega
  · refine ⟨g, cap, cur.toList.drop vs.length, rfl, hc, hb, ?_⟩
    unfold Blk
    have : vs ++ cur.toList.drop vs.length = cur.toList := by
      have h2 := List.take_append_drop vs.length cur.toList
      rw [Nat.mul_one] at ht
      rw [ht] at h2; exact h2
    rw [this]; exact hg
theorem Own.app {w' : World} {base : Nat} {E : TypeId} {v' : Value} {vs ms : List Value} {m : Nat} (hm : ms.length = m) (h : w'.ownsRow base E 1 v' (vs.length + m) (vs ++ ms)) : Own w' base E v' (vs ++ ms) := by
  unfold Own; rw [List.length_append, hm]; exact h
/-- One cell, laid in a block of its own ahead of an append. -/
theorem src_cell {P : Program} {t e : TypeId} (ht : P.underlying t = some (.slice e)) (w : World) (u : Value) (h1 : u.oneCell' = true) (T : TypeId) (b : Nat) (hb : b = w.heap.size) :
    Src P 1 t (.slice (some ⟨b, 0, none⟩) 1 1) 1 [u] (w.alloc (.cells #[u] T)) := by
  subst hb
  refine Src.ofSlice _ ht ⟨w.heap.size, 0, none⟩ 1 1 [u] rfl ?_ (by simpa using h1)
  intro j x hx
  match j, hx with
  | 0, hx => simp at hx; subst hx; simp [Addr.add]
  | j + 1, hx => simp at hx

theorem src_at {P : Program} {t e : TypeId} (ht : P.underlying t = some (.slice e)) (w : World) (b : Nat) (u : Value) (hc : w.cell? ⟨b, 0, none⟩ = some u) (h1 : u.oneCell' = true) :
    Src P 1 t (.slice (some ⟨b, 0, none⟩) 1 1) 1 [u] w := by
  refine Src.ofSlice _ ht ⟨b, 0, none⟩ 1 1 [u] rfl ?_ (by simpa using h1)
  intro j x hx
  match j, hx with
  | 0, hx => simp at hx; subst hx; simpa [Addr.add] using hc
  | j + 1, hx => simp at hx

theorem step_append_src {P : Program} (w : World) {ops : Array Oper} {o : Oper} {a : Act} {K : Act → World → Prop} {Q : Exit → Act → World → Prop} {F : Prop} (hgd : o.guard = none) (s x : Operand) (t tx : TypeId)
    (ho : o.op = .call { callee := .builtin .append, args := #[s, x], argTypes := #[t, tx] })
    (base : Nat) (e : TypeId) (i : TypeInfo) (z : Value) (size bytes : Nat) (ht : P.underlying t = some (.slice e)) (hi : P.info? e = some i) (hz : i.zero = some z)
    (hsize : i.size = size) (hby : i.bytes = bytes) (hzs : z.cells.size = size) (hsz : 0 < size)
    (v : Value) (n : Nat) (xs : List Value) (hs : a.eval s = v) (hown : w.ownsRow base e size v n xs)
    (xv : Value) (m : Nat) (news : List Value) (hx : a.eval x = xv) (hsrc : Src P size tx xv m news w)
    (h63 : n + m ≤ maxLen) (hbytes : (n + m) * bytes ≤ 140737488355328) (hbase : base ≤ w.heap.size)
    (h : ∀ v' w', w'.ownsRow base e size v' (n + m) (xs ++ news) → w.grownBy w' v.ownBlock → (v' = .slice none 0 0 ↔ v = .slice none 0 0 ∧ m = 0) → (∀ k, v'.ownBlock = some k → v.ownBlock = some k ∨ w.heap.size ≤ k) → K (a.put o.dst v') w') :
    if Region.wanted o (yielded ops a.tmps) = true then Oper.wp P o a w K Q else F := by
  rw [if_pos (by simp [Region.wanted, hgd])]
  obtain ⟨v', w', hr, h2, h3, h4, h5⟩ := run_append_src (P := P) w base t tx o.type e i z size bytes ht hi hz hsize hby hzs hsz v n xs hown xv m news hsrc h63 hbytes hbase
  unfold Oper.wp execOp
  simp only [ho, resolve, invoke, builtin, Sem.run_bind, Sem.run_pure, Result.andThen_ok, List.map_toArray, List.map_cons, List.map_nil, hs, hx, hr]
  exact h v' w' h2 h3 h4 h5
/-- make of so many elements, as a run. -/
theorem run_make_n {P : Program} (t e : TypeId) (i : TypeInfo) (z : Value) (h1 : P.underlying t = some (.slice e)) (h2 : P.info? e = some i) (h3 : i.zero = some z) (h4 : i.size = 1) (h5 : z.cells = #[z])
    (C : Int) (n : Nat) (hC : C = (n : Int)) (b2 : i.bytes * n ≤ 281474976710656) (b3 : n ≤ 9223372036854775807) (w : World) :
    (Instr.makeSlice t (.int .i64 C) (.int .i64 C)).run P w = .ok (.slice (some ⟨w.heap.size, 0, none⟩) n n) (w.alloc (.cells (List.replicate n z).toArray e)) := by
  subst hC
  have hb2 : (i.bytes : Int) * (n : Int) ≤ 281474976710656 := by
    have h : ((i.bytes * n : Nat) : Int) ≤ 281474976710656 := by omega
    rw [Int.natCast_mul] at h
    exact h
  have hr := run_make (P := P) w t e i z h1 h2 h3 .i64 .i64 (n : Int) (n : Int) (by omega) (by omega) hb2 (by omega)
  rw [h4, h5, Int.toNat_natCast] at hr
  have e2 : madeCells #[z] (n * 1) = (List.replicate n z).toArray := by
    apply Array.ext'
    simp only [madeCells, Array.toList_map, Array.toList_range]
    apply List.ext_getElem
    · simp
    · intro j h1 h2; simp at h1; simp [Nat.mod_one]
  rw [e2] at hr
  exact hr
end Go.Proofs.Ytpibpapolcdeiaa
/- Data that came in, opened: slices of whatever elements, structs of a few cells. No condition. -/
namespace Go.Proofs.Ytpibpapolcdeiaa
open Go.ChangeShapes Go.WideShapes Go.ChangeAt Go.RowKit
set_option linter.unusedVariables false
set_option linter.unusedSimpArgs false
set_option maxRecDepth 100000

section
variable {H : Type} {enc : TypeId × Value → H} {P : Program} {w : World}

/-- Whatever reads as one of type t is the cells g y of some y with R y. -/
def Opens (enc : TypeId × Value → H) (P : Program) (w : World) (t : TypeId) {α : Type} (g : α → List Value) (R : α → Prop) : Prop :=
  ∀ (fuel : Nat) (cs : List Value) (x : DataW H × List MemPlace), DataW.trod enc P w 0 (fun _ => true) true fuel t cs = some x → ∃ y : α, cs = g y ∧ R y
theorem opens_int {t : TypeId} {k : IntKind} (ht : P.underlying t = some (.int k)) : Opens enc P w t (fun n : Int => [.int k n]) (fun n => (Lit.int k n).wf = true) := fun _ _ _ h => by
  obtain ⟨n, rfl, _, hw⟩ := DataW.trod_int ht h
  exact ⟨n, rfl, hw⟩
theorem opens_bool {t : TypeId} (ht : P.underlying t = some .bool) : Opens enc P w t (fun b : Bool => [.bool b]) (fun _ => True) := fun _ _ _ h => by
  obtain ⟨b, rfl, _⟩ := DataW.trod_bool ht h
  exact ⟨b, rfl, trivial⟩
theorem opens_string {t : TypeId} (ht : P.underlying t = some .string) : Opens enc P w t (fun s : ByteArray => [.string s]) (fun s => s.size ≤ 9223372036854775807) := fun _ _ _ h => by
  obtain ⟨s, rfl, _, hs⟩ := DataW.trod_string ht h
  exact ⟨s, rfl, by unfold maxLen at hs; omega⟩

theorem flatten_at {α : Type} (g : α → List Value) (k : Nat) (hg : ∀ y, (g y).length = k) : ∀ (l : List α) (i j : Nat), j < k → (l.map g).flatten[i * k + j]? = (l[i]?).bind fun y => (g y)[j]? := by
  intro l
  induction l with
  | nil => intro i j _; simp
  | cons y l ih =>
    intro i j hj
    rw [List.map_cons, List.flatten_cons]
    cases i with
    | zero => rw [Nat.zero_mul, Nat.zero_add, List.getElem?_append_left (by rw [hg]; exact hj)]; rfl
    | succ i =>
      rw [List.getElem?_append_right (by rw [hg, Nat.succ_mul]; omega), hg, show (i + 1) * k + j - k = i * k + j by rw [Nat.succ_mul]; omega, ih i j hj]
      rfl
theorem flatten_len {α : Type} (g : α → List Value) (k : Nat) (hg : ∀ y, (g y).length = k) (l : List α) : (l.map g).flatten.length = l.length * k := by
  induction l with
  | nil => simp
  | cons y l ih => rw [List.map_cons, List.flatten_cons, List.length_append, hg, ih, List.length_cons, Nat.succ_mul]; omega

/-- A slice. -/
theorem opens_slice {t e : TypeId} {α : Type} {g : α → List Value} {R : α → Prop} {k : Nat} (ht : P.underlying t = some (.slice e)) (hc : P.cellsOf e = k) (hk : 0 < k) (hg : ∀ y, (g y).length = k) (he : Opens enc P w e g R) :
    Opens enc P w t (fun p : Value × List α => [p.1]) (fun p => Rv w k p.1 p.2.length (p.2.map g).flatten ∧ p.2.length ≤ 9223372036854775807 ∧ ∀ y ∈ p.2, R y) := fun fuel cs x h => by
  rcases Deep.open_slice ht h with ⟨rfl, _⟩ | ⟨a, len, cap, m, n, D, Pl, rfl, _, hl, hm, hmm, rfl, hx⟩
  · exact ⟨(.slice none 0 0, []), rfl, Rv.nil w k, by simp, by simp⟩
  · simp only [if_true] at hmm
    subst hmm
    rw [hc] at hx
    have hex : ∀ i, i < len → ∃ y : α, R y ∧ ∀ j, j < k → w.cell? (a.add (i * k + j)) = (g y)[j]? := by
      intro i hi
      obtain ⟨cs', h1, h2⟩ := hx i (by omega)
      obtain ⟨y, rfl, hy⟩ := he _ _ _ h2
      obtain ⟨_, hlen, hat⟩ := World.cells?_some h1
      refine ⟨y, hy, fun j hj => ?_⟩
      have := hat j hj
      rw [Deep.add_add] at this
      rw [this]
    obtain ⟨l, hll, hlR, hlc⟩ : ∃ l : List α, l.length = len ∧ (∀ y ∈ l, R y) ∧ ∀ i y, l[i]? = some y → ∀ j, j < k → w.cell? (a.add (i * k + j)) = (g y)[j]? := by
      clear hx hm hl h
      induction len with
      | zero => exact ⟨[], rfl, by simp, by simp⟩
      | succ len ih =>
        obtain ⟨l, h1, h2, h3⟩ := ih (fun i hi => hex i (by omega))
        obtain ⟨y, hy, hc'⟩ := hex len (by omega)
        refine ⟨l ++ [y], by simp [h1], ?_, ?_⟩
        · intro z hz
          rcases List.mem_append.1 hz with hz | hz
          · exact h2 z hz
          · rw [List.mem_singleton.1 hz]; exact hy
        · intro i z hz
          by_cases hi : i < l.length
          · rw [List.getElem?_append_left hi] at hz; exact h3 i z hz
          · rw [List.getElem?_append_right (by omega)] at hz
            have : i = l.length := by
              rcases Nat.eq_zero_or_pos (i - l.length) with h0 | h0
              · omega
              · rw [List.getElem?_eq_none (by simp; omega)] at hz; cases hz
            subst this
            rw [Nat.sub_self] at hz
            simp at hz
            subst hz
            rw [h1]; exact hc'
    unfold maxLen at hm
    refine ⟨(.slice (some a) len m, l), rfl, ⟨flatten_len g k hg l, some a, m, by rw [hll], by rw [hll]; exact hl, fun hp => ?_⟩, by show l.length ≤ _; omega, hlR⟩
    rw [flatten_len g k hg l] at hp
    have hl0 : 0 < l.length := by
      rcases Nat.eq_zero_or_pos l.length with h0 | h0
      · rw [h0] at hp; omega
      · exact h0
    have h00 : a.add 0 = a := by simp [Addr.add]
    have c0 := hlc 0 l[0] (List.getElem?_eq_getElem hl0) 0 hk
    rw [Nat.zero_mul, Nat.zero_add, h00] at c0
    obtain ⟨sb0, so, rfl, hsb, hadd⟩ := addr_cell (w := w) (a := a) (by rw [c0, List.getElem?_eq_getElem (by rw [hg]; exact hk)]; rfl)
    refine ⟨sb0, so, rfl, hsb, fun i hi => ?_⟩
    rw [flatten_len g k hg l] at hi
    have hdm := Nat.div_add_mod i k
    have hmod := Nat.mod_lt i hk
    have hdiv : i / k < l.length := Nat.div_lt_of_lt_mul (by rw [Nat.mul_comm]; exact hi)
    have e : i = i / k * k + i % k := by rw [Nat.mul_comm]; omega
    have := hlc (i / k) l[i / k] (List.getElem?_eq_getElem hdiv) (i % k) hmod
    rw [hadd, ← e] at this
    rw [this]
    conv => rhs; rw [e]
    rw [flatten_at g k hg l _ _ hmod, List.getElem?_eq_getElem hdiv]
    rfl
theorem flatten_one {α : Type} (f : α → Value) (l : List α) : (l.map fun y => [f y]).flatten = l.map f := by
  induction l with
  | nil => rfl
  | cons y l ih => simp [ih]
/-- A slice of elements of one cell. -/
theorem opens_slice1 {t e : TypeId} {α : Type} {f : α → Value} {R : α → Prop} (ht : P.underlying t = some (.slice e)) (hc : P.cellsOf e = 1) (he : Opens enc P w e (fun y => [f y]) R) :
    Opens enc P w t (fun p : Value × List α => [p.1]) (fun p => Rv w 1 p.1 p.2.length (p.2.map f) ∧ p.2.length ≤ 9223372036854775807 ∧ ∀ y ∈ p.2, R y) := fun fuel cs x h => by
  obtain ⟨p, h1, h2, h3, h4⟩ := opens_slice ht hc (by omega) (fun _ => rfl) he fuel cs x h
  exact ⟨p, h1, by rw [flatten_one] at h2; exact h2, h3, h4⟩
/-- Bytes. -/
theorem opens_bytes {t e : TypeId} (ht : P.underlying t = some (.slice e)) (hu : P.underlying e = some (.int .u8)) (hc : P.cellsOf e = 1) :
    Opens enc P w t (fun p : Value × List Nat => [p.1]) (fun p => Rd w p.1 p.2 ∧ p.2.length ≤ 9223372036854775807 ∧ ∀ c ∈ p.2, c < 256) := fun fuel cs x h => by
  obtain ⟨⟨v, l⟩, h1, h2, h3, h4⟩ := opens_slice1 ht hc (opens_int hu) fuel cs x h
  have hb : ∀ n ∈ l, 0 ≤ n ∧ n < 256 := fun n hn => by
    have := h4 n hn
    simp [Lit.wf, IntKind.min, IntKind.max, IntKind.signed, IntKind.bits] at this
    omega
  refine ⟨(v, l.map Int.toNat), h1, ?_, by simpa using h3, ?_⟩
  · have e : bcs (l.map Int.toNat) = l.map (Value.int .u8) := by
      unfold bcs
      rw [List.map_map]
      apply List.map_congr_left
      intro n hn
      have := hb n hn
      simp [bc]; omega
    show Rv w 1 v (l.map Int.toNat).length (bcs (l.map Int.toNat))
    rw [e, List.length_map]; exact h2
  · intro c hc
    obtain ⟨n, hn, rfl⟩ := List.mem_map.1 hc
    have := hb n hn
    omega
theorem opens_bools {t e : TypeId} (ht : P.underlying t = some (.slice e)) (hu : P.underlying e = some .bool) (hc : P.cellsOf e = 1) :
    Opens enc P w t (fun p : Value × List Bool => [p.1]) (fun p => Rv w 1 p.1 p.2.length (bools p.2) ∧ p.2.length ≤ 9223372036854775807) := fun fuel cs x h => by
  obtain ⟨p, h1, h2, h3, _⟩ := opens_slice1 ht hc (opens_bool hu) fuel cs x h
  exact ⟨p, h1, h2, h3⟩
theorem opens_strings {t e : TypeId} (ht : P.underlying t = some (.slice e)) (hu : P.underlying e = some .string) (hc : P.cellsOf e = 1) :
    Opens enc P w t (fun p : Value × List ByteArray => [p.1]) (fun p => Rv w 1 p.1 p.2.length (strs p.2) ∧ p.2.length ≤ 9223372036854775807 ∧ ∀ s ∈ p.2, s.size ≤ 9223372036854775807) := fun fuel cs x h => by
  obtain ⟨p, h1, h2, h3, h4⟩ := opens_slice1 ht hc (opens_string hu) fuel cs x h
  exact ⟨p, h1, h2, h3, h4⟩

/-- A struct of four fields of one cell each. -/
theorem opens_struct4 {t : TypeId} {f0 f1 f2 f3 : Field} {α β γ δ : Type} {g0 : α → Value} {g1 : β → Value} {g2 : γ → Value} {g3 : δ → Value} {R0 : α → Prop} {R1 : β → Prop} {R2 : γ → Prop} {R3 : δ → Prop}
    (ht : P.underlying t = some (.struct #[f0, f1, f2, f3])) (hc : P.cellsOf t = 4) (o : f0.offset = 0 ∧ f1.offset = 1 ∧ f2.offset = 2 ∧ f3.offset = 3)
    (c : P.cellsOf f0.type = 1 ∧ P.cellsOf f1.type = 1 ∧ P.cellsOf f2.type = 1 ∧ P.cellsOf f3.type = 1)
    (h0 : Opens enc P w f0.type (fun y => [g0 y]) R0) (h1 : Opens enc P w f1.type (fun y => [g1 y]) R1) (h2 : Opens enc P w f2.type (fun y => [g2 y]) R2) (h3 : Opens enc P w f3.type (fun y => [g3 y]) R3) :
    Opens enc P w t (fun y : α × β × γ × δ => [g0 y.1, g1 y.2.1, g2 y.2.2.1, g3 y.2.2.2]) (fun y => R0 y.1 ∧ R1 y.2.1 ∧ R2 y.2.2.1 ∧ R3 y.2.2.2) := fun fuel cs x h => by
  obtain ⟨xs, n, _, _, hl, hxl, hf⟩ := DataW.trod_struct ht h
  rw [hc] at hl
  have e0 := hf 0 f0 rfl
  have e1 := hf 1 f1 rfl
  have e2 := hf 2 f2 rfl
  have e3 := hf 3 f3 rfl
  rw [o.1, c.1, List.getElem?_eq_getElem (by rw [hxl]; simp)] at e0
  rw [o.2.1, c.2.1, List.getElem?_eq_getElem (by rw [hxl]; simp)] at e1
  rw [o.2.2.1, c.2.2.1, List.getElem?_eq_getElem (by rw [hxl]; simp)] at e2
  rw [o.2.2.2, c.2.2.2, List.getElem?_eq_getElem (by rw [hxl]; simp)] at e3
  obtain ⟨y0, q0, r0⟩ := h0 _ _ _ e0
  obtain ⟨y1, q1, r1⟩ := h1 _ _ _ e1
  obtain ⟨y2, q2, r2⟩ := h2 _ _ _ e2
  obtain ⟨y3, q3, r3⟩ := h3 _ _ _ e3
  match cs, hl with
  | [a, b, c', d], _ =>
    simp at q0 q1 q2 q3
    subst q0
    subst q1
    subst q2
    subst q3
    exact ⟨(y0, y1, y2, y3), rfl, r0, r1, r2, r3⟩
theorem opens_val {t : TypeId} {α : Type} {f : α → Value} {R : α → Prop} {v : Value} {d : DataW H} {p : List MemPlace} (ho : Opens enc P w t (fun y => [f y]) R) (hv : ∀ y, v.cells.toList = [f y] → v = f y)
    (h : DataW.Trod enc P w 0 (fun _ => true) true t v d p) : ∃ y, v = f y ∧ R y := by
  obtain ⟨fuel, hf⟩ := h
  obtain ⟨y, h1, h2⟩ := ho _ _ _ hf
  exact ⟨y, hv y h1, h2⟩
end
end Go.Proofs.Ytpibpapolcdeiaa
/- A device's cells: sectors one behind the other in one block; what a store of some cells does to them. No program. -/
namespace Go.Proofs.Ytpibpapolcdeiaa
open Go.ChangeShapes Go.WideShapes Go.ChangeAt Go.RowKit
set_option linter.unusedVariables false
set_option linter.unusedSimpArgs false
set_option maxRecDepth 100000

/-- A part of a list written over. -/
def over {α : Type} (l : List α) (o : Nat) (vs : List α) : List α := l.take o ++ (vs ++ l.drop (o + vs.length))
theorem over_length {α : Type} (l : List α) (o : Nat) (vs : List α) (h : o + vs.length ≤ l.length) : (over l o vs).length = l.length := by
  unfold over; simp; omega
theorem over_nil {α : Type} (l : List α) (o : Nat) : over l o [] = l := by simp [over]
theorem over_cons {α : Type} (l : List α) (o : Nat) (v : α) (vs : List α) (h : o + (vs.length + 1) ≤ l.length) : over (l.set o v) (o + 1) vs = over l o (v :: vs) := by
  unfold over
  have e1 : (l.set o v).take (o + 1) = l.take o ++ [v] := by
    rw [List.take_succ_eq_append_getElem (by simp; omega), List.take_set_of_le (Nat.le_refl _)]
    simp
  have e2 : (l.set o v).drop (o + 1 + vs.length) = l.drop (o + (vs.length + 1)) := by
    rw [List.drop_set_of_lt (by omega), show o + 1 + vs.length = o + (vs.length + 1) by omega]
  rw [e1, e2]
  simp

theorem Blk.setCells {b : Nat} {T : TypeId} : ∀ (vs : List Value) (o : Nat) (w : World) (cs : List Value), Blk w b cs T → o + vs.length ≤ cs.length → Blk (w.setCells b o vs) b (over cs o vs) T := by
  intro vs
  induction vs with
  | nil => intro o w cs h _; rw [over_nil]; exact h
  | cons v vs ih =>
    intro o w cs h hle
    simp only [List.length_cons] at hle
    rw [← over_cons cs o v vs (by omega)]
    exact ih (o + 1) _ _ (h.set o v) (by simp; omega)
theorem Keep.setCells {S : List Nat} {b : Nat} : ∀ (vs : List Value) (o : Nat) (a w : World), Keep S a w → b ∈ S ∨ a.heap.size ≤ b → Keep S a (w.setCells b o vs) := by
  intro vs
  induction vs with
  | nil => intro o a w h _; exact h
  | cons v vs ih => intro o a w h hb; exact ih (o + 1) a _ (h.setCell hb v) hb
theorem Blk.range {w : World} {b : Nat} {cs : List Value} {T : TypeId} (h : Blk w b cs T) (o n : Nat) : w.rangeAt b o ((cs.drop o).take n) := by
  intro j v hj
  rw [h.cell]
  rw [List.getElem?_take] at hj
  split at hj
  · rw [← hj, List.getElem?_drop]
  · cases hj
theorem Blk.there {w : World} {b : Nat} {cs : List Value} {T : TypeId} (h : Blk w b cs T) (o n : Nat) (hn : o + n ≤ cs.length) : w.there b o n := by
  intro j hj
  exact ⟨by rw [h.cell, List.getElem?_eq_getElem (by omega)]; rfl, h.free _⟩

/-- A store of all cells of a block. -/
theorem wpList_store_blk {P : Program} {ops : Array Oper} {rest : List Oper} {op : Oper} {a : Act} {w : World} {Q : Exit → Act → World → Prop} (hgd : op.guard = none) (ty : TypeId) (x y : Operand) (ho : op.op = .store ty x y)
    (b : Nat) (old cells : List Value) (T : TypeId) (hx : a.eval x = .pointer (some ⟨b, 0, none⟩)) (hy : a.eval y = .agg cells.toArray)
    (hb : Blk w b old T) (hl : old.length = cells.length) (hi : (P.info? ty).map (·.size) = some cells.length) (h1 : ∀ v ∈ cells, v.oneCell' = true)
    (h : ∀ w', Blk w' b cells T → Keep [b] w w' → wpList P ops Q rest (a.put op.dst undef) w') : wpList P ops Q (op :: rest) a w := by
  refine wpList_store_mid hgd ty x y ho b 0 cells.toArray hx hy (hb.there 0 _ (by simp; omega)) (by simpa using hi) (all_oneCell_toArray h1) (h _ ?_ (Keep.setCells _ _ _ _ (Keep.refl _ _) (.inl (by simp))))
  have := hb.setCells cells 0 w _ (by omega)
  unfold over at this
  rw [List.drop_of_length_le (by omega)] at this
  simpa using this
/-- A load of a row in the midst of a block, in a region that draws its order and ends in one store ('wp_region_still_tail'). -/
theorem wpStill_load_mid {P : Program} {ops : Array Oper} {w : World} {Q : Act → Prop} {a : Act} {op : Oper} {rest : List Oper} (hgd : op.guard = none) (ty : TypeId) (x : Operand) (ho : op.op = .load ty x)
    (b o : Nat) (hx : a.eval x = .pointer (some ⟨b, o, none⟩)) (cs : List Value) (d : TypeDesc) (hc : w.rangeAt b o cs)
    (hu : P.underlying ty = some d) (hd : d.isRow = true) (hi : (P.info? ty).map (·.size) = some cs.length)
    (h : wpStill P ops w Q rest (a.put op.dst (.agg cs.toArray))) : wpStill P ops w Q (op :: rest) a := by
  refine wpStill_step (fun K hK => ?_)
  rw [if_pos (by simp [Region.wanted, hgd])]
  unfold Oper.still execOp
  simp only [ho, hx, Instr.loadAt, Instr.sureAddr, Sem.run_bind, Sem.run_pure, Result.andThen_ok, run_loadVar_mid w b o ty cs d hc hu hd hi]
  exact ⟨rfl, hK _ h⟩
/-- A struct or a row that is built, in such a region. -/
theorem wpStill_build {P : Program} {ops : Array Oper} {w : World} {Q : Act → Prop} {a : Act} {op : Oper} {rest : List Oper} (hgd : op.guard = none) (t : TypeId) (parts : Array (Nat × Operand)) (ho : op.op = .build t parts)
    (ps : Array (Nat × Value)) (hp : (parts.map fun (i, x) => (i, a.eval x)) = ps) (v : Value) (hr : (Instr.build t ps).run P w = .ok v w)
    (h : wpStill P ops w Q rest (a.put op.dst v)) : wpStill P ops w Q (op :: rest) a := by
  refine wpStill_step (fun K hK => ?_)
  rw [if_pos (by simp [Region.wanted, hgd])]
  unfold Oper.still execOp
  simp only [ho, hp, Sem.run_bind, Sem.run_pure, Result.andThen_ok, hr]
  exact ⟨rfl, hK _ h⟩
/-- A sector: what is there, what lasts, whether they may differ. -/
structure Sec where
  now : List Nat
  lasts : List Nat
  loose : Bool
def Sec.ok (s : Sec) : Prop := s.now.length = 64 ∧ s.lasts.length = 64 ∧ (∀ c ∈ s.now, c < 256) ∧ ∀ c ∈ s.lasts, c < 256
def secCells (s : Sec) : List Value := bcs s.now ++ (bcs s.lasts ++ [.bool s.loose])
theorem secCells_length {s : Sec} (h : s.ok) : (secCells s).length = 129 := by
  unfold secCells; simp [h.1, h.2.1]
def devCells (l : List Sec) : List Value := (l.map secCells).flatten
theorem devCells_length {l : List Sec} (h : ∀ s ∈ l, s.ok) : (devCells l).length = 129 * l.length := by
  induction l with
  | nil => rfl
  | cons s l ih =>
    have := ih (fun x hx => h x (by simp [hx]))
    have h1 := secCells_length (h s (by simp))
    simp only [devCells, List.map_cons, List.flatten_cons, List.length_append, List.length_cons] at *
    omega
theorem devCells_append (l m : List Sec) : devCells (l ++ m) = devCells l ++ devCells m := by simp [devCells]
theorem devCells_cons (s : Sec) (m : List Sec) : devCells (s :: m) = secCells s ++ devCells m := by simp [devCells]
theorem dev_split {l : List Sec} (i : Nat) (s : Sec) (hi : l[i]? = some s) : l = l.take i ++ s :: l.drop (i + 1) := by
  have hlt : i < l.length := (List.getElem?_eq_some_iff.1 hi).1
  have e := (List.getElem?_eq_some_iff.1 hi).2
  rw [← e, ← List.drop_eq_getElem_cons hlt, List.take_append_drop]
theorem devCells_range {l : List Sec} (h : ∀ s ∈ l, s.ok) (i : Nat) (s : Sec) (hi : l[i]? = some s) (j n : Nat) (hj : j + n ≤ 129) :
    ((devCells l).drop (i * 129 + j)).take n = ((secCells s).drop j).take n := by
  have hlt : i < l.length := (List.getElem?_eq_some_iff.1 hi).1
  have e := dev_split i s hi
  have hs : s.ok := h s (List.mem_of_getElem? hi)
  have hl := secCells_length hs
  have hp : (devCells (l.take i)).length = i * 129 := by
    rw [devCells_length (fun x hx => h x (List.mem_of_mem_take hx)), List.length_take]; omega
  rw [e, devCells_append, devCells_cons, List.drop_append, hp, List.drop_of_length_le (by omega), List.nil_append,
    show i * 129 + j - i * 129 = j by omega, List.drop_append, hl, List.take_append_of_le_length (by rw [List.length_drop]; omega)]
theorem devCells_over {l : List Sec} (h : ∀ s ∈ l, s.ok) (i : Nat) (s s' : Sec) (hi : l[i]? = some s) (hs' : s'.ok) (j : Nat) (vs : List Value) (hj : j + vs.length ≤ 129) (he : over (secCells s) j vs = secCells s') :
    over (devCells l) (i * 129 + j) vs = devCells (l.set i s') := by
  have hlt : i < l.length := (List.getElem?_eq_some_iff.1 hi).1
  have e := dev_split i s hi
  have hs : s.ok := h s (List.mem_of_getElem? hi)
  have hl := secCells_length hs
  have hp : (devCells (l.take i)).length = i * 129 := by
    rw [devCells_length (fun x hx => h x (List.mem_of_mem_take hx)), List.length_take]; omega
  have e2 : l.set i s' = l.take i ++ s' :: l.drop (i + 1) := by
    rw [List.set_eq_take_append_cons_drop, if_pos hlt]
  rw [e2, devCells_append, devCells_cons, ← he]
  conv => lhs; rw [e]
  rw [devCells_append, devCells_cons]
  unfold over
  rw [List.take_append, hp, List.take_of_length_le (by omega), show i * 129 + j - i * 129 = j by omega, List.take_append_of_le_length (by omega),
    List.drop_append, hp, List.drop_of_length_le (by omega), List.nil_append, show i * 129 + j + vs.length - i * 129 = j + vs.length by omega, List.drop_append_of_le_length (by omega)]
  simp
theorem mem_set_ok {l : List Sec} (h : ∀ s ∈ l, s.ok) (i : Nat) (s' : Sec) (hs' : s'.ok) : ∀ s ∈ l.set i s', s.ok := by
  intro s hs
  rcases List.mem_or_eq_of_mem_set hs with h1 | rfl
  · exact h s h1
  · exact hs'

/-! make of so many zero elements -/
theorem madeCells_rep (z : Array Value) (hz : 0 < z.size) (n : Nat) : madeCells z (n * z.size) = ((List.replicate n z.toList).flatten).toArray := by
  apply Array.ext'
  simp only [madeCells, Array.toList_map, Array.toList_range]
  induction n with
  | zero => simp
  | succ n ih =>
    rw [Nat.succ_mul, List.range_add, List.map_append, ih, List.replicate_succ']
    simp only [List.flatten_append, List.flatten_cons, List.flatten_nil, List.append_nil, List.map_map]
    congr 1
    apply List.ext_getElem
    · simp
    · intro j h1 h2
      simp at h1
      simp only [List.getElem_map, List.getElem_range, Function.comp_apply]
      rw [Nat.add_comm, Nat.add_mul_mod_self_right, Nat.mod_eq_of_lt h1, getElem!_pos z j h1]
      simp
theorem wpList_make_n {P : Program} (w : World) {ops : Array Oper} {rest : List Oper} {o : Oper} {a : Act} {Q : Exit → Act → World → Prop}
    (hg : o.guard = none) (l c : Operand) (t : TypeId) (hop : o.op = Op.makeSlice t l c)
    (e : TypeId) (i : TypeInfo) (z : Value) (h1 : P.underlying t = some (.slice e)) (h2 : P.info? e = some i) (h3 : i.zero = some z) (h4 : i.size = z.cells.size) (h5 : 0 < z.cells.size)
    (C : Int) (n : Nat) (hl : a.eval l = .int .i64 C) (hc : a.eval c = .int .i64 C) (hC : C = (n : Int)) (b2 : i.bytes * n ≤ 281474976710656) (b3 : n ≤ 9223372036854775807)
    (hK : wpList P ops Q rest (a.put o.dst (.slice (some ⟨w.heap.size, 0, none⟩) n n)) (w.alloc (.cells ((List.replicate n z.cells.toList).flatten).toArray e))) :
    wpList P ops Q (o :: rest) a w := by
  subst hC
  refine wpList_plain hg fun K hK' => ?_
  have hb2 : (i.bytes : Int) * (n : Int) ≤ 281474976710656 := by
    have h : ((i.bytes * n : Nat) : Int) ≤ 281474976710656 := by omega
    rw [Int.natCast_mul] at h
    exact h
  have hr := run_make (P := P) w t e i z h1 h2 h3 .i64 .i64 (n : Int) (n : Int) (by omega) (by omega) hb2 (by omega)
  rw [h4, Int.toNat_natCast, madeCells_rep _ h5] at hr
  unfold Oper.wp execOp
  simp only [hop, Sem.run_bind, Sem.run_pure, Result.andThen_ok, hl, hc, hr]
  exact hK' _ _ hK

/-! copy into the midst of a block -/
theorem run_copy_mid {P : Program} (w : World) (t tx ty e : TypeId) (i : TypeInfo) (ht : P.underlying t = some (.slice e)) (hi : P.info? e = some i) (hz : i.size = 1) (b off dl dc : Nat) (x : Value) (n : Nat) (news : List Value)
    (hs : Src P 1 tx x n news w) (hn : n ≤ dl) (hth : w.there b off n) :
    (Builtin.copy_ #[t, tx] ty #[.slice (some ⟨b, off, none⟩) dl dc, x]).run P w = .ok (goInt n) (w.setCells b off news) := by
  have hl : news.length = n := by have := hs.newsLen; omega
  have hst := run_storeCells_cells (P := P) b off news 0 w (fun j hj => by simpa using (hth j (by omega)).1) (fun j hj => by simpa using (hth j (by omega)).2) hs.one
  have hm : min n dl = n := Nat.min_eq_left hn
  have h0 := hs.cells
  simp only [Nat.add_zero] at hst
  simp [Builtin.copy_, run_underlying ht, sizeOf, typeInfo, hi, hz, hs.len, hm, h0, Addr.add_lit, hst]
theorem wpList_copy_mid {P : Program} (w : World) {ops : Array Oper} {rest : List Oper} {o : Oper} {a : Act} {Q : Exit → Act → World → Prop} (hgd : o.guard = none) (s x : Operand) (t tx : TypeId)
    (ho : o.op = .call { callee := .builtin .copy, args := #[s, x], argTypes := #[t, tx] }) (e : TypeId) (i : TypeInfo) (ht : P.underlying t = some (.slice e)) (hi : P.info? e = some i) (hz : i.size = 1)
    (b off dl dc : Nat) (hsv : a.eval s = .slice (some ⟨b, off, none⟩) dl dc) (xv : Value) (n : Nat) (news : List Value) (hx : a.eval x = xv) (hs : Src P 1 tx xv n news w) (hn : n ≤ dl) (hth : w.there b off n)
    (h : wpList P ops Q rest (a.put o.dst (goInt n)) (w.setCells b off news)) : wpList P ops Q (o :: rest) a w := by
  have hr := run_copy_mid (P := P) w t tx o.type e i ht hi hz b off dl dc xv n news hs hn hth
  refine wpList_plain hgd fun K hK => ?_
  unfold Oper.wp execOp
  simp only [ho, resolve, invoke, builtin, Sem.run_bind, Sem.run_pure, Result.andThen_ok, List.map_toArray, List.map_cons, List.map_nil, hsv, hx, hr]
  exact hK _ _ h
end Go.Proofs.Ytpibpapolcdeiaa
/- Bytes as a text: the conversion of a slice of bytes that can be read; parts of such a slice. No condition. -/
namespace Go.Proofs.Ytpibpapolcdeiaa
open Go.ChangeShapes Go.WideShapes Go.ChangeAt Go.RowKit
set_option linter.unusedVariables false
set_option linter.unusedSimpArgs false
set_option maxRecDepth 100000

/-- Bytes as a text. -/
def toStr (l : List Nat) : ByteArray := ⟨(l.map UInt8.ofNat).toArray⟩
@[simp] theorem toStr_size (l : List Nat) : (toStr l).size = l.length := by
  show (l.map UInt8.ofNat).toArray.size = _
  simp
theorem toStr_inj {l m : List Nat} (hl : ∀ c ∈ l, c < 256) (hm : ∀ c ∈ m, c < 256) (h : toStr l = toStr m) : l = m := by
  have h1 : l.map UInt8.ofNat = m.map UInt8.ofNat := by
    have := congrArg (fun b : ByteArray => b.data.toList) h
    simpa [toStr] using this
  have h2 := congrArg (List.map UInt8.toNat) h1
  simp only [List.map_map] at h2
  have key : ∀ x : List Nat, (∀ c ∈ x, c < 256) → x.map (UInt8.toNat ∘ UInt8.ofNat) = x := by
    intro x hx
    conv => rhs; rw [← List.map_id x]
    apply List.map_congr_left
    intro c hc
    simp [Nat.mod_eq_of_lt (hx c hc)]
  rwa [key l hl, key m hm] at h2

/-- A part of a slice that can be read. -/
theorem Rv.sub {w : World} {n : Nat} {vs : List Value} {sb so cap : Nat} (h : Rv w 1 (.slice (some ⟨sb, so, none⟩) n cap) n vs) (k m c : Nat) (hk : k + m ≤ n) (hc : m ≤ c) :
    Rv w 1 (.slice (some ⟨sb, so + k, none⟩) m c) m ((vs.drop k).take m) := by
  obtain ⟨hl, a, cap', he, hcap, h⟩ := h
  simp only [Value.slice.injEq] at he
  obtain ⟨rfl, _, rfl⟩ := he
  refine ⟨by simp [List.length_take, List.length_drop]; omega, _, c, rfl, hc, fun hp => ?_⟩
  have hm : 0 < m := by
    rcases Nat.eq_zero_or_pos m with rfl | h'
    · simp at hp
    · exact h'
  obtain ⟨sb', so', e, hs, hat⟩ := h (by omega)
  simp only [Option.some.injEq, Addr.mk.injEq] at e
  obtain ⟨rfl, rfl, _⟩ := e
  refine ⟨sb, so + k, rfl, hs, fun i hi => ?_⟩
  have hi' : i < m := by simp [List.length_take, List.length_drop] at hi; omega
  rw [Nat.add_assoc, hat (k + i) (by omega), List.getElem?_take, if_pos hi', List.getElem?_drop]
theorem bcs_part (l : List Nat) (k m : Nat) : ((bcs l).drop k).take m = bcs ((l.drop k).take m) := by simp [bcs, List.map_drop, List.map_take]
/-- An empty slice, wherever it leads. -/
theorem Rv.empty (w : World) (sz : Nat) (a : Option Addr) (c : Nat) : Rv w sz (.slice a 0 c) 0 [] := ⟨by simp, a, c, rfl, by omega, fun h => by simp at h⟩

theorem Rd.str {P : Program} {w : World} {v : Value} {l : List Nat} {src dst e : TypeId} (h : Rd w v l) (hb : ∀ c ∈ l, c < 256) (hs : P.underlying src = some (.slice e)) (he : P.underlying e = some (.int .u8)) (hd : P.underlying dst = some .string) :
    (convert src dst v).run P w = .ok (.string (toStr l)) w := by
  obtain ⟨_, a, cap, rfl, hc, h⟩ := h
  cases a with
  | none =>
    have hl : l = [] := by
      cases l with
      | nil => rfl
      | cons x r => obtain ⟨_, _, h', _⟩ := h (by simp); cases h'
    subst hl
    exact Lib.run_convert_nil_bytes w src dst e cap hs he hd
  | some a =>
    have := run_convert_bytes_back (P := P) w src dst e a cap (l.map UInt8.ofNat) hs he hd (by
      intro j hj
      have hj' : j < l.length := by simpa using hj
      obtain ⟨sb, so, e1, hs, hat⟩ := h (by simpa using (by omega : 0 < l.length))
      simp only [Option.some.injEq] at e1
      subst e1
      have h1 : ((⟨sb, so, none⟩ : Addr).add j) = ⟨sb, so + j, none⟩ := by
        by_cases h0 : j = 0
        · subst h0; simp [Addr.add]
        · simp [Addr.add, h0]
      rw [h1, hat j (by simpa using hj'), bcs_at l j hj']
      have hlt := hb (l[j]) (List.getElem_mem _)
      simp [bc, List.getD_eq_getElem?_getD, hj', Nat.mod_eq_of_lt hlt])
    rw [List.length_map] at this
    exact this

/-! A slice of a slice, its place left open: no case on the capacity. -/
section
variable {P : Program} {w : World}
theorem Rv.cut {v : Value} {n : Nat} {vs : List Value} (h : Rv w 1 v n vs) (lo hi : Nat) (hlo : lo ≤ hi) (hhi : hi ≤ n) :
    ∀ a cap, v = .slice a n cap → Rv w 1 (.slice (if cap = lo then a else a.map (·.add lo)) (hi - lo) (cap - lo)) (hi - lo) ((vs.drop lo).take (hi - lo)) := by
  rintro a cap rfl
  obtain ⟨hl, a', cap', he, hcap, h⟩ := h
  simp only [Value.slice.injEq] at he
  obtain ⟨rfl, _, rfl⟩ := he
  rw [Nat.mul_one] at hl
  refine ⟨by simp [List.length_take, List.length_drop]; omega, _, _, rfl, by omega, fun hp => ?_⟩
  simp only [List.length_take, List.length_drop] at hp
  obtain ⟨sb, so, rfl, hs, hat⟩ := h (by omega)
  have hne : ¬ cap = lo := by omega
  refine ⟨sb, so + lo, ?_, hs, fun i hi' => ?_⟩
  · rw [if_neg hne]
    simp only [Option.map_some, Addr.add]
    by_cases h0 : lo = 0
    · subst h0; simp
    · simp [h0]
  · simp only [List.length_take, List.length_drop] at hi'
    rw [Nat.add_assoc, hat (lo + i) (by omega), List.getElem?_take, if_pos (by omega), List.getElem?_drop]
theorem ownBlock_cut (a : Option Addr) (n cap lo m c : Nat) : (Value.slice (if cap = lo then a else a.map (·.add lo)) m c).ownBlock = (Value.slice a n cap).ownBlock := by
  cases a with
  | none => split <;> rfl
  | some a =>
    split
    · rfl
    · simp only [Option.map_some, Value.ownBlock, Addr.add]
      split <;> rfl

theorem run_cut (t e : TypeId) (i : TypeInfo) (ht : P.underlying t = some (.slice e)) (hi : P.info? e = some i) (hz : i.size = 1) (ad : Option Addr) (n cap l h m : Nat) (hle : l ≤ h) (hn : h ≤ m) (hm : m ≤ cap) (mx : Option Value) (hmx : mx = none ∧ m = cap ∨ mx = some (.int .i64 m)) :
    (Instr.sliceAt t (.slice ad n cap) (some (.int .i64 (l : Int))) (some (.int .i64 (h : Int))) mx).run P w = .ok (.slice (if m = l then ad else ad.map (·.add l)) (h - l) (m - l)) w := by
  have q1 : (0 : Int) ≤ (h : Int) ∧ (h : Int) ≤ (m : Int) := by omega
  have q2 : (0 : Int) ≤ (l : Int) ∧ (l : Int) ≤ (h : Int) := by omega
  have q3 : (0 : Int) ≤ (m : Int) ∧ (m : Int) ≤ (cap : Int) := by omega
  rcases hmx with ⟨rfl, rfl⟩ | rfl <;>
    simp [Instr.sliceAt, run_underlying ht, Instr.slice, Instr.sliceBounds, Instr.sliceBound, asIntOf, q1, q2, q3, hle, hn, hm, sizeOf, typeInfo, hi, hz]
theorem run_cut_lo (t e : TypeId) (i : TypeInfo) (ht : P.underlying t = some (.slice e)) (hi : P.info? e = some i) (hz : i.size = 1) (ad : Option Addr) (n cap l : Nat) (hle : l ≤ n) :
    (Instr.sliceAt t (.slice ad n cap) (some (.int .i64 (l : Int))) none none).run P w = .ok (.slice (if cap = l then ad else ad.map (·.add l)) (n - l) (cap - l)) w := by
  simp [Instr.sliceAt, run_underlying ht, Instr.slice, Instr.sliceBounds, Instr.sliceBound, asIntOf, hle, sizeOf, typeInfo, hi, hz]

theorem wpList_slice_hi {ops : Array Oper} {rest : List Oper} {Q : Exit → Act → World → Prop} {a : Act} (dst : Option Tmp) (t : TypeId) (x y z : Operand) (ty : TypeId) (pos : String) (aft : Array Edge) (e : TypeId) (i : TypeInfo)
    (ht : P.underlying t = some (.slice e)) (hi : P.info? e = some i) (hz : i.size = 1) (v : Value) (n : Nat) (vs : List Value) (lo hi' : Int) (l h : Nat)
    (hx : a.eval x = v) (hy : a.eval y = .int .i64 lo) (hzz : a.eval z = .int .i64 hi') (hlo : lo = l) (hhi : hi' = h) (hr : Rv w 1 v n vs) (hle : l ≤ h) (hn : h ≤ n)
    (H : ∀ v', Rv w 1 v' (h - l) ((vs.drop l).take (h - l)) → v'.ownBlock = v.ownBlock → wpList P ops Q rest (a.put dst v') w) :
    wpList P ops Q (⟨dst, .slice t x (some y) (some z) none, ty, pos, aft, none⟩ :: rest) a w := by
  subst hlo hhi
  refine wpList_plain rfl fun K hK => ?_
  have hr2 := hr
  obtain ⟨_, ad, cap, rfl, hcap, _⟩ := hr2
  unfold Oper.wp execOp
  simp only [Sem.run_bind, Sem.run_pure, Result.andThen_ok, hx, hy, hzz, Option.map_some, Option.map_none, run_cut t e i ht hi hz ad n cap l h cap hle (by omega) (Nat.le_refl _) none (.inl ⟨rfl, rfl⟩)]
  exact hK _ _ (H _ (hr.cut l h hle hn ad cap rfl) (ownBlock_cut ad n cap l _ _))
theorem wpList_slice_lo {ops : Array Oper} {rest : List Oper} {Q : Exit → Act → World → Prop} {a : Act} (dst : Option Tmp) (t : TypeId) (x y : Operand) (ty : TypeId) (pos : String) (aft : Array Edge) (e : TypeId) (i : TypeInfo)
    (ht : P.underlying t = some (.slice e)) (hi : P.info? e = some i) (hz : i.size = 1) (v : Value) (n : Nat) (vs : List Value) (lo : Int) (l : Nat)
    (hx : a.eval x = v) (hy : a.eval y = .int .i64 lo) (hlo : lo = l) (hr : Rv w 1 v n vs) (hn : l ≤ n)
    (H : ∀ v', Rv w 1 v' (n - l) (vs.drop l) → v'.ownBlock = v.ownBlock → wpList P ops Q rest (a.put dst v') w) :
    wpList P ops Q (⟨dst, .slice t x (some y) none none, ty, pos, aft, none⟩ :: rest) a w := by
  subst hlo
  refine wpList_plain rfl fun K hK => ?_
  have hr2 := hr
  obtain ⟨hl, ad, cap, rfl, hcap, _⟩ := hr2
  unfold Oper.wp execOp
  simp only [Sem.run_bind, Sem.run_pure, Result.andThen_ok, hx, hy, Option.map_some, Option.map_none, run_cut_lo t e i ht hi hz ad n cap l hn]
  have hc := hr.cut l n hn (Nat.le_refl _) ad cap rfl
  rw [List.take_of_length_le (by rw [List.length_drop]; omega)] at hc
  exact hK _ _ (H _ hc (ownBlock_cut ad n cap l _ _))
theorem run_cut_hi (t e : TypeId) (i : TypeInfo) (ht : P.underlying t = some (.slice e)) (hi : P.info? e = some i) (hz : i.size = 1) (ad : Option Addr) (n cap h : Nat) (hle : h ≤ cap) :
    (Instr.sliceAt t (.slice ad n cap) none (some (.int .i64 (h : Int))) none).run P w = .ok (.slice (if cap = 0 then ad else ad.map (·.add 0)) (h - 0) (cap - 0)) w := by
  simp [Instr.sliceAt, run_underlying ht, Instr.slice, Instr.sliceBounds, Instr.sliceBound, asIntOf, hle, sizeOf, typeInfo, hi, hz]
theorem wpList_slice_to {ops : Array Oper} {rest : List Oper} {Q : Exit → Act → World → Prop} {a : Act} (dst : Option Tmp) (t : TypeId) (x z : Operand) (ty : TypeId) (pos : String) (aft : Array Edge) (e : TypeId) (i : TypeInfo)
    (ht : P.underlying t = some (.slice e)) (hi : P.info? e = some i) (hz : i.size = 1) (v : Value) (n : Nat) (vs : List Value) (hi' : Int) (h : Nat)
    (hx : a.eval x = v) (hzz : a.eval z = .int .i64 hi') (hhi : hi' = h) (hr : Rv w 1 v n vs) (hn : h ≤ n)
    (H : ∀ v', Rv w 1 v' h (vs.take h) → v'.ownBlock = v.ownBlock → wpList P ops Q rest (a.put dst v') w) :
    wpList P ops Q (⟨dst, .slice t x none (some z) none, ty, pos, aft, none⟩ :: rest) a w := by
  subst hhi
  refine wpList_plain rfl fun K hK => ?_
  have hr2 := hr
  obtain ⟨_, ad, cap, rfl, hcap, _⟩ := hr2
  unfold Oper.wp execOp
  simp only [Sem.run_bind, Sem.run_pure, Result.andThen_ok, hx, hzz, Option.map_some, Option.map_none, run_cut_hi t e i ht hi hz ad n cap h (by omega)]
  have hc := hr.cut 0 h (Nat.zero_le _) hn ad cap rfl
  simp only [Nat.sub_zero, List.drop_zero] at hc
  exact hK _ _ (H _ hc (by have := ownBlock_cut ad n cap 0 h cap; simpa using this))
end
end Go.Proofs.Ytpibpapolcdeiaa
/- A region that draws its order, by an invariant: each operation once, not each order. -/
namespace Go.Proofs.Ytpibpapolcdeiaa
open Go.ChangeShapes Go.WideShapes Go.ChangeAt Go.RowKit
set_option linter.unusedVariables false
set_option linter.unusedSimpArgs false
set_option maxRecDepth 100000

def upd {α : Type} (f : Nat → α) (i : Nat) (v : α) : Nat → α := fun j => if j = i then v else f j
@[simp] theorem upd_same {α : Type} (f : Nat → α) (i : Nat) (v : α) : upd f i v i = v := by simp [upd]
theorem upd_ne {α : Type} (f : Nat → α) (i j : Nat) (v : α) (h : j ≠ i) : upd f i v j = f j := by simp [upd, h]
/-- The operations' results laid into the frame. -/
def putV : List Oper → Nat → (Nat → Value) → Act → Act
  | [], _, _, a => a
  | o :: os, i, x, a => putV os (i + 1) x (a.put o.dst (x i))
/-- No two operations of the list lay into one slot. -/
def dstsApart : List Oper → Bool
  | [] => true
  | o :: os => (match o.dst with | none => true | some d => os.all (fun o' => o'.dst != some d)) && dstsApart os
/-- Each operation waits only on earlier ones. -/
def edgesBack : List Oper → Nat → Bool
  | [], _ => true
  | o :: os, i => o.after.toList.all (fun e => !Region.binds .any e || decide (e.on < i)) && edgesBack os (i + 1)
def depsHold (l : Nat → Bool) : List Edge → Prop
  | [] => True
  | e :: es => (Region.binds .any e = true → l e.on = true) ∧ depsHold l es
theorem depsHold_of {l : Nat → Bool} : ∀ es : List Edge, (∀ e ∈ es, Region.binds .any e = true → l e.on = true) → depsHold l es
  | [], _ => trivial
  | e :: es, h => ⟨h e (by simp), depsHold_of es (fun e' he' => h e' (by simp [he']))⟩

theorem put_put_same (a : Act) (d : Option Tmp) (v u : Value) : (a.put d v).put d u = a.put d u := by
  cases d <;> simp [Act.put]
theorem putV_put (os : List Oper) : ∀ (i : Nat) (x : Nat → Value) (a : Act) (d : Option Tmp) (v : Value), (∀ o ∈ os, ∀ t, o.dst = some t → d ≠ some t) → putV os i x (a.put d v) = (putV os i x a).put d v := by
  induction os with
  | nil => intro i x a d v _; rfl
  | cons o os ih =>
    intro i x a d v h
    simp only [putV]
    rw [Act.put_comm a v (x i) (fun t ht ho => h o (by simp) t ho ht), ih _ _ _ _ _ (fun o' ho' => h o' (by simp [ho']))]
theorem putV_upd_out (os : List Oper) : ∀ (i : Nat) (x : Nat → Value) (a : Act) (k : Nat) (v : Value), k < i → putV os i (upd x k v) a = putV os i x a := by
  induction os with
  | nil => intro i x a k v _; rfl
  | cons o os ih =>
    intro i x a k v h
    simp only [putV]
    rw [upd_ne _ _ _ _ (by omega), ih _ _ _ _ _ (by omega)]
theorem putV_upd (os : List Oper) : ∀ (i : Nat) (x : Nat → Value) (a : Act) (k : Nat) (v : Value) (o : Oper), dstsApart os = true → os[k]? = some o → putV os i (upd x (i + k) v) a = (putV os i x a).put o.dst v := by
  induction os with
  | nil => intro i x a k v o _ h; simp at h
  | cons o' os ih =>
    intro i x a k v o hd h
    simp only [dstsApart, Bool.and_eq_true] at hd
    cases k with
    | zero =>
      simp only [List.getElem?_cons_zero, Option.some.injEq] at h
      subst h
      simp only [putV, Nat.add_zero, upd_same]
      rw [putV_upd_out _ _ _ _ _ _ (by omega)]
      have hn : ∀ o ∈ os, ∀ t, o.dst = some t → o'.dst ≠ some t := by
        intro o ho t ht e
        have := hd.1
        rw [e] at this
        simp only [List.all_eq_true] at this
        have := this o ho
        rw [ht] at this
        simp at this
      rw [putV_put os _ _ _ _ _ hn, putV_put os _ _ _ _ _ hn, put_put_same]
    | succ k =>
      simp only [List.getElem?_cons_succ] at h
      simp only [putV]
      rw [upd_ne _ _ _ _ (by omega), show i + (k + 1) = (i + 1) + k by omega]
      exact ih _ _ _ _ _ _ hd.2 h
/-- The slots as they stand. -/
def ownVals (os : List Oper) (a : Act) : Nat → Value := fun i => match (os[i]?).bind (·.dst) with
  | some d => a.tmps.getD d undef
  | none => undef
theorem put_self (a : Act) (d : Option Tmp) (v : Value) (h : ∀ t, d = some t → v = a.tmps.getD t undef) : a.put d v = a := by
  cases d with
  | none => rfl
  | some t =>
    obtain ⟨tmps, defers⟩ := a
    have := h t rfl
    subst this
    simp only [Act.put, Act.mk.injEq, and_true]
    apply Array.ext
    · simp
    · intro j h1 h2
      rw [Array.getElem_setIfInBounds]
      · split
        · rename_i e; subst e; simp [Array.getD, h2]
        · rfl
theorem putV_self (os : List Oper) : ∀ (i : Nat) (x : Nat → Value) (a : Act), (∀ k o d, os[k]? = some o → o.dst = some d → x (i + k) = a.tmps.getD d undef) → putV os i x a = a := by
  induction os with
  | nil => intro i x a _; rfl
  | cons o os ih =>
    intro i x a h
    simp only [putV]
    rw [put_self a o.dst (x i) (fun t ht => h 0 o t rfl ht)]
    exact ih _ _ _ (fun k o' d hk hd => by have := h (k + 1) o' d (by simpa using hk) hd; rw [← this]; congr 1; omega)

section
variable {P : Program} {Q : Exit → Act → World → Prop}
def StepAt (P : Program) (ops : List Oper) (Q : Exit → Act → World → Prop) (J : (Nat → Bool) → (Nat → Value) → World → Prop) (a : Act) (i : Nat) (o : Oper) : Prop :=
  ∀ (l : Nat → Bool) (x : Nat → Value) (w : World), J l x w → l i = false → depsHold l o.after.toList →
    ∀ K' : Act → World → Prop, (∀ v w', J (upd l i true) (upd x i v) w' → K' ((putV ops 0 x a).put o.dst v) w') →
      if Region.wanted o (yielded ops.toArray (putV ops 0 x a).tmps) = true then Oper.wp P o (putV ops 0 x a) w K' Q else K' ((putV ops 0 x a).put o.dst undef) w
def Steps (P : Program) (ops : List Oper) (Q : Exit → Act → World → Prop) (J : (Nat → Bool) → (Nat → Value) → World → Prop) (a : Act) : Nat → List Oper → Prop
  | _, [] => True
  | i, o :: os => StepAt P ops Q J a i o ∧ Steps P ops Q J a (i + 1) os
theorem Steps.at {ops : List Oper} {J : (Nat → Bool) → (Nat → Value) → World → Prop} {a : Act} : ∀ (os : List Oper) (i k : Nat) (o : Oper), Steps P ops Q J a i os → os[k]? = some o → StepAt P ops Q J a (i + k) o
  | [], _, _, _, _, h => by simp at h
  | o' :: os, i, 0, o, hs, h => by
    simp only [List.getElem?_cons_zero, Option.some.injEq] at h
    subst h
    exact hs.1
  | o' :: os, i, k + 1, o, hs, h => by
    simp only [List.getElem?_cons_succ] at h
    have := Steps.at os (i + 1) k o hs.2 h
    rwa [show i + 1 + k = i + (k + 1) by omega] at this
theorem edgesBack_at : ∀ (os : List Oper) (i k : Nat) (o : Oper), edgesBack os i = true → os[k]? = some o → ∀ e ∈ o.after, Region.binds .any e = true → e.on < i + k
  | [], _, _, _, _, h => by simp at h
  | o' :: os, i, 0, o, hb, h => by
    simp only [List.getElem?_cons_zero, Option.some.injEq] at h
    subst h
    simp only [edgesBack, Bool.and_eq_true, List.all_eq_true, Bool.or_eq_true, Bool.not_eq_true', decide_eq_true_eq] at hb
    intro e he hbd
    have := (hb.1 e (by simpa using he)).resolve_left (by simp [hbd])
    omega
  | o' :: os, i, k + 1, o, hb, h => by
    simp only [List.getElem?_cons_succ] at h
    simp only [edgesBack, Bool.and_eq_true] at hb
    intro e he hbd
    have := edgesBack_at os (i + 1) k o hb.2 h e he hbd
    omega

theorem all_listed {ops : Array Oper} {listed : Array Bool} (hb : edgesBack ops.toList 0 = true) (hsz : listed.size = ops.size) (hr : Region.ready .any ops listed = []) : ∀ i, i < ops.size → listed.getD i false = true := by
  intro i
  induction i using Nat.strongRecOn with
  | ind i ih =>
    intro hi
    cases h : listed.getD i false with
    | true => rfl
    | false =>
      exfalso
      have hm : i ∈ Region.ready .any ops listed := by
        rw [mem_ready]
        refine ⟨?_, ops[i], by simp [hi], ?_⟩
        · have hl : i < listed.size := by omega
          simp only [Array.getD, hl, dif_pos] at h ⊢
          exact h
        · intro e he hbd
          have := edgesBack_at ops.toList 0 i ops[i] hb (by simp [hi]) e he hbd
          exact ih e.on (by omega) (by omega)
      rw [hr] at hm
      simp at hm

theorem falses_set (l : List Bool) (i : Nat) (h : l[i]? = some false) : (l.set i true).count false + 1 = l.count false := by
  induction l generalizing i with
  | nil => simp at h
  | cons b l ih =>
    cases i with
    | zero => simp only [List.getElem?_cons_zero, Option.some.injEq] at h; subst h; simp
    | succ i =>
      simp only [List.getElem?_cons_succ] at h
      have := ih i h
      simp only [List.set_cons_succ, List.count_cons]
      omega
theorem wpAny_inv {ops : Array Oper} {J : (Nat → Bool) → (Nat → Value) → World → Prop} {a : Act} (hd : dstsApart ops.toList = true) (hb : edgesBack ops.toList 0 = true)
    (hs : Steps P ops.toList Q J a 0 ops.toList) (hf : ∀ l x w, J l x w → (∀ i, i < ops.size → l i = true) → Q .normal (putV ops.toList 0 x a) w) :
    ∀ (fuel : Nat) (listed : Array Bool) (x : Nat → Value) (w : World), listed.size = ops.size → listed.toList.count false ≤ fuel → J (fun i => listed.getD i false) x w →
      wpAny P .any ops Q fuel listed (putV ops.toList 0 x a) w := by
  intro fuel
  induction fuel with
  | zero =>
    intro listed x w hsz hc hJ
    have hr : Region.ready .any ops listed = [] := by
      apply List.eq_nil_iff_forall_not_mem.2
      intro i hi
      rw [mem_ready] at hi
      obtain ⟨h1, o, ho, _⟩ := hi
      have hlt : i < listed.size := by rw [hsz]; exact (Array.getElem?_eq_some_iff.1 ho).1
      have : false ∈ listed.toList := by
        simp only [Array.getD, hlt, dif_pos] at h1
        rw [← h1]
        simp
      have := List.count_pos_iff.2 this
      omega
    exact ⟨hr, hf _ _ _ hJ (fun i hi => all_listed hb hsz hr i hi)⟩
  | succ fuel ih =>
    intro listed x w hsz hc hJ
    refine ⟨fun hr => hf _ _ _ hJ (fun i hi => all_listed hb hsz hr i hi), ?_⟩
    intro i hi
    rw [mem_ready] at hi
    obtain ⟨h1, o, ho, hdep⟩ := hi
    have hlt : i < listed.size := by rw [hsz]; exact (Array.getElem?_eq_some_iff.1 ho).1
    have h1f : listed.getD i false = false := by
      simp only [Array.getD, hlt, dif_pos] at h1 ⊢; exact h1
    have hol : ops.toList[i]? = some o := by simpa using ho
    have st := Steps.at ops.toList 0 i o hs hol
    rw [Nat.zero_add] at st
    refine wpOp_step ho (fun K' hK' => ?_)
    have := st (fun i => listed.getD i false) x w hJ h1f (depsHold_of _ (fun e he hbd => hdep e (by simpa using he) hbd)) K' (fun v w' hJ' => ?_)
    · simpa using this
    · refine hK' _ _ ?_
      have e := putV_upd ops.toList 0 x a i v o hd hol
      rw [Nat.zero_add] at e
      rw [← e]
      have hget : listed.toList[i]? = some false := by
        rw [Array.getElem?_toList, Array.getElem?_eq_getElem hlt]
        simp only [Array.getD, hlt, dif_pos] at h1f
        exact congrArg some h1f
      refine ih _ _ _ (by simp [hsz]) ?_ ?_
      · have := falses_set listed.toList i hget
        simp only [Array.toList_setIfInBounds]
        omega
      · have ef : (fun j => (listed.setIfInBounds i true).getD j false) = upd (fun i => listed.getD i false) i true := by
          funext j
          by_cases hj : j = i
          · subst hj; rw [upd_same]; simp [hlt]
          · rw [upd_ne _ _ _ _ hj, getD_set_ne _ (Ne.symm hj)]
        rw [ef]
        exact hJ'

/-- The way back behind operation number i. -/
def Back (J : (Nat → Bool) → (Nat → Value) → World → Prop) (l : Nat → Bool) (x : Nat → Value) (i : Nat) (o : Oper) (b : Act) (K' : Act → World → Prop) : Prop :=
  ∀ v w', J (upd l i true) (upd x i v) w' → K' (b.put o.dst v) w'
theorem Back.go {J : (Nat → Bool) → (Nat → Value) → World → Prop} {l : Nat → Bool} {x : Nat → Value} {i : Nat} {o : Oper} {K' : Act → World → Prop} {b : Act}
    (h : Back J l x i o b K') (v : Value) {w' : World} {c : Act} (hb : b.put o.dst v = c) (hJ : J (upd l i true) (upd x i v) w') : K' c w' := hb ▸ h v w' hJ
/-- Operation number i, to be run. -/
def Runs (P : Program) (ops : List Oper) (Q : Exit → Act → World → Prop) (J : (Nat → Bool) → (Nat → Value) → World → Prop) (a : Act) (l : Nat → Bool) (x : Nat → Value) (w : World) (i : Nat) (o : Oper) : Prop :=
  ∀ b, putV ops 0 x a = b → ∀ K' : Act → World → Prop, Back J l x i o b K' → if Region.wanted o (yielded ops.toArray b.tmps) = true then Oper.wp P o b w K' Q else K' (b.put o.dst undef) w
theorem Runs.of {ops : List Oper} {J : (Nat → Bool) → (Nat → Value) → World → Prop} {a : Act} {l : Nat → Bool} {x : Nat → Value} {w : World} {i : Nat} {o : Oper} {b : Act} (hb : putV ops 0 x a = b)
    (h : ∀ K' : Act → World → Prop, Back J l x i o b K' → if Region.wanted o (yielded ops.toArray b.tmps) = true then Oper.wp P o b w K' Q else K' (b.put o.dst undef) w) : Runs P ops Q J a l x w i o := by
  intro b' hb' K' hK'
  rw [← hb', hb] at *
  exact h K' hK'
theorem Steps.cons {ops : List Oper} {J : (Nat → Bool) → (Nat → Value) → World → Prop} {a : Act} {o : Oper} {os : List Oper} (i : Nat)
    (h : ∀ (l : Nat → Bool) (x : Nat → Value) (w : World), J l x w → l i = false → depsHold l o.after.toList → Runs P ops Q J a l x w i o)
    (hs : Steps P ops Q J a (i + 1) os) : Steps P ops Q J a i (o :: os) := ⟨fun l x w hJ hi hd K' hK' => h l x w hJ hi hd _ rfl K' hK', hs⟩
theorem Steps.nil {ops : List Oper} {J : (Nat → Bool) → (Nat → Value) → World → Prop} {a : Act} (i : Nat) : Steps P ops Q J a i [] := trivial
/-- A region that draws its order, by an invariant J on what has come up, what it yielded, and the world. -/
theorem wp_region_inv {os : List Oper} {id : Nat} {a : Act} {w : World} (J : (Nat → Bool) → (Nat → Value) → World → Prop) (hm : P.follows .mixedOrders = true) (hd : dstsApart os = true) (hb : edgesBack os 0 = true)
    (h0 : ∀ x, J (fun _ => false) x w.drew) (hs : Steps P os Q J a 0 os) (n : Nat) (hn : os.length = n) (hf : ∀ l x w, J l x w → (∀ i, i < n → l i = true) → Q .normal (putV os 0 x a) w) :
    (Code.region id os.toArray true).wp P Q a w := by
  obtain ⟨ops, rfl⟩ : ∃ ops : Array Oper, os = ops.toList := ⟨os.toArray, rfl⟩
  subst hn
  rw [show ops.toList.toArray = ops from rfl]
  replace hf : ∀ l x w, J l x w → (∀ i, i < ops.size → l i = true) → Q .normal (putV ops.toList 0 x a) w := hf
  refine wp_region_any hm ?_
  have e : putV ops.toList 0 (ownVals ops.toList a) a = a := putV_self _ _ _ _ (fun k o d hk hdst => by
    simp only [Nat.zero_add, ownVals, hk, Option.bind_some, hdst])
  have := wpAny_inv (P := P) (Q := Q) hd hb hs hf ops.size (Array.replicate ops.size false) (ownVals ops.toList a) w.drew (by simp) (by simp) (by
    have ef : (fun i => (Array.replicate ops.size false).getD i false) = fun _ => false := by
      funext i; simp [Array.getD]
    rw [ef]
    exact h0 _)
  rw [e] at this
  exact this
/-- The same, where an operation lays into a slot that others read: what the slots hold at the start is known. A region that draws its order, by an invariant J on what has come up, what it yielded, and the world. -/
theorem wp_region_inv_own {os : List Oper} {id : Nat} {a : Act} {w : World} (J : (Nat → Bool) → (Nat → Value) → World → Prop) (hm : P.follows .mixedOrders = true) (hd : dstsApart os = true) (hb : edgesBack os 0 = true)
    (h0 : J (fun _ => false) (ownVals os a) w.drew) (hs : Steps P os Q J a 0 os) (n : Nat) (hn : os.length = n) (hf : ∀ l x w, J l x w → (∀ i, i < n → l i = true) → Q .normal (putV os 0 x a) w) :
    (Code.region id os.toArray true).wp P Q a w := by
  obtain ⟨ops, rfl⟩ : ∃ ops : Array Oper, os = ops.toList := ⟨os.toArray, rfl⟩
  subst hn
  rw [show ops.toList.toArray = ops from rfl]
  replace hf : ∀ l x w, J l x w → (∀ i, i < ops.size → l i = true) → Q .normal (putV ops.toList 0 x a) w := hf
  refine wp_region_any hm ?_
  have e : putV ops.toList 0 (ownVals ops.toList a) a = a := putV_self _ _ _ _ (fun k o d hk hdst => by
    simp only [Nat.zero_add, ownVals, hk, Option.bind_some, hdst])
  have := wpAny_inv (P := P) (Q := Q) hd hb hs hf ops.size (Array.replicate ops.size false) (ownVals ops.toList a) w.drew (by simp) (by simp) (by
    have ef : (fun i => (Array.replicate ops.size false).getD i false) = fun _ => false := by
      funext i; simp [Array.getD]
    rw [ef]
    exact h0)
  rw [e] at this
  exact this
end

/-- Blocks that operations of the region have made: number i's is B i, and holds what C says. -/
structure RI (is : List Nat) (T : Nat → TypeId) (C : (Nat → Bool) → Nat → List Value) (w w' : World) (l : Nat → Bool) (B : Nat → Nat) : Prop where
  keep : Keep [] w w'
  blk : ∀ i ∈ is, l i = true → w.heap.size ≤ B i ∧ Blk w' (B i) (C l i) (T i)
  apart : ∀ i ∈ is, ∀ j ∈ is, l i = true → l j = true → B i = B j → i = j
section
variable {is : List Nat} {T : Nat → TypeId} {C : (Nat → Bool) → Nat → List Value} {w w' w'' : World} {l : Nat → Bool} {B : Nat → Nat}
theorem RI.start (w : World) (B : Nat → Nat) : RI is T C w w.drew (fun _ => false) B :=
  ⟨(Keep.refl _ _).drew, (fun _ _ h => absurd h (by decide)), (fun _ _ _ _ h => absurd h (by decide))⟩
theorem RI.still (h : RI is T C w w' l B) (k : Nat) (hk : k ∉ is) (hC : ∀ i ∈ is, C (upd l k true) i = C l i) : RI is T C w w' (upd l k true) B := by
  have hne : ∀ i ∈ is, i ≠ k := fun i hi e => hk (e ▸ hi)
  refine ⟨h.keep, fun i hi hl => ?_, fun i hi j hj hli hlj e => ?_⟩
  · rw [upd_ne _ _ _ _ (hne i hi)] at hl
    rw [hC i hi]
    exact h.blk i hi hl
  · rw [upd_ne _ _ _ _ (hne i hi)] at hli
    rw [upd_ne _ _ _ _ (hne j hj)] at hlj
    exact h.apart i hi j hj hli hlj e
theorem RI.step (h : RI is T C w w' l B) (K : Keep [] w' w'') : RI is T C w w'' l B :=
  ⟨h.keep.trans K, fun i hi hl => ⟨(h.blk i hi hl).1, (h.blk i hi hl).2.keep K (by simp)⟩, h.apart⟩
theorem RI.new (h : RI is T C w w' l B) (k : Nat) (hl : l k = false) (hC : ∀ i ∈ is, i ≠ k → C (upd l k true) i = C l i) :
    RI is T C w (w'.alloc (.cells (C (upd l k true) k).toArray (T k))) (upd l k true) (upd B k w'.heap.size) := by
  refine ⟨h.keep.alloc _, fun i hi hli => ?_, fun i hi j hj hli hlj e => ?_⟩
  · by_cases hik : i = k
    · subst hik
      rw [upd_same]
      exact ⟨h.keep.size, Blk.new _ _ _⟩
    · rw [upd_ne _ _ _ _ hik] at hli ⊢
      rw [hC i hi hik]
      exact ⟨(h.blk i hi hli).1, (h.blk i hi hli).2.alloc _⟩
  · by_cases hik : i = k
    · by_cases hjk : j = k
      · rw [hik, hjk]
      · subst hik
        rw [upd_same, upd_ne _ _ _ _ hjk] at e
        rw [upd_ne _ _ _ _ hjk] at hlj
        have := (h.blk j hj hlj).2.lt
        omega
    · by_cases hjk : j = k
      · subst hjk
        rw [upd_same, upd_ne _ _ _ _ hik] at e
        rw [upd_ne _ _ _ _ hik] at hli
        have := (h.blk i hi hli).2.lt
        omega
      · rw [upd_ne _ _ _ _ hik, upd_ne _ _ _ _ hjk] at e
        rw [upd_ne _ _ _ _ hik] at hli
        rw [upd_ne _ _ _ _ hjk] at hlj
        exact h.apart i hi j hj hli hlj e
theorem RI.new' (h : RI is T C w w' l B) (k : Nat) (hl : l k = false) (cs : List Value) (hcs : C (upd l k true) k = cs) (hC : ∀ i ∈ is, i ≠ k → C (upd l k true) i = C l i) :
    RI is T C w (w'.alloc (.cells cs.toArray (T k))) (upd l k true) (upd B k w'.heap.size) := by
  subst hcs
  exact h.new k hl hC
theorem RI.store (h : RI is T C w w' l B) (k i : Nat) (hk : k ∉ is) (hi : i ∈ is) (hl : l i = true) (K : Keep [B i] w' w'') (hB : Blk w'' (B i) (C (upd l k true) i) (T i)) (hC : ∀ j ∈ is, j ≠ i → C (upd l k true) j = C l j) :
    RI is T C w w'' (upd l k true) B := by
  have hne : ∀ i ∈ is, i ≠ k := fun i hi e => hk (e ▸ hi)
  have h1 := (h.blk i hi hl).1
  refine ⟨h.keep.then K (fun x hx hlt => by simp at hx; omega), fun j hj hlj => ?_, fun j hj j' hj' hlj hlj' e => ?_⟩
  · rw [upd_ne _ _ _ _ (hne j hj)] at hlj
    by_cases hji : j = i
    · subst hji; exact ⟨h1, hB⟩
    · rw [hC j hj hji]
      exact ⟨(h.blk j hj hlj).1, (h.blk j hj hlj).2.keep K (by
        simp only [List.mem_singleton]
        intro e
        exact hji (h.apart j hj i hi hlj hl e))⟩
  · rw [upd_ne _ _ _ _ (hne j hj)] at hlj
    rw [upd_ne _ _ _ _ (hne j' hj')] at hlj'
    exact h.apart j hj j' hj' hlj hlj' e
end
end Go.Proofs.Ytpibpapolcdeiaa
/- Steps of a drawn region: cuts of slices, a copy that is cut. -/
namespace Go.Proofs.Ytpibpapolcdeiaa
open Go.ChangeShapes Go.WideShapes Go.ChangeAt Go.RowKit
set_option linter.unusedVariables false
set_option linter.unusedSimpArgs false
set_option maxRecDepth 100000

section
variable {P : Program} {w : World} {ops : Array Oper} {a : Act} {K : Act → World → Prop} {Q : Exit → Act → World → Prop} {F : Prop}
theorem step_slice_lo {o : Oper} (hw : Region.wanted o (yielded ops a.tmps) = true) (t : TypeId) (x y : Operand) (ho : o.op = .slice t x (some y) none none) (e : TypeId) (i : TypeInfo)
    (ht : P.underlying t = some (.slice e)) (hi : P.info? e = some i) (hz : i.size = 1) (v : Value) (n : Nat) (vs : List Value) (lo : Int) (l : Nat)
    (hx : a.eval x = v) (hy : a.eval y = .int .i64 lo) (hlo : lo = l) (hr : Rv w 1 v n vs) (hn : l ≤ n)
    (H : ∀ v', Rv w 1 v' (n - l) (vs.drop l) → v'.ownBlock = v.ownBlock → K (a.put o.dst v') w) : if Region.wanted o (yielded ops a.tmps) = true then Oper.wp P o a w K Q else F := by
  rw [if_pos hw]
  subst hlo
  have hr2 := hr
  obtain ⟨hl, ad, cap, rfl, hcap, _⟩ := hr2
  unfold Oper.wp execOp
  simp only [ho, Sem.run_bind, Sem.run_pure, Result.andThen_ok, hx, hy, Option.map_some, Option.map_none, run_cut_lo t e i ht hi hz ad n cap l hn]
  have hc := hr.cut l n hn (Nat.le_refl _) ad cap rfl
  rw [List.take_of_length_le (by rw [List.length_drop]; omega)] at hc
  exact H _ hc (ownBlock_cut ad n cap l _ _)
theorem step_slice_hi {o : Oper} (hw : Region.wanted o (yielded ops a.tmps) = true) (t : TypeId) (x y z : Operand) (ho : o.op = .slice t x (some y) (some z) none) (e : TypeId) (i : TypeInfo)
    (ht : P.underlying t = some (.slice e)) (hi : P.info? e = some i) (hz : i.size = 1) (v : Value) (n : Nat) (vs : List Value) (lo hi' : Int) (l h : Nat)
    (hx : a.eval x = v) (hy : a.eval y = .int .i64 lo) (hzz : a.eval z = .int .i64 hi') (hlo : lo = l) (hhi : hi' = h) (hr : Rv w 1 v n vs) (hle : l ≤ h) (hn : h ≤ n)
    (H : ∀ v', Rv w 1 v' (h - l) ((vs.drop l).take (h - l)) → v'.ownBlock = v.ownBlock → K (a.put o.dst v') w) : if Region.wanted o (yielded ops a.tmps) = true then Oper.wp P o a w K Q else F := by
  rw [if_pos hw]
  subst hlo hhi
  have hr2 := hr
  obtain ⟨hl, ad, cap, rfl, hcap, _⟩ := hr2
  unfold Oper.wp execOp
  simp only [ho, Sem.run_bind, Sem.run_pure, Result.andThen_ok, hx, hy, hzz, Option.map_some, Option.map_none, run_cut t e i ht hi hz ad n cap l h cap hle (by omega) (Nat.le_refl _) none (.inl ⟨rfl, rfl⟩)]
  exact H _ (hr.cut l h hle hn ad cap rfl) (ownBlock_cut ad n cap l _ _)
theorem step_slice_to {o : Oper} (hw : Region.wanted o (yielded ops a.tmps) = true) (t : TypeId) (x z : Operand) (ho : o.op = .slice t x none (some z) none) (e : TypeId) (i : TypeInfo)
    (ht : P.underlying t = some (.slice e)) (hi : P.info? e = some i) (hz : i.size = 1) (v : Value) (n : Nat) (vs : List Value) (hi' : Int) (h : Nat)
    (hx : a.eval x = v) (hzz : a.eval z = .int .i64 hi') (hhi : hi' = h) (hr : Rv w 1 v n vs) (hn : h ≤ n)
    (H : ∀ v', Rv w 1 v' h (vs.take h) → v'.ownBlock = v.ownBlock → K (a.put o.dst v') w) : if Region.wanted o (yielded ops a.tmps) = true then Oper.wp P o a w K Q else F := by
  rw [if_pos hw]
  subst hhi
  have hr2 := hr
  obtain ⟨hl, ad, cap, rfl, hcap, _⟩ := hr2
  unfold Oper.wp execOp
  simp only [ho, Sem.run_bind, Sem.run_pure, Result.andThen_ok, hx, hzz, Option.map_some, Option.map_none, run_cut_hi t e i ht hi hz ad n cap h (by omega)]
  have hc := hr.cut 0 h (by omega) hn ad cap rfl
  rw [List.drop_zero, Nat.sub_zero] at hc
  exact H _ hc (ownBlock_cut ad n cap 0 _ _)
theorem run_cut_hi8 (t e : TypeId) (i : TypeInfo) (ht : P.underlying t = some (.slice e)) (hi : P.info? e = some i) (hz : i.size = 1) (ad : Option Addr) (n cap h : Nat) (hle : h ≤ cap) :
    (Instr.sliceAt t (.slice ad n cap) none (some (.int .u8 (h : Int))) none).run P w = .ok (.slice (if cap = 0 then ad else ad.map (·.add 0)) (h - 0) (cap - 0)) w := by
  simp [Instr.sliceAt, run_underlying ht, Instr.slice, Instr.sliceBounds, Instr.sliceBound, asIntOf, hle, sizeOf, typeInfo, hi, hz]
theorem step_slice_to8 {o : Oper} (hw : Region.wanted o (yielded ops a.tmps) = true) (t : TypeId) (x z : Operand) (ho : o.op = .slice t x none (some z) none) (e : TypeId) (i : TypeInfo)
    (ht : P.underlying t = some (.slice e)) (hi : P.info? e = some i) (hz : i.size = 1) (v : Value) (n : Nat) (vs : List Value) (hi' : Int) (h : Nat)
    (hx : a.eval x = v) (hzz : a.eval z = .int .u8 hi') (hhi : hi' = h) (hr : Rv w 1 v n vs) (hn : h ≤ n)
    (H : ∀ v', Rv w 1 v' h (vs.take h) → v'.ownBlock = v.ownBlock → K (a.put o.dst v') w) : if Region.wanted o (yielded ops a.tmps) = true then Oper.wp P o a w K Q else F := by
  rw [if_pos hw]
  subst hhi
  have hr2 := hr
  obtain ⟨hl, ad, cap, rfl, hcap, _⟩ := hr2
  unfold Oper.wp execOp
  simp only [ho, Sem.run_bind, Sem.run_pure, Result.andThen_ok, hx, hzz, Option.map_some, Option.map_none, run_cut_hi8 t e i ht hi hz ad n cap h (by omega)]
  have hc := hr.cut 0 h (by omega) hn ad cap rfl
  rw [List.drop_zero, Nat.sub_zero] at hc
  exact H _ hc (ownBlock_cut ad n cap 0 _ _)
theorem cutE_both (t e : TypeId) (i : TypeInfo) (ht : P.underlying t = some (.slice e)) (hi : P.info? e = some i) (hz : i.size = 1) (ad : Option Addr) (n cap : Nat) (vs : List Value) (loI hiI : Int) (lo hi' : Nat) (h1 : loI = lo) (h2 : hiI = hi') (hle : lo ≤ hi') (hn : hi' ≤ n) (hc : n ≤ cap) :
    ∃ S : Value, (∀ W : World, (Instr.sliceAt t (.slice ad n cap) (some (.int .i64 loI)) (some (.int .i64 hiI)) none).run P W = .ok S W) ∧ (∀ W : World, Rv W 1 (.slice ad n cap) n vs → Rv W 1 S (hi' - lo) ((vs.drop lo).take (hi' - lo))) ∧ S.ownBlock = (Value.slice ad n cap).ownBlock := by
  subst h1 h2
  exact ⟨_, fun W => run_cut (P := P) (w := W) t e i ht hi hz ad n cap lo hi' cap hle (by omega) (Nat.le_refl _) none (.inl ⟨rfl, rfl⟩), fun W hW => hW.cut lo hi' hle hn ad cap rfl, ownBlock_cut ad n cap lo _ _⟩
theorem cutE_lo (t e : TypeId) (i : TypeInfo) (ht : P.underlying t = some (.slice e)) (hi : P.info? e = some i) (hz : i.size = 1) (ad : Option Addr) (n cap : Nat) (vs : List Value) (loI : Int) (lo : Nat) (h1 : loI = lo) (hn : lo ≤ n) :
    ∃ S : Value, (∀ W : World, (Instr.sliceAt t (.slice ad n cap) (some (.int .i64 loI)) none none).run P W = .ok S W) ∧ (∀ W : World, Rv W 1 (.slice ad n cap) n vs → Rv W 1 S (n - lo) (vs.drop lo)) ∧ S.ownBlock = (Value.slice ad n cap).ownBlock := by
  subst h1
  refine ⟨_, fun W => run_cut_lo (P := P) (w := W) t e i ht hi hz ad n cap lo hn, fun W hW => ?_, ownBlock_cut ad n cap lo _ _⟩
  have hl := hW.len
  have hc := hW.cut lo n hn (Nat.le_refl _) ad cap rfl
  rw [List.take_of_length_le (by rw [List.length_drop]; omega)] at hc
  exact hc
theorem cutE_hi (t e : TypeId) (i : TypeInfo) (ht : P.underlying t = some (.slice e)) (hi : P.info? e = some i) (hz : i.size = 1) (ad : Option Addr) (n cap : Nat) (vs : List Value) (hiI : Int) (hi' : Nat) (h1 : hiI = hi') (hn : hi' ≤ n) (hc : n ≤ cap) :
    ∃ S : Value, (∀ W : World, (Instr.sliceAt t (.slice ad n cap) none (some (.int .i64 hiI)) none).run P W = .ok S W) ∧ (∀ W : World, Rv W 1 (.slice ad n cap) n vs → Rv W 1 S hi' (vs.take hi')) ∧ S.ownBlock = (Value.slice ad n cap).ownBlock := by
  subst h1
  refine ⟨_, fun W => run_cut_hi (P := P) (w := W) t e i ht hi hz ad n cap hi' (by omega), fun W hW => ?_, ownBlock_cut ad n cap 0 _ _⟩
  have hc := hW.cut 0 hi' (by omega) hn ad cap rfl
  rw [List.drop_zero, Nat.sub_zero] at hc
  exact hc
theorem cutE_hi8 (t e : TypeId) (i : TypeInfo) (ht : P.underlying t = some (.slice e)) (hi : P.info? e = some i) (hz : i.size = 1) (ad : Option Addr) (n cap : Nat) (vs : List Value) (hiI : Int) (hi' : Nat) (h1 : hiI = hi') (hn : hi' ≤ n) (hc : n ≤ cap) :
    ∃ S : Value, (∀ W : World, (Instr.sliceAt t (.slice ad n cap) none (some (.int .u8 hiI)) none).run P W = .ok S W) ∧ (∀ W : World, Rv W 1 (.slice ad n cap) n vs → Rv W 1 S hi' (vs.take hi')) ∧ S.ownBlock = (Value.slice ad n cap).ownBlock := by
  subst h1
  refine ⟨_, fun W => run_cut_hi8 (P := P) (w := W) t e i ht hi hz ad n cap hi' (by omega), fun W hW => ?_, ownBlock_cut ad n cap 0 _ _⟩
  have hc := hW.cut 0 hi' (by omega) hn ad cap rfl
  rw [List.drop_zero, Nat.sub_zero] at hc
  exact hc
theorem Rv.rd {v : Value} {n : Nat} {l : List Nat} (h : Rv w 1 v n (bcs l)) (hn : l.length = n) : Rd w v l := by subst hn; exact h
theorem run_copy_cut (t tx ty e : TypeId) (i : TypeInfo) (ht : P.underlying t = some (.slice e)) (hi : P.info? e = some i) (hz : i.size = 1) (b off dl dc : Nat) (x : Value) (n : Nat) (l : List Value)
    (hr : Rv w 1 x n l) (h1 : ∀ u ∈ l, u.oneCell' = true) (hth : w.there b off (min n dl)) :
    (Builtin.copy_ #[t, tx] ty #[.slice (some ⟨b, off, none⟩) dl dc, x]).run P w = .ok (goInt ((min n dl : Nat) : Int)) (w.setCells b off (l.take dl)) := by
  obtain ⟨hl, ad, cap, rfl, hcap, hat⟩ := hr
  have hs : (P.info? e).map (·.size) = some 1 := by rw [hi]; simp [hz]
  by_cases h0 : min n dl = 0
  · have hlt : l.take dl = [] := by
      apply List.eq_nil_of_length_eq_zero
      rw [List.length_take]
      omega
    rw [run_copy_none w t tx ty e (some ⟨b, off, none⟩) ad dl dc n cap ht hs h0, hlt, h0]
    rfl
  · obtain ⟨sb, so, rfl, _, hc⟩ := hat (by omega)
    have hlen : (l.take dl).length = min n dl := by rw [List.length_take]; omega
    have := run_copy_cells w t tx ty e b off dl dc ⟨sb, so, none⟩ n cap (l.take dl) ht hs hlen (fun j u hj => by
        rw [List.getElem?_take] at hj
        split at hj
        · have hj2 : j < l.length := (List.getElem?_eq_some_iff.1 hj).1
          rw [Addr.add_lit, hc j hj2, hj]
        · cases hj) (fun j hj => (hth j (by omega)).1) (fun j hj => (hth j (by omega)).2) (fun u hu => h1 u (List.mem_of_mem_take hu))
    rw [this, hlen]
theorem step_copy_cut {o : Oper} (hw : Region.wanted o (yielded ops a.tmps) = true) (s x : Operand) (t tx : TypeId)
    (ho : o.op = .call { callee := .builtin .copy, args := #[s, x], argTypes := #[t, tx] }) (e : TypeId) (i : TypeInfo) (ht : P.underlying t = some (.slice e)) (hi : P.info? e = some i) (hz : i.size = 1)
    (b off dl dc : Nat) (hsv : a.eval s = .slice (some ⟨b, off, none⟩) dl dc) (xv : Value) (n : Nat) (l : List Value) (hx : a.eval x = xv) (hr : Rv w 1 xv n l) (h1 : ∀ u ∈ l, u.oneCell' = true) (hth : w.there b off (min n dl))
    (h : K (a.put o.dst (goInt ((min n dl : Nat) : Int))) (w.setCells b off (l.take dl))) : if Region.wanted o (yielded ops a.tmps) = true then Oper.wp P o a w K Q else F := by
  rw [if_pos hw]
  have hrun := run_copy_cut (P := P) (w := w) t tx o.type e i ht hi hz b off dl dc xv n l hr h1 hth
  unfold Oper.wp execOp
  simp only [ho, resolve, invoke, builtin, Sem.run_bind, Sem.run_pure, Result.andThen_ok, List.map_toArray, List.map_cons, List.map_nil, hsv, hx, hrun]
  exact h
theorem wanted_free {o : Oper} (h : o.guard = none) {t : Array Value} {os : Array Oper} : Region.wanted o (yielded os t) = true := by simp [Region.wanted, h]
end
end Go.Proofs.Ytpibpapolcdeiaa
/- The contract of the laws' Short. -/
namespace Go.Proofs.Ytpibpapolcdeiaa
open Go.ChangeShapes Go.WideShapes Go.ChangeAt Go.RowKit
set_option linter.unusedVariables false
set_option linter.unusedSimpArgs false
set_option maxRecDepth 100000

end Go.Proofs.Ytpibpapolcdeiaa
/- Sums (CRC-32), bit by bit: the plain function, what one byte changes; the contract of crc.Sum of one part. -/
namespace Go.Proofs.Ytpibpapolcdeiaa
open Go.ChangeShapes Go.WideShapes Go.ChangeAt Go.RowKit
set_option linter.unusedVariables false
set_option linter.unusedSimpArgs false
set_option maxRecDepth 100000

theorem xor_cancel (a b c : Nat) (h : a ^^^ b = a ^^^ c) : b = c := by
  have := congrArg (a ^^^ ·) h
  simpa [← Nat.xor_assoc] using this
theorem xor_cancel' (a b c : Nat) (h : b ^^^ a = c ^^^ a) : b = c := xor_cancel a b c (by rw [Nat.xor_comm a b, Nat.xor_comm a c, h])
/-- One bit. -/
def crcBit (x : Nat) : Nat := (x / 2) ^^^ (if x % 2 = 1 then 3988292384 else 0)
def crcBits : Nat → Nat → Nat
  | 0, x => x
  | k + 1, x => crcBit (crcBits k x)
def crcByte (x c : Nat) : Nat := crcBits 8 (x ^^^ c)
def crcOf (x : Nat) (l : List Nat) : Nat := l.foldl crcByte x
def crcSum (l : List Nat) : Nat := 4294967295 - crcOf 4294967295 l
theorem crcBit_lt (x : Nat) (h : x < 4294967296) : crcBit x < 4294967296 := by
  unfold crcBit
  apply Nat.xor_lt_two_pow (n := 32)
  · omega
  · split <;> omega
theorem crcBits_lt (k x : Nat) (h : x < 4294967296) : crcBits k x < 4294967296 := by
  induction k with
  | zero => exact h
  | succ k ih => exact crcBit_lt _ ih
theorem crcByte_lt (x c : Nat) (h : x < 4294967296) (hc : c < 256) : crcByte x c < 4294967296 :=
  crcBits_lt 8 _ (Nat.xor_lt_two_pow (n := 32) h (by omega))
theorem crcOf_lt (l : List Nat) : ∀ x, x < 4294967296 → (∀ c ∈ l, c < 256) → crcOf x l < 4294967296 := by
  induction l with
  | nil => intro x h _; exact h
  | cons c l ih => intro x h hl; exact ih _ (crcByte_lt x c h (hl c (by simp))) (fun c' hc' => hl c' (by simp [hc']))
theorem crcOf_snoc (x : Nat) (l : List Nat) (c : Nat) : crcOf x (l ++ [c]) = crcByte (crcOf x l) c := by simp [crcOf]
/-- One bit loses nothing. -/
theorem crcBit_inj (x y : Nat) (hx : x < 4294967296) (hy : y < 4294967296) (h : crcBit x = crcBit y) : x = y := by
  unfold crcBit at h
  have hx2 : x / 2 < 2147483648 := by omega
  have hy2 : y / 2 < 2147483648 := by omega
  have t : ∀ z, z < 2147483648 → (z ^^^ 3988292384).testBit 31 = true := by
    intro z hz
    rw [Nat.testBit_xor, Nat.testBit_lt_two_pow (show z < 2 ^ 31 by omega)]
    decide
  have f : ∀ z, z < 2147483648 → (z ^^^ 0).testBit 31 = false := by
    intro z hz
    rw [Nat.xor_zero]
    exact Nat.testBit_lt_two_pow (by omega)
  by_cases hxo : x % 2 = 1
  · by_cases hyo : y % 2 = 1
    · rw [if_pos hxo, if_pos hyo] at h
      have := xor_cancel' _ _ _ h
      omega
    · rw [if_pos hxo, if_neg hyo] at h
      have := t _ hx2
      rw [h, f _ hy2] at this
      cases this
  · by_cases hyo : y % 2 = 1
    · rw [if_neg hxo, if_pos hyo] at h
      have := t _ hy2
      rw [← h, f _ hx2] at this
      cases this
    · rw [if_neg hxo, if_neg hyo, Nat.xor_zero, Nat.xor_zero] at h
      omega
theorem crcBits_inj (k : Nat) : ∀ x y, x < 4294967296 → y < 4294967296 → crcBits k x = crcBits k y → x = y := by
  induction k with
  | zero => intro x y _ _ h; exact h
  | succ k ih => intro x y hx hy h; exact ih x y hx hy (crcBit_inj _ _ (crcBits_lt k x hx) (crcBits_lt k y hy) h)
theorem crcByte_inj (x y c d : Nat) (hx : x < 4294967296) (hy : y < 4294967296) (hc : c < 256) (hd : d < 256) (h : crcByte x c = crcByte y d) : x ^^^ c = y ^^^ d :=
  crcBits_inj 8 _ _ (Nat.xor_lt_two_pow (n := 32) hx (by omega)) (Nat.xor_lt_two_pow (n := 32) hy (by omega)) h
theorem crcOf_inj (l : List Nat) : ∀ x y, x < 4294967296 → y < 4294967296 → (∀ c ∈ l, c < 256) → crcOf x l = crcOf y l → x = y := by
  induction l with
  | nil => intro x y _ _ _ h; exact h
  | cons c l ih =>
    intro x y hx hy hl h
    have hc := hl c (by simp)
    have h1 := ih _ _ (crcByte_lt x c hx hc) (crcByte_lt y c hy hc) (fun c' hc' => hl c' (by simp [hc'])) h
    have h2 := crcByte_inj x y c c hx hy hc hc h1
    exact xor_cancel' _ _ _ h2
/-- One byte changed: another sum. -/
theorem crcSum_one (a b : List Nat) (c d : Nat) (ha : ∀ c ∈ a, c < 256) (hb : ∀ c ∈ b, c < 256) (hc : c < 256) (hd : d < 256) (hne : c ≠ d) : crcSum (a ++ c :: b) ≠ crcSum (a ++ d :: b) := by
  intro h
  unfold crcSum at h
  have hA : crcOf 4294967295 (a ++ c :: b) < 4294967296 := crcOf_lt _ _ (by omega) (by intro x hx; rcases List.mem_append.1 hx with hx | hx; · exact ha x hx
                                                                                       · rcases List.mem_cons.1 hx with rfl | hx; · exact hc
                                                                                         · exact hb x hx)
  have hB : crcOf 4294967295 (a ++ d :: b) < 4294967296 := crcOf_lt _ _ (by omega) (by intro x hx; rcases List.mem_append.1 hx with hx | hx; · exact ha x hx
                                                                                       · rcases List.mem_cons.1 hx with rfl | hx; · exact hd
                                                                                         · exact hb x hx)
  have e : crcOf 4294967295 (a ++ c :: b) = crcOf 4294967295 (a ++ d :: b) := by omega
  have e1 : crcOf 4294967295 (a ++ c :: b) = crcOf (crcByte (crcOf 4294967295 a) c) b := by simp [crcOf]
  have e2 : crcOf 4294967295 (a ++ d :: b) = crcOf (crcByte (crcOf 4294967295 a) d) b := by simp [crcOf]
  rw [e1, e2] at e
  have hx := crcOf_lt a 4294967295 (by omega) ha
  have e3 := crcOf_inj b _ _ (crcByte_lt _ _ hx hc) (crcByte_lt _ _ hx hd) hb e
  exact hne (xor_cancel _ _ _ (crcByte_inj _ _ _ _ hx hx hc hd e3))
theorem crcOf_take (x : Nat) (l : List Nat) (k : Nat) (h : k < l.length) : crcOf x (l.take (k + 1)) = crcByte (crcOf x (l.take k)) (l.getD k 0) := by
  rw [List.take_succ_eq_append_getElem h, crcOf_snoc]
  simp [List.getD_eq_getElem?_getD, h]
/-- x>>1 ^ poly & -(x&1) -/
theorem crc_step (x : Nat) (h : x < 4294967296) : bits .xor .u32 ((x : Int) / 2) (bits .and .u32 3988292384 (IntKind.u32.wrap (-(bits .and .u32 (x : Int) 1)))) = ((crcBit x : Nat) : Int) := by
  have e1 : bits .and .u32 (x : Int) 1 = ((x % 2 : Nat) : Int) := by
    rw [show (1 : Int) = ((1 : Nat) : Int) from rfl, u32_and_nat _ _ h (by omega), Nat.and_one_is_mod]
  rw [e1, show (x : Int) / 2 = ((x / 2 : Nat) : Int) by omega]
  unfold crcBit
  by_cases hx : x % 2 = 1
  · rw [hx, if_pos rfl, show bits .and .u32 3988292384 (IntKind.u32.wrap (-((1 : Nat) : Int))) = ((3988292384 : Nat) : Int) by decide +kernel, u32_xor_nat _ _ (by omega) (by omega)]
  · rw [if_neg hx, show x % 2 = 0 by omega, show bits .and .u32 3988292384 (IntKind.u32.wrap (-((0 : Nat) : Int))) = ((0 : Nat) : Int) by decide +kernel, u32_xor_nat _ _ (by omega) (by omega)]
theorem crc_not (x : Nat) (h : x < 4294967296) : bits .xor .u32 IntKind.u32.max (x : Int) = ((4294967295 - x : Nat) : Int) := by
  rw [show IntKind.u32.max = ((4294967295 : Nat) : Int) by decide, u32_xor_nat _ _ (by omega) h]
  have h1 := BitVec.toNat_not (x := BitVec.ofNat 32 x)
  have h2 : (~~~ (BitVec.ofNat 32 x)) = BitVec.allOnes 32 ^^^ BitVec.ofNat 32 x := by rw [BitVec.allOnes_xor]
  rw [h2, BitVec.toNat_xor, BitVec.toNat_allOnes, BitVec.toNat_ofNat, Nat.mod_eq_of_lt h] at h1
  have h3 : 4294967295 ^^^ x = 4294967295 - x := by simpa using h1
  rw [h3]

set_option maxHeartbeats 2000000 in
theorem Sum_one {w : World} (a : Option Addr) (cap : Nat) (bv : Value) (l : List Nat) (hp : Rv w 1 (.slice a 1 cap) 1 [bv]) (h : Rd w bv l) (hb : ∀ c ∈ l, c < 256) (hl : l.length ≤ 9223372036854775807) (n : Nat) (hn : n = crcSum l) :
    Calls Try.prog 52 #[.slice a 1 cap] w fun e w' => e = .returned (.int .u32 n) ∧ w = w' := by
  have HN := Lib.hid hn
  clear hn
  have h2 := h
  obtain ⟨_, ba, bcap, rfl, _, _⟩ := h
  obtain ⟨pb, po, pc, he, hpc, hps, hpat⟩ := hp.at1 (by omega)
  simp only [Value.slice.injEq] at he
  obtain ⟨rfl, _, rfl⟩ := he
  have gp := hpat 0 (by omega)
  simp only [Nat.add_zero, List.getElem?_cons_zero] at gp
  clear hpat
  go_enter Try.func52, Try.ntmps52
  go_wp2_with fail
  refine wp_loop_rounds 2 ?_
  rw [rounds_succ]
  go_wp2_with fail
  go_loop [3, 16] (fun x i => ∃ k : Nat, k ≤ l.length ∧ i = .int .i64 k ∧ x = .int .u32 (crcOf 4294967295 (l.take k) : Nat)) (fun _ i => l.length - (intOf i).toNat)
  case atStart => exact ⟨0, by omega, rfl, rfl⟩
  case round =>
    obtain ⟨k, hk, rfl, rfl⟩ := hrel
    by_cases hlt : k < l.length
    · obtain ⟨sb0, so, cap3, he, _, hsb, hat⟩ := h2.at1 (by omega)
      simp only [Value.slice.injEq] at he
      obtain ⟨rfl, _, rfl⟩ := he
      have g4 := hat k hlt
      rw [bcs_at l k hlt] at g4
      have hc : l.getD k 0 < 256 := hb _ (by simp [List.getD_eq_getElem?_getD, hlt])
      have hX : crcOf 4294967295 (l.take k) < 4294967296 := crcOf_lt _ _ (by omega) (fun c hc => hb c (List.mem_of_mem_take hc))
      have HT := Lib.hid (crcOf_take 4294967295 l k hlt)
      clear hat h2 hb
      generalize l.getD k 0 = c at *
      generalize crcOf 4294967295 (l.take k) = X at *
      unfold bc at g4
      have q0 : (k : Int) < l.length := by omega
      have hx := u32_xor_nat X c hX (by omega)
      have hY : X ^^^ c < 4294967296 := Nat.xor_lt_two_pow (n := 32) hX (by omega)
      go_wp2_with fail
      go_loop [3, 24] (fun x i => ∃ j : Nat, j ≤ 8 ∧ i = .int .i64 j ∧ x = .int .u32 (crcBits j (X ^^^ c) : Nat)) (fun _ i => 8 - (intOf i).toNat)
      case atStart => exact ⟨0, by omega, rfl, rfl⟩
      case round =>
        obtain ⟨j, hj, rfl, rfl⟩ := hrel
        by_cases hj8 : j < 8
        · have r0 : (j : Int) < 8 := by omega
          have hZ := crcBits_lt j _ hY
          have HZ := Lib.hid (show crcBits (j + 1) (X ^^^ c) = crcBit (crcBits j (X ^^^ c)) from rfl)
          generalize crcBits j (X ^^^ c) = Z at *
          have hst := crc_step Z hZ
          go_wp2_with fail
          go_round
          case rel => exact ⟨j + 1, by omega, by go_num, by rw [HZ.out]; simpa [IntKind.wrap_u32'] using hst⟩
          case measure => simp [intOf]; omega
        · have r0 : ¬ ((j : Int) < 8) := by omega
          have hj88 : j = 8 := by omega
          subst hj88
          go_wp2_with fail
          go_round
          case rel => exact ⟨k + 1, by omega, by go_num, by rw [HT.out]; rfl⟩
          case measure => simp [intOf]; omega
    · have q0 : ¬ ((k : Int) < l.length) := by omega
      have hkl : k = l.length := by omega
      subst hkl
      rw [List.take_length]
      have hX : crcOf 4294967295 l < 4294967296 := crcOf_lt _ _ (by omega) hb
      have hnot := crc_not _ hX
      have HE := Lib.hid (show crcSum l = 4294967295 - crcOf 4294967295 l from rfl)
      generalize crcOf 4294967295 l = X at *
      go_wp2_with fail
      rw [rounds_succ]
      go_wp2_with fail
      go_ret
      exact ⟨by rw [HN.out, HE.out]; rfl, rfl⟩
end Go.Proofs.Ytpibpapolcdeiaa
/- A byte of an owned row stored anew. -/
namespace Go.Proofs.Ytpibpapolcdeiaa
open Go.ChangeShapes Go.WideShapes Go.ChangeAt Go.RowKit
set_option linter.unusedVariables false
set_option linter.unusedSimpArgs false
set_option maxRecDepth 100000

theorem Own.set {w : World} {base : Nat} {E : TypeId} {g n cap : Nat} {vs : List Value} (h : Own w base E (.slice (some ⟨g, 0, none⟩) n cap) vs) (hn : n = vs.length) (i : Nat) (u : Value) :
    Own (w.setCell ⟨g, i, none⟩ u) base E (.slice (some ⟨g, 0, none⟩) n cap) (vs.set i u) ∧ Keep [g] w (w.setCell ⟨g, i, none⟩ u) := by
  subst hn
  refine ⟨?_, (Keep.refl _ _).setCell (.inl (by simp)) _⟩
  unfold Own
  rw [List.length_set]
  exact (World.ownsRow.stored h i u).1
theorem Own.at_ {w : World} {base : Nat} {E : TypeId} {v : Value} {vs : List Value} (h : Own w base E v vs) (hp : 0 < vs.length) :
    ∃ g cap, v = .slice (some ⟨g, 0, none⟩) vs.length cap ∧ vs.length ≤ cap ∧ base ≤ g ∧ g < w.heap.size := by
  obtain ⟨g, cap, sp, rfl, h1, h2, h3⟩ := h.blk hp
  exact ⟨g, cap, rfl, h1, h2, h3.lt⟩
theorem Own.cell {w : World} {base : Nat} {E : TypeId} {g n cap : Nat} {vs : List Value} (h : Own w base E (.slice (some ⟨g, 0, none⟩) n cap) vs) (hn : n = vs.length) (i : Nat) (hi : i < n) :
    w.cell? ⟨g, i, none⟩ = vs[i]? ∧ w.frozen? ⟨g, i, none⟩ = false := by
  subst hn
  exact ⟨World.ownsRow.cellAt h i (by omega), World.ownsRow.frozenAt h i⟩
theorem Buf.own {w : World} {base : Nat} {E : TypeId} {v : Value} {l : List Nat} (h : Buf w base E v l) : Own w base E v (bcs l) := by
  unfold Own; rw [bcs_length]; exact h
theorem Own.buf {w : World} {base : Nat} {E : TypeId} {v : Value} {l : List Nat} (h : Own w base E v (bcs l)) : Buf w base E v l := by
  unfold Own at h; rw [bcs_length] at h; exact h
theorem bcs_set (l : List Nat) (i x : Nat) : (bcs l).set i (bc x) = bcs (l.set i x) := by simp [bcs, List.map_set]

theorem Buf.bump {w : World} {base : Nat} {E : TypeId} {g n cap : Nat} {l : List Nat} (h : Buf w base E (.slice (some ⟨g, 0, none⟩) n cap) l) (hn : n = l.length) (j : Nat) (hj : j < n) (x : Nat) :
    w.cell? ⟨g, j, none⟩ = some (.int .u8 (l.getD j 0 : Int)) ∧ w.frozen? ⟨g, j, none⟩ = false ∧ Buf (w.setCell ⟨g, j, none⟩ (.int .u8 (x : Int))) base E (.slice (some ⟨g, 0, none⟩) n cap) (l.set j x) ∧ Keep [g] w (w.setCell ⟨g, j, none⟩ (.int .u8 (x : Int))) := by
  have hc := h.own.cell (by rw [bcs_length]; exact hn) j hj
  have hs := h.own.set (by rw [bcs_length]; exact hn) j (bc x)
  refine ⟨by rw [hc.1, bcs_at _ _ (by omega)]; rfl, hc.2, ?_, hs.2⟩
  have := hs.1
  rw [bcs_set] at this
  exact this.buf
theorem set_byte (l : List Nat) (j x : Nat) (h : ∀ c ∈ l, c < 256) (hx : x < 256) : ∀ c ∈ l.set j x, c < 256 := by
  intro c hc
  rcases List.mem_or_eq_of_mem_set hc with h' | rfl
  · exact h c h'
  · exact hx
theorem Buf.at' {w : World} {base : Nat} {E : TypeId} {v : Value} {l : List Nat} (h : Buf w base E v l) (hp : 0 < l.length) :
    ∃ g cap, v = .slice (some ⟨g, 0, none⟩) l.length cap ∧ l.length ≤ cap ∧ base ≤ g ∧ g < w.heap.size := by
  have := h.own.at_ (by rw [bcs_length]; exact hp)
  rw [bcs_length] at this
  exact this
theorem tl_inj' {s t : ByteArray} (h : s.toList = t.toList) : s = t := by
  rw [ByteArray.toList_eq, ByteArray.toList_eq] at h
  apply ByteArray.ext
  exact Array.toList_inj.1 h
theorem str_ne {P Q : List Nat} (hP : ∀ c ∈ P, c < 256) (hQ : ∀ c ∈ Q, c < 256) (h : P ≠ Q) : ¬ (toStr P).toList = (toStr Q).toList := fun e => h (toStr_inj hP hQ (tl_inj' e))
theorem rv_blk {w : World} {b : Nat} {vs : List Value} {T : TypeId} {n : Nat} (h : Blk w b vs T) (hn : vs.length = n) : Rv w 1 (.slice (some ⟨b, 0, none⟩) n n) n vs := by
  subst hn
  refine ⟨by simp, _, _, rfl, Nat.le_refl _, fun _ => ⟨b, 0, rfl, h.lt, fun i hi => ?_⟩⟩
  rw [Nat.zero_add, h.cell]
end Go.Proofs.Ytpibpapolcdeiaa
/- Numbers and texts as bytes: plain Lean, no program. -/
namespace Go.Proofs.Ytpibpapolcdeiaa

/-- An integer's number, and back. -/
def zz (n : Int) : Nat := if 0 ≤ n then (2 * n).toNat else (-2 * n - 1).toNat
def unzz (u : Nat) : Int := if u % 2 = 1 then -((u / 2 : Nat) : Int) - 1 else ((u / 2 : Nat) : Int)
theorem unzz_zz (n : Int) : unzz (zz n) = n := by
  unfold unzz zz; split <;> split <;> omega
theorem zz_unzz (u : Nat) : zz (unzz u) = u := by
  unfold unzz zz; split <;> split <;> omega
theorem zz_lt (n : Int) (h0 : -9223372036854775808 ≤ n) (h1 : n ≤ 9223372036854775807) : zz n < 18446744073709551616 := by
  unfold zz; split <;> omega

/-- Seven bits a byte. -/
def leb (u : Nat) : List Nat := if u < 128 then [u] else (u % 128 + 128) :: leb (u / 128)
termination_by u
decreasing_by omega
theorem leb_small (u : Nat) (h : u < 128) : leb u = [u] := by rw [leb, if_pos h]
theorem leb_big (u : Nat) (h : 128 ≤ u) : leb u = (u % 128 + 128) :: leb (u / 128) := by rw [leb, if_neg (by omega)]
theorem leb_ne (u : Nat) : leb u ≠ [] := by rw [leb]; split <;> simp
theorem leb_byte (u : Nat) : ∀ c ∈ leb u, c < 256 := by
  induction u using Nat.strongRecOn with
  | _ u ih =>
    intro c hc
    by_cases h : u < 128
    · rw [leb_small u h] at hc; simp at hc; omega
    · rw [leb_big u (by omega)] at hc
      rcases List.mem_cons.1 hc with rfl | hc
      · omega
      · exact ih (u / 128) (by omega) c hc
theorem leb_len (k : Nat) : ∀ u, u < 128 ^ k → 0 < k → (leb u).length ≤ k := by
  induction k with
  | zero => intro u _ h; omega
  | succ k ih =>
    intro u hu _
    by_cases h : u < 128
    · rw [leb_small u h]; simp
    · rw [leb_big u (by omega)]
      by_cases hk : k = 0
      · subst hk; simp at hu; omega
      · have := ih (u / 128) (by rw [Nat.pow_succ] at hu; omega) (by omega)
        simp; omega

/-- A number read off bytes: the number, how many bytes, the error. -/
def getGo : List Nat → Nat → Nat → Int × Nat × Nat
  | [], _, _ => (0, 0, 2)
  | c :: r, i, u => if i = 9 ∧ 1 < c then (0, 0, 1) else if 127 < c then getGo r (i + 1) (u + (c % 128) * 128 ^ i) else if 0 < i ∧ c = 0 then (0, 0, 1) else (unzz (u + c * 128 ^ i), i + 1, 0)
def get (l : List Nat) : Int × Nat × Nat := getGo l 0 0

/-- What was written is read, whatever stands behind. -/
theorem getGo_leb (r : List Nat) : ∀ (v : Nat) (i u : Nat), i ≤ 9 → v < 2 ^ (64 - 7 * i) → (0 < i → 0 < v) → getGo (leb v ++ r) i u = (unzz (u + v * 128 ^ i), i + (leb v).length, 0) := by
  intro v
  induction v using Nat.strongRecOn with
  | _ v ih =>
    intro i u hi hv hp
    by_cases h : v < 128
    · rw [leb_small v h]
      have h9 : ¬ (i = 9 ∧ 1 < v) := by
        rintro ⟨rfl, h2⟩
        simp at hv; omega
      simp only [List.cons_append, List.nil_append, getGo, h9, if_false, List.length_singleton]
      rw [if_neg (by omega), if_neg (by omega)]
    · rw [leb_big v (by omega)]
      have hi9 : i < 9 := by
        rcases Nat.lt_or_ge i 9 with h' | h'
        · exact h'
        · have : i = 9 := by omega
          subst this
          simp at hv; omega
      have h9 : ¬ (i = 9 ∧ 1 < v % 128 + 128) := by omega
      simp only [List.cons_append, getGo, h9, if_false, List.length_cons]
      rw [if_pos (by omega)]
      have hd : v / 128 < 2 ^ (64 - 7 * (i + 1)) := by
        have e : 64 - 7 * i = (64 - 7 * (i + 1)) + 7 := by omega
        rw [e, Nat.pow_add] at hv
        have : (2 : Nat) ^ 7 = 128 := rfl
        rw [this] at hv
        exact Nat.div_lt_of_lt_mul (by rw [Nat.mul_comm]; exact hv)
      rw [ih (v / 128) (by omega) (i + 1) _ (by omega) hd (by omega)]
      have e1 : (v % 128 + 128) % 128 = v % 128 := by omega
      rw [e1]
      have e2 : u + v % 128 * 128 ^ i + v / 128 * 128 ^ (i + 1) = u + v * 128 ^ i := by
        have : v = 128 * (v / 128) + v % 128 := by omega
        rw [Nat.pow_succ]
        have e3 : v * 128 ^ i = (128 * (v / 128) + v % 128) * 128 ^ i := by rw [← this]
        rw [e3, Nat.add_mul]
        have e4 : v / 128 * (128 ^ i * 128) = 128 * (v / 128) * 128 ^ i := by rw [Nat.mul_comm (128 ^ i) 128, ← Nat.mul_assoc, Nat.mul_comm (v / 128) 128]
        rw [e4]; omega
      rw [e2, show i + 1 + (leb (v / 128)).length = i + ((leb (v / 128)).length + 1) by omega]
theorem get_leb (n : Int) (h0 : -9223372036854775808 ≤ n) (h1 : n ≤ 9223372036854775807) (r : List Nat) : get (leb (zz n) ++ r) = (n, (leb (zz n)).length, 0) := by
  unfold get
  rw [getGo_leb r (zz n) 0 0 (by omega) (zz_lt n h0 h1) (by omega)]
  simp [unzz_zz]

/-- What is cut off is not all there. -/
theorem getGo_cut : ∀ (v : Nat) (i u k : Nat), i ≤ 9 → v < 2 ^ (64 - 7 * i) → k < (leb v).length → getGo ((leb v).take k) i u = (0, 0, 2) := by
  intro v
  induction v using Nat.strongRecOn with
  | _ v ih =>
    intro i u k hi hv hk
    cases k with
    | zero => simp [getGo]
    | succ k =>
      by_cases h : v < 128
      · rw [leb_small v h] at hk; simp at hk
      · rw [leb_big v (by omega)] at hk ⊢
        have hi9 : i < 9 := by
          rcases Nat.lt_or_ge i 9 with h' | h'
          · exact h'
          · have : i = 9 := by omega
            subst this
            simp at hv; omega
        have h9 : ¬ (i = 9 ∧ 1 < v % 128 + 128) := by omega
        simp only [List.take_succ_cons, getGo, h9, if_false]
        rw [if_pos (by omega)]
        have hd : v / 128 < 2 ^ (64 - 7 * (i + 1)) := by
          have e : 64 - 7 * i = (64 - 7 * (i + 1)) + 7 := by omega
          rw [e, Nat.pow_add] at hv
          have : (2 : Nat) ^ 7 = 128 := rfl
          rw [this] at hv
          exact Nat.div_lt_of_lt_mul (by rw [Nat.mul_comm]; exact hv)
        exact ih (v / 128) (by omega) (i + 1) _ k (by omega) hd (by simpa using hk)

/-- How many bytes a number took: at least one, no more than there are; its size. -/
theorem getGo_facts : ∀ (l : List Nat) (i u : Nat), i ≤ 9 → u < 128 ^ i → (∀ c ∈ l, c < 256) →
    ((getGo l i u).2.2 = 0 ∧ i < (getGo l i u).2.1 ∧ (getGo l i u).2.1 ≤ i + l.length ∧ (getGo l i u).2.1 ≤ 10 ∧ -9223372036854775808 ≤ (getGo l i u).1 ∧ (getGo l i u).1 ≤ 9223372036854775807) ∨
    ((getGo l i u).2.2 ≠ 0 ∧ (getGo l i u).2.2 ≤ 2 ∧ (getGo l i u).1 = 0 ∧ (getGo l i u).2.1 = 0) := by
  intro l
  induction l with
  | nil => intro i u _ _ _; right; simp [getGo]
  | cons c r ih =>
    intro i u hi hu hc
    have hcc : c < 256 := hc c (by simp)
    unfold getGo
    split
    · right; simp
    · rename_i h9
      split
      · rename_i h127
        have hi9 : i < 9 := by omega
        have hu' : u + c % 128 * 128 ^ i < 128 ^ (i + 1) := by
          rw [Nat.pow_succ]
          have : c % 128 * 128 ^ i ≤ 127 * 128 ^ i := Nat.mul_le_mul_right _ (by omega)
          omega
        rcases ih (i + 1) _ (by omega) hu' (fun x hx => hc x (by simp [hx])) with ⟨a, b, d, e, f, g⟩ | h
        · left; exact ⟨a, by omega, by simp; omega, e, f, g⟩
        · right; exact h
      · split
        · right; simp
        · left
          rename_i h127 h0
          have hb : u + c * 128 ^ i < 18446744073709551616 := by
            by_cases h : i = 9
            · subst h
              have hc1 : c ≤ 1 := by omega
              have : c * 128 ^ 9 ≤ 1 * 128 ^ 9 := Nat.mul_le_mul_right _ hc1
              have e9 : (128 : Nat) ^ 9 = 9223372036854775808 := rfl
              rw [e9] at *
              omega
            · have h8 : i ≤ 8 := by omega
              have hp : (128 : Nat) ^ i ≤ 128 ^ 8 := Nat.pow_le_pow_right (by decide) h8
              have e8 : (128 : Nat) ^ 8 = 72057594037927936 := rfl
              rw [e8] at hp
              have : c * 128 ^ i ≤ 127 * 128 ^ i := Nat.mul_le_mul_right _ (by omega)
              omega
          refine ⟨rfl, by dsimp only; omega, by simp only [List.length_cons]; omega, by dsimp only; omega, ?_, ?_⟩
          · simp only [unzz]; split <;> omega
          · simp only [unzz]; split <;> omega
end Go.Proofs.Ytpibpapolcdeiaa
/- Bit operations on numbers in their range, as Lean's own: plain lemmas. -/
namespace Go.Proofs.Ytpibpapolcdeiaa

theorem bits_and_u8_nat (a b : Nat) (ha : a < 256) (hb : b < 256) : bits .and .u8 (a : Int) (b : Int) = ((a &&& b : Nat) : Int) := by
  have hx : a &&& b < 2 ^ 8 := Nat.and_lt_two_pow _ (by omega)
  have h1 : (BitVec.ofInt 8 (a : Int)).toNat = a := by
    rw [BitVec.ofInt_natCast, BitVec.toNat_ofNat]; exact Nat.mod_eq_of_lt (by omega)
  have h2 : (BitVec.ofInt 8 (b : Int)).toNat = b := by
    rw [BitVec.ofInt_natCast, BitVec.toNat_ofNat]; exact Nat.mod_eq_of_lt (by omega)
  show IntKind.u8.wrap ((BitVec.ofInt 8 (a : Int) &&& BitVec.ofInt 8 (b : Int)).toNat : Int) = _
  rw [BitVec.toNat_and, h1, h2, IntKind.wrap_u8]
  omega
theorem bits_or_u8_nat (a b : Nat) (ha : a < 256) (hb : b < 256) : bits .or .u8 (a : Int) (b : Int) = ((a ||| b : Nat) : Int) := by
  have hx : a ||| b < 2 ^ 8 := Nat.or_lt_two_pow (by omega) (by omega)
  have h1 : (BitVec.ofInt 8 (a : Int)).toNat = a := by
    rw [BitVec.ofInt_natCast, BitVec.toNat_ofNat]; exact Nat.mod_eq_of_lt (by omega)
  have h2 : (BitVec.ofInt 8 (b : Int)).toNat = b := by
    rw [BitVec.ofInt_natCast, BitVec.toNat_ofNat]; exact Nat.mod_eq_of_lt (by omega)
  show IntKind.u8.wrap ((BitVec.ofInt 8 (a : Int) ||| BitVec.ofInt 8 (b : Int)).toNat : Int) = _
  rw [BitVec.toNat_or, h1, h2, IntKind.wrap_u8]
  omega
theorem or128 : ∀ x, x < 256 → x ||| 128 = x % 128 + 128 := by decide +kernel
theorem and127 (x : Nat) : x &&& 127 = x % 128 := Nat.and_two_pow_sub_one_eq_mod x 7
/-- byte(u) | 128 -/
theorem or8 (u : Nat) : bits .or .u8 (IntKind.u8.wrap (u : Int)) 128 = ((u % 128 + 128 : Nat) : Int) := by
  have e : IntKind.u8.wrap (u : Int) = ((u % 256 : Nat) : Int) := by rw [IntKind.wrap_u8]; omega
  rw [e, show (128 : Int) = ((128 : Nat) : Int) from rfl, bits_or_u8_nat _ _ (by omega) (by omega), or128 _ (by omega)]
  omega
theorem or8m (u : Nat) : bits .or .u8 ((u : Int) % 256) 128 = ((u % 128 + 128 : Nat) : Int) := by
  rw [← or8, IntKind.wrap_u8]
/-- c & 127 -/
theorem and8 (c : Nat) (h : c < 256) : bits .and .u8 (c : Int) 127 = ((c % 128 : Nat) : Int) := by
  rw [show (127 : Int) = ((127 : Nat) : Int) from rfl, bits_and_u8_nat _ _ h (by omega), and127]
theorem xor_ones (x : Nat) (h : x < 18446744073709551616) : 18446744073709551615 ^^^ x = 18446744073709551615 - x := by
  have h1 := BitVec.toNat_not (x := BitVec.ofNat 64 x)
  have h2 : (~~~ (BitVec.ofNat 64 x)) = BitVec.allOnes 64 ^^^ BitVec.ofNat 64 x := by rw [BitVec.allOnes_xor]
  rw [h2, BitVec.toNat_xor, BitVec.toNat_allOnes, BitVec.toNat_ofNat, Nat.mod_eq_of_lt h] at h1
  simpa using h1
/-- u | x << s, nothing of x below -/
theorem or_disjoint (u x s : Nat) (h : u < 2 ^ s) : u ||| x * 2 ^ s = u + x * 2 ^ s := by
  rw [Nat.or_comm, Nat.mul_comm, ← Nat.two_pow_add_eq_or_of_lt h x]
  omega
/-- ^n -/
theorem not_i64 (x : Nat) (h : x < 9223372036854775808) : bits .xor .i64 (-1) (x : Int) = -(x : Int) - 1 := by
  have h1 : BitVec.ofInt 64 (-1) = BitVec.allOnes 64 := by decide
  have h2 : (BitVec.ofInt 64 (x : Int)).toNat = x := by
    rw [BitVec.ofInt_natCast, BitVec.toNat_ofNat]; exact Nat.mod_eq_of_lt (by omega)
  show IntKind.i64.wrap ((BitVec.ofInt 64 (-1) ^^^ BitVec.ofInt 64 (x : Int)).toNat : Int) = _
  rw [h1, BitVec.toNat_xor, h2, BitVec.toNat_allOnes]
  have h3 := xor_ones x (by omega)
  have e : (2 ^ 64 - 1 : Nat) = 18446744073709551615 := rfl
  rw [e, h3, IntKind.wrap_i64]
  omega
end Go.Proofs.Ytpibpapolcdeiaa
/- The contracts of package num: put, Put, Get, PutText, GetText. -/
namespace Go.Proofs.Ytpibpapolcdeiaa
open Go.ChangeShapes Go.WideShapes Go.ChangeAt Go.RowKit
set_option linter.unusedVariables false
set_option linter.unusedSimpArgs false
set_option maxRecDepth 100000

theorem put_neg (n : Int) (n0 : -9223372036854775808 ≤ n) (hn : n < 0) : bits .xor .u64 IntKind.u64.max (IntKind.u64.wrap (IntKind.u64.wrap n * 2)) = (zz n : Int) := by
  have e : IntKind.u64.wrap (IntKind.u64.wrap n * 2) = ((18446744073709551615 - zz n : Nat) : Int) := by
    simp only [IntKind.wrap_u64]
    unfold zz
    rw [if_neg (by omega)]
    omega
  have hz := zz_lt n n0 (by omega)
  rw [e, show IntKind.u64.max = ((18446744073709551615 : Nat) : Int) from rfl, bits_xor_u64_nat _ _ (by omega) (by omega), xor_ones _ (by omega)]
  omega
theorem put_pos (n : Int) (hn : 0 ≤ n) : n * 2 = (zz n : Int) := by
  unfold zz; rw [if_pos hn]; omega
set_option maxHeartbeats 400000 in
theorem nput_any {w : World} (base : Nat) (v : Value) (l : List Nat) (n : Int) (hb : Buf w base 5 v l) (n0 : -9223372036854775808 ≤ n) (n1 : n ≤ 9223372036854775807) (hl : l.length ≤ 1099511627776) (hbase : base ≤ w.heap.size) :
    Calls Try.prog 39 #[v, .int .i64 n] w fun e w' => ∃ v', e = .returned v' ∧ Onto w base 5 v (l ++ leb (zz n)) v' w' := by
  obtain ⟨a, cap, rfl⟩ := hb.slice
  obtain ⟨i0, hi, hz0, hz1, hz2⟩ := info_parts Try.info8
  have hcase : n < 0 ∨ 0 ≤ n := by omega
  rcases hcase with hn | hn
  · go_enter Try.func39, Try.ntmps39
    go_wp2_with fail
    rw [put_neg n n0 hn]
    have hz := zz_lt n n0 n1
    generalize hZ : zz n = Z at *
    have HZ := Lib.hid hZ
    clear hZ
    go_loopw [0, 5] (fun b u wr => ∃ (l' : List Nat) (U : Nat) (v' : Value), b = v' ∧ u = .int .u64 U ∧ U < 18446744073709551616 ∧ l' ++ leb U = l ++ leb Z ∧ Onto w base 5 (.slice a l.length cap) l' v' wr) (fun _ u _ => (intOf u).toNat)
    case atStart => exact ⟨l, Z, _, rfl, rfl, hz, rfl, Onto.refl hb⟩
    case round =>
      obtain ⟨l', U, v', rfl, rfl, hU, hE, hO⟩ := hrel
      have HE := Lib.hid hE
      clear hE hb
      by_cases hbig : 127 < U
      · have q1 : (127 : Int) < U := by omega
        obtain ⟨a', cap', rfl⟩ := hO.buf.slice
        have hlen : l'.length + (leb U).length = l.length + (leb Z).length := by have := congrArg List.length HE.out; simpa using this
        have hZl := leb_len 10 Z (by omega) (by omega)
        have hks := hO.keep.size
        obtain ⟨X, hX⟩ : ∃ X : Nat, X = U % 128 + 128 := ⟨_, rfl⟩
        have hor := or8m U
        rw [← hX] at hor
        have HX := Lib.hid hX
        clear hX
        have hbuf := hO.buf
        go_wp2_with (at_builtin; refine wpList_append_src _ rfl _ _ 30 30 rfl base 5 i0 (.int .u8 0) 1 1 Try.underlying30 hi hz0 hz1 hz2 rfl (by decide) _ _ _ rfl (hbuf.alloc _) _ 1 (bcs [X]) rfl (src_new1 Try.underlying30 _ X _) (by unfold maxLen; omega) (by omega) (by simp; omega) ?_; intro v1 w1 h1 h2 _ h3)
        go_roundw
        case rel =>
          refine ⟨l' ++ [X], U / 128, v1, rfl, by go_num, by omega, ?_, (hO.alloc _).app h1 h2 h3⟩
          rw [← HE.out, leb_big U (by omega), HX.out]; simp
        case measure => simp [intOf]; omega
      · have q1 : (U : Int) ≤ 127 := by omega
        obtain ⟨a', cap', rfl⟩ := hO.buf.slice
        have hlen : l'.length + (leb U).length = l.length + (leb Z).length := by have := congrArg List.length HE.out; simpa using this
        have hZl := leb_len 10 Z (by omega) (by omega)
        have hUl := leb_ne U
        have hU1 : 0 < (leb U).length := List.length_pos_iff.2 hUl
        have hks := hO.keep.size
        have HUL := Lib.hid hUl
        clear hUl
        have hbuf := hO.buf
        go_wp2_with (at_builtin; refine wpList_append_src _ rfl _ _ 30 30 rfl base 5 i0 (.int .u8 0) 1 1 Try.underlying30 hi hz0 hz1 hz2 rfl (by decide) _ _ _ rfl (hbuf.alloc _) _ 1 (bcs [U]) rfl (src_new1 Try.underlying30 _ U _) (by unfold maxLen; omega) (by omega) (by simp; omega) ?_; intro v1 w1 h1 h2 _ h3)
        go_ret
        refine ⟨v1, rfl, ?_⟩
        have hr := (hO.alloc (.cells #[.int .u8 (U : Int)] 5)).app h1 h2 h3
        rw [← leb_small U (by omega), HE.out, ← HZ.out] at hr
        exact hr
  · go_enter Try.func39, Try.ntmps39
    go_wp2_with fail
    rw [put_pos n hn]
    have hz := zz_lt n n0 n1
    generalize hZ : zz n = Z at *
    have HZ := Lib.hid hZ
    clear hZ
    go_loopw [0, 5] (fun b u wr => ∃ (l' : List Nat) (U : Nat) (v' : Value), b = v' ∧ u = .int .u64 U ∧ U < 18446744073709551616 ∧ l' ++ leb U = l ++ leb Z ∧ Onto w base 5 (.slice a l.length cap) l' v' wr) (fun _ u _ => (intOf u).toNat)
    case atStart => exact ⟨l, Z, _, rfl, rfl, hz, rfl, Onto.refl hb⟩
    case round =>
      obtain ⟨l', U, v', rfl, rfl, hU, hE, hO⟩ := hrel
      have HE := Lib.hid hE
      clear hE hb
      by_cases hbig : 127 < U
      · have q1 : (127 : Int) < U := by omega
        obtain ⟨a', cap', rfl⟩ := hO.buf.slice
        have hlen : l'.length + (leb U).length = l.length + (leb Z).length := by have := congrArg List.length HE.out; simpa using this
        have hZl := leb_len 10 Z (by omega) (by omega)
        have hks := hO.keep.size
        obtain ⟨X, hX⟩ : ∃ X : Nat, X = U % 128 + 128 := ⟨_, rfl⟩
        have hor := or8m U
        rw [← hX] at hor
        have HX := Lib.hid hX
        clear hX
        have hbuf := hO.buf
        go_wp2_with (at_builtin; refine wpList_append_src _ rfl _ _ 30 30 rfl base 5 i0 (.int .u8 0) 1 1 Try.underlying30 hi hz0 hz1 hz2 rfl (by decide) _ _ _ rfl (hbuf.alloc _) _ 1 (bcs [X]) rfl (src_new1 Try.underlying30 _ X _) (by unfold maxLen; omega) (by omega) (by simp; omega) ?_; intro v1 w1 h1 h2 _ h3)
        go_roundw
        case rel =>
          refine ⟨l' ++ [X], U / 128, v1, rfl, by go_num, by omega, ?_, (hO.alloc _).app h1 h2 h3⟩
          rw [← HE.out, leb_big U (by omega), HX.out]; simp
        case measure => simp [intOf]; omega
      · have q1 : (U : Int) ≤ 127 := by omega
        obtain ⟨a', cap', rfl⟩ := hO.buf.slice
        have hlen : l'.length + (leb U).length = l.length + (leb Z).length := by have := congrArg List.length HE.out; simpa using this
        have hZl := leb_len 10 Z (by omega) (by omega)
        have hUl := leb_ne U
        have hU1 : 0 < (leb U).length := List.length_pos_iff.2 hUl
        have hks := hO.keep.size
        have HUL := Lib.hid hUl
        clear hUl
        have hbuf := hO.buf
        go_wp2_with (at_builtin; refine wpList_append_src _ rfl _ _ 30 30 rfl base 5 i0 (.int .u8 0) 1 1 Try.underlying30 hi hz0 hz1 hz2 rfl (by decide) _ _ _ rfl (hbuf.alloc _) _ 1 (bcs [U]) rfl (src_new1 Try.underlying30 _ U _) (by unfold maxLen; omega) (by omega) (by simp; omega) ?_; intro v1 w1 h1 h2 _ h3)
        go_ret
        refine ⟨v1, rfl, ?_⟩
        have hr := (hO.alloc (.cells #[.int .u8 (U : Int)] 5)).app h1 h2 h3
        rw [← leb_small U (by omega), HE.out, ← HZ.out] at hr
        exact hr

/-- The bytes of many numbers. -/
def putAll (l : List Int) : List Nat := (l.map fun n => leb (zz n)).flatten
theorem putAll_snoc (l : List Int) (n : Int) : putAll (l ++ [n]) = putAll l ++ leb (zz n) := by simp [putAll]

set_option maxHeartbeats 400000 in
theorem Put_any {w : World} (base : Nat) (v : Value) (l : List Nat) (ns : Value) (zs : List Int) (hb : Buf w base 5 v l) (hz : Rv w 1 ns zs.length (ints zs)) (hsep : 0 < zs.length → ∀ b, ns.ownBlock = some b → v.ownBlock ≠ some b)
    (hr : ∀ n ∈ zs, I64 n) (hl : l.length + 10 * zs.length ≤ 1099511627776) (hbase : base ≤ w.heap.size) :
    Calls Try.prog 21 #[v, ns] w fun e w' => ∃ v', e = .returned v' ∧ Onto w base 5 v (l ++ putAll zs) v' w' := by
  obtain ⟨a, cap, rfl⟩ := hb.slice
  have hz2 := hz
  obtain ⟨_, a2, cap2, rfl, hc2, _⟩ := hz
  go_enter Try.func21, Try.ntmps21
  go_wp2_with fail
  go_loopw [0, 9] (fun b i wr => ∃ (k : Nat) (v' : Value), k ≤ zs.length ∧ b = v' ∧ i = .int .i64 k ∧ Onto w base 5 (.slice a l.length cap) (l ++ putAll (zs.take k)) v' wr ∧ (l ++ putAll (zs.take k)).length ≤ l.length + 10 * k) (fun _ i _ => zs.length - (intOf i).toNat)
  case atStart => exact ⟨0, _, by omega, rfl, rfl, by simpa [putAll] using Onto.refl hb, by simp [putAll]⟩
  case round =>
    obtain ⟨k, v', hk, rfl, rfl, hO, hL⟩ := hrel
    by_cases hlt : k < zs.length
    · obtain ⟨sb, so, cap3, he, _, hsb, hat⟩ := hz2.at1 (by omega)
      simp only [Value.slice.injEq] at he
      obtain ⟨rfl, _, rfl⟩ := he
      have g4 : wr.cell? ⟨sb, so + k, none⟩ = some (.int .i64 (zs.getD k 0)) := by
        rw [hO.keep.cell hsb (by have := hsep (by omega) sb rfl; simp at this ⊢; intro e; exact this e), hat k hlt, ints_at zs k hlt]
      have st := putAll_snoc (zs.take k) (zs.getD k 0)
      rw [← take_succ_getD _ _ _ hlt] at st
      have ST := Lib.hid st
      have hx : I64 (zs.getD k 0) := hr _ (by simp [List.getD_eq_getElem?_getD, hlt])
      clear st hat hz2
      generalize zs.getD k 0 = x at *
      have hk1 : (k : Int) < zs.length := by omega
      have hks := hO.keep.size
      have h10 := leb_len 10 (zz x) (by have := zz_lt x hx.1 hx.2; omega) (by omega)
      go_wp2_with fail
      refine (nput_any base _ _ x hO.buf hx.1 hx.2 (by omega) (by omega)).mono ?_
      rintro e w1 ⟨v1, rfl, hO1⟩
      go_wp2_with fail
      go_roundw
      case rel => exact ⟨k + 1, v1, by omega, rfl, by go_num, by rw [ST.out, ← List.append_assoc]; exact hO.trans hO1, by rw [ST.out, ← List.append_assoc, List.length_append]; omega⟩
      case measure => simp [intOf]; omega
    · obtain rfl : k = zs.length := by omega
      rw [List.take_length] at hO
      go_wp2_with fail
      go_ret
      exact ⟨_, rfl, hO⟩

def putText (t : ByteArray) : List Nat := leb (zz (t.size : Int)) ++ sb t
def putTexts (l : List ByteArray) : List Nat := (l.map putText).flatten
theorem putTexts_snoc (l : List ByteArray) (t : ByteArray) : putTexts (l ++ [t]) = putTexts l ++ putText t := by simp [putTexts]

theorem putAll_len (l : List Int) (h : ∀ n ∈ l, I64 n) : (putAll l).length ≤ 10 * l.length := by
  induction l with
  | nil => simp [putAll]
  | cons x l ih =>
    have hx := h x (by simp)
    have := ih (fun n hn => h n (by simp [hn]))
    have h10 := leb_len 10 (zz x) (by have := zz_lt x hx.1 hx.2; omega) (by omega)
    simp only [putAll, List.map_cons, List.flatten_cons, List.length_append, List.length_cons] at *
    omega
theorem putAll_byte (l : List Int) : ∀ c ∈ putAll l, c < 256 := by
  intro c hc
  simp only [putAll, List.mem_flatten, List.mem_map] at hc
  obtain ⟨x, ⟨n, _, rfl⟩, hx⟩ := hc
  exact leb_byte _ c hx
end Go.Proofs.Ytpibpapolcdeiaa
/- The contracts of num.Get and num.GetText. -/
namespace Go.Proofs.Ytpibpapolcdeiaa
open Go.ChangeShapes Go.WideShapes Go.ChangeAt Go.RowKit
set_option linter.unusedVariables false
set_option linter.unusedSimpArgs false
set_option maxRecDepth 100000

theorem or_step (U c k : Nat) (hU : U < 128 ^ k) (hk : U + c % 128 * 128 ^ k < 18446744073709551616) :
    bits .or .u64 (U : Int) (IntKind.u64.wrap ((c : Int) % 128 * 2 ^ (7 * k))) = ((U + c % 128 * 128 ^ k : Nat) : Int) := by
  have e1 : (2 : Nat) ^ (7 * k) = 128 ^ k := by rw [Nat.pow_mul]
  have e2 : ((c : Int) % 128 * 2 ^ (7 * k)) = ((c % 128 * 128 ^ k : Nat) : Int) := by
    rw [← e1]; simp [Int.natCast_mul, Int.natCast_pow]
  have e3 : IntKind.u64.wrap ((c % 128 * 128 ^ k : Nat) : Int) = ((c % 128 * 128 ^ k : Nat) : Int) := by
    rw [IntKind.wrap_u64]; omega
  rw [e2, e3, bits_or_u64_nat _ _ (by omega) (by omega)]
  congr 1
  rw [← e1]
  exact or_disjoint U (c % 128) (7 * k) (by rw [e1]; exact hU)
theorem pow128_le (k : Nat) (hk : k ≤ 8) (c : Nat) : c % 128 * 128 ^ k + 128 ^ k ≤ 18446744073709551615 := by
  have hp : (128 : Nat) ^ k ≤ 128 ^ 8 := Nat.pow_le_pow_right (by decide) hk
  have e8 : (128 : Nat) ^ 8 = 72057594037927936 := rfl
  rw [e8] at hp
  have : c % 128 * 128 ^ k ≤ 127 * 128 ^ k := Nat.mul_le_mul_right _ (by omega)
  omega
theorem pow128_9 (c : Nat) (hc : c ≤ 1) : c % 128 * 128 ^ 9 + 128 ^ 9 ≤ 18446744073709551616 := by
  have h : c = 0 ∨ c = 1 := by omega
  rcases h with rfl | rfl <;> decide +kernel

def GotN (w : World) (r : Int × Nat × Nat) (e : Ending) (w' : World) : Prop := e = .returned (.tuple #[.int .i64 r.1, .int .i64 (r.2.1 : Int), .int .i64 (r.2.2 : Int)]) ∧ w = w'

theorem got_eq {w : World} {r : Int × Nat × Nat} {a b k : Int} (h : a = b) (h1 : GotN w r (.returned (.tuple #[.int .i64 b, .int .i64 k, .int .i64 0])) w) : GotN w r (.returned (.tuple #[.int .i64 a, .int .i64 k, .int .i64 0])) w := by rw [h]; exact h1
set_option maxHeartbeats 2000000 in
theorem Get_any {w : World} (v : Value) (l : List Nat) (h : Rd w v l) (hb : ∀ c ∈ l, c < 256) (hl : l.length ≤ 9223372036854775807) (r : Int × Nat × Nat) (hr : r = get l) :
    Calls Try.prog 19 #[v] w (GotN w r) := by
  have h2 := h
  obtain ⟨_, a, cap, rfl, _, _⟩ := h
  have HR := Lib.hid hr
  clear hr
  go_enter Try.func19, Try.ntmps19
  go_wp2_with fail
  go_loop [5, 11] (fun u i => ∃ (k U : Nat), k ≤ l.length ∧ k ≤ 9 ∧ i = .int .i64 k ∧ u = .int .u64 U ∧ U < 128 ^ k ∧ get l = getGo (l.drop k) k U) (fun _ i => l.length - (intOf i).toNat)
  case atStart => exact ⟨0, 0, by omega, by omega, rfl, rfl, by simp, by simp [get]⟩
  case round =>
    obtain ⟨k, U, hk, hk9, rfl, rfl, hU, hE⟩ := hrel
    by_cases hlt : k < l.length
    · obtain ⟨sb0, so, cap3, he, _, hsb, hat⟩ := h2.at1 (by omega)
      simp only [Value.slice.injEq] at he
      obtain ⟨rfl, _, rfl⟩ := he
      have g4 := hat k hlt
      rw [bcs_at l k hlt] at g4
      have hc : l.getD k 0 < 256 := hb _ (by simp [List.getD_eq_getElem?_getD, hlt])
      have hd : l.drop k = l.getD k 0 :: l.drop (k + 1) := by rw [List.drop_eq_getElem_cons hlt]; simp [List.getD_eq_getElem?_getD, hlt]
      rw [hd] at hE
      have HE := Lib.hid hE
      have HU := Lib.hid hU
      clear hE hd hat h2 hb hU
      generalize l.getD k 0 = c at *
      unfold bc at g4
      have q0 : (k : Int) < l.length := by omega
      have ha := and8 c hc
      have hcase : (k = 9 ∧ 1 < c) ∨ (¬ (k = 9 ∧ 1 < c) ∧ 127 < c) ∨ (¬ (k = 9 ∧ 1 < c) ∧ c ≤ 127 ∧ 0 < k ∧ c = 0) ∨ (¬ (k = 9 ∧ 1 < c) ∧ c ≤ 127 ∧ ¬ (0 < k ∧ c = 0)) := by omega
      rcases hcase with ⟨rfl, h1⟩ | ⟨h9, h1⟩ | ⟨h9, h1, h3, h4⟩ | ⟨h9, h1, h3⟩
      · have q1 : (1 : Int) < c := by omega
        go_wp2_with fail
        go_ret3
        refine ⟨?_, rfl⟩
        rw [HR.out, HE.out]
        simp [getGo, h1]
      · have q1 : (127 : Int) < c := by omega
        have hk8 : k < 9 := by omega
        have q2 : ((k : Int) == 9) = false := by simp; omega
        go_wp2_with fail
        go_round
        case rel =>
          have hp := pow128_le k (by omega) c
          have hU := HU.out
          refine ⟨k + 1, U + c % 128 * 128 ^ k, by omega, by omega, by go_num, by rw [or_step U c k hU (by omega)], ?_, ?_⟩
          · rw [Nat.pow_succ]
            have : c % 128 * 128 ^ k ≤ 127 * 128 ^ k := Nat.mul_le_mul_right _ (by omega)
            omega
          · rw [HE.out]
            simp only [getGo, h9, if_false, h1, if_true]
        case measure => simp [intOf]; omega
      · have q5 : ((c : Int) == 0) = true := by simpa using h4
        have q3 : (0 : Int) < k := by omega
        have q6 : ¬ ((1 : Int) < c) := by omega
        have H4 := Lib.hid h4
        clear h4
        by_cases h99 : k = 9
        all_goals
          first
          | (have q2 : ((k : Int) == 9) = true := by simp; omega)
          | (have q2 : ((k : Int) == 9) = false := by simp; omega)
          have H99 := Lib.hid h99
          clear h99
          go_wp2_with fail
          go_ret3
          refine ⟨?_, rfl⟩
          rw [HR.out, HE.out]
          simp only [getGo, h9, if_false]
          rw [if_neg (by omega), if_pos ⟨h3, H4.out⟩]
          rfl
      · obtain ⟨U', hU'⟩ : ∃ U' : Nat, U' = U + c * 128 ^ k := ⟨_, rfl⟩
        have hlt64 : U' < 18446744073709551616 := by
          have hU := HU.out
          by_cases h99 : k = 9
          · subst h99
            have := pow128_9 c (by omega)
            rw [show c % 128 = c by omega] at this
            omega
          · have := pow128_le k (by omega) c
            rw [show c % 128 = c by omega] at this
            omega
        have hor := or_step U c k HU.out (by rw [show c % 128 = c by omega, ← hU']; exact hlt64)
        rw [show c % 128 = c by omega, ← hU'] at hor
        have HU' := Lib.hid hU'
        clear hU'
        have q6 : ¬ ((127 : Int) < c) := by omega
        have hfin : GotN w r (.returned (.tuple #[.int .i64 (unzz U'), .int .i64 ((k : Int) + 1), .int .i64 0])) w := by
          refine ⟨?_, rfl⟩
          rw [HR.out, HE.out]
          simp only [getGo, h9, if_false]
          rw [if_neg (by omega), if_neg h3, ← HU'.out]
          rfl
        have HF := Lib.hid hfin
        clear hfin
        have hand : bits .and .u64 (U' : Int) 1 = ((U' % 2 : Nat) : Int) := by
          rw [show (1 : Int) = ((1 : Nat) : Int) from rfl, bits_and_u64_nat _ _ hlt64 (by omega), Nat.and_one_is_mod]
        have hnot := not_i64 (U' / 2) (by omega)
        have hd2 : ((U' / 2 : Nat) : Int) = (U' : Int) / 2 := by omega
        rw [hd2] at hnot
        have hm2 : ((U' % 2 : Nat) : Int) = (U' : Int) % 2 := by omega
        rw [hm2] at hand
        clear hd2 hm2
        have hpar : ((U' : Int) % 2 == 1) = true ∨ ((U' : Int) % 2 == 1) = false := by
          cases ((U' : Int) % 2 == 1) <;> simp
        have hk3 : (((k : Int) == 9) = true ∧ decide (0 < k) = true ∧ ((c : Int) == 0) = false ∧ ¬ ((1 : Int) < c)) ∨ (((k : Int) == 9) = false ∧ decide (0 < k) = true ∧ ((c : Int) == 0) = false) ∨ (((k : Int) == 9) = false ∧ decide (0 < k) = false) := by
          simp; omega
        have H3 := Lib.hid h3
        have H9 := Lib.hid h9
        clear h3 h9
        rcases hk3 with ⟨a1, a2, a3, a4⟩ | ⟨a1, a2, a3⟩ | ⟨a1, a2⟩
        all_goals
          rcases hpar with hp | hp
          all_goals
            go_wp2_with fail
            go_ret3
            have hF := HF.out
            unfold unzz at hF
            simp only [beq_iff_eq, beq_eq_false_iff_ne] at hp
            first
            | (have hp' : U' % 2 = 1 := by omega
               rw [if_pos hp'] at hF
               refine got_eq ?_ hF
               omega)
            | (have hp' : ¬ U' % 2 = 1 := by omega
               rw [if_neg hp'] at hF
               refine got_eq ?_ hF
               omega)
    · go_wp2_with fail
      go_ret3
      obtain rfl : k = l.length := by omega
      refine ⟨?_, rfl⟩
      rw [HR.out, hE, List.drop_length]
      simp [getGo]
end Go.Proofs.Ytpibpapolcdeiaa
/- The contract of num.GetText. -/
namespace Go.Proofs.Ytpibpapolcdeiaa
open Go.ChangeShapes Go.WideShapes Go.ChangeAt Go.RowKit
set_option linter.unusedVariables false
set_option linter.unusedSimpArgs false
set_option maxRecDepth 100000

/-- A text read off bytes: its bytes, how many there were in all, the error. -/
def getText (l : List Nat) : List Nat × Nat × Nat :=
  if (get l).2.2 ≠ 0 then ([], 0, (get l).2.2) else if (get l).1 < 0 ∨ 65536 < (get l).1 then ([], 0, 1)
  else if ((l.length - (get l).2.1 : Nat) : Int) < (get l).1 then ([], 0, 2) else ((l.drop (get l).2.1).take (get l).1.toNat, (get l).2.1 + (get l).1.toNat, 0)

def GotT (w : World) (r : List Nat × Nat × Nat) (e : Ending) (w' : World) : Prop := e = .returned (.tuple #[.string (toStr r.1), .int .i64 (r.2.1 : Int), .int .i64 (r.2.2 : Int)]) ∧ w = w'

end Go.Proofs.Ytpibpapolcdeiaa
/- The contracts of the reference's Put, PutText, of the laws' Cut; a text off its bytes. -/
namespace Go.Proofs.Ytpibpapolcdeiaa
open Go.ChangeShapes Go.WideShapes Go.ChangeAt Go.RowKit
set_option linter.unusedVariables false
set_option linter.unusedSimpArgs false
set_option maxRecDepth 100000

/-- A text that is not too long. -/
def cutStr (s : ByteArray) (n : Nat) : ByteArray := if n < s.size then s.extract 0 n else s
theorem cutStr_size (s : ByteArray) (n : Nat) : (cutStr s n).size ≤ n := by
  unfold cutStr; split
  · simp; omega
  · omega
theorem Cut_any {w : World} (s : ByteArray) (n : Nat) (hs : s.size ≤ 9223372036854775807) (hn : n ≤ 1000000) :
    Calls Try.prog 26 #[.string s, .int .i64 n] w fun e w' => e = .returned (.string (cutStr s n)) ∧ w = w' := by
  by_cases h : n < s.size
  · have q1 : (n : Int) < s.size := by omega
    go_enter Try.func26, Try.ntmps26
    go_wp2_with fail
    go_ret
    exact ⟨by unfold cutStr; rw [if_pos h]; rfl, rfl⟩
  · have q1 : ¬ (n : Int) < s.size := by omega
    go_enter Try.func26, Try.ntmps26
    go_wp2_with fail
    go_ret
    exact ⟨by unfold cutStr; rw [if_neg h]; rfl, rfl⟩

theorem toStr_sb (t : ByteArray) : toStr (sb t) = t := by
  unfold toStr sb
  have e : (t.data.toList.map UInt8.toNat).map UInt8.ofNat = t.data.toList := by
    rw [List.map_map]
    conv => rhs; rw [← List.map_id t.data.toList]
    apply List.map_congr_left
    intro c _
    simp
  rw [e]
theorem getText_putText (t : ByteArray) (ht : t.size ≤ 65536) (r : List Nat) : getText (putText t ++ r) = (sb t, (putText t).length, 0) := by
  have hl : (putText t).length = (leb (zz (t.size : Int))).length + t.size := by unfold putText; rw [List.length_append, sb_length]
  unfold getText
  have hg : get (putText t ++ r) = ((t.size : Int), (leb (zz (t.size : Int))).length, 0) := by
    unfold putText
    rw [List.append_assoc]
    exact get_leb _ (by omega) (by omega) _
  rw [hg]
  simp only [ne_eq, not_true_eq_false, if_false]
  rw [if_neg (by omega), if_neg (by rw [List.length_append]; omega)]
  have e : (putText t ++ r).drop (leb (zz (t.size : Int))).length = sb t ++ r := by
    unfold putText
    rw [List.append_assoc, List.drop_append, Nat.sub_self, List.drop_zero, List.drop_of_length_le (Nat.le_refl _), List.nil_append]
  rw [e, Int.toNat_natCast, hl]
  congr 1
  rw [List.take_append_of_le_length (by rw [sb_length]; omega), List.take_of_length_le (by rw [sb_length]; omega)]
end Go.Proofs.Ytpibpapolcdeiaa
/- Entries: which may be, until when they are live, which are the same. -/
namespace Go.Proofs.Ytpibpapolcdeiaa
open Go.ChangeShapes Go.WideShapes Go.ChangeAt Go.RowKit
set_option linter.unusedVariables false
set_option linter.unusedSimpArgs false
set_option maxRecDepth 100000

abbrev itV (k v : ByteArray) (n : Int) (g : Bool) : Value := .agg #[.string k, .string v, .int .i64 n, .bool g]
def itC (k v : ByteArray) (n : Int) (g : Bool) : List Value := [.string k, .string v, .int .i64 n, .bool g]
def itKey (k : ByteArray) : Bool := decide (1 ≤ k.size) && decide (k.size ≤ 40)
def itMay (k v : ByteArray) (n : Int) (g : Bool) : Bool :=
  itKey k && (decide (v.size ≤ 200) && (decide (0 ≤ n) && (decide (n ≤ 1099511627776) && (!g || (decide (v.size = 0) && decide (n = 0))))))
def itLive (k v : ByteArray) (n : Int) (g : Bool) (now : Int) : Bool := itMay k v n g && (!g && (decide (n = 0) || decide (now < n)))
theorem str_none (s : ByteArray) : (s = { data := #[] }) ↔ s.size = 0 := by
  constructor
  · rintro rfl; rfl
  · intro h
    apply ByteArray.ext
    exact Array.eq_empty_of_size_eq_zero h
theorem str_nil {s : ByteArray} : s.toList = [] ↔ s.size = 0 := by
  rw [toList_nil_iff_emptyBytes, ← str_none]
  rfl
theorem tl_inj {s t : ByteArray} (h : s.toList = t.toList) : s = t := by
  rw [ByteArray.toList_eq, ByteArray.toList_eq] at h
  apply ByteArray.ext
  exact Array.toList_inj.1 h
theorem RefKey_any {w : World} (s : ByteArray) (hs : s.size ≤ 9223372036854775807) (r : Bool) (hr : r = itKey s) : Calls Try.prog 16 #[.string s] w fun e w' => e = .returned (.bool r) ∧ w = w' := by
  have HR := Lib.hid hr
  clear hr
  by_cases h0 : s.size = 0
  · obtain rfl := (str_none s).2 h0
    go_enter Try.func16, Try.ntmps16
    go_wp2_with fail
    go_ret
    exact ⟨by rw [HR.out]; rfl, rfl⟩
  · have h1 : decide (1 ≤ s.size) = true := decide_eq_true (by omega)
    have h2 : decide ((1 : Int) ≤ s.size) = true := decide_eq_true (by omega)
    go_enter Try.func16, Try.ntmps16
    go_wp2_with fail
    go_ret
    refine ⟨?_, rfl⟩
    have e3 : decide ((s.size : Int) ≤ 40) = decide (s.size ≤ 40) := by apply decide_eq_decide.2; omega
    rw [HR.out]; unfold itKey; rw [h1, Bool.true_and, ← e3]
    rfl

def itEq (k v : ByteArray) (n : Int) (g : Bool) (k' v' : ByteArray) (n' : Int) (g' : Bool) : Bool := decide (k = k') && (decide (v = v') && (decide (n = n') && decide (g = g')))
end Go.Proofs.Ytpibpapolcdeiaa
