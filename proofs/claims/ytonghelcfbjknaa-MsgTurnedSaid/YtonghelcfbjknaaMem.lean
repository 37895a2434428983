/- Laws of this work's own on memory that a call makes: append of whatever source onto an owned row; rows of bytes. No condition. -/
import Derived.Test.YtonghelcfbjknaaBase
import Derived.Deep.AppendSrc
namespace Go.Proofs.Ytonghelcfbjknaa
open Go.ChangeShapes Go.WideShapes Go.ChangeAt Go.RowKit
set_option linter.unusedVariables false
set_option linter.unusedSimpArgs false

section
variable {P : Program} (w : World)

theorem run_append_room_s (t tx ty e : TypeId) (i : TypeInfo) (ht : P.underlying t = some (.slice e)) (hi : P.info? e = some i)
    (g sLen sCap : Nat) (cur : Array Value) (hg : w.heap[g]? = some (.cells cur e (0, 0))) (x : Value) (m : Nat) (news : List Value) (hs : Src P i.size tx x m news w)
    (hroom : sLen + m ≤ sCap) (hfit : sLen * i.size + news.length ≤ cur.size) :
    (Builtin.append_ #[t, tx] ty #[.slice (some ⟨g, 0, none⟩) sLen sCap, x]).run P w =
      .ok (.slice (some ⟨g, 0, none⟩) (sLen + m) sCap) (w.setRow g (cur.toList.take (sLen * i.size) ++ news ++ cur.toList.drop (sLen * i.size + news.length)).toArray) := by
  have hst := run_storeCells_at P g (sLen * i.size) e news 0 cur w hg (by simpa using hfit) hs.one
  simp only [Nat.add_zero] at hst
  rcases hs.kind with ⟨e', hk⟩ | hk <;> simp [Builtin.append_, run_underlying ht, run_underlying hk, sizeOf, typeInfo, hi, hs.len, hroom, hs.cells, Addr.add_lit, hst]

theorem run_append_src (base : Nat) (t tx ty e : TypeId) (i : TypeInfo) (z : Value) (size bytes : Nat) (ht : P.underlying t = some (.slice e)) (hi : P.info? e = some i) (hz : i.zero = some z)
    (hsize : i.size = size) (hby : i.bytes = bytes) (hzs : z.cells.size = size) (hsz : 0 < size)
    (v : Value) (n : Nat) (xs : List Value) (hown : w.ownsRow base e size v n xs)
    (x : Value) (m : Nat) (news : List Value) (hs : Src P size tx x m news w)
    (h63 : n + m ≤ maxLen) (hbytes : (n + m) * bytes ≤ 140737488355328) (hbase : base ≤ w.heap.size) :
    ∃ v' w', (Builtin.append_ #[t, tx] ty #[v, x]).run P w = .ok v' w' ∧ w'.ownsRow base e size v' (n + m) (xs ++ news) ∧ w.grownBy w' v.ownBlock ∧
      (v' = .slice none 0 0 ↔ v = .slice none 0 0 ∧ m = 0) ∧ (∀ k, v'.ownBlock = some k → v.ownBlock = some k ∨ w.heap.size ≤ k) := by
  subst hsize
  subst hby
  have hl : news.length = m * i.size := hs.newsLen
  have hsmall : n + m ≤ 9223372036854775807 := by simp only [maxLen] at h63; omega
  have hlen : (xs ++ news).length = (n + m) * i.size := by rw [List.length_append, hown.1, hl, Nat.add_mul]
  have grown : ∀ (old : Nat), old < n + m → ∀ (row : Option Nat),
      (w.drew.alloc (.cells ((xs ++ news).toArray ++ Builtin.zeroCells z.cells (grownCap w (n + m) old e - (n + m))) e)).ownsRow base e i.size
        (.slice (some ⟨w.heap.size, 0, none⟩) (n + m) (grownCap w (n + m) old e)) (n + m) (xs ++ news) ∧
      w.grownBy (w.drew.alloc (.cells ((xs ++ news).toArray ++ Builtin.zeroCells z.cells (grownCap w (n + m) old e - (n + m))) e)) row := by
    intro old ho row
    have hge := grownCap_ge w (n + m) old e
    have hcm : grownCap w (n + m) old e ≤ maxLen := grownCap_le_maxLen w (n + m) old e h63
    refine ⟨⟨hlen, .inr ⟨w.heap.size, _, _, rfl, hbase, heap_alloc_new w.drew _, hge, hcm, ?_, ?_⟩⟩, ⟨rfl, rfl, rfl, by simp, fun k hk _ => Below.heap_alloc w.drew _ k hk⟩⟩
    · simp only [Array.size_append, List.size_toArray, size_zeroCells, hzs, hlen, ← Nat.add_mul]
      congr 1
      omega
    · simp only [Array.toList_append]
      rw [← hlen]
      exact List.take_left
  rcases hown.2 with ⟨rfl, rfl⟩ | ⟨g, cap, cur, rfl, hbg, hg, hnc, hcm, hcs, htake⟩
  · have hx : xs = [] := List.eq_nil_of_length_eq_zero (by simpa using hown.1)
    subst hx
    by_cases hm : m = 0
    · subst hm
      have hn : news = [] := List.eq_nil_of_length_eq_zero (by simpa using hl)
      subst hn
      refine ⟨.slice none 0 0, w, ?_, World.ownsRow_nil w base e i.size, ⟨rfl, rfl, rfl, Nat.le_refl _, fun _ _ _ => rfl⟩, by simp, fun k hk => .inl hk⟩
      have h0 := hs.cells
      rcases hs.kind with ⟨e', hk⟩ | hk <;> simp [Builtin.append_, run_underlying ht, run_underlying hk, sizeOf, typeInfo, hi, hs.len, h0]
    · have hr := run_append_grow_src (P := P) w t tx ty e i z ht hi hz none 0 0 [] (run_firstCells_none _ _ _ _ _) x m news hs (by omega) (by omega) (growslice_fits (by omega) hbytes)
      have hgr := grown 0 (by omega) (Value.ownBlock (.slice none 0 0))
      simp only [Nat.zero_add, List.nil_append] at hgr hr ⊢
      exact ⟨_, _, hr, hgr.1, hgr.2, by simp [hm], fun k hk => .inr (by cases hk; exact Nat.le_refl _)⟩
  · by_cases hroom : n + m ≤ cap
    · have hfit : n * i.size + news.length ≤ cur.size := by rw [hl, hcs, ← Nat.add_mul]; exact Nat.mul_le_mul_right _ hroom
      have hr := run_append_room_s (P := P) w t tx ty e i ht hi g n cap cur hg x m news hs hroom hfit
      refine ⟨_, _, hr, ⟨hlen, .inr ⟨g, cap, _, rfl, hbg, setRow_heap w g cur _ e _ hg, hroom, hcm, ?_, ?_⟩⟩, ⟨rfl, rfl, rfl, by simp, fun k _ hk => setRow_other w g k _ (fun e => hk (by simp [Value.ownBlock, e]))⟩, by simp, fun k hk => .inl hk⟩
      · simp only [List.size_toArray, List.length_append, List.length_take, List.length_drop, Array.length_toList]
        omega
      · rw [htake, ← hlen]
        exact List.take_left
    · have holds : ∀ j u, xs[j]? = some u → w.cell? ((⟨g, 0, none⟩ : Addr).add j) = some u := hown.cells (g := g) rfl
      have hr := run_append_grow_src (P := P) w t tx ty e i z ht hi hz (some ⟨g, 0, none⟩) n cap xs (run_firstCells_some w.drew i.size n ⟨g, 0, none⟩ n cap xs hown.1 (by simpa using holds)) x m news hs (by omega) (by omega) (growslice_fits (by omega) hbytes)
      have hgr := grown cap (by omega) (Value.ownBlock (.slice (some ⟨g, 0, none⟩) n cap))
      exact ⟨_, _, hr, hgr.1, hgr.2, by simp, fun k hk => .inr (by cases hk; exact Nat.le_refl _)⟩

/-- An append of whatever source onto a row of the call's own. -/
theorem wpList_append_src {ops : Array Oper} {rest : List Oper} {o : Oper} {a : Act} {Q : Exit → Act → World → Prop} (hgd : o.guard = none) (s x : Operand) (t tx : TypeId)
    (ho : o.op = .call { callee := .builtin .append, args := #[s, x], argTypes := #[t, tx] })
    (base : Nat) (e : TypeId) (i : TypeInfo) (z : Value) (size bytes : Nat) (ht : P.underlying t = some (.slice e)) (hi : P.info? e = some i) (hz : i.zero = some z)
    (hsize : i.size = size) (hby : i.bytes = bytes) (hzs : z.cells.size = size) (hsz : 0 < size)
    (v : Value) (n : Nat) (xs : List Value) (hs : a.eval s = v) (hown : w.ownsRow base e size v n xs)
    (xv : Value) (m : Nat) (news : List Value) (hx : a.eval x = xv) (hsrc : Src P size tx xv m news w)
    (h63 : n + m ≤ maxLen) (hbytes : (n + m) * bytes ≤ 140737488355328) (hbase : base ≤ w.heap.size)
    (h : ∀ v' w', w'.ownsRow base e size v' (n + m) (xs ++ news) → w.grownBy w' v.ownBlock → (v' = .slice none 0 0 ↔ v = .slice none 0 0 ∧ m = 0) → (∀ k, v'.ownBlock = some k → v.ownBlock = some k ∨ w.heap.size ≤ k) → wpList P ops Q rest (a.put o.dst v') w') : wpList P ops Q (o :: rest) a w := by
  obtain ⟨v', w', hr, h2, h3, h4, h5⟩ := run_append_src (P := P) w base t tx o.type e i z size bytes ht hi hz hsize hby hzs hsz v n xs hown xv m news hsrc h63 hbytes hbase
  refine wpList_plain hgd fun K hK => ?_
  unfold Oper.wp execOp
  simp only [ho, resolve, invoke, builtin, Sem.run_bind, Sem.run_pure, Result.andThen_ok, List.map_toArray, List.map_cons, List.map_nil, hs, hx, hr]
  exact hK _ _ (h v' w' h2 h3 h4 h5)
end

/-- A byte as a cell. -/
def bc (b : Nat) : Value := .int .u8 (b : Int)
def bcs (l : List Nat) : List Value := l.map bc
@[simp] theorem bcs_length (l : List Nat) : (bcs l).length = l.length := by simp [bcs]
@[simp] theorem bcs_append (l m : List Nat) : bcs (l ++ m) = bcs l ++ bcs m := by simp [bcs]
theorem bcs_one (l : List Nat) : ∀ u ∈ bcs l, u.oneCell' = true := by
  intro u hu
  obtain ⟨b, _, rfl⟩ := List.mem_map.1 hu
  rfl
theorem bcs_at (l : List Nat) (i : Nat) (h : i < l.length) : (bcs l)[i]? = some (bc (l.getD i 0)) := by
  simp [bcs, List.getElem?_map, List.getD_eq_getElem?_getD, h]

/-- A slice that can be read: nil, or a row of cells, sz for each of its n elements. -/
structure Rv (w : World) (sz : Nat) (v : Value) (n : Nat) (vs : List Value) : Prop where
  len : vs.length = n * sz
  val : ∃ a cap, v = .slice a n cap ∧ n ≤ cap ∧ (0 < vs.length → ∃ sb so, a = some ⟨sb, so, none⟩ ∧ sb < w.heap.size ∧ ∀ i, i < vs.length → w.cell? ⟨sb, so + i, none⟩ = vs[i]?)
theorem Rv.nil (w : World) (sz : Nat) : Rv w sz (.slice none 0 0) 0 [] := ⟨by simp, none, 0, rfl, by simp, fun h => by simp at h⟩
theorem Rv.keep {w w' : World} {sz : Nat} {v : Value} {n : Nat} {vs : List Value} {S : List Nat} (h : Rv w sz v n vs) (k : Keep S w w') (hS : ∀ b, v.ownBlock = some b → b < w.heap.size → b ∉ S) : Rv w' sz v n vs := by
  obtain ⟨hl, a, cap, rfl, hc, h⟩ := h
  refine ⟨hl, a, cap, rfl, hc, fun hl => ?_⟩
  obtain ⟨sb, so, rfl, hs, hat⟩ := h hl
  exact ⟨sb, so, rfl, Nat.lt_of_lt_of_le hs k.size, fun i hi => by rw [k.cell hs (hS sb rfl hs)]; exact hat i hi⟩
theorem Rv.alloc {w : World} {sz : Nat} {v : Value} {n : Nat} {vs : List Value} (h : Rv w sz v n vs) (o : Obj) : Rv (w.alloc o) sz v n vs := h.keep ((Keep.refl [] _).alloc o) (by simp)
/-- What an append of such a slice brings. -/
theorem Rv.src {P : Program} {w : World} {sz : Nat} {v : Value} {n : Nat} {vs : List Value} {t e : TypeId} (h : Rv w sz v n vs) (ht : P.underlying t = some (.slice e)) (h1 : ∀ u ∈ vs, u.oneCell' = true) : Src P sz t v n vs w := by
  obtain ⟨hl, a, cap, rfl, hc, h⟩ := h
  by_cases hp : 0 < vs.length
  · obtain ⟨sb, so, rfl, hs, hat⟩ := h hp
    refine Src.ofSlice w ht ⟨sb, so, none⟩ n cap vs hl ?_ h1
    intro j u hu
    have hj : j < vs.length := (List.getElem?_eq_some_iff.1 hu).1
    rw [← hu, ← hat j hj]
    by_cases h0 : j = 0
    · subst h0; simp [Addr.add]
    · simp [Addr.add, h0]
  · have : vs = [] := List.eq_nil_of_length_eq_zero (by omega)
    subst this
    cases a with
    | none =>
      rcases Nat.eq_zero_or_pos n with rfl | hn
      · exact Src.ofNil w ht cap
      · have hz : sz = 0 := by
          rcases Nat.mul_eq_zero.1 (show n * sz = 0 from hl.symm) with h0 | h0
          · omega
          · exact h0
        subst hz
        exact ⟨.inl ⟨e, ht⟩, fun _ => rfl, by simp [Builtin.firstCells, loadCells, loadCellsFrom], by simp [Builtin.firstCells, loadCells, loadCellsFrom], hl, fun _ h => by cases h⟩
    | some a => exact Src.ofSlice w ht a n cap [] hl (by simp) (by simp)
/-- The cell of an element of one cell. -/
theorem Rv.at1 {w : World} {v : Value} {n : Nat} {vs : List Value} (h : Rv w 1 v n vs) (hn : 0 < n) : ∃ sb so cap, v = .slice (some ⟨sb, so, none⟩) n cap ∧ n ≤ cap ∧ sb < w.heap.size ∧ ∀ i, i < n → w.cell? ⟨sb, so + i, none⟩ = vs[i]? := by
  obtain ⟨hl, a, cap, rfl, hc, h⟩ := h
  obtain ⟨sb, so, rfl, hs, hat⟩ := h (by omega)
  exact ⟨sb, so, cap, rfl, hc, hs, fun i hi => hat i (by omega)⟩
theorem ownsRow_rv {w : World} {base : Nat} {e : TypeId} {sz : Nat} {v : Value} {n : Nat} {vs : List Value} (h : w.ownsRow base e sz v n vs) : Rv w sz v n vs := by
  rcases h.2 with ⟨rfl, hn⟩ | ⟨g, cap, cur, rfl, hb, hg, hle, _⟩
  · subst hn
    have : vs = [] := List.eq_nil_of_length_eq_zero (by simpa using h.1)
    subst this; exact Rv.nil w sz
  · refine ⟨h.1, _, cap, rfl, hle, fun hl => ⟨g, 0, rfl, ?_, fun i hi => ?_⟩⟩
    · rcases Nat.lt_or_ge g w.heap.size with h' | h'
      · exact h'
      · rw [Array.getElem?_eq_none h'] at hg; cases hg
    · have := World.ownsRow.cells h (g := g) rfl i _ (List.getElem?_eq_getElem hi)
      rw [List.getElem?_eq_getElem hi, ← this]
      by_cases h0 : i = 0
      · subst h0; simp [Addr.add]
      · simp [Addr.add, h0]
theorem ownsRow_slice {w : World} {base : Nat} {e : TypeId} {sz : Nat} {v : Value} {n : Nat} {xs : List Value} (h : w.ownsRow base e sz v n xs) : ∃ a c, v = .slice a n c := by
  rcases h.2 with ⟨rfl, rfl⟩ | ⟨g, c, cur, rfl, _⟩
  · exact ⟨none, 0, rfl⟩
  · exact ⟨_, c, rfl⟩
/-- A new block, as a slice. -/
theorem Rv.new (w : World) (vs : List Value) (T : TypeId) (sz n cap : Nat) (hl : vs.length = n * sz) (hc : n ≤ cap) (b : Nat) (hb : b = w.heap.size) : Rv (w.alloc (.cells vs.toArray T)) sz (.slice (some ⟨b, 0, none⟩) n cap) n vs := by
  subst hb
  refine ⟨hl, _, cap, rfl, hc, fun _ => ⟨w.heap.size, 0, rfl, by simp, fun i hi => ?_⟩⟩
  rw [(Blk.new w vs T).cell, Nat.zero_add]

/-- Bytes that can be read. -/
abbrev Rd (w : World) (v : Value) (l : List Nat) : Prop := Rv w 1 v l.length (bcs l)
theorem Rd.keep0 {w w' : World} {v : Value} {l : List Nat} {S : List Nat} (h : Rd w v l) (k : Keep S w w') (hS : ∀ b, v.ownBlock = some b → 0 < l.length → b ∉ S) : Rd w' v l := by
  obtain ⟨hl, a, cap, rfl, hc, h⟩ := h
  refine ⟨hl, a, cap, rfl, hc, fun hl => ?_⟩
  obtain ⟨sb, so, rfl, hs, hat⟩ := h hl
  exact ⟨sb, so, rfl, Nat.lt_of_lt_of_le hs k.size, fun i hi => by rw [k.cell hs (hS sb rfl (by simpa using hl))]; exact hat i hi⟩
theorem Rd.lo {w : World} {v : Value} {l : List Nat} (h : Rd w v l) : ∀ b, v.ownBlock = some b → 0 < l.length → b < w.heap.size := by
  obtain ⟨hl, a, cap, rfl, hc, h⟩ := h
  intro b hb hp
  obtain ⟨sb, so, rfl, hs, hat⟩ := h (by simpa using hp)
  cases hb
  exact hs
theorem Rd.src {P : Program} {w : World} {v : Value} {l : List Nat} {t e : TypeId} (h : Rd w v l) (ht : P.underlying t = some (.slice e)) : Src P 1 t v l.length (bcs l) w := Rv.src h ht (bcs_one l)

/-- A row of bytes of the call's own, from block 'base' on. -/
def Buf (w : World) (base : Nat) (E : TypeId) (v : Value) (l : List Nat) : Prop := w.ownsRow base E 1 v l.length (bcs l)
theorem Buf.nil (w : World) (base : Nat) (E : TypeId) : Buf w base E (.slice none 0 0) [] := World.ownsRow_nil w base E 1
theorem Buf.slice {w : World} {base : Nat} {E : TypeId} {v : Value} {l : List Nat} (h : Buf w base E v l) : ∃ a cap, v = .slice a l.length cap := by
  rcases h.2 with ⟨rfl, hn⟩ | ⟨g, cap, cur, rfl, _⟩
  · exact ⟨none, 0, by rw [hn]⟩
  · exact ⟨_, _, rfl⟩
theorem Buf.rd {w : World} {base : Nat} {E : TypeId} {v : Value} {l : List Nat} (h : Buf w base E v l) : Rd w v l := ownsRow_rv h
theorem Buf.keep {w w' : World} {base : Nat} {E : TypeId} {v : Value} {l : List Nat} {S : List Nat} (h : Buf w base E v l) (k : Keep S w w') (hS : ∀ b, v.ownBlock = some b → b ∉ S) : Buf w' base E v l := by
  refine ⟨h.1, ?_⟩
  rcases h.2 with ⟨rfl, hn⟩ | ⟨g, cap, cur, rfl, hb, hg, r⟩
  · exact .inl ⟨rfl, hn⟩
  · refine .inr ⟨g, cap, cur, rfl, hb, ?_, r⟩
    have hlt : g < w.heap.size := by
      rcases Nat.lt_or_ge g w.heap.size with h' | h'
      · exact h'
      · rw [Array.getElem?_eq_none h'] at hg; cases hg
    rw [k.block g hlt (hS g rfl)]; exact hg
theorem Buf.alloc {w : World} {base : Nat} {E : TypeId} {v : Value} {l : List Nat} (h : Buf w base E v l) (o : Obj) : Buf (w.alloc o) base E v l :=
  h.keep ((Keep.refl [] _).alloc _) (by simp)
/-- One byte, laid in a block of its own ahead of an append. -/
theorem src_new1 {P : Program} {t e : TypeId} (ht : P.underlying t = some (.slice e)) (w : World) (X : Nat) (T : TypeId) :
    Src P 1 t (.slice (some ⟨w.heap.size, 0, none⟩) 1 1) 1 (bcs [X]) (w.alloc (.cells #[.int .u8 (X : Int)] T)) := by
  refine Src.ofSlice _ ht ⟨w.heap.size, 0, none⟩ 1 1 (bcs [X]) rfl ?_ (bcs_one _)
  intro j u hu
  match j, hu with
  | 0, hu => simp [bcs] at hu; subst hu; simp [Addr.add, bc]
  | j + 1, hu => simp [bcs] at hu
theorem Buf.mono {w : World} {base base' : Nat} {E : TypeId} {v : Value} {l : List Nat} (h : Buf w base E v l) (hb : base' ≤ base) : Buf w base' E v l := by
  refine ⟨h.1, ?_⟩
  rcases h.2 with ⟨rfl, hn⟩ | ⟨g, cap, cur, rfl, hg, r⟩
  · exact .inl ⟨rfl, hn⟩
  · exact .inr ⟨g, cap, cur, rfl, Nat.le_trans hb hg, r⟩
theorem Buf.lt {w : World} {base : Nat} {E : TypeId} {v : Value} {l : List Nat} (h : Buf w base E v l) : ∀ k, v.ownBlock = some k → base ≤ k ∧ k < w.heap.size := World.ownsRow.lt h
theorem Keep.grown {w w' : World} {row : Option Nat} (h : w.grownBy w' row) : Keep row.toList w w' :=
  ⟨h.os, h.tape, h.output, h.size, fun k hk hn => h.block k hk (fun e => hn (by simp [← e]))⟩

/-- What an append or a Put leaves: the row longer, in the same block or a new one; nothing else has turned. -/
structure Onto (w : World) (base : Nat) (E : TypeId) (v : Value) (l : List Nat) (v' : Value) (w' : World) : Prop where
  buf : Buf w' base E v' l
  keep : Keep v.ownBlock.toList w w'
  own : ∀ k, v'.ownBlock = some k → v.ownBlock = some k ∨ w.heap.size ≤ k
theorem Onto.refl {w : World} {base : Nat} {E : TypeId} {v : Value} {l : List Nat} (h : Buf w base E v l) : Onto w base E v l v w := ⟨h, Keep.refl _ _, fun _ h => .inl h⟩
theorem Onto.alloc {w w' : World} {base : Nat} {E : TypeId} {v v' : Value} {l : List Nat} (h : Onto w base E v l v' w') (o : Obj) : Onto w base E v l v' (w'.alloc o) := ⟨h.buf.alloc o, h.keep.alloc o, h.own⟩
theorem Onto.app {w w1 w2 : World} {base : Nat} {E : TypeId} {v v1 v2 : Value} {l m : List Nat} (h : Onto w base E v l v1 w1) (h1 : w2.ownsRow base E 1 v2 (l.length + m.length) (bcs l ++ bcs m)) (h2 : w1.grownBy w2 v1.ownBlock)
    (h3 : ∀ k, v2.ownBlock = some k → v1.ownBlock = some k ∨ w1.heap.size ≤ k) : Onto w base E v (l ++ m) v2 w2 := by
  refine ⟨by unfold Buf; rw [List.length_append, bcs_append]; exact h1, h.keep.then (Keep.grown h2) ?_, fun k hk => ?_⟩
  · intro x hx hlt
    have e : v1.ownBlock = some x := by simpa using hx
    rcases h.own x e with h' | h'
    · simp [h']
    · omega
  · rcases h3 k hk with h' | h'
    · exact h.own k h'
    · exact .inr (Nat.le_trans h.keep.size h')
theorem Onto.trans {w w1 w2 : World} {base : Nat} {E : TypeId} {v v1 v2 : Value} {l m : List Nat} (h : Onto w base E v l v1 w1) (k : Onto w1 base E v1 m v2 w2) : Onto w base E v m v2 w2 := by
  refine ⟨k.buf, h.keep.then k.keep ?_, fun x hx => ?_⟩
  · intro x hx hlt
    have e : v1.ownBlock = some x := by simpa using hx
    rcases h.own x e with h' | h'
    · simp [h']
    · omega
  · rcases k.own x hx with h' | h'
    · exact h.own x h'
    · exact .inr (Nat.le_trans h.keep.size h')

/-- A slice of integers that came in: nil, or a row. -/
def IsRow (k : IntKind) (w : World) (a : Option Addr) (len cap : Nat) (zs : List Int) : Prop :=
  (a = none ∧ len = 0 ∧ cap = 0 ∧ zs = []) ∨
  ∃ x, a = some x ∧ len ≤ cap ∧ cap ≤ maxLen ∧ zs.length = cap ∧ (∀ i, i < zs.length → w.cell? (x.add i) = some (.int k (zs.getD i 0))) ∧ ∀ n ∈ zs, (Lit.int k n).wf = true
/-- An address that leads to a cell, and those behind it. -/
theorem addr_cell {w : World} {a : Addr} (h : (w.cell? a).isSome = true) : ∃ sb so, a = ⟨sb, so, none⟩ ∧ sb < w.heap.size ∧ ∀ i, a.add i = ⟨sb, so + i, none⟩ := by
  obtain ⟨sb, so, sp⟩ := a
  have hsp : sp = none := by
    cases sp with
    | none => rfl
    | some q => unfold World.cell? at h; split at h <;> simp at h
  subst hsp
  have hb : sb < w.heap.size := by
    rcases Nat.lt_or_ge sb w.heap.size with h' | h'
    · exact h'
    · simp [World.cell?, Array.getElem?_eq_none h'] at h
  refine ⟨sb, so, rfl, hb, fun i => ?_⟩
  by_cases hi : i = 0
  · subst hi; simp [Addr.add]
  · simp [Addr.add, hi]
theorem IsRow.rv {k : IntKind} {w : World} {a : Option Addr} {len cap : Nat} {zs : List Int} (h : IsRow k w a len cap zs) :
    (zs.take len).length = len ∧ len ≤ 9223372036854775807 ∧ Rv w 1 (.slice a len cap) len ((zs.take len).map (Value.int k)) ∧ ∀ n ∈ zs.take len, (Lit.int k n).wf = true := by
  rcases h with ⟨rfl, rfl, rfl, rfl⟩ | ⟨x, rfl, hlc, hcm, hzl, hz, hwf⟩
  · exact ⟨rfl, by omega, Rv.nil w 1, by simp⟩
  · unfold maxLen at hcm
    have hl : (zs.take len).length = len := by rw [List.length_take]; omega
    refine ⟨hl, by omega, ⟨by simp [hl]; omega, some x, cap, rfl, hlc, fun hp => ?_⟩, fun n hn => hwf n (List.mem_of_mem_take hn)⟩
    rw [List.length_map, hl] at hp
    have h0 := hz 0 (by omega)
    have h00 : x.add 0 = x := by simp [Addr.add]
    obtain ⟨sb, so, rfl, hsb, hadd⟩ := addr_cell (w := w) (a := x) (by rw [← h00, h0]; rfl)
    refine ⟨sb, so, rfl, hsb, fun i hi => ?_⟩
    rw [List.length_map, hl] at hi
    have := hz i (by omega)
    rw [hadd] at this
    rw [this, List.getElem?_map, List.getElem?_take, if_pos hi, List.getElem?_eq_getElem (by omega)]
    simp [List.getD_eq_getElem?_getD, List.getElem?_eq_getElem (show i < zs.length by omega)]
/-- Bytes that came in. -/
theorem IsRow.rd {w : World} {a : Option Addr} {len cap : Nat} {zs : List Int} (h : IsRow .u8 w a len cap zs) : ∃ l : List Nat, l.length = len ∧ len ≤ 9223372036854775807 ∧ Rd w (.slice a len cap) l ∧ ∀ c ∈ l, c < 256 := by
  obtain ⟨h1, h2, h3, h4⟩ := h.rv
  have hb : ∀ n ∈ zs.take len, 0 ≤ n ∧ n < 256 := fun n hn => by
    have := h4 n hn
    simp [Lit.wf, IntKind.min, IntKind.max, IntKind.signed, IntKind.bits] at this
    omega
  refine ⟨(zs.take len).map Int.toNat, by simpa using h1, h2, ?_, ?_⟩
  · unfold Rd
    have e : bcs ((zs.take len).map Int.toNat) = (zs.take len).map (Value.int .u8) := by
      unfold bcs
      rw [List.map_map]
      apply List.map_congr_left
      intro n hn
      have := hb n hn
      simp [bc]; omega
    rw [e, List.length_map, h1]
    exact h3
  · intro c hc
    obtain ⟨n, hn, rfl⟩ := List.mem_map.1 hc
    have := hb n hn
    omega
theorem i64_wf {n : Int} (h : (Lit.int .i64 n).wf = true) : -9223372036854775808 ≤ n ∧ n ≤ 9223372036854775807 := by
  simp [Lit.wf, IntKind.min, IntKind.max, IntKind.signed, IntKind.bits] at h
  omega
end Go.Proofs.Ytonghelcfbjknaa
