/- Laws of this work's own on rows that a call owns, of whatever elements of one cell; blocks told apart by their types; an append in a region that draws its order. No condition. -/
import Derived.Test.YtonghelcfbjknaaInfo
import Derived.Deep.RegionHeld3
import Derived.Deep.DrawnRows
namespace Go.Proofs.Ytonghelcfbjknaa
open Go.ChangeShapes Go.WideShapes Go.ChangeAt Go.RowKit
set_option linter.unusedVariables false
set_option linter.unusedSimpArgs false

/-- Block b is one of cells of the type T. -/
def Ty (w : World) (b : Nat) (T : TypeId) : Prop := ∃ cs fr, w.heap[b]? = some (.cells cs T fr)
theorem Ty.ne {w : World} {b b' : Nat} {T T' : TypeId} (h : Ty w b T) (h' : Ty w b' T') (hn : T ≠ T') : b ≠ b' := by
  rintro rfl
  obtain ⟨c, f, h⟩ := h
  obtain ⟨c', f', h'⟩ := h'
  rw [h] at h'
  injection h' with h'
  injection h' with _ ht
  exact hn ht
theorem Blk.ty {w : World} {b : Nat} {cs : List Value} {T : TypeId} (h : Blk w b cs T) : Ty w b T := ⟨_, _, h⟩
theorem Ty.lt {w : World} {b : Nat} {T : TypeId} (h : Ty w b T) : b < w.heap.size := by
  obtain ⟨c, f, h⟩ := h
  rcases Nat.lt_or_ge b w.heap.size with h' | h'
  · exact h'
  · rw [Array.getElem?_eq_none h'] at h; cases h
theorem Ty.keep {w w' : World} {b : Nat} {T : TypeId} {S : List Nat} (h : Ty w b T) (k : Keep S w w') (hn : b ∉ S) : Ty w' b T := by
  have hl := h.lt
  obtain ⟨c, f, h⟩ := h
  exact ⟨c, f, by rw [k.block b hl hn]; exact h⟩

/-- v is a row of the call's own, from block 'base' on, of the cells vs. -/
def Own (w : World) (base : Nat) (E : TypeId) (v : Value) (vs : List Value) : Prop := w.ownsRow base E 1 v vs.length vs
theorem Own.nil (w : World) (base : Nat) (E : TypeId) : Own w base E (.slice none 0 0) [] := World.ownsRow_nil w base E 1
theorem Own.lt {w : World} {base : Nat} {E : TypeId} {v : Value} {vs : List Value} (h : Own w base E v vs) : ∀ k, v.ownBlock = some k → base ≤ k ∧ k < w.heap.size := World.ownsRow.lt h
theorem Own.ty {w : World} {base : Nat} {E : TypeId} {v : Value} {vs : List Value} (h : Own w base E v vs) : ∀ k, v.ownBlock = some k → Ty w k E := by
  intro k hk
  rcases h.2 with ⟨rfl, _⟩ | ⟨g, cap, cur, rfl, _, hg, _⟩
  · cases hk
  · cases hk; exact ⟨_, _, hg⟩
theorem Own.slice {w : World} {base : Nat} {E : TypeId} {v : Value} {vs : List Value} (h : Own w base E v vs) : ∃ a cap, v = .slice a vs.length cap := by
  rcases h.2 with ⟨rfl, hn⟩ | ⟨g, cap, cur, rfl, _⟩
  · exact ⟨none, 0, by rw [hn]⟩
  · exact ⟨_, _, rfl⟩
theorem Own.rv {w : World} {base : Nat} {E : TypeId} {v : Value} {vs : List Value} (h : Own w base E v vs) : Rv w 1 v vs.length vs := ownsRow_rv h
theorem Own.keep {w w' : World} {base : Nat} {E : TypeId} {v : Value} {vs : List Value} {S : List Nat} (h : Own w base E v vs) (k : Keep S w w') (hS : ∀ b, v.ownBlock = some b → b ∉ S) : Own w' base E v vs := by
  refine ⟨h.1, ?_⟩
  have hl := h.lt
  rcases h.2 with ⟨rfl, hn⟩ | ⟨g, cap, cur, rfl, hb, hg, r⟩
  · exact .inl ⟨rfl, hn⟩
  · exact .inr ⟨g, cap, cur, rfl, hb, by rw [k.block g (hl g rfl).2 (hS g rfl)]; exact hg, r⟩
theorem Own.alloc {w : World} {base : Nat} {E : TypeId} {v : Value} {vs : List Value} (h : Own w base E v vs) (o : Obj) : Own (w.alloc o) base E v vs := World.ownsRow.alloc h o
theorem Own.drew {w : World} {base : Nat} {E : TypeId} {v : Value} {vs : List Value} (h : Own w base E v vs) : Own w.drew base E v vs := h
theorem Own.mono {w : World} {base base' : Nat} {E : TypeId} {v : Value} {vs : List Value} (h : Own w base E v vs) (hb : base' ≤ base) : Own w base' E v vs := by
  refine ⟨h.1, ?_⟩
  rcases h.2 with ⟨rfl, hn⟩ | ⟨g, cap, cur, rfl, hg, r⟩
  · exact .inl ⟨rfl, hn⟩
  · exact .inr ⟨g, cap, cur, rfl, Nat.le_trans hb hg, r⟩
/-- A row that is not empty lies at the head of a block that is known whole. -/
theorem Own.blk {w : World} {base : Nat} {E : TypeId} {v : Value} {vs : List Value} (h : Own w base E v vs) (hp : 0 < vs.length) :
    ∃ g cap spare, v = .slice (some ⟨g, 0, none⟩) vs.length cap ∧ vs.length ≤ cap ∧ base ≤ g ∧ Blk w g (vs ++ spare) E := by
  rcases h.2 with ⟨rfl, hn⟩ | ⟨g, cap, cur, rfl, hb, hg, hc, hm, hs, ht⟩
  · omega
  · refine ⟨g, cap, cur.toList.drop vs.length, rfl, hc, hb, ?_⟩
    unfold Blk
    have : vs ++ cur.toList.drop vs.length = cur.toList := by
      have h2 := List.take_append_drop vs.length cur.toList
      rw [Nat.mul_one] at ht
      rw [ht] at h2; exact h2
    rw [this]; exact hg
theorem Own.app {w' : World} {base : Nat} {E : TypeId} {v' : Value} {vs ms : List Value} {m : Nat} (hm : ms.length = m) (h : w'.ownsRow base E 1 v' (vs.length + m) (vs ++ ms)) : Own w' base E v' (vs ++ ms) := by
  unfold Own; rw [List.length_append, hm]; exact h
/-- One cell, laid in a block of its own ahead of an append. -/
theorem src_cell {P : Program} {t e : TypeId} (ht : P.underlying t = some (.slice e)) (w : World) (u : Value) (h1 : u.oneCell' = true) (T : TypeId) (b : Nat) (hb : b = w.heap.size) :
    Src P 1 t (.slice (some ⟨b, 0, none⟩) 1 1) 1 [u] (w.alloc (.cells #[u] T)) := by
  subst hb
  refine Src.ofSlice _ ht ⟨w.heap.size, 0, none⟩ 1 1 [u] rfl ?_ (by simpa using h1)
  intro j x hx
  match j, hx with
  | 0, hx => simp at hx; subst hx; simp [Addr.add]
  | j + 1, hx => simp at hx

theorem src_at {P : Program} {t e : TypeId} (ht : P.underlying t = some (.slice e)) (w : World) (b : Nat) (u : Value) (hc : w.cell? ⟨b, 0, none⟩ = some u) (h1 : u.oneCell' = true) :
    Src P 1 t (.slice (some ⟨b, 0, none⟩) 1 1) 1 [u] w := by
  refine Src.ofSlice _ ht ⟨b, 0, none⟩ 1 1 [u] rfl ?_ (by simpa using h1)
  intro j x hx
  match j, hx with
  | 0, hx => simp at hx; subst hx; simpa [Addr.add] using hc
  | j + 1, hx => simp at hx

theorem step_append_src {P : Program} (w : World) {ops : Array Oper} {o : Oper} {a : Act} {K : Act → World → Prop} {Q : Exit → Act → World → Prop} {F : Prop} (hgd : o.guard = none) (s x : Operand) (t tx : TypeId)
    (ho : o.op = .call { callee := .builtin .append, args := #[s, x], argTypes := #[t, tx] })
    (base : Nat) (e : TypeId) (i : TypeInfo) (z : Value) (size bytes : Nat) (ht : P.underlying t = some (.slice e)) (hi : P.info? e = some i) (hz : i.zero = some z)
    (hsize : i.size = size) (hby : i.bytes = bytes) (hzs : z.cells.size = size) (hsz : 0 < size)
    (v : Value) (n : Nat) (xs : List Value) (hs : a.eval s = v) (hown : w.ownsRow base e size v n xs)
    (xv : Value) (m : Nat) (news : List Value) (hx : a.eval x = xv) (hsrc : Src P size tx xv m news w)
    (h63 : n + m ≤ maxLen) (hbytes : (n + m) * bytes ≤ 140737488355328) (hbase : base ≤ w.heap.size)
    (h : ∀ v' w', w'.ownsRow base e size v' (n + m) (xs ++ news) → w.grownBy w' v.ownBlock → (v' = .slice none 0 0 ↔ v = .slice none 0 0 ∧ m = 0) → (∀ k, v'.ownBlock = some k → v.ownBlock = some k ∨ w.heap.size ≤ k) → K (a.put o.dst v') w') :
    if Region.wanted o (yielded ops a.tmps) = true then Oper.wp P o a w K Q else F := by
  rw [if_pos (by simp [Region.wanted, hgd])]
  obtain ⟨v', w', hr, h2, h3, h4, h5⟩ := run_append_src (P := P) w base t tx o.type e i z size bytes ht hi hz hsize hby hzs hsz v n xs hown xv m news hsrc h63 hbytes hbase
  unfold Oper.wp execOp
  simp only [ho, resolve, invoke, builtin, Sem.run_bind, Sem.run_pure, Result.andThen_ok, List.map_toArray, List.map_cons, List.map_nil, hs, hx, hr]
  exact h v' w' h2 h3 h4 h5
/-- make of so many elements, as a run. -/
theorem run_make_n {P : Program} (t e : TypeId) (i : TypeInfo) (z : Value) (h1 : P.underlying t = some (.slice e)) (h2 : P.info? e = some i) (h3 : i.zero = some z) (h4 : i.size = 1) (h5 : z.cells = #[z])
    (C : Int) (n : Nat) (hC : C = (n : Int)) (b2 : i.bytes * n ≤ 281474976710656) (b3 : n ≤ 9223372036854775807) (w : World) :
    (Instr.makeSlice t (.int .i64 C) (.int .i64 C)).run P w = .ok (.slice (some ⟨w.heap.size, 0, none⟩) n n) (w.alloc (.cells (List.replicate n z).toArray e)) := by
  subst hC
  have hb2 : (i.bytes : Int) * (n : Int) ≤ 281474976710656 := by
    have h : ((i.bytes * n : Nat) : Int) ≤ 281474976710656 := by omega
    rw [Int.natCast_mul] at h
    exact h
  have hr := run_make (P := P) w t e i z h1 h2 h3 .i64 .i64 (n : Int) (n : Int) (by omega) (by omega) hb2 (by omega)
  rw [h4, h5, Int.toNat_natCast] at hr
  have e2 : madeCells #[z] (n * 1) = (List.replicate n z).toArray := by
    apply Array.ext'
    simp only [madeCells, Array.toList_map, Array.toList_range]
    apply List.ext_getElem
    · simp
    · intro j h1 h2; simp at h1; simp [Nat.mod_one]
  rw [e2] at hr
  exact hr
end Go.Proofs.Ytonghelcfbjknaa
