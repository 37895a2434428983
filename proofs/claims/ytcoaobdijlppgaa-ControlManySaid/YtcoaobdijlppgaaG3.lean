/- Open, Short, Own, Bump, Item3, ItemEnc, ItemIn, Crc -/
import Derived.Test.YtcoaobdijlppgaaG1
import Derived.Test.YtcoaobdijlppgaaG2
import Derived.ChangeArms
import Derived.Deep.Slices
import Derived.Deep.RegionHeld3
import Derived.Deep.DrawnRows
import Derived.Laws.OwnMore
import Derived.Laws.Closers25b
import Derived.Deep.DeepCutAuto
import Derived.Deep.CutBlock
import Derived.Laws.BitsAllLaws
import Derived.Laws.BitsLemmas
/- Data that came in, opened: slices of whatever elements, structs of a few cells. No condition. -/
namespace Go.Proofs.Ytcoaobdijlppgaa
open Go.ChangeShapes Go.WideShapes Go.ChangeAt Go.RowKit
set_option linter.unusedVariables false
set_option linter.unusedSimpArgs false
set_option maxRecDepth 100000

section
variable {H : Type} {enc : TypeId × Value → H} {P : Program} {w : World}

/-- Whatever reads as one of type t is the cells g y of some y with R y. -/
def Opens (enc : TypeId × Value → H) (P : Program) (w : World) (t : TypeId) {α : Type} (g : α → List Value) (R : α → Prop) : Prop :=
  ∀ (fuel : Nat) (cs : List Value) (x : DataW H × List MemPlace), DataW.trod enc P w 0 (fun _ => true) true fuel t cs = some x → ∃ y : α, cs = g y ∧ R y
theorem opens_int {t : TypeId} {k : IntKind} (ht : P.underlying t = some (.int k)) : Opens enc P w t (fun n : Int => [.int k n]) (fun n => (Lit.int k n).wf = true) := fun _ _ _ h => by
  obtain ⟨n, rfl, _, hw⟩ := DataW.trod_int ht h
  exact ⟨n, rfl, hw⟩
theorem opens_bool {t : TypeId} (ht : P.underlying t = some .bool) : Opens enc P w t (fun b : Bool => [.bool b]) (fun _ => True) := fun _ _ _ h => by
  obtain ⟨b, rfl, _⟩ := DataW.trod_bool ht h
  exact ⟨b, rfl, trivial⟩
theorem opens_string {t : TypeId} (ht : P.underlying t = some .string) : Opens enc P w t (fun s : ByteArray => [.string s]) (fun s => s.size ≤ 9223372036854775807) := fun _ _ _ h => by
  obtain ⟨s, rfl, _, hs⟩ := DataW.trod_string ht h
  exact ⟨s, rfl, by unfold maxLen at hs; omega⟩

theorem flatten_at {α : Type} (g : α → List Value) (k : Nat) (hg : ∀ y, (g y).length = k) : ∀ (l : List α) (i j : Nat), j < k → (l.map g).flatten[i * k + j]? = (l[i]?).bind fun y => (g y)[j]? := by
  intro l
  induction l with
  | nil => intro i j _; simp
  | cons y l ih =>
    intro i j hj
    rw [List.map_cons, List.flatten_cons]
    cases i with
    | zero => rw [Nat.zero_mul, Nat.zero_add, List.getElem?_append_left (by rw [hg]; exact hj)]; rfl
    | succ i =>
      rw [List.getElem?_append_right (by rw [hg, Nat.succ_mul]; omega), hg, show (i + 1) * k + j - k = i * k + j by rw [Nat.succ_mul]; omega, ih i j hj]
      rfl
theorem flatten_len {α : Type} (g : α → List Value) (k : Nat) (hg : ∀ y, (g y).length = k) (l : List α) : (l.map g).flatten.length = l.length * k := by
  induction l with
  | nil => simp
  | cons y l ih => rw [List.map_cons, List.flatten_cons, List.length_append, hg, ih, List.length_cons, Nat.succ_mul]; omega

/-- A slice. -/
theorem opens_slice {t e : TypeId} {α : Type} {g : α → List Value} {R : α → Prop} {k : Nat} (ht : P.underlying t = some (.slice e)) (hc : P.cellsOf e = k) (hk : 0 < k) (hg : ∀ y, (g y).length = k) (he : Opens enc P w e g R) :
    Opens enc P w t (fun p : Value × List α => [p.1]) (fun p => Rv w k p.1 p.2.length (p.2.map g).flatten ∧ p.2.length ≤ 9223372036854775807 ∧ ∀ y ∈ p.2, R y) := fun fuel cs x h => by
  rcases Deep.open_slice ht h with ⟨rfl, _⟩ | ⟨a, len, cap, m, n, D, Pl, rfl, _, hl, hm, hmm, rfl, hx⟩
  · exact ⟨(.slice none 0 0, []), rfl, Rv.nil w k, by simp, by simp⟩
  · simp only [if_true] at hmm
    subst hmm
    rw [hc] at hx
    have hex : ∀ i, i < len → ∃ y : α, R y ∧ ∀ j, j < k → w.cell? (a.add (i * k + j)) = (g y)[j]? := by
      intro i hi
      obtain ⟨cs', h1, h2⟩ := hx i (by omega)
      obtain ⟨y, rfl, hy⟩ := he _ _ _ h2
      obtain ⟨_, hlen, hat⟩ := World.cells?_some h1
      refine ⟨y, hy, fun j hj => ?_⟩
      have := hat j hj
      rw [Deep.add_add] at this
      rw [this]
    obtain ⟨l, hll, hlR, hlc⟩ : ∃ l : List α, l.length = len ∧ (∀ y ∈ l, R y) ∧ ∀ i y, l[i]? = some y → ∀ j, j < k → w.cell? (a.add (i * k + j)) = (g y)[j]? := by
      clear hx hm hl h
      induction len with
      | zero => exact ⟨[], rfl, by simp, by simp⟩
      | succ len ih =>
        obtain ⟨l, h1, h2, h3⟩ := ih (fun i hi => hex i (by omega))
        obtain ⟨y, hy, hc'⟩ := hex len (by omega)
        refine ⟨l ++ [y], by simp [h1], ?_, ?_⟩
        · intro z hz
          rcases List.mem_append.1 hz with hz | hz
          · exact h2 z hz
          · rw [List.mem_singleton.1 hz]; exact hy
        · intro i z hz
          by_cases hi : i < l.length
          · rw [List.getElem?_append_left hi] at hz; exact h3 i z hz
          · rw [List.getElem?_append_right (by omega)] at hz
            have : i = l.length := by
              rcases Nat.eq_zero_or_pos (i - l.length) with h0 | h0
              · omega
              · rw [List.getElem?_eq_none (by simp; omega)] at hz; cases hz
            subst this
            rw [Nat.sub_self] at hz
            simp at hz
            subst hz
            rw [h1]; exact hc'
    unfold maxLen at hm
    refine ⟨(.slice (some a) len m, l), rfl, ⟨flatten_len g k hg l, some a, m, by rw [hll], by rw [hll]; exact hl, fun hp => ?_⟩, by show l.length ≤ _; omega, hlR⟩
    rw [flatten_len g k hg l] at hp
    have hl0 : 0 < l.length := by
      rcases Nat.eq_zero_or_pos l.length with h0 | h0
      · rw [h0] at hp; omega
      · exact h0
    have h00 : a.add 0 = a := by simp [Addr.add]
    have c0 := hlc 0 l[0] (List.getElem?_eq_getElem hl0) 0 hk
    rw [Nat.zero_mul, Nat.zero_add, h00] at c0
    obtain ⟨sb0, so, rfl, hsb, hadd⟩ := addr_cell (w := w) (a := a) (by rw [c0, List.getElem?_eq_getElem (by rw [hg]; exact hk)]; rfl)
    refine ⟨sb0, so, rfl, hsb, fun i hi => ?_⟩
    rw [flatten_len g k hg l] at hi
    have hdm := Nat.div_add_mod i k
    have hmod := Nat.mod_lt i hk
    have hdiv : i / k < l.length := Nat.div_lt_of_lt_mul (by rw [Nat.mul_comm]; exact hi)
    have e : i = i / k * k + i % k := by rw [Nat.mul_comm]; omega
    have := hlc (i / k) l[i / k] (List.getElem?_eq_getElem hdiv) (i % k) hmod
    rw [hadd, ← e] at this
    rw [this]
    conv => rhs; rw [e]
    rw [flatten_at g k hg l _ _ hmod, List.getElem?_eq_getElem hdiv]
    rfl
theorem flatten_one {α : Type} (f : α → Value) (l : List α) : (l.map fun y => [f y]).flatten = l.map f := by
  induction l with
  | nil => rfl
  | cons y l ih => simp [ih]
/-- A slice of elements of one cell. -/
theorem opens_slice1 {t e : TypeId} {α : Type} {f : α → Value} {R : α → Prop} (ht : P.underlying t = some (.slice e)) (hc : P.cellsOf e = 1) (he : Opens enc P w e (fun y => [f y]) R) :
    Opens enc P w t (fun p : Value × List α => [p.1]) (fun p => Rv w 1 p.1 p.2.length (p.2.map f) ∧ p.2.length ≤ 9223372036854775807 ∧ ∀ y ∈ p.2, R y) := fun fuel cs x h => by
  obtain ⟨p, h1, h2, h3, h4⟩ := opens_slice ht hc (by omega) (fun _ => rfl) he fuel cs x h
  exact ⟨p, h1, by rw [flatten_one] at h2; exact h2, h3, h4⟩
/-- Bytes. -/
theorem opens_bytes {t e : TypeId} (ht : P.underlying t = some (.slice e)) (hu : P.underlying e = some (.int .u8)) (hc : P.cellsOf e = 1) :
    Opens enc P w t (fun p : Value × List Nat => [p.1]) (fun p => Rd w p.1 p.2 ∧ p.2.length ≤ 9223372036854775807 ∧ ∀ c ∈ p.2, c < 256) := fun fuel cs x h => by
  obtain ⟨⟨v, l⟩, h1, h2, h3, h4⟩ := opens_slice1 ht hc (opens_int hu) fuel cs x h
  have hb : ∀ n ∈ l, 0 ≤ n ∧ n < 256 := fun n hn => by
    have := h4 n hn
    simp [Lit.wf, IntKind.min, IntKind.max, IntKind.signed, IntKind.bits] at this
    omega
  refine ⟨(v, l.map Int.toNat), h1, ?_, by simpa using h3, ?_⟩
  · have e : bcs (l.map Int.toNat) = l.map (Value.int .u8) := by
      unfold bcs
      rw [List.map_map]
      apply List.map_congr_left
      intro n hn
      have := hb n hn
      simp [bc]; omega
    show Rv w 1 v (l.map Int.toNat).length (bcs (l.map Int.toNat))
    rw [e, List.length_map]; exact h2
  · intro c hc
    obtain ⟨n, hn, rfl⟩ := List.mem_map.1 hc
    have := hb n hn
    omega
theorem opens_bools {t e : TypeId} (ht : P.underlying t = some (.slice e)) (hu : P.underlying e = some .bool) (hc : P.cellsOf e = 1) :
    Opens enc P w t (fun p : Value × List Bool => [p.1]) (fun p => Rv w 1 p.1 p.2.length (bools p.2) ∧ p.2.length ≤ 9223372036854775807) := fun fuel cs x h => by
  obtain ⟨p, h1, h2, h3, _⟩ := opens_slice1 ht hc (opens_bool hu) fuel cs x h
  exact ⟨p, h1, h2, h3⟩
theorem opens_strings {t e : TypeId} (ht : P.underlying t = some (.slice e)) (hu : P.underlying e = some .string) (hc : P.cellsOf e = 1) :
    Opens enc P w t (fun p : Value × List ByteArray => [p.1]) (fun p => Rv w 1 p.1 p.2.length (strs p.2) ∧ p.2.length ≤ 9223372036854775807 ∧ ∀ s ∈ p.2, s.size ≤ 9223372036854775807) := fun fuel cs x h => by
  obtain ⟨p, h1, h2, h3, h4⟩ := opens_slice1 ht hc (opens_string hu) fuel cs x h
  exact ⟨p, h1, h2, h3, h4⟩

/-- A struct of four fields of one cell each. -/
theorem opens_struct4 {t : TypeId} {f0 f1 f2 f3 : Field} {α β γ δ : Type} {g0 : α → Value} {g1 : β → Value} {g2 : γ → Value} {g3 : δ → Value} {R0 : α → Prop} {R1 : β → Prop} {R2 : γ → Prop} {R3 : δ → Prop}
    (ht : P.underlying t = some (.struct #[f0, f1, f2, f3])) (hc : P.cellsOf t = 4) (o : f0.offset = 0 ∧ f1.offset = 1 ∧ f2.offset = 2 ∧ f3.offset = 3)
    (c : P.cellsOf f0.type = 1 ∧ P.cellsOf f1.type = 1 ∧ P.cellsOf f2.type = 1 ∧ P.cellsOf f3.type = 1)
    (h0 : Opens enc P w f0.type (fun y => [g0 y]) R0) (h1 : Opens enc P w f1.type (fun y => [g1 y]) R1) (h2 : Opens enc P w f2.type (fun y => [g2 y]) R2) (h3 : Opens enc P w f3.type (fun y => [g3 y]) R3) :
    Opens enc P w t (fun y : α × β × γ × δ => [g0 y.1, g1 y.2.1, g2 y.2.2.1, g3 y.2.2.2]) (fun y => R0 y.1 ∧ R1 y.2.1 ∧ R2 y.2.2.1 ∧ R3 y.2.2.2) := fun fuel cs x h => by
  obtain ⟨xs, n, _, _, hl, hxl, hf⟩ := DataW.trod_struct ht h
  rw [hc] at hl
  have e0 := hf 0 f0 rfl
  have e1 := hf 1 f1 rfl
  have e2 := hf 2 f2 rfl
  have e3 := hf 3 f3 rfl
  rw [o.1, c.1, List.getElem?_eq_getElem (by rw [hxl]; simp)] at e0
  rw [o.2.1, c.2.1, List.getElem?_eq_getElem (by rw [hxl]; simp)] at e1
  rw [o.2.2.1, c.2.2.1, List.getElem?_eq_getElem (by rw [hxl]; simp)] at e2
  rw [o.2.2.2, c.2.2.2, List.getElem?_eq_getElem (by rw [hxl]; simp)] at e3
  obtain ⟨y0, q0, r0⟩ := h0 _ _ _ e0
  obtain ⟨y1, q1, r1⟩ := h1 _ _ _ e1
  obtain ⟨y2, q2, r2⟩ := h2 _ _ _ e2
  obtain ⟨y3, q3, r3⟩ := h3 _ _ _ e3
  match cs, hl with
  | [a, b, c', d], _ =>
    simp at q0 q1 q2 q3
    subst q0
    subst q1
    subst q2
    subst q3
    exact ⟨(y0, y1, y2, y3), rfl, r0, r1, r2, r3⟩
theorem opens_val {t : TypeId} {α : Type} {f : α → Value} {R : α → Prop} {v : Value} {d : DataW H} {p : List MemPlace} (ho : Opens enc P w t (fun y => [f y]) R) (hv : ∀ y, v.cells.toList = [f y] → v = f y)
    (h : DataW.Trod enc P w 0 (fun _ => true) true t v d p) : ∃ y, v = f y ∧ R y := by
  obtain ⟨fuel, hf⟩ := h
  obtain ⟨y, h1, h2⟩ := ho _ _ _ hf
  exact ⟨y, hv y h1, h2⟩
end
end Go.Proofs.Ytcoaobdijlppgaa
/- The contract of the laws' Short. -/
namespace Go.Proofs.Ytcoaobdijlppgaa
open Go.ChangeShapes Go.WideShapes Go.ChangeAt Go.RowKit
set_option linter.unusedVariables false
set_option linter.unusedSimpArgs false
set_option maxRecDepth 100000

end Go.Proofs.Ytcoaobdijlppgaa
/- Laws of this work's own on rows that a call owns, of whatever elements of one cell; blocks told apart by their types; an append in a region that draws its order. No condition. -/
namespace Go.Proofs.Ytcoaobdijlppgaa
open Go.ChangeShapes Go.WideShapes Go.ChangeAt Go.RowKit
set_option linter.unusedVariables false
set_option linter.unusedSimpArgs false
set_option maxRecDepth 100000

/-- Block b is one of cells of the type T. -/
def Ty (w : World) (b : Nat) (T : TypeId) : Prop := ∃ cs fr, w.heap[b]? = some (.cells cs T fr)
theorem Ty.ne {w : World} {b b' : Nat} {T T' : TypeId} (h : Ty w b T) (h' : Ty w b' T') (hn : T ≠ T') : b ≠ b' := by
  rintro rfl
  obtain ⟨c, f, h⟩ := h
  obtain ⟨c', f', h'⟩ := h'
  rw [h] at h'
  injection h' with h'
  injection h' with _ ht
  exact hn ht
theorem Blk.ty {w : World} {b : Nat} {cs : List Value} {T : TypeId} (h : Blk w b cs T) : Ty w b T := ⟨_, _, h⟩
theorem Ty.lt {w : World} {b : Nat} {T : TypeId} (h : Ty w b T) : b < w.heap.size := by
  obtain ⟨c, f, h⟩ := h
  rcases Nat.lt_or_ge b w.heap.size with h' | h'
  · exact h'
  · rw [Array.getElem?_eq_none h'] at h; cases h
theorem Ty.keep {w w' : World} {b : Nat} {T : TypeId} {S : List Nat} (h : Ty w b T) (k : Keep S w w') (hn : b ∉ S) : Ty w' b T := by
  have hl := h.lt
  obtain ⟨c, f, h⟩ := h
  exact ⟨c, f, by rw [k.block b hl hn]; exact h⟩

/-- v is a row of the call's own, from block 'base' on, of the cells vs. -/
def Own (w : World) (base : Nat) (E : TypeId) (v : Value) (vs : List Value) : Prop := w.ownsRow base E 1 v vs.length vs
theorem Own.nil (w : World) (base : Nat) (E : TypeId) : Own w base E (.slice none 0 0) [] := World.ownsRow_nil w base E 1
theorem Own.lt {w : World} {base : Nat} {E : TypeId} {v : Value} {vs : List Value} (h : Own w base E v vs) : ∀ k, v.ownBlock = some k → base ≤ k ∧ k < w.heap.size := World.ownsRow.lt h
theorem Own.ty {w : World} {base : Nat} {E : TypeId} {v : Value} {vs : List Value} (h : Own w base E v vs) : ∀ k, v.ownBlock = some k → Ty w k E := by
  intro k hk
  rcases h.2 with ⟨rfl, _⟩ | ⟨g, cap, cur, rfl, _, hg, _⟩
  · cases hk
  · cases hk; exact ⟨_, _, hg⟩
theorem Own.slice {w : World} {base : Nat} {E : TypeId} {v : Value} {vs : List Value} (h : Own w base E v vs) : ∃ a cap, v = .slice a vs.length cap := by
  rcases h.2 with ⟨rfl, hn⟩ | ⟨g, cap, cur, rfl, _⟩
  · exact ⟨none, 0, by rw [hn]⟩
  · exact ⟨_, _, rfl⟩
theorem Own.rv {w : World} {base : Nat} {E : TypeId} {v : Value} {vs : List Value} (h : Own w base E v vs) : Rv w 1 v vs.length vs := ownsRow_rv h
theorem Own.keep {w w' : World} {base : Nat} {E : TypeId} {v : Value} {vs : List Value} {S : List Nat} (h : Own w base E v vs) (k : Keep S w w') (hS : ∀ b, v.ownBlock = some b → b ∉ S) : Own w' base E v vs := by
  refine ⟨h.1, ?_⟩
  have hl := h.lt
  rcases h.2 with ⟨rfl, hn⟩ | ⟨g, cap, cur, rfl, hb, hg, r⟩
  · exact .inl ⟨rfl, hn⟩
  · exact .inr ⟨g, cap, cur, rfl, hb, by rw [k.block g (hl g rfl).2 (hS g rfl)]; exact hg, r⟩
theorem Own.alloc {w : World} {base : Nat} {E : TypeId} {v : Value} {vs : List Value} (h : Own w base E v vs) (o : Obj) : Own (w.alloc o) base E v vs := World.ownsRow.alloc h o
theorem Own.drew {w : World} {base : Nat} {E : TypeId} {v : Value} {vs : List Value} (h : Own w base E v vs) : Own w.drew base E v vs := h
theorem Own.mono {w : World} {base base' : Nat} {E : TypeId} {v : Value} {vs : List Value} (h : Own w base E v vs) (hb : base' ≤ base) : Own w base' E v vs := by
  refine ⟨h.1, ?_⟩
  rcases h.2 with ⟨rfl, hn⟩ | ⟨g, cap, cur, rfl, hg, r⟩
  · exact .inl ⟨rfl, hn⟩
  · exact .inr ⟨g, cap, cur, rfl, Nat.le_trans hb hg, r⟩
/-- A row that is not empty lies at the head of a block that is known whole. -/
theorem Own.blk {w : World} {base : Nat} {E : TypeId} {v : Value} {vs : List Value} (h : Own w base E v vs) (hp : 0 < vs.length) :
    ∃ g cap spare, v = .slice (some ⟨g, 0, none⟩) vs.length cap ∧ vs.length ≤ cap ∧ base ≤ g ∧ Blk w g (vs ++ spare) E := by
  rcases h.2 with ⟨rfl, hn⟩ | ⟨g, cap, cur, rfl, hb, hg, hc, hm, hs, ht⟩
  · omega
  · refine ⟨g, cap, cur.toList.drop vs.length, rfl, hc, hb, ?_⟩
    unfold Blk
    have : vs ++ cur.toList.drop vs.length = cur.toList := by
      have h2 := List.take_append_drop vs.length cur.toList
      rw [Nat.mul_one] at ht
      rw [ht] at h2; exact h2
    rw [this]; exact hg
theorem Own.app {w' : World} {base : Nat} {E : TypeId} {v' : Value} {vs ms : List Value} {m : Nat} (hm : ms.length = m) (h : w'.ownsRow base E 1 v' (vs.length + m) (vs ++ ms)) : Own w' base E v' (vs ++ ms) := by
  unfold Own; rw [List.length_append, hm]; exact h
/-- One cell, laid in a block of its own ahead of an append. -/
theorem src_cell {P : Program} {t e : TypeId} (ht : P.underlying t = some (.slice e)) (w : World) (u : Value) (h1 : u.oneCell' = true) (T : TypeId) (b : Nat) (hb : b = w.heap.size) :
    Src P 1 t (.slice (some ⟨b, 0, none⟩) 1 1) 1 [u] (w.alloc (.cells #[u] T)) := by
  subst hb
  refine Src.ofSlice _ ht ⟨w.heap.size, 0, none⟩ 1 1 [u] rfl ?_ (by simpa using h1)
  intro j x hx
  match j, hx with
  | 0, hx => simp at hx; subst hx; simp [Addr.add]
  | j + 1, hx => simp at hx

theorem src_at {P : Program} {t e : TypeId} (ht : P.underlying t = some (.slice e)) (w : World) (b : Nat) (u : Value) (hc : w.cell? ⟨b, 0, none⟩ = some u) (h1 : u.oneCell' = true) :
    Src P 1 t (.slice (some ⟨b, 0, none⟩) 1 1) 1 [u] w := by
  refine Src.ofSlice _ ht ⟨b, 0, none⟩ 1 1 [u] rfl ?_ (by simpa using h1)
  intro j x hx
  match j, hx with
  | 0, hx => simp at hx; subst hx; simpa [Addr.add] using hc
  | j + 1, hx => simp at hx

theorem step_append_src {P : Program} (w : World) {ops : Array Oper} {o : Oper} {a : Act} {K : Act → World → Prop} {Q : Exit → Act → World → Prop} {F : Prop} (hgd : o.guard = none) (s x : Operand) (t tx : TypeId)
    (ho : o.op = .call { callee := .builtin .append, args := #[s, x], argTypes := #[t, tx] })
    (base : Nat) (e : TypeId) (i : TypeInfo) (z : Value) (size bytes : Nat) (ht : P.underlying t = some (.slice e)) (hi : P.info? e = some i) (hz : i.zero = some z)
    (hsize : i.size = size) (hby : i.bytes = bytes) (hzs : z.cells.size = size) (hsz : 0 < size)
    (v : Value) (n : Nat) (xs : List Value) (hs : a.eval s = v) (hown : w.ownsRow base e size v n xs)
    (xv : Value) (m : Nat) (news : List Value) (hx : a.eval x = xv) (hsrc : Src P size tx xv m news w)
    (h63 : n + m ≤ maxLen) (hbytes : (n + m) * bytes ≤ 140737488355328) (hbase : base ≤ w.heap.size)
    (h : ∀ v' w', w'.ownsRow base e size v' (n + m) (xs ++ news) → w.grownBy w' v.ownBlock → (v' = .slice none 0 0 ↔ v = .slice none 0 0 ∧ m = 0) → (∀ k, v'.ownBlock = some k → v.ownBlock = some k ∨ w.heap.size ≤ k) → K (a.put o.dst v') w') :
    if Region.wanted o (yielded ops a.tmps) = true then Oper.wp P o a w K Q else F := by
  rw [if_pos (by simp [Region.wanted, hgd])]
  obtain ⟨v', w', hr, h2, h3, h4, h5⟩ := run_append_src (P := P) w base t tx o.type e i z size bytes ht hi hz hsize hby hzs hsz v n xs hown xv m news hsrc h63 hbytes hbase
  unfold Oper.wp execOp
  simp only [ho, resolve, invoke, builtin, Sem.run_bind, Sem.run_pure, Result.andThen_ok, List.map_toArray, List.map_cons, List.map_nil, hs, hx, hr]
  exact h v' w' h2 h3 h4 h5
/-- make of so many elements, as a run. -/
theorem run_make_n {P : Program} (t e : TypeId) (i : TypeInfo) (z : Value) (h1 : P.underlying t = some (.slice e)) (h2 : P.info? e = some i) (h3 : i.zero = some z) (h4 : i.size = 1) (h5 : z.cells = #[z])
    (C : Int) (n : Nat) (hC : C = (n : Int)) (b2 : i.bytes * n ≤ 281474976710656) (b3 : n ≤ 9223372036854775807) (w : World) :
    (Instr.makeSlice t (.int .i64 C) (.int .i64 C)).run P w = .ok (.slice (some ⟨w.heap.size, 0, none⟩) n n) (w.alloc (.cells (List.replicate n z).toArray e)) := by
  subst hC
  have hb2 : (i.bytes : Int) * (n : Int) ≤ 281474976710656 := by
    have h : ((i.bytes * n : Nat) : Int) ≤ 281474976710656 := by omega
    rw [Int.natCast_mul] at h
    exact h
  have hr := run_make (P := P) w t e i z h1 h2 h3 .i64 .i64 (n : Int) (n : Int) (by omega) (by omega) hb2 (by omega)
  rw [h4, h5, Int.toNat_natCast] at hr
  have e2 : madeCells #[z] (n * 1) = (List.replicate n z).toArray := by
    apply Array.ext'
    simp only [madeCells, Array.toList_map, Array.toList_range]
    apply List.ext_getElem
    · simp
    · intro j h1 h2; simp at h1; simp [Nat.mod_one]
  rw [e2] at hr
  exact hr
end Go.Proofs.Ytcoaobdijlppgaa
/- A byte of an owned row stored anew. -/
namespace Go.Proofs.Ytcoaobdijlppgaa
open Go.ChangeShapes Go.WideShapes Go.ChangeAt Go.RowKit
set_option linter.unusedVariables false
set_option linter.unusedSimpArgs false
set_option maxRecDepth 100000

theorem Own.set {w : World} {base : Nat} {E : TypeId} {g n cap : Nat} {vs : List Value} (h : Own w base E (.slice (some ⟨g, 0, none⟩) n cap) vs) (hn : n = vs.length) (i : Nat) (u : Value) :
    Own (w.setCell ⟨g, i, none⟩ u) base E (.slice (some ⟨g, 0, none⟩) n cap) (vs.set i u) ∧ Keep [g] w (w.setCell ⟨g, i, none⟩ u) := by
  subst hn
  refine ⟨?_, (Keep.refl _ _).setCell (.inl (by simp)) _⟩
  unfold Own
  rw [List.length_set]
  exact (World.ownsRow.stored h i u).1
theorem Own.at_ {w : World} {base : Nat} {E : TypeId} {v : Value} {vs : List Value} (h : Own w base E v vs) (hp : 0 < vs.length) :
    ∃ g cap, v = .slice (some ⟨g, 0, none⟩) vs.length cap ∧ vs.length ≤ cap ∧ base ≤ g ∧ g < w.heap.size := by
  obtain ⟨g, cap, sp, rfl, h1, h2, h3⟩ := h.blk hp
  exact ⟨g, cap, rfl, h1, h2, h3.lt⟩
theorem Own.cell {w : World} {base : Nat} {E : TypeId} {g n cap : Nat} {vs : List Value} (h : Own w base E (.slice (some ⟨g, 0, none⟩) n cap) vs) (hn : n = vs.length) (i : Nat) (hi : i < n) :
    w.cell? ⟨g, i, none⟩ = vs[i]? ∧ w.frozen? ⟨g, i, none⟩ = false := by
  subst hn
  exact ⟨World.ownsRow.cellAt h i (by omega), World.ownsRow.frozenAt h i⟩
theorem Buf.own {w : World} {base : Nat} {E : TypeId} {v : Value} {l : List Nat} (h : Buf w base E v l) : Own w base E v (bcs l) := by
  unfold Own; rw [bcs_length]; exact h
theorem Own.buf {w : World} {base : Nat} {E : TypeId} {v : Value} {l : List Nat} (h : Own w base E v (bcs l)) : Buf w base E v l := by
  unfold Own at h; rw [bcs_length] at h; exact h
theorem bcs_set (l : List Nat) (i x : Nat) : (bcs l).set i (bc x) = bcs (l.set i x) := by simp [bcs, List.map_set]

theorem Buf.bump {w : World} {base : Nat} {E : TypeId} {g n cap : Nat} {l : List Nat} (h : Buf w base E (.slice (some ⟨g, 0, none⟩) n cap) l) (hn : n = l.length) (j : Nat) (hj : j < n) (x : Nat) :
    w.cell? ⟨g, j, none⟩ = some (.int .u8 (l.getD j 0 : Int)) ∧ w.frozen? ⟨g, j, none⟩ = false ∧ Buf (w.setCell ⟨g, j, none⟩ (.int .u8 (x : Int))) base E (.slice (some ⟨g, 0, none⟩) n cap) (l.set j x) ∧ Keep [g] w (w.setCell ⟨g, j, none⟩ (.int .u8 (x : Int))) := by
  have hc := h.own.cell (by rw [bcs_length]; exact hn) j hj
  have hs := h.own.set (by rw [bcs_length]; exact hn) j (bc x)
  refine ⟨by rw [hc.1, bcs_at _ _ (by omega)]; rfl, hc.2, ?_, hs.2⟩
  have := hs.1
  rw [bcs_set] at this
  exact this.buf
theorem set_byte (l : List Nat) (j x : Nat) (h : ∀ c ∈ l, c < 256) (hx : x < 256) : ∀ c ∈ l.set j x, c < 256 := by
  intro c hc
  rcases List.mem_or_eq_of_mem_set hc with h' | rfl
  · exact h c h'
  · exact hx
theorem Buf.at' {w : World} {base : Nat} {E : TypeId} {v : Value} {l : List Nat} (h : Buf w base E v l) (hp : 0 < l.length) :
    ∃ g cap, v = .slice (some ⟨g, 0, none⟩) l.length cap ∧ l.length ≤ cap ∧ base ≤ g ∧ g < w.heap.size := by
  have := h.own.at_ (by rw [bcs_length]; exact hp)
  rw [bcs_length] at this
  exact this
theorem tl_inj' {s t : ByteArray} (h : s.toList = t.toList) : s = t := by
  rw [ByteArray.toList_eq, ByteArray.toList_eq] at h
  apply ByteArray.ext
  exact Array.toList_inj.1 h
theorem str_ne {P Q : List Nat} (hP : ∀ c ∈ P, c < 256) (hQ : ∀ c ∈ Q, c < 256) (h : P ≠ Q) : ¬ (toStr P).toList = (toStr Q).toList := fun e => h (toStr_inj hP hQ (tl_inj' e))
theorem rv_blk {w : World} {b : Nat} {vs : List Value} {T : TypeId} {n : Nat} (h : Blk w b vs T) (hn : vs.length = n) : Rv w 1 (.slice (some ⟨b, 0, none⟩) n n) n vs := by
  subst hn
  refine ⟨by simp, _, _, rfl, Nat.le_refl _, fun _ => ⟨b, 0, rfl, h.lt, fun i hi => ?_⟩⟩
  rw [Nat.zero_add, h.cell]
end Go.Proofs.Ytcoaobdijlppgaa
/- Entries in rows. -/
namespace Go.Proofs.Ytcoaobdijlppgaa
open Go.ChangeShapes Go.WideShapes Go.ChangeAt Go.RowKit
set_option linter.unusedVariables false
set_option linter.unusedSimpArgs false
set_option maxRecDepth 100000

theorem Try.infoItem : (Try.prog.info? 34).map (fun i => (i.zero, i.size, i.bytes)) = some (some (.agg #[.string ByteArray.empty, .string ByteArray.empty, .int .i64 0, .bool false]), 4, 48) := by kernel_rfl
abbrev It := ByteArray × ByteArray × Int × Bool
def itc (y : It) : List Value := itC y.1 y.2.1 y.2.2.1 y.2.2.2
def ic (l : List It) : List Value := (l.map itc).flatten
theorem ic_len (l : List It) : (ic l).length = l.length * 4 := flatten_len itc 4 (fun _ => rfl) l
theorem ic_snoc (l : List It) (y : It) : ic (l ++ [y]) = ic l ++ itc y := by simp [ic]
theorem ic_one (l : List It) : ∀ u ∈ ic l, u.oneCell' = true := by
  intro u hu
  unfold ic at hu
  obtain ⟨c, hc, huc⟩ := List.mem_flatten.1 hu
  obtain ⟨y, _, rfl⟩ := List.mem_map.1 hc
  exact itC_one _ _ _ _ u huc
/-- Entries that can be read. -/
abbrev IRd (w : World) (v : Value) (l : List It) : Prop := Rv w 4 v l.length (ic l)
theorem its_at {w : World} {v : Value} {l : List It} (h : IRd w v l) (i : Nat) (y : It) (hi : l[i]? = some y) :
    ∃ sb so cap, v = .slice (some ⟨sb, so, none⟩) l.length cap ∧ l.length ≤ cap ∧ sb < w.heap.size ∧ w.cell? ⟨sb, so + i * 4, none⟩ = some (.string y.1) ∧ w.cell? ⟨sb, so + i * 4 + 1, none⟩ = some (.string y.2.1) ∧
      w.cell? ⟨sb, so + i * 4 + 2, none⟩ = some (.int .i64 y.2.2.1) ∧ w.cell? ⟨sb, so + i * 4 + 3, none⟩ = some (.bool y.2.2.2) := by
  have hlt : i < l.length := (List.getElem?_eq_some_iff.1 hi).1
  have hfl := ic_len l
  obtain ⟨hl, a, cap, rfl, hc, hh⟩ := h
  obtain ⟨sb, so, rfl, hs, hat⟩ := hh (by rw [hfl]; omega)
  have hf : ∀ j, j < 4 → w.cell? ⟨sb, so + (i * 4 + j), none⟩ = (itc y)[j]? := by
    intro j hj
    rw [hat _ (by rw [hfl]; omega)]
    unfold ic
    rw [flatten_at itc 4 (fun _ => rfl) l i j hj, hi]; rfl
  exact ⟨sb, so, cap, rfl, hc, hs, hf 0 (by omega), by rw [Nat.add_assoc]; exact hf 1 (by omega), by rw [Nat.add_assoc]; exact hf 2 (by omega), by rw [Nat.add_assoc]; exact hf 3 (by omega)⟩
/-- A row of entries of the call's own. -/
def IRow (w : World) (base : Nat) (v : Value) (l : List It) : Prop := w.ownsRow base 34 4 v l.length (ic l)
theorem IRow.nil (w : World) (base : Nat) : IRow w base (.slice none 0 0) [] := World.ownsRow_nil w base _ 4
theorem IRow.rd {w : World} {base : Nat} {v : Value} {l : List It} (h : IRow w base v l) : IRd w v l := ownsRow_rv h
theorem IRow.lt {w : World} {base : Nat} {v : Value} {l : List It} (h : IRow w base v l) : ∀ k, v.ownBlock = some k → base ≤ k ∧ k < w.heap.size := World.ownsRow.lt h
theorem IRow.slice {w : World} {base : Nat} {v : Value} {l : List It} (h : IRow w base v l) : ∃ a cap, v = .slice a l.length cap := by
  rcases h.2 with ⟨rfl, hn⟩ | ⟨g, cap, cur, rfl, _⟩
  · exact ⟨none, 0, by rw [hn]⟩
  · exact ⟨_, _, rfl⟩
theorem IRow.ty {w : World} {base : Nat} {v : Value} {l : List It} (h : IRow w base v l) : ∀ k, v.ownBlock = some k → Ty w k 34 := by
  intro k hk
  rcases h.2 with ⟨rfl, _⟩ | ⟨g, cap, cur, rfl, _, hg, _⟩
  · cases hk
  · cases hk; exact ⟨_, _, hg⟩
theorem IRow.keep {w w' : World} {base : Nat} {v : Value} {l : List It} {S : List Nat} (h : IRow w base v l) (k : Keep S w w') (hS : ∀ b, v.ownBlock = some b → b ∉ S) : IRow w' base v l := by
  refine ⟨h.1, ?_⟩
  have hl := h.lt
  rcases h.2 with ⟨rfl, hn⟩ | ⟨g, cap, cur, rfl, hb, hg, r⟩
  · exact .inl ⟨rfl, hn⟩
  · exact .inr ⟨g, cap, cur, rfl, hb, by rw [k.block g (hl g rfl).2 (hS g rfl)]; exact hg, r⟩
theorem IRow.alloc {w : World} {base : Nat} {v : Value} {l : List It} (h : IRow w base v l) (o : Obj) : IRow (w.alloc o) base v l := World.ownsRow.alloc h o
theorem IRow.mono {w : World} {base base' : Nat} {v : Value} {l : List It} (h : IRow w base v l) (hb : base' ≤ base) : IRow w base' v l := by
  refine ⟨h.1, ?_⟩
  rcases h.2 with ⟨rfl, hn⟩ | ⟨g, cap, cur, rfl, hg, r⟩
  · exact .inl ⟨rfl, hn⟩
  · exact .inr ⟨g, cap, cur, rfl, Nat.le_trans hb hg, r⟩
theorem IRow.snoc {w' : World} {base : Nat} {v' : Value} {l : List It} {y : It} (h : w'.ownsRow base 34 4 v' (l.length + 1) (ic l ++ itc y)) : IRow w' base v' (l ++ [y]) := by
  unfold IRow; rw [ic_snoc, List.length_append]; exact h
theorem src_it {P : Program} {t e : TypeId} (ht : P.underlying t = some (.slice e)) (w : World) (b : Nat) (k v : ByteArray) (n : Int) (g : Bool) (h : Blk w b (itC k v n g) 34) :
    Src P 4 t (.slice (some ⟨b, 0, none⟩) 1 1) 1 (itc (k, v, n, g)) w := by
  refine Src.ofSlice _ ht ⟨b, 0, none⟩ 1 1 (itc (k, v, n, g)) rfl ?_ (itC_one _ _ _ _)
  intro j x hx
  rw [show (⟨b, 0, none⟩ : Addr).add j = ⟨b, j, none⟩ by by_cases h0 : j = 0 <;> simp [Addr.add, h0], h.cell]
  exact hx

def itCut (y : It) : It := (cutStr y.1 50, cutStr y.2.1 210, y.2.2.1, y.2.2.2)
def eqJ (a1 a2 : Option Addr) (lenA c1 lenB c2 j : Nat) (ga oa gb ob : Nat) (k v : ByteArray) (n : Int) (g : Bool) (k' v' : ByteArray) (n' : Int) (g' : Bool) (w0 : World) (l : Nat → Bool) (x : Nat → Value) (w' : World) : Prop :=
  Keep [] w0 w' ∧ (l 0 = true → x 0 = .slice a1 lenA c1) ∧ (l 1 = true → x 1 = .int .i64 (j : Int)) ∧ (l 2 = true → x 2 = .pointer (some ⟨ga, oa + j * 4, none⟩)) ∧ (l 3 = true → x 3 = itV k v n g) ∧ (l 4 = true → x 4 = .slice a2 lenB c2) ∧ (l 5 = true → x 5 = .int .i64 (j : Int)) ∧ (l 6 = true → x 6 = .pointer (some ⟨gb, ob + j * 4, none⟩)) ∧ (l 7 = true → x 7 = itV k' v' n' g') ∧ (l 8 = true → x 8 = .bool (itEq k v n g k' v' n' g')) ∧ (l 9 = true → x 9 = .bool (!itEq k v n g k' v' n' g'))

theorem itEq_iff (x y : It) : itEq x.1 x.2.1 x.2.2.1 x.2.2.2 y.1 y.2.1 y.2.2.1 y.2.2.2 = decide (x = y) := by
  obtain ⟨k, v, n, g⟩ := x
  obtain ⟨k', v', n', g'⟩ := y
  unfold itEq
  simp only [Prod.mk.injEq]
  by_cases h1 : k = k' <;> by_cases h2 : v = v' <;> by_cases h3 : n = n' <;> by_cases h4 : g = g' <;> simp [h1, h2, h3, h4]
end Go.Proofs.Ytcoaobdijlppgaa
/- Entries to bytes. -/
namespace Go.Proofs.Ytcoaobdijlppgaa
open Go.ChangeShapes Go.WideShapes Go.ChangeAt Go.RowKit
set_option linter.unusedVariables false
set_option linter.unusedSimpArgs false
set_option maxRecDepth 100000

theorem Buf.ty' {w : World} {base : Nat} {E : TypeId} {v : Value} {l : List Nat} (h : Buf w base E v l) : ∀ k, v.ownBlock = some k → Ty w k E := h.own.ty
def gN (g : Bool) : Int := if g = true then 1 else 0
def putIt (y : It) : List Nat := putTexts [y.1, y.2.1] ++ putAll [y.2.2.1, gN y.2.2.2]
def putIts (l : List It) : List Nat := (l.map putIt).flatten
theorem putIts_snoc (l : List It) (y : It) : putIts (l ++ [y]) = putIts l ++ putIt y := by simp [putIts]
def mayIt (y : It) : Bool := itMay y.1 y.2.1 y.2.2.1 y.2.2.2
def encIts (l : List It) : List Nat := if l.all mayIt = true then putIts l else []
theorem Onto.drew0 {w : World} {base : Nat} {E : TypeId} {v v' : Value} {l : List Nat} {w' : World} (h : Onto w base E v l v' w') : Onto w base E v l v' w'.drew := ⟨h.buf, h.keep.drew, h.own⟩
theorem may_sizes {y : It} (h : mayIt y = true) : 1 ≤ y.1.size ∧ y.1.size ≤ 40 ∧ y.2.1.size ≤ 200 ∧ 0 ≤ y.2.2.1 ∧ y.2.2.1 ≤ 1099511627776 := by
  unfold mayIt itMay itKey at h
  simp only [Bool.and_eq_true, decide_eq_true_eq] at h
  exact ⟨h.1.1, h.1.2, h.2.1, h.2.2.1, h.2.2.2.1⟩
theorem putTexts_two (k v : ByteArray) (hk : k.size ≤ 200) (hv : v.size ≤ 200) : (putTexts [k, v]).length ≤ k.size + v.size + 20 := by
  have h1 := leb_len 10 (zz (k.size : Int)) (by have := zz_lt (k.size : Int) (by omega) (by omega); omega) (by omega)
  have h2 := leb_len 10 (zz (v.size : Int)) (by have := zz_lt (v.size : Int) (by omega) (by omega); omega) (by omega)
  simp only [putTexts, List.map_cons, List.map_nil, List.flatten_cons, List.flatten_nil, List.length_append, putText, sb_length, List.length_nil]
  omega
theorem putTexts_pos (k v : ByteArray) : 0 < (putTexts [k, v]).length := by
  have := leb_ne (zz (k.size : Int))
  simp only [putTexts, List.map_cons, List.flatten_cons, List.length_append, putText]
  have : 0 < (leb (zz (k.size : Int))).length := List.length_pos_iff.2 this
  omega
theorem gN_i64 (g : Bool) : I64 (gN g) := by cases g <;> (unfold gN I64; simp)
theorem putIt_len {y : It} (h : mayIt y = true) : (putIt y).length ≤ 300 := by
  obtain ⟨h1, h2, h3, h4, h5⟩ := may_sizes h
  have a := putTexts_two y.1 y.2.1 (by omega) h3
  have b := putAll_len [y.2.2.1, gN y.2.2.2] (by intro n hn; simp at hn; rcases hn with rfl | rfl; exact ⟨by omega, by omega⟩; exact gN_i64 _)
  unfold putIt
  rw [List.length_append]
  simp only [List.length_cons, List.length_nil] at b
  omega
def encL (L : List Nat) (k v : ByteArray) (n gi : Int) (l : Nat → Bool) : List Nat := if l 11 = true then L ++ putTexts [k, v] ++ putAll [n, gi] else if l 6 = true then L ++ putTexts [k, v] else L
def encV (v0 : Value) (l : Nat → Bool) (x : Nat → Value) : Value := if l 11 = true then x 11 else if l 6 = true then x 6 else v0
def encJ (w0 : World) (base : Nat) (v0 : Value) (L : List Nat) (t : Nat) (k v : ByteArray) (n gi : Int) (l : Nat → Bool) (x : Nat → Value) (w' : World) : Prop :=
  ∃ B5 B10, Onto w0 base 5 v0 (encL L k v n gi l) (encV v0 l x) w' ∧ (l 11 = true → l 6 = true) ∧ (l 6 = true → l 0 = true) ∧ (l 12 = false → x 12 = v0) ∧ (l 0 = true → x 0 = v0) ∧ (l 1 = true → x 1 = .pointer (some ⟨t, 0, none⟩)) ∧ (l 2 = true → x 2 = .string k) ∧ (l 3 = true → x 3 = .pointer (some ⟨t, 1, none⟩)) ∧ (l 4 = true → x 4 = .string v) ∧
  (l 5 = true → x 5 = .slice (some ⟨B5, 0, none⟩) 2 2 ∧ Blk w' B5 (strs [k, v]) 9) ∧ (l 7 = true → x 7 = .pointer (some ⟨t, 2, none⟩)) ∧ (l 8 = true → x 8 = .int .i64 n) ∧ (l 9 = true → x 9 = .int .i64 gi) ∧
  (l 10 = true → x 10 = .slice (some ⟨B10, 0, none⟩) 2 2 ∧ Blk w' B10 (ints [n, gi]) 2) ∧ (l 12 = true → x 12 = x 11 ∧ l 11 = true)

end Go.Proofs.Ytcoaobdijlppgaa
/- Entries that came in, opened. -/
namespace Go.Proofs.Ytcoaobdijlppgaa
open Go.ChangeShapes Go.WideShapes Go.ChangeAt Go.RowKit
set_option linter.unusedVariables false
set_option linter.unusedSimpArgs false
set_option maxRecDepth 100000

def IsItems (w : World) (v : Value) : Prop := ∃ l : List It, IRd w v l ∧ l.length ≤ 9223372036854775807 ∧ ∀ y ∈ l, y.1.size ≤ 9223372036854775807 ∧ y.2.1.size ≤ 9223372036854775807
theorem items_opens {H : Type} {enc : TypeId × Value → H} {W : World} : Opens enc Try.prog W 34 itc
    (fun y => y.1.size ≤ 9223372036854775807 ∧ y.2.1.size ≤ 9223372036854775807 ∧ (Lit.int .i64 y.2.2.1).wf = true ∧ True) :=
  opens_struct4 Try.underlying34 (by kernel_rfl) (by decide) (by refine ⟨?_, ?_, ?_, ?_⟩ <;> kernel_rfl)
    (opens_string Try.underlying9) (opens_string Try.underlying9) (opens_int Try.underlying2) (opens_bool Try.underlying4)
theorem open_items {H : Type} {enc : TypeId × Value → H} {W : World} {v : Value} {d : DataW H} {p : List MemPlace} {r : Reach} {b : Nat}
    (hv : Value.okWide Try.prog W r b 35 v) (h : DataW.Trod enc Try.prog W 0 (fun _ => true) true 35 v d p) : IsItems W v := by
  obtain ⟨a0, len, cap, rfl⟩ := okWide_slice Try.underlying35 hv
  obtain ⟨⟨y, l⟩, hy, h1, h2, h3⟩ := opens_val (f := fun p : Value × List It => p.1) (opens_slice (k := 4) Try.underlying35 (by kernel_rfl) (by omega) (fun _ => rfl) items_opens) (fun y hy => by simpa [Value.cells] using hy) h
  exact ⟨l, hy ▸ h1, h2, fun y hy => ⟨(h3 y hy).1, (h3 y hy).2.1⟩⟩
theorem itCut_sizes (l : List It) (n : Nat) : ∀ y ∈ (l.take n).map itCut, y.1.size ≤ 210 ∧ y.2.1.size ≤ 210 := by
  intro y hy
  obtain ⟨z, _, rfl⟩ := List.mem_map.1 hy
  have h1 := cutStr_size z.1 50
  have h2 := cutStr_size z.2.1 210
  exact ⟨by simp only [itCut]; omega, h2⟩
theorem itCut_len (l : List It) (n : Nat) : ((l.take n).map itCut).length ≤ n := by simp; omega
end Go.Proofs.Ytcoaobdijlppgaa
/- Sums (CRC-32), bit by bit: the plain function, what one byte changes; the contract of crc.Sum of one part. -/
namespace Go.Proofs.Ytcoaobdijlppgaa
open Go.ChangeShapes Go.WideShapes Go.ChangeAt Go.RowKit
set_option linter.unusedVariables false
set_option linter.unusedSimpArgs false
set_option maxRecDepth 100000

theorem xor_cancel (a b c : Nat) (h : a ^^^ b = a ^^^ c) : b = c := by
  have := congrArg (a ^^^ ·) h
  simpa [← Nat.xor_assoc] using this
theorem xor_cancel' (a b c : Nat) (h : b ^^^ a = c ^^^ a) : b = c := xor_cancel a b c (by rw [Nat.xor_comm a b, Nat.xor_comm a c, h])
/-- One bit. -/
def crcBit (x : Nat) : Nat := (x / 2) ^^^ (if x % 2 = 1 then 3988292384 else 0)
def crcBits : Nat → Nat → Nat
  | 0, x => x
  | k + 1, x => crcBit (crcBits k x)
def crcByte (x c : Nat) : Nat := crcBits 8 (x ^^^ c)
def crcOf (x : Nat) (l : List Nat) : Nat := l.foldl crcByte x
def crcSum (l : List Nat) : Nat := 4294967295 - crcOf 4294967295 l
theorem crcBit_lt (x : Nat) (h : x < 4294967296) : crcBit x < 4294967296 := by
  unfold crcBit
  apply Nat.xor_lt_two_pow (n := 32)
  · omega
  · split <;> omega
theorem crcBits_lt (k x : Nat) (h : x < 4294967296) : crcBits k x < 4294967296 := by
  induction k with
  | zero => exact h
  | succ k ih => exact crcBit_lt _ ih
theorem crcByte_lt (x c : Nat) (h : x < 4294967296) (hc : c < 256) : crcByte x c < 4294967296 :=
  crcBits_lt 8 _ (Nat.xor_lt_two_pow (n := 32) h (by omega))
theorem crcOf_lt (l : List Nat) : ∀ x, x < 4294967296 → (∀ c ∈ l, c < 256) → crcOf x l < 4294967296 := by
  induction l with
  | nil => intro x h _; exact h
  | cons c l ih => intro x h hl; exact ih _ (crcByte_lt x c h (hl c (by simp))) (fun c' hc' => hl c' (by simp [hc']))
theorem crcOf_snoc (x : Nat) (l : List Nat) (c : Nat) : crcOf x (l ++ [c]) = crcByte (crcOf x l) c := by simp [crcOf]
/-- One bit loses nothing. -/
theorem crcBit_inj (x y : Nat) (hx : x < 4294967296) (hy : y < 4294967296) (h : crcBit x = crcBit y) : x = y := by
  unfold crcBit at h
  have hx2 : x / 2 < 2147483648 := by omega
  have hy2 : y / 2 < 2147483648 := by omega
  have t : ∀ z, z < 2147483648 → (z ^^^ 3988292384).testBit 31 = true := by
    intro z hz
    rw [Nat.testBit_xor, Nat.testBit_lt_two_pow (show z < 2 ^ 31 by omega)]
    decide
  have f : ∀ z, z < 2147483648 → (z ^^^ 0).testBit 31 = false := by
    intro z hz
    rw [Nat.xor_zero]
    exact Nat.testBit_lt_two_pow (by omega)
  by_cases hxo : x % 2 = 1
  · by_cases hyo : y % 2 = 1
    · rw [if_pos hxo, if_pos hyo] at h
      have := xor_cancel' _ _ _ h
      omega
    · rw [if_pos hxo, if_neg hyo] at h
      have := t _ hx2
      rw [h, f _ hy2] at this
      cases this
  · by_cases hyo : y % 2 = 1
    · rw [if_neg hxo, if_pos hyo] at h
      have := t _ hy2
      rw [← h, f _ hx2] at this
      cases this
    · rw [if_neg hxo, if_neg hyo, Nat.xor_zero, Nat.xor_zero] at h
      omega
theorem crcBits_inj (k : Nat) : ∀ x y, x < 4294967296 → y < 4294967296 → crcBits k x = crcBits k y → x = y := by
  induction k with
  | zero => intro x y _ _ h; exact h
  | succ k ih => intro x y hx hy h; exact ih x y hx hy (crcBit_inj _ _ (crcBits_lt k x hx) (crcBits_lt k y hy) h)
theorem crcByte_inj (x y c d : Nat) (hx : x < 4294967296) (hy : y < 4294967296) (hc : c < 256) (hd : d < 256) (h : crcByte x c = crcByte y d) : x ^^^ c = y ^^^ d :=
  crcBits_inj 8 _ _ (Nat.xor_lt_two_pow (n := 32) hx (by omega)) (Nat.xor_lt_two_pow (n := 32) hy (by omega)) h
theorem crcOf_inj (l : List Nat) : ∀ x y, x < 4294967296 → y < 4294967296 → (∀ c ∈ l, c < 256) → crcOf x l = crcOf y l → x = y := by
  induction l with
  | nil => intro x y _ _ _ h; exact h
  | cons c l ih =>
    intro x y hx hy hl h
    have hc := hl c (by simp)
    have h1 := ih _ _ (crcByte_lt x c hx hc) (crcByte_lt y c hy hc) (fun c' hc' => hl c' (by simp [hc'])) h
    have h2 := crcByte_inj x y c c hx hy hc hc h1
    exact xor_cancel' _ _ _ h2
/-- One byte changed: another sum. -/
theorem crcSum_one (a b : List Nat) (c d : Nat) (ha : ∀ c ∈ a, c < 256) (hb : ∀ c ∈ b, c < 256) (hc : c < 256) (hd : d < 256) (hne : c ≠ d) : crcSum (a ++ c :: b) ≠ crcSum (a ++ d :: b) := by
  intro h
  unfold crcSum at h
  have hA : crcOf 4294967295 (a ++ c :: b) < 4294967296 := crcOf_lt _ _ (by omega) (by intro x hx; rcases List.mem_append.1 hx with hx | hx; · exact ha x hx
                                                                                       · rcases List.mem_cons.1 hx with rfl | hx; · exact hc
                                                                                         · exact hb x hx)
  have hB : crcOf 4294967295 (a ++ d :: b) < 4294967296 := crcOf_lt _ _ (by omega) (by intro x hx; rcases List.mem_append.1 hx with hx | hx; · exact ha x hx
                                                                                       · rcases List.mem_cons.1 hx with rfl | hx; · exact hd
                                                                                         · exact hb x hx)
  have e : crcOf 4294967295 (a ++ c :: b) = crcOf 4294967295 (a ++ d :: b) := by omega
  have e1 : crcOf 4294967295 (a ++ c :: b) = crcOf (crcByte (crcOf 4294967295 a) c) b := by simp [crcOf]
  have e2 : crcOf 4294967295 (a ++ d :: b) = crcOf (crcByte (crcOf 4294967295 a) d) b := by simp [crcOf]
  rw [e1, e2] at e
  have hx := crcOf_lt a 4294967295 (by omega) ha
  have e3 := crcOf_inj b _ _ (crcByte_lt _ _ hx hc) (crcByte_lt _ _ hx hd) hb e
  exact hne (xor_cancel _ _ _ (crcByte_inj _ _ _ _ hx hx hc hd e3))
theorem crcOf_take (x : Nat) (l : List Nat) (k : Nat) (h : k < l.length) : crcOf x (l.take (k + 1)) = crcByte (crcOf x (l.take k)) (l.getD k 0) := by
  rw [List.take_succ_eq_append_getElem h, crcOf_snoc]
  simp [List.getD_eq_getElem?_getD, h]
/-- x>>1 ^ poly & -(x&1) -/
theorem crc_step (x : Nat) (h : x < 4294967296) : bits .xor .u32 ((x : Int) / 2) (bits .and .u32 3988292384 (IntKind.u32.wrap (-(bits .and .u32 (x : Int) 1)))) = ((crcBit x : Nat) : Int) := by
  have e1 : bits .and .u32 (x : Int) 1 = ((x % 2 : Nat) : Int) := by
    rw [show (1 : Int) = ((1 : Nat) : Int) from rfl, u32_and_nat _ _ h (by omega), Nat.and_one_is_mod]
  rw [e1, show (x : Int) / 2 = ((x / 2 : Nat) : Int) by omega]
  unfold crcBit
  by_cases hx : x % 2 = 1
  · rw [hx, if_pos rfl, show bits .and .u32 3988292384 (IntKind.u32.wrap (-((1 : Nat) : Int))) = ((3988292384 : Nat) : Int) by decide +kernel, u32_xor_nat _ _ (by omega) (by omega)]
  · rw [if_neg hx, show x % 2 = 0 by omega, show bits .and .u32 3988292384 (IntKind.u32.wrap (-((0 : Nat) : Int))) = ((0 : Nat) : Int) by decide +kernel, u32_xor_nat _ _ (by omega) (by omega)]
theorem crc_not (x : Nat) (h : x < 4294967296) : bits .xor .u32 IntKind.u32.max (x : Int) = ((4294967295 - x : Nat) : Int) := by
  rw [show IntKind.u32.max = ((4294967295 : Nat) : Int) by decide, u32_xor_nat _ _ (by omega) h]
  have h1 := BitVec.toNat_not (x := BitVec.ofNat 32 x)
  have h2 : (~~~ (BitVec.ofNat 32 x)) = BitVec.allOnes 32 ^^^ BitVec.ofNat 32 x := by rw [BitVec.allOnes_xor]
  rw [h2, BitVec.toNat_xor, BitVec.toNat_allOnes, BitVec.toNat_ofNat, Nat.mod_eq_of_lt h] at h1
  have h3 : 4294967295 ^^^ x = 4294967295 - x := by simpa using h1
  rw [h3]

set_option maxHeartbeats 2000000 in
theorem Sum_one {w : World} (a : Option Addr) (cap : Nat) (bv : Value) (l : List Nat) (hp : Rv w 1 (.slice a 1 cap) 1 [bv]) (h : Rd w bv l) (hb : ∀ c ∈ l, c < 256) (hl : l.length ≤ 9223372036854775807) (n : Nat) (hn : n = crcSum l) :
    Calls Try.prog 58 #[.slice a 1 cap] w fun e w' => e = .returned (.int .u32 n) ∧ w = w' := by
  have HN := Lib.hid hn
  clear hn
  have h2 := h
  obtain ⟨_, ba, bcap, rfl, _, _⟩ := h
  obtain ⟨pb, po, pc, he, hpc, hps, hpat⟩ := hp.at1 (by omega)
  simp only [Value.slice.injEq] at he
  obtain ⟨rfl, _, rfl⟩ := he
  have gp := hpat 0 (by omega)
  simp only [Nat.add_zero, List.getElem?_cons_zero] at gp
  clear hpat
  go_enter Try.func58, Try.ntmps58
  go_wp2_with fail
  refine wp_loop_rounds 2 ?_
  rw [rounds_succ]
  go_wp2_with fail
  go_loop [3, 16] (fun x i => ∃ k : Nat, k ≤ l.length ∧ i = .int .i64 k ∧ x = .int .u32 (crcOf 4294967295 (l.take k) : Nat)) (fun _ i => l.length - (intOf i).toNat)
  case atStart => exact ⟨0, by omega, rfl, rfl⟩
  case round =>
    obtain ⟨k, hk, rfl, rfl⟩ := hrel
    by_cases hlt : k < l.length
    · obtain ⟨sb0, so, cap3, he, _, hsb, hat⟩ := h2.at1 (by omega)
      simp only [Value.slice.injEq] at he
      obtain ⟨rfl, _, rfl⟩ := he
      have g4 := hat k hlt
      rw [bcs_at l k hlt] at g4
      have hc : l.getD k 0 < 256 := hb _ (by simp [List.getD_eq_getElem?_getD, hlt])
      have hX : crcOf 4294967295 (l.take k) < 4294967296 := crcOf_lt _ _ (by omega) (fun c hc => hb c (List.mem_of_mem_take hc))
      have HT := Lib.hid (crcOf_take 4294967295 l k hlt)
      clear hat h2 hb
      generalize l.getD k 0 = c at *
      generalize crcOf 4294967295 (l.take k) = X at *
      unfold bc at g4
      have q0 : (k : Int) < l.length := by omega
      have hx := u32_xor_nat X c hX (by omega)
      have hY : X ^^^ c < 4294967296 := Nat.xor_lt_two_pow (n := 32) hX (by omega)
      go_wp2_with fail
      go_loop [3, 24] (fun x i => ∃ j : Nat, j ≤ 8 ∧ i = .int .i64 j ∧ x = .int .u32 (crcBits j (X ^^^ c) : Nat)) (fun _ i => 8 - (intOf i).toNat)
      case atStart => exact ⟨0, by omega, rfl, rfl⟩
      case round =>
        obtain ⟨j, hj, rfl, rfl⟩ := hrel
        by_cases hj8 : j < 8
        · have r0 : (j : Int) < 8 := by omega
          have hZ := crcBits_lt j _ hY
          have HZ := Lib.hid (show crcBits (j + 1) (X ^^^ c) = crcBit (crcBits j (X ^^^ c)) from rfl)
          generalize crcBits j (X ^^^ c) = Z at *
          have hst := crc_step Z hZ
          go_wp2_with fail
          go_round
          case rel => exact ⟨j + 1, by omega, by go_num, by rw [HZ.out]; simpa [IntKind.wrap_u32'] using hst⟩
          case measure => simp [intOf]; omega
        · have r0 : ¬ ((j : Int) < 8) := by omega
          have hj88 : j = 8 := by omega
          subst hj88
          go_wp2_with fail
          go_round
          case rel => exact ⟨k + 1, by omega, by go_num, by rw [HT.out]; rfl⟩
          case measure => simp [intOf]; omega
    · have q0 : ¬ ((k : Int) < l.length) := by omega
      have hkl : k = l.length := by omega
      subst hkl
      rw [List.take_length]
      have hX : crcOf 4294967295 l < 4294967296 := crcOf_lt _ _ (by omega) hb
      have hnot := crc_not _ hX
      have HE := Lib.hid (show crcSum l = 4294967295 - crcOf 4294967295 l from rfl)
      generalize crcOf 4294967295 l = X at *
      go_wp2_with fail
      rw [rounds_succ]
      go_wp2_with fail
      go_ret
      exact ⟨by rw [HN.out, HE.out]; rfl, rfl⟩
end Go.Proofs.Ytcoaobdijlppgaa
