/- Data that came in, opened: slices of whatever elements, structs of a few cells. No condition. -/
import Derived.Test.YtonghelcfbjknaaInfo
import Derived.ChangeArms
import Derived.Deep.Slices
namespace Go.Proofs.Ytonghelcfbjknaa
open Go.ChangeShapes Go.WideShapes Go.ChangeAt Go.RowKit
set_option linter.unusedVariables false
set_option linter.unusedSimpArgs false

section
variable {H : Type} {enc : TypeId × Value → H} {P : Program} {w : World}

/-- Whatever reads as one of type t is the cells g y of some y with R y. -/
def Opens (enc : TypeId × Value → H) (P : Program) (w : World) (t : TypeId) {α : Type} (g : α → List Value) (R : α → Prop) : Prop :=
  ∀ (fuel : Nat) (cs : List Value) (x : DataW H × List MemPlace), DataW.trod enc P w 0 (fun _ => true) true fuel t cs = some x → ∃ y : α, cs = g y ∧ R y
theorem opens_int {t : TypeId} {k : IntKind} (ht : P.underlying t = some (.int k)) : Opens enc P w t (fun n : Int => [.int k n]) (fun n => (Lit.int k n).wf = true) := fun _ _ _ h => by
  obtain ⟨n, rfl, _, hw⟩ := DataW.trod_int ht h
  exact ⟨n, rfl, hw⟩
theorem opens_bool {t : TypeId} (ht : P.underlying t = some .bool) : Opens enc P w t (fun b : Bool => [.bool b]) (fun _ => True) := fun _ _ _ h => by
  obtain ⟨b, rfl, _⟩ := DataW.trod_bool ht h
  exact ⟨b, rfl, trivial⟩
theorem opens_string {t : TypeId} (ht : P.underlying t = some .string) : Opens enc P w t (fun s : ByteArray => [.string s]) (fun s => s.size ≤ 9223372036854775807) := fun _ _ _ h => by
  obtain ⟨s, rfl, _, hs⟩ := DataW.trod_string ht h
  exact ⟨s, rfl, by unfold maxLen at hs; omega⟩

theorem flatten_at {α : Type} (g : α → List Value) (k : Nat) (hg : ∀ y, (g y).length = k) : ∀ (l : List α) (i j : Nat), j < k → (l.map g).flatten[i * k + j]? = (l[i]?).bind fun y => (g y)[j]? := by
  intro l
  induction l with
  | nil => intro i j _; simp
  | cons y l ih =>
    intro i j hj
    rw [List.map_cons, List.flatten_cons]
    cases i with
    | zero => rw [Nat.zero_mul, Nat.zero_add, List.getElem?_append_left (by rw [hg]; exact hj)]; rfl
    | succ i =>
      rw [List.getElem?_append_right (by rw [hg, Nat.succ_mul]; omega), hg, show (i + 1) * k + j - k = i * k + j by rw [Nat.succ_mul]; omega, ih i j hj]
      rfl
theorem flatten_len {α : Type} (g : α → List Value) (k : Nat) (hg : ∀ y, (g y).length = k) (l : List α) : (l.map g).flatten.length = l.length * k := by
  induction l with
  | nil => simp
  | cons y l ih => rw [List.map_cons, List.flatten_cons, List.length_append, hg, ih, List.length_cons, Nat.succ_mul]; omega

/-- A slice. -/
theorem opens_slice {t e : TypeId} {α : Type} {g : α → List Value} {R : α → Prop} {k : Nat} (ht : P.underlying t = some (.slice e)) (hc : P.cellsOf e = k) (hk : 0 < k) (hg : ∀ y, (g y).length = k) (he : Opens enc P w e g R) :
    Opens enc P w t (fun p : Value × List α => [p.1]) (fun p => Rv w k p.1 p.2.length (p.2.map g).flatten ∧ p.2.length ≤ 9223372036854775807 ∧ ∀ y ∈ p.2, R y) := fun fuel cs x h => by
  rcases Deep.open_slice ht h with ⟨rfl, _⟩ | ⟨a, len, cap, m, n, D, Pl, rfl, _, hl, hm, hmm, rfl, hx⟩
  · exact ⟨(.slice none 0 0, []), rfl, Rv.nil w k, by simp, by simp⟩
  · simp only [if_true] at hmm
    subst hmm
    rw [hc] at hx
    have hex : ∀ i, i < len → ∃ y : α, R y ∧ ∀ j, j < k → w.cell? (a.add (i * k + j)) = (g y)[j]? := by
      intro i hi
      obtain ⟨cs', h1, h2⟩ := hx i (by omega)
      obtain ⟨y, rfl, hy⟩ := he _ _ _ h2
      obtain ⟨_, hlen, hat⟩ := World.cells?_some h1
      refine ⟨y, hy, fun j hj => ?_⟩
      have := hat j hj
      rw [Deep.add_add] at this
      rw [this]
    obtain ⟨l, hll, hlR, hlc⟩ : ∃ l : List α, l.length = len ∧ (∀ y ∈ l, R y) ∧ ∀ i y, l[i]? = some y → ∀ j, j < k → w.cell? (a.add (i * k + j)) = (g y)[j]? := by
      clear hx hm hl h
      induction len with
      | zero => exact ⟨[], rfl, by simp, by simp⟩
      | succ len ih =>
        obtain ⟨l, h1, h2, h3⟩ := ih (fun i hi => hex i (by omega))
        obtain ⟨y, hy, hc'⟩ := hex len (by omega)
        refine ⟨l ++ [y], by simp [h1], ?_, ?_⟩
        · intro z hz
          rcases List.mem_append.1 hz with hz | hz
          · exact h2 z hz
          · rw [List.mem_singleton.1 hz]; exact hy
        · intro i z hz
          by_cases hi : i < l.length
          · rw [List.getElem?_append_left hi] at hz; exact h3 i z hz
          · rw [List.getElem?_append_right (by omega)] at hz
            have : i = l.length := by
              rcases Nat.eq_zero_or_pos (i - l.length) with h0 | h0
              · omega
              · rw [List.getElem?_eq_none (by simp; omega)] at hz; cases hz
            subst this
            rw [Nat.sub_self] at hz
            simp at hz
            subst hz
            rw [h1]; exact hc'
    unfold maxLen at hm
    refine ⟨(.slice (some a) len m, l), rfl, ⟨flatten_len g k hg l, some a, m, by rw [hll], by rw [hll]; exact hl, fun hp => ?_⟩, by show l.length ≤ _; omega, hlR⟩
    rw [flatten_len g k hg l] at hp
    have hl0 : 0 < l.length := by
      rcases Nat.eq_zero_or_pos l.length with h0 | h0
      · rw [h0] at hp; omega
      · exact h0
    have h00 : a.add 0 = a := by simp [Addr.add]
    have c0 := hlc 0 l[0] (List.getElem?_eq_getElem hl0) 0 hk
    rw [Nat.zero_mul, Nat.zero_add, h00] at c0
    obtain ⟨sb0, so, rfl, hsb, hadd⟩ := addr_cell (w := w) (a := a) (by rw [c0, List.getElem?_eq_getElem (by rw [hg]; exact hk)]; rfl)
    refine ⟨sb0, so, rfl, hsb, fun i hi => ?_⟩
    rw [flatten_len g k hg l] at hi
    have hdm := Nat.div_add_mod i k
    have hmod := Nat.mod_lt i hk
    have hdiv : i / k < l.length := Nat.div_lt_of_lt_mul (by rw [Nat.mul_comm]; exact hi)
    have e : i = i / k * k + i % k := by rw [Nat.mul_comm]; omega
    have := hlc (i / k) l[i / k] (List.getElem?_eq_getElem hdiv) (i % k) hmod
    rw [hadd, ← e] at this
    rw [this]
    conv => rhs; rw [e]
    rw [flatten_at g k hg l _ _ hmod, List.getElem?_eq_getElem hdiv]
    rfl
theorem flatten_one {α : Type} (f : α → Value) (l : List α) : (l.map fun y => [f y]).flatten = l.map f := by
  induction l with
  | nil => rfl
  | cons y l ih => simp [ih]
/-- A slice of elements of one cell. -/
theorem opens_slice1 {t e : TypeId} {α : Type} {f : α → Value} {R : α → Prop} (ht : P.underlying t = some (.slice e)) (hc : P.cellsOf e = 1) (he : Opens enc P w e (fun y => [f y]) R) :
    Opens enc P w t (fun p : Value × List α => [p.1]) (fun p => Rv w 1 p.1 p.2.length (p.2.map f) ∧ p.2.length ≤ 9223372036854775807 ∧ ∀ y ∈ p.2, R y) := fun fuel cs x h => by
  obtain ⟨p, h1, h2, h3, h4⟩ := opens_slice ht hc (by omega) (fun _ => rfl) he fuel cs x h
  exact ⟨p, h1, by rw [flatten_one] at h2; exact h2, h3, h4⟩
/-- Bytes. -/
theorem opens_bytes {t e : TypeId} (ht : P.underlying t = some (.slice e)) (hu : P.underlying e = some (.int .u8)) (hc : P.cellsOf e = 1) :
    Opens enc P w t (fun p : Value × List Nat => [p.1]) (fun p => Rd w p.1 p.2 ∧ p.2.length ≤ 9223372036854775807 ∧ ∀ c ∈ p.2, c < 256) := fun fuel cs x h => by
  obtain ⟨⟨v, l⟩, h1, h2, h3, h4⟩ := opens_slice1 ht hc (opens_int hu) fuel cs x h
  have hb : ∀ n ∈ l, 0 ≤ n ∧ n < 256 := fun n hn => by
    have := h4 n hn
    simp [Lit.wf, IntKind.min, IntKind.max, IntKind.signed, IntKind.bits] at this
    omega
  refine ⟨(v, l.map Int.toNat), h1, ?_, by simpa using h3, ?_⟩
  · have e : bcs (l.map Int.toNat) = l.map (Value.int .u8) := by
      unfold bcs
      rw [List.map_map]
      apply List.map_congr_left
      intro n hn
      have := hb n hn
      simp [bc]; omega
    show Rv w 1 v (l.map Int.toNat).length (bcs (l.map Int.toNat))
    rw [e, List.length_map]; exact h2
  · intro c hc
    obtain ⟨n, hn, rfl⟩ := List.mem_map.1 hc
    have := hb n hn
    omega
theorem opens_bools {t e : TypeId} (ht : P.underlying t = some (.slice e)) (hu : P.underlying e = some .bool) (hc : P.cellsOf e = 1) :
    Opens enc P w t (fun p : Value × List Bool => [p.1]) (fun p => Rv w 1 p.1 p.2.length (bools p.2) ∧ p.2.length ≤ 9223372036854775807) := fun fuel cs x h => by
  obtain ⟨p, h1, h2, h3, _⟩ := opens_slice1 ht hc (opens_bool hu) fuel cs x h
  exact ⟨p, h1, h2, h3⟩
theorem opens_strings {t e : TypeId} (ht : P.underlying t = some (.slice e)) (hu : P.underlying e = some .string) (hc : P.cellsOf e = 1) :
    Opens enc P w t (fun p : Value × List ByteArray => [p.1]) (fun p => Rv w 1 p.1 p.2.length (strs p.2) ∧ p.2.length ≤ 9223372036854775807 ∧ ∀ s ∈ p.2, s.size ≤ 9223372036854775807) := fun fuel cs x h => by
  obtain ⟨p, h1, h2, h3, h4⟩ := opens_slice1 ht hc (opens_string hu) fuel cs x h
  exact ⟨p, h1, h2, h3, h4⟩

/-- A struct of four fields of one cell each. -/
theorem opens_struct4 {t : TypeId} {f0 f1 f2 f3 : Field} {α β γ δ : Type} {g0 : α → Value} {g1 : β → Value} {g2 : γ → Value} {g3 : δ → Value} {R0 : α → Prop} {R1 : β → Prop} {R2 : γ → Prop} {R3 : δ → Prop}
    (ht : P.underlying t = some (.struct #[f0, f1, f2, f3])) (hc : P.cellsOf t = 4) (o : f0.offset = 0 ∧ f1.offset = 1 ∧ f2.offset = 2 ∧ f3.offset = 3)
    (c : P.cellsOf f0.type = 1 ∧ P.cellsOf f1.type = 1 ∧ P.cellsOf f2.type = 1 ∧ P.cellsOf f3.type = 1)
    (h0 : Opens enc P w f0.type (fun y => [g0 y]) R0) (h1 : Opens enc P w f1.type (fun y => [g1 y]) R1) (h2 : Opens enc P w f2.type (fun y => [g2 y]) R2) (h3 : Opens enc P w f3.type (fun y => [g3 y]) R3) :
    Opens enc P w t (fun y : α × β × γ × δ => [g0 y.1, g1 y.2.1, g2 y.2.2.1, g3 y.2.2.2]) (fun y => R0 y.1 ∧ R1 y.2.1 ∧ R2 y.2.2.1 ∧ R3 y.2.2.2) := fun fuel cs x h => by
  obtain ⟨xs, n, _, _, hl, hxl, hf⟩ := DataW.trod_struct ht h
  rw [hc] at hl
  have e0 := hf 0 f0 rfl
  have e1 := hf 1 f1 rfl
  have e2 := hf 2 f2 rfl
  have e3 := hf 3 f3 rfl
  rw [o.1, c.1, List.getElem?_eq_getElem (by rw [hxl]; simp)] at e0
  rw [o.2.1, c.2.1, List.getElem?_eq_getElem (by rw [hxl]; simp)] at e1
  rw [o.2.2.1, c.2.2.1, List.getElem?_eq_getElem (by rw [hxl]; simp)] at e2
  rw [o.2.2.2, c.2.2.2, List.getElem?_eq_getElem (by rw [hxl]; simp)] at e3
  obtain ⟨y0, q0, r0⟩ := h0 _ _ _ e0
  obtain ⟨y1, q1, r1⟩ := h1 _ _ _ e1
  obtain ⟨y2, q2, r2⟩ := h2 _ _ _ e2
  obtain ⟨y3, q3, r3⟩ := h3 _ _ _ e3
  match cs, hl with
  | [a, b, c', d], _ =>
    simp at q0 q1 q2 q3
    subst q0
    subst q1
    subst q2
    subst q3
    exact ⟨(y0, y1, y2, y3), rfl, r0, r1, r2, r3⟩
theorem opens_val {t : TypeId} {α : Type} {f : α → Value} {R : α → Prop} {v : Value} {d : DataW H} {p : List MemPlace} (ho : Opens enc P w t (fun y => [f y]) R) (hv : ∀ y, v.cells.toList = [f y] → v = f y)
    (h : DataW.Trod enc P w 0 (fun _ => true) true t v d p) : ∃ y, v = f y ∧ R y := by
  obtain ⟨fuel, hf⟩ := h
  obtain ⟨y, h1, h2⟩ := ho _ _ _ hf
  exact ⟨y, hv y h1, h2⟩
end
end Go.Proofs.Ytonghelcfbjknaa
