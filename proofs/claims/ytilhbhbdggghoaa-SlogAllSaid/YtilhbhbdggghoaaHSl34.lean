/- slog: the law SlogAll: what came in, the rows, a few contracts. -/
import Derived.Test.YtilhbhbdggghoaaHSl33
namespace Go.Proofs.Ytilhbhbdggghoaa
open Go.ChangeShapes Go.WideShapes Go.ChangeAt Go.RowKit
set_option linter.unusedVariables false
set_option linter.unusedSimpArgs false
set_option maxRecDepth 100000

theorem Try.infoAr : (Try.prog.info? 51).map (fun i => (i.zero, i.size, i.bytes)) = some (some (.agg #[.int .i64 0, .string ByteArray.empty, .int .i64 0, .bool false]), 4, 40) := by kernel_rfl
section
variable {H : Type} {enc : TypeId × Value → H} {P : Program} {w : World}
/-- A struct of three fields of one cell each. -/
theorem opens_struct3 {t : TypeId} {f0 f1 f2 : Field} {α β γ : Type} {g0 : α → Value} {g1 : β → Value} {g2 : γ → Value} {R0 : α → Prop} {R1 : β → Prop} {R2 : γ → Prop}
    (ht : P.underlying t = some (.struct #[f0, f1, f2])) (hc : P.cellsOf t = 3) (o : f0.offset = 0 ∧ f1.offset = 1 ∧ f2.offset = 2)
    (c : P.cellsOf f0.type = 1 ∧ P.cellsOf f1.type = 1 ∧ P.cellsOf f2.type = 1)
    (h0 : Opens enc P w f0.type (fun y => [g0 y]) R0) (h1 : Opens enc P w f1.type (fun y => [g1 y]) R1) (h2 : Opens enc P w f2.type (fun y => [g2 y]) R2) :
    Opens enc P w t (fun y : α × β × γ => [g0 y.1, g1 y.2.1, g2 y.2.2]) (fun y => R0 y.1 ∧ R1 y.2.1 ∧ R2 y.2.2) := fun fuel cs x h => by
  obtain ⟨xs, n, _, _, hl, hxl, hf⟩ := DataW.trod_struct ht h
  rw [hc] at hl
  have e0 := hf 0 f0 rfl
  have e1 := hf 1 f1 rfl
  have e2 := hf 2 f2 rfl
  rw [o.1, c.1, List.getElem?_eq_getElem (by rw [hxl]; simp)] at e0
  rw [o.2.1, c.2.1, List.getElem?_eq_getElem (by rw [hxl]; simp)] at e1
  rw [o.2.2, c.2.2, List.getElem?_eq_getElem (by rw [hxl]; simp)] at e2
  obtain ⟨y0, q0, r0⟩ := h0 _ _ _ e0
  obtain ⟨y1, q1, r1⟩ := h1 _ _ _ e1
  obtain ⟨y2, q2, r2⟩ := h2 _ _ _ e2
  match cs, hl with
  | [a, b, c'], _ =>
    simp at q0 q1 q2
    subst q0
    subst q1
    subst q2
    exact ⟨(y0, y1, y2), rfl, r0, r1, r2⟩
end
/-- An operation's cells. -/
abbrev OpT6 := Int × (Value × List Nat) × (Value × List Bool)
def op6Cells (y : OpT6) : List Value := [.int .i64 y.1, y.2.1.1, y.2.2.1]
def Op6Ok (w : World) (y : OpT6) : Prop := (Lit.int .i64 y.1).wf = true ∧
  (Rd w y.2.1.1 y.2.1.2 ∧ y.2.1.2.length ≤ 9223372036854775807 ∧ ∀ c ∈ y.2.1.2, c < 256) ∧ (Rv w 1 y.2.2.1 y.2.2.2.length (bools y.2.2.2) ∧ y.2.2.2.length ≤ 9223372036854775807)
def IsOps6 (w : World) (v : Value) : Prop := ∃ l : List OpT6, Rv w 3 v l.length (l.map op6Cells).flatten ∧ l.length ≤ 9223372036854775807 ∧ ∀ y ∈ l, Op6Ok w y
theorem open_ops6 {H : Type} {enc : TypeId × Value → H} {W : World} {v : Value} {d : DataW H} {p : List MemPlace} {r : Reach} {b : Nat}
    (hv : Value.okWide Try.prog W r b 44 v) (h : DataW.Trod enc Try.prog W 0 (fun _ => true) true 44 v d p) : IsOps6 W v := by
  obtain ⟨a0, len, cap, rfl⟩ := okWide_slice Try.underlying44 hv
  have ho : Opens enc Try.prog W 48 op6Cells (Op6Ok W) :=
    opens_struct3 (g0 := Value.int .i64) (g1 := fun p : Value × List Nat => p.1) (g2 := fun p : Value × List Bool => p.1) Try.underlying48 (by kernel_rfl) (by decide) ⟨by kernel_rfl, by kernel_rfl, by kernel_rfl⟩
      (opens_int Try.underlying3) (opens_bytes Try.underlying29 Try.underlying5 (by kernel_rfl)) (opens_bools Try.underlying46 Try.underlying4 (by kernel_rfl))
  obtain ⟨⟨y, l⟩, hy, h1, h2, h3⟩ := opens_val (f := fun p : Value × List OpT6 => p.1) (opens_slice Try.underlying44 (by kernel_rfl) (show 0 < 3 by omega) (fun _ => rfl) ho) (fun y hy => by simpa [Value.cells] using hy) h
  exact ⟨l, hy ▸ h1, h2, h3⟩
theorem ops6_at {w : World} {v : Value} {l : List OpT6} (h : Rv w 3 v l.length (l.map op6Cells).flatten) (i : Nat) (y : OpT6) (hi : l[i]? = some y) :
    ∃ sb so cap, v = .slice (some ⟨sb, so, none⟩) l.length cap ∧ l.length ≤ cap ∧ sb < w.heap.size ∧ w.cell? ⟨sb, so + i * 3, none⟩ = some (.int .i64 y.1) ∧ w.cell? ⟨sb, so + i * 3 + 1, none⟩ = some y.2.1.1 ∧ w.cell? ⟨sb, so + i * 3 + 2, none⟩ = some y.2.2.1 := by
  have hlt : i < l.length := (List.getElem?_eq_some_iff.1 hi).1
  have hfl := flatten_len op6Cells 3 (fun _ => rfl) l
  obtain ⟨hl, a, cap, rfl, hc, hh⟩ := h
  obtain ⟨sb, so, rfl, hs, hat⟩ := hh (by rw [hfl]; omega)
  have hf : ∀ j, j < 3 → w.cell? ⟨sb, so + (i * 3 + j), none⟩ = (op6Cells y)[j]? := by
    intro j hj
    rw [hat _ (by rw [hfl]; omega), flatten_at op6Cells 3 (fun _ => rfl) l i j hj, hi]; rfl
  exact ⟨sb, so, cap, rfl, hc, hs, hf 0 (by omega), by rw [Nat.add_assoc]; exact hf 1 (by omega), by rw [Nat.add_assoc]; exact hf 2 (by omega)⟩

theorem arCs_snoc (A : List Ar) (a : Ar) : arCs (A ++ [a]) = arCs A ++ arC a := by unfold arCs; simp
theorem ARow.app {w : World} {base : Nat} {v : Value} {A : List Ar} (a : Ar) (h : w.ownsRow base 51 4 v (A.length + 1) (arCs A ++ arC a)) : ARow w base v (A ++ [a]) := by
  unfold ARow
  rw [arCs_snoc, List.length_append]
  exact h
theorem ARow.ty {w : World} {base : Nat} {v : Value} {A : List Ar} (h : ARow w base v A) : ∀ k, v.ownBlock = some k → Ty w k 51 := by
  intro k hk
  unfold ARow at h
  rcases h.2 with ⟨rfl, _⟩ | ⟨g, cap, cur, rfl, _, hg, _⟩
  · cases hk
  · cases hk; exact ⟨_, _, hg⟩
theorem ARow.setOp {w : World} {base g cap : Nat} {A : List Ar} {a : Ar} (h : ARow w base (.slice (some ⟨g, 0, none⟩) (A.length + 1) cap) (A ++ [a])) (x : Value) (hx : x = .int .i64 ((a.op + 1 : Nat) : Int)) :
    ARow (w.setCell ⟨g, A.length * 4 + 2, none⟩ x) base (.slice (some ⟨g, 0, none⟩) (A.length + 1) cap) (A ++ [⟨a.r, a.op + 1⟩]) ∧ Keep [g] w (w.setCell ⟨g, A.length * 4 + 2, none⟩ x) := by
  subst hx
  unfold ARow at h
  have hne : (A ++ [a]).length = A.length + 1 := by simp
  rw [hne] at h
  rcases h.2 with ⟨_, hn⟩ | ⟨g', cap', cur, he, hb, hg, h1, h2, h3, h4⟩
  · omega
  · injection he with e1 e2 e3
    injection e1 with e1
    injection e1 with e1
    subst e1 e3
    have hB : Blk w g cur.toList 51 := by
      show w.heap[g]? = some (.cells cur.toList.toArray _ _)
      simpa using hg
    have hB2 := hB.set (A.length * 4 + 2) (.int .i64 ((a.op + 1 : Nat) : Int))
    refine ⟨?_, (Keep.refl [g] w).setCell (.inl (by simp)) _⟩
    unfold ARow
    rw [show (A ++ [(⟨a.r, a.op + 1⟩ : Ar)]).length = A.length + 1 by simp]
    refine ⟨by rw [arCs_len]; simp, .inr ⟨g, cap, (cur.toList.set (A.length * 4 + 2) (.int .i64 ((a.op + 1 : Nat) : Int))).toArray, rfl, hb, hB2, h1, h2, by simpa using h3, ?_⟩⟩
    have h4' : cur.toList.take ((A.length + 1) * 4) = arCs A ++ arC a := by rw [← arCs_snoc]; exact h4
    show (cur.toList.set _ _).take _ = _
    rw [List.take_set, h4', arCs_snoc, List.set_append_right _ _ (by rw [arCs_len]; omega), arCs_len]
    rw [show A.length * 4 + 2 - A.length * 4 = 2 by omega]
    rfl
theorem ARow.free {w : World} {base g n cap : Nat} {A : List Ar} (h : ARow w base (.slice (some ⟨g, 0, none⟩) n cap) A) (i : Nat) : w.frozen? ⟨g, i, none⟩ = false := by
  unfold ARow at h
  rcases h.2 with ⟨he, hn⟩ | ⟨g', cap', cur, he, hb, hg, _⟩
  · cases he
  · injection he with e1 e2 e3
    injection e1 with e1
    injection e1 with e1
    subst e1
    have hB : Blk w g cur.toList 51 := by
      show w.heap[g]? = some (.cells cur.toList.toArray _ _)
      simpa using hg
    exact hB.free i
theorem srcAr {P : Program} {t e : TypeId} (w : World) (a : Ar) (hop : a.op = 0) (ht : P.underlying t = some (.slice e)) (b : Nat) (hb : b = w.heap.size) (p : Int) (hp : p = (a.r.1 : Int)) (T : TypeId) (fr : Nat × Nat) :
    Src P 4 t (.slice (some ⟨b, 0, none⟩) 1 1) 1 (arC a) (w.alloc (.cells #[.int .i64 p, .string (toStr a.r.2), .int .i64 0, .bool false] T fr)) := by
  subst hb hp
  refine Src.ofSlice _ ht ⟨w.heap.size, 0, none⟩ 1 1 (arC a) rfl (fun j x hj => ?_) (fun u hu => ?_)
  · rw [Addr.add_lit, Nat.zero_add, World.cell?_alloc_mark]
    unfold arC at hj
    rw [hop] at hj
    simpa using hj
  · unfold arC at hu
    simp only [List.mem_cons, List.not_mem_nil, or_false] at hu
    rcases hu with rfl | rfl | rfl | rfl <;> rfl
set_option maxHeartbeats 4000000 in
theorem append_bad {w : World} (lb : Nat) (a : Option Addr) (n c : Nat) (h : n < 1 ∨ 300 < n) :
    Calls Try.prog 11 #[.pointer (some ⟨lb, 0, none⟩), .slice a n c] w fun e w' => e = .returned (.tuple #[.int .i64 0, .int .i64 1]) ∧ Keep [] w w' := by
  rcases h with h | h
  · obtain rfl : n = 0 := by omega
    go_enter Try.func11, Try.ntmps11
    go_wp2_with fail
    go_ret2
    exact ⟨rfl, Keep.refl _ _⟩
  · have q1 : decide ((n : Int) < 1) = false := decide_eq_false (by omega)
    have q1' : decide (n < 1) = false := decide_eq_false (by omega)
    have q2 : decide ((n : Int) > 300) = true := decide_eq_true (by omega)
    have q2' : decide (300 < n) = true := decide_eq_true h
    go_enter Try.func11, Try.ntmps11
    go_wp2_with fail
    go_ret2
    exact ⟨rfl, Keep.refl _ _⟩
theorem Tail.last {segs nx q : Nat} {S : List PS} {all : List Rcd} (h : Tail segs S all) (hS : SOk segs S nx q) (hsg : 1 ≤ segs) (hne : all ≠ []) (r : Rcd) (hr : all.getLast? = some r) : r ∈ S.flatMap PS.rs := by
  obtain ⟨k, hk, hkl, hfull⟩ := h.tail
  have hkn : k < all.length := by
    apply Nat.lt_of_le_of_ne hkl
    rintro rfl
    rw [List.drop_length] at hk
    have hpos : 0 < all.length := List.length_pos_iff.2 hne
    have hlen := hfull hpos
    cases S with
    | nil => simp at hlen; omega
    | cons s S =>
      rw [List.flatMap_cons, List.append_eq_nil_iff] at hk
      exact (hS.ok s (by simp)).2.2 hk.1
  rw [hk]
  obtain ⟨A, rfl⟩ := List.getLast?_eq_some_iff.1 hr
  rw [List.drop_append_of_le_length (by simp at hkn; omega)]
  simp
end Go.Proofs.Ytilhbhbdggghoaa
