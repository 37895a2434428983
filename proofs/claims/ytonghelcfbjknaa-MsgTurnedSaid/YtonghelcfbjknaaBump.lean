/- A byte of an owned row stored anew. -/
import Derived.Test.YtonghelcfbjknaaOwn
import Derived.Test.YtonghelcfbjknaaStr
import Derived.Laws.OwnMore
import Derived.Laws.Closers25b
namespace Go.Proofs.Ytonghelcfbjknaa
open Go.ChangeShapes Go.WideShapes Go.ChangeAt Go.RowKit
set_option linter.unusedVariables false
set_option linter.unusedSimpArgs false

theorem Own.set {w : World} {base : Nat} {E : TypeId} {g n cap : Nat} {vs : List Value} (h : Own w base E (.slice (some ⟨g, 0, none⟩) n cap) vs) (hn : n = vs.length) (i : Nat) (u : Value) :
    Own (w.setCell ⟨g, i, none⟩ u) base E (.slice (some ⟨g, 0, none⟩) n cap) (vs.set i u) ∧ Keep [g] w (w.setCell ⟨g, i, none⟩ u) := by
  subst hn
  refine ⟨?_, (Keep.refl _ _).setCell (.inl (by simp)) _⟩
  unfold Own
  rw [List.length_set]
  exact (World.ownsRow.stored h i u).1
theorem Own.at_ {w : World} {base : Nat} {E : TypeId} {v : Value} {vs : List Value} (h : Own w base E v vs) (hp : 0 < vs.length) :
    ∃ g cap, v = .slice (some ⟨g, 0, none⟩) vs.length cap ∧ vs.length ≤ cap ∧ base ≤ g ∧ g < w.heap.size := by
  obtain ⟨g, cap, sp, rfl, h1, h2, h3⟩ := h.blk hp
  exact ⟨g, cap, rfl, h1, h2, h3.lt⟩
theorem Own.cell {w : World} {base : Nat} {E : TypeId} {g n cap : Nat} {vs : List Value} (h : Own w base E (.slice (some ⟨g, 0, none⟩) n cap) vs) (hn : n = vs.length) (i : Nat) (hi : i < n) :
    w.cell? ⟨g, i, none⟩ = vs[i]? ∧ w.frozen? ⟨g, i, none⟩ = false := by
  subst hn
  exact ⟨World.ownsRow.cellAt h i (by omega), World.ownsRow.frozenAt h i⟩
theorem Buf.own {w : World} {base : Nat} {E : TypeId} {v : Value} {l : List Nat} (h : Buf w base E v l) : Own w base E v (bcs l) := by
  unfold Own; rw [bcs_length]; exact h
theorem Own.buf {w : World} {base : Nat} {E : TypeId} {v : Value} {l : List Nat} (h : Own w base E v (bcs l)) : Buf w base E v l := by
  unfold Own at h; rw [bcs_length] at h; exact h
theorem bcs_set (l : List Nat) (i x : Nat) : (bcs l).set i (bc x) = bcs (l.set i x) := by simp [bcs, List.map_set]

theorem Buf.bump {w : World} {base : Nat} {E : TypeId} {g n cap : Nat} {l : List Nat} (h : Buf w base E (.slice (some ⟨g, 0, none⟩) n cap) l) (hn : n = l.length) (j : Nat) (hj : j < n) (x : Nat) :
    w.cell? ⟨g, j, none⟩ = some (.int .u8 (l.getD j 0 : Int)) ∧ w.frozen? ⟨g, j, none⟩ = false ∧ Buf (w.setCell ⟨g, j, none⟩ (.int .u8 (x : Int))) base E (.slice (some ⟨g, 0, none⟩) n cap) (l.set j x) ∧ Keep [g] w (w.setCell ⟨g, j, none⟩ (.int .u8 (x : Int))) := by
  have hc := h.own.cell (by rw [bcs_length]; exact hn) j hj
  have hs := h.own.set (by rw [bcs_length]; exact hn) j (bc x)
  refine ⟨by rw [hc.1, bcs_at _ _ (by omega)]; rfl, hc.2, ?_, hs.2⟩
  have := hs.1
  rw [bcs_set] at this
  exact this.buf
theorem set_byte (l : List Nat) (j x : Nat) (h : ∀ c ∈ l, c < 256) (hx : x < 256) : ∀ c ∈ l.set j x, c < 256 := by
  intro c hc
  rcases List.mem_or_eq_of_mem_set hc with h' | rfl
  · exact h c h'
  · exact hx
theorem Buf.at' {w : World} {base : Nat} {E : TypeId} {v : Value} {l : List Nat} (h : Buf w base E v l) (hp : 0 < l.length) :
    ∃ g cap, v = .slice (some ⟨g, 0, none⟩) l.length cap ∧ l.length ≤ cap ∧ base ≤ g ∧ g < w.heap.size := by
  have := h.own.at_ (by rw [bcs_length]; exact hp)
  rw [bcs_length] at this
  exact this
theorem tl_inj' {s t : ByteArray} (h : s.toList = t.toList) : s = t := by
  rw [ByteArray.toList_eq, ByteArray.toList_eq] at h
  apply ByteArray.ext
  exact Array.toList_inj.1 h
theorem str_ne {P Q : List Nat} (hP : ∀ c ∈ P, c < 256) (hQ : ∀ c ∈ Q, c < 256) (h : P ≠ Q) : ¬ (toStr P).toList = (toStr Q).toList := fun e => h (toStr_inj hP hQ (tl_inj' e))
theorem rv_blk {w : World} {b : Nat} {vs : List Value} {T : TypeId} {n : Nat} (h : Blk w b vs T) (hn : vs.length = n) : Rv w 1 (.slice (some ⟨b, 0, none⟩) n n) n vs := by
  subst hn
  refine ⟨by simp, _, _, rfl, Nat.le_refl _, fun _ => ⟨b, 0, rfl, h.lt, fun i hi => ?_⟩⟩
  rw [Nat.zero_add, h.cell]
end Go.Proofs.Ytonghelcfbjknaa
