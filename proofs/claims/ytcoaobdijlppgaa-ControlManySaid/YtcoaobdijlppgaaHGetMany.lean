/- Many numbers off bytes: how many, how great, and back; bytes.Equal. -/
import Derived.Test.YtcoaobdijlppgaaG5
import Derived.Test.YtcoaobdijlppgaaG2
namespace Go.Proofs.Ytcoaobdijlppgaa
open Go.ChangeShapes Go.WideShapes Go.ChangeAt Go.RowKit
set_option linter.unusedVariables false
set_option linter.unusedSimpArgs false
set_option maxRecDepth 100000

theorem get_i64 (l : List Nat) (h : ∀ c ∈ l, c < 256) : I64 (get l).1 := by
  have := getGo_facts l 0 0 (by omega) (by decide) h
  unfold get I64
  omega
theorem getMany_i64 : ∀ (m : Nat) (l : List Nat), (∀ c ∈ l, c < 256) → ∀ n ∈ (getMany l m).1, I64 n := by
  intro m
  induction m with
  | zero => intro l _ n hn; simp [getMany] at hn
  | succ m ih =>
    intro l h n hn
    unfold getMany at hn
    split at hn
    · simp at hn
    · simp only [List.mem_cons] at hn
      rcases hn with rfl | hn
      · exact get_i64 l h
      · exact ih _ (fun c hc => h c (List.mem_of_mem_drop hc)) n hn
theorem getMany_len : ∀ (m : Nat) (l : List Nat), (getMany l m).1.length ≤ m ∧ ((getMany l m).2.2 = 0 → (getMany l m).1.length = m) := by
  intro m
  induction m with
  | zero => intro l; simp [getMany]
  | succ m ih =>
    intro l
    have := ih (l.drop (get l).2.1)
    unfold getMany
    split
    · rename_i h0
      exact ⟨by simp, fun h => absurd h h0⟩
    · exact ⟨by simp; omega, fun h => by simp; exact this.2 h⟩
theorem putAll_cons' (x : Int) (l : List Int) : putAll (x :: l) = leb (zz x) ++ putAll l := by simp [putAll]
theorem getMany_put : ∀ (vs : List Int) (r : List Nat), (∀ n ∈ vs, I64 n) → getMany (putAll vs ++ r) vs.length = (vs, (putAll vs).length, 0) := by
  intro vs
  induction vs with
  | nil => intro r _; simp [getMany, putAll]
  | cons x vs ih =>
    intro r h
    have hx := h x (by simp)
    have hg := get_leb x hx.1 hx.2 (putAll vs ++ r)
    rw [putAll_cons', List.append_assoc]
    have hi := ih r (fun n hn => h n (by simp [hn]))
    simp only [List.length_cons, getMany, hg]
    rw [if_neg (by simp), List.drop_left, hi]
    simp

end Go.Proofs.Ytcoaobdijlppgaa
