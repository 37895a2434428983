/- Entries off bytes. -/
import Derived.Test.YtpibpgfadkfgbaaItemEnc
import Derived.Test.YtpibpgfadkfgbaaGetMany
namespace Go.Proofs.Ytpibpgfadkfgbaa
open Go.ChangeShapes Go.WideShapes Go.ChangeAt Go.RowKit
set_option linter.unusedVariables false
set_option linter.unusedSimpArgs false

theorem getText_facts (l : List Nat) (hb : ∀ c ∈ l, c < 256) (h : (getText l).2.2 = 0) : 1 ≤ (getText l).2.1 ∧ (getText l).2.1 ≤ l.length ∧ (getText l).1.length ≤ l.length ∧ ∀ c ∈ (getText l).1, c < 256 := by
  have hf := getGo_facts l 0 0 (by omega) (by simp) hb
  have hG : get l = getGo l 0 0 := rfl
  rw [← hG] at hf
  unfold getText at h ⊢
  generalize get l = g at *
  obtain ⟨n, k, e⟩ := g
  simp only at hf h ⊢
  split
  · rename_i h0; rw [if_pos h0] at h; exact absurd h h0
  · rename_i h0
    rw [if_neg h0] at h
    split
    · rename_i h1; rw [if_pos h1] at h; simp at h
    · rename_i h1
      rw [if_neg h1] at h
      split
      · rename_i h2; rw [if_pos h2] at h; simp at h
      · rename_i h2
        have h3 : 1 ≤ k ∧ k ≤ l.length := by omega
        refine ⟨by simp only; omega, by simp only; omega, by simp only [List.length_take, List.length_drop]; omega, ?_⟩
        intro c hc
        exact hb c (List.mem_of_mem_drop (List.mem_of_mem_take hc))
theorem getMany_pos : ∀ (m : Nat) (l : List Nat), (∀ c ∈ l, c < 256) → (getMany l m).2.1 ≤ l.length := by
  intro m
  induction m with
  | zero => intro l _; simp [getMany]
  | succ m ih =>
    intro l hb
    have hf := getGo_facts l 0 0 (by omega) (by simp) hb
    have hG : get l = getGo l 0 0 := rfl
    rw [← hG] at hf
    have := ih (l.drop (get l).2.1) (fun c hc => hb c (List.mem_of_mem_drop hc))
    unfold getMany
    split
    · simp
    · simp only
      split
      · simp
      · rw [List.length_drop] at this; omega
/-- One entry off bytes, and how many it took. -/
def dec1 (b : List Nat) : Option (It × Nat) :=
  if (getText b).2.2 ≠ 0 then none else
  if (getText (b.drop (getText b).2.1)).2.2 ≠ 0 then none else
  if (getMany (b.drop ((getText b).2.1 + (getText (b.drop (getText b).2.1)).2.1)) 2).2.2 ≠ 0 then none else
  some ((toStr (getText b).1, toStr (getText (b.drop (getText b).2.1)).1, (getMany (b.drop ((getText b).2.1 + (getText (b.drop (getText b).2.1)).2.1)) 2).1.getD 0 0, (getMany (b.drop ((getText b).2.1 + (getText (b.drop (getText b).2.1)).2.1)) 2).1.getD 1 0 == 1),
    (getText b).2.1 + (getText (b.drop (getText b).2.1)).2.1 + (getMany (b.drop ((getText b).2.1 + (getText (b.drop (getText b).2.1)).2.1)) 2).2.1)
def decF : Nat → List Nat → Option (List It)
  | 0, _ => some []
  | f + 1, b => if b = [] then some [] else match dec1 b with
    | none => none
    | some (y, n) => (decF f (b.drop n)).map (y :: ·)
theorem decF_nil (f : Nat) : decF f [] = some [] := by cases f <;> rfl
def itDec (b : List Nat) : Option (List It) := match decF b.length b with
  | none => none
  | some l => if encIts l = b ∧ b ≠ [] then some l else none

/-- What is written is read. -/
theorem dec1_put (y : It) (h : mayIt y = true) (r : List Nat) : dec1 (putIt y ++ r) = some (y, (putIt y).length) := by
  obtain ⟨k, v, n, g⟩ := y
  obtain ⟨h1, h2, h3, h4, h5⟩ := may_sizes h
  simp only at h1 h2 h3 h4 h5
  have hp : putIt (k, v, n, g) ++ r = putText k ++ (putText v ++ (putAll [n, gN g] ++ r)) := by simp [putIt, putTexts, List.append_assoc]
  have e1 := getText_putText k (by omega) (putText v ++ (putAll [n, gN g] ++ r))
  have e2 := getText_putText v (by omega) (putAll [n, gN g] ++ r)
  have hi : ∀ z ∈ [n, gN g], I64 z := by intro z hz; simp at hz; rcases hz with rfl | rfl; exact ⟨by omega, by omega⟩; exact gN_i64 _
  have e3 := getMany_put [n, gN g] r hi
  rw [show [n, gN g].length = 2 from rfl] at e3
  have hd1 : (putText k ++ (putText v ++ (putAll [n, gN g] ++ r))).drop (putText k).length = putText v ++ (putAll [n, gN g] ++ r) := by rw [List.drop_left' rfl]
  have hd2 : (putText k ++ (putText v ++ (putAll [n, gN g] ++ r))).drop ((putText k).length + (putText v).length) = putAll [n, gN g] ++ r := by
    rw [← List.drop_drop, hd1, List.drop_left' rfl]
  rw [hp]
  unfold dec1
  rw [e1]
  simp only [ne_eq, not_true_eq_false, if_false, hd1]
  rw [e2]
  simp only [ne_eq, not_true_eq_false, if_false, hd2]
  rw [e3]
  simp only [ne_eq, not_true_eq_false, if_false, toStr_sb, List.getD_cons_zero, List.getD_cons_succ]
  have hg : (gN g == 1) = g := by cases g <;> rfl
  rw [hg]
  simp [putIt, putTexts, List.length_append, Nat.add_assoc]
theorem putIt_pos (y : It) : 0 < (putIt y).length := by
  unfold putIt
  rw [List.length_append]
  have := putTexts_pos y.1 y.2.1
  omega
theorem decF_put : ∀ (l : List It) (f : Nat), l.all mayIt = true → (putIts l).length ≤ f → decF f (putIts l) = some l := by
  intro l
  induction l with
  | nil => intro f _ _; exact decF_nil f
  | cons y l ih =>
    intro f h hf
    simp only [List.all_cons, Bool.and_eq_true] at h
    have e : putIts (y :: l) = putIt y ++ putIts l := by simp [putIts]
    have hp := putIt_pos y
    rw [e, List.length_append] at hf
    cases f with
    | zero => omega
    | succ f =>
      rw [e]
      have hne : ¬ (putIt y ++ putIts l = []) := by intro h0; have h1 := congrArg List.length h0; rw [List.length_append, List.length_nil] at h1; omega
      unfold decF
      rw [if_neg hne, dec1_put y h.1]
      simp only
      rw [List.drop_left' rfl, ih f h.2 (by omega)]
      rfl
theorem itDec_enc (l : List It) (h : encIts l ≠ []) : itDec (encIts l) = some l := by
  have ha : l.all mayIt = true := by
    cases hh : l.all mayIt with
    | true => rfl
    | false => exact absurd (by unfold encIts; rw [hh]; rfl) h
  have e : encIts l = putIts l := by unfold encIts; rw [if_pos ha]
  unfold itDec
  rw [e, decF_put l _ ha (Nat.le_refl _)]
  rw [e] at h
  simp only
  rw [if_pos ⟨e, h⟩]
theorem itDec_some {b : List Nat} {l : List It} (h : itDec b = some l) : encIts l = b ∧ b ≠ [] ∧ l ≠ [] := by
  unfold itDec at h
  split at h
  · cases h
  · split at h
    · rename_i h1
      cases h
      refine ⟨h1.1, h1.2, ?_⟩
      rintro rfl
      exact h1.2 h1.1.symm
    · cases h
theorem decF_step (f : Nat) (b : List Nat) (y : It) (n : Nat) (hb : b ≠ []) (h : dec1 b = some (y, n)) : decF (f + 1) b = (decF f (b.drop n)).map (y :: ·) := by
  simp only [decF]; rw [if_neg hb, h]
theorem decF_bad (f : Nat) (b : List Nat) (hb : b ≠ []) (h : dec1 b = none) : decF (f + 1) b = none := by
  simp only [decF]; rw [if_neg hb, h]
end Go.Proofs.Ytpibpgfadkfgbaa
