/- slog: plain laws: what a full log holds; many records. -/
import Derived.Test.YtilhbhbdggghoaaG8
namespace Go.Proofs.Ytilhbhbdggghoaa
open Go.ChangeShapes Go.WideShapes Go.ChangeAt Go.RowKit
set_option linter.unusedVariables false
set_option linter.unusedSimpArgs false
set_option maxRecDepth 100000

def costR (l : List Rcd) : Nat := (l.map (fun r => r.2.length + 60)).sum
theorem costR_app (l m : List Rcd) : costR (l ++ m) = costR l + costR m := by unfold costR; simp
theorem costR_enc (l : List Rcd) : costR l = (encRs l).length + 52 * l.length := by
  induction l with
  | nil => rfl
  | cons r l ih =>
    have e : encRs (r :: l) = encR r ++ encRs l := by simp [encRs]
    have e2 : costR (r :: l) = r.2.length + 60 + costR l := by simp [costR]
    rw [e, e2, List.length_append, encR_len, ih, List.length_cons]
    omega
theorem costR_drop (l : List Rcd) (k : Nat) : costR (l.drop k) ≤ costR l := by
  conv => rhs; rw [← List.take_append_drop k l, costR_app]
  omega
/-- Neighbours are full. -/
def Tight (S : List PS) : Prop := ∀ i a b r, S[i]? = some a → S[i + 1]? = some b → b.rs.head? = some r → 370 < (encRs a.rs).length + r.2.length
theorem cost_pairs : ∀ (n : Nat) (S : List PS), S.length ≤ n → Tight S → (∀ s ∈ S, s.rs ≠ []) → 483 * (S.length / 2) ≤ costR (S.flatMap PS.rs)
  | 0, S, hn, _, _ => by
    have : S.length = 0 := by omega
    rw [this]; omega
  | n + 1, S, hn, ht, hne => by
    match S, hn, ht, hne with
    | [], _, _, _ => simp
    | [a], _, _, _ => simp
    | a :: b :: T, hn, ht, hne =>
      have ih := cost_pairs n T (by simp at hn; omega) (fun i x y r hx hy hr => ht (i + 2) x y r (by simpa using hx) (by simpa using hy) hr) (fun s hs => hne s (by simp [hs]))
      have hb := hne b (by simp)
      cases hbr : b.rs with
      | nil => exact absurd hbr hb
      | cons r R =>
        have h1 := ht 0 a b r rfl rfl (by rw [hbr]; rfl)
        have ha := hne a (by simp)
        have hal : 1 ≤ a.rs.length := List.length_pos_iff.2 ha
        have e1 : costR ((a :: b :: T).flatMap PS.rs) = costR a.rs + (costR b.rs + costR (T.flatMap PS.rs)) := by
          rw [List.flatMap_cons, List.flatMap_cons, costR_app, costR_app]
        have e2 := costR_enc a.rs
        have e3 : costR b.rs = r.2.length + 60 + costR R := by rw [hbr]; simp [costR]
        rw [e1, e2, e3]
        simp only [List.length_cons]
        omega
theorem SOk.cost {segs nx q : Nat} {S : List PS} (h : SOk segs S nx q) (hs : 3 ≤ segs) (hl : S.length = segs) : 200 * (segs - 2) < costR (S.flatMap PS.rs) := by
  have h1 := cost_pairs S.length S (Nat.le_refl _) h.tight (fun s hs => (h.ok s hs).2.2)
  rw [hl] at h1
  omega
/-- The log's records are the last ones of all; if elder ones are gone it is full. -/
structure Tail (segs : Nat) (S : List PS) (all : List Rcd) : Prop where
  tail : ∃ k, S.flatMap PS.rs = all.drop k ∧ k ≤ all.length ∧ (0 < k → S.length = segs)
theorem Tail.nil (segs : Nat) : Tail segs [] [] := ⟨0, rfl, Nat.zero_le _, fun h => absurd h (by omega)⟩
theorem Tail.app {segs nx q : Nat} {S : List PS} {all : List Rcd} (h : Tail segs S all) (hS : SOk segs S nx q) (hsg : 2 ≤ segs) (hnx : 1 ≤ nx ∧ nx < 140737488355328) (body : List Nat) (hb : Rcd.ok (nx, body)) : Tail segs (appP segs S nx body) (all ++ [(nx, body)]) := by
  obtain ⟨k, hk, hkl, hfull⟩ := h.tail
  obtain ⟨hS', j, hj, hjf, hjl⟩ := hS.app hsg hnx body hb
  have hle := hS'.len
  by_cases hjk : j = 0
  · subst hjk
    rw [List.drop_zero, hk] at hj
    refine ⟨k, ?_, by simp; omega, fun h0 => ?_⟩
    · rw [hj, List.drop_append_of_le_length hkl]
    · have := hfull h0; omega
  · have hf := hjf (by omega)
    by_cases hkj : k + j ≤ all.length
    · refine ⟨k + j, ?_, by simp; omega, fun _ => hf⟩
      rw [hj, hk, List.drop_drop, List.drop_append_of_le_length hkj]
    · refine ⟨all.length, ?_, by simp, fun _ => hf⟩
      rw [hj, hk, List.drop_drop, List.drop_of_length_le (by omega), List.drop_left]
      rfl
/-- What counts least is there. -/
theorem Tail.there {segs nx q : Nat} {S : List PS} {all : List Rcd} (h : Tail segs S all) (hS : SOk segs S nx q) (hsg : 3 ≤ segs) (i : Nat) (hi : i < all.length) (hc : costR (all.drop i) ≤ 200 * (segs - 2)) : ∃ r, all[i]? = some r ∧ r ∈ S.flatMap PS.rs := by
  obtain ⟨k, hk, hkl, hfull⟩ := h.tail
  have hki : k ≤ i := by
    apply Nat.le_of_not_lt
    intro hlt
    have h1 := hS.cost hsg (hfull (by omega))
    rw [hk] at h1
    have h2 : all.drop k = (all.drop i).drop (k - i) := by rw [List.drop_drop]; congr 1; omega
    rw [h2] at h1
    have := costR_drop (all.drop i) (k - i)
    omega
  refine ⟨all[i], List.getElem?_eq_getElem hi, ?_⟩
  rw [hk]
  have e : all[i] = (all.drop k)[i - k]'(by rw [List.length_drop]; omega) := by
    rw [List.getElem_drop]
    congr 1; omega
  rw [e]
  exact List.getElem_mem _
end Go.Proofs.Ytilhbhbdggghoaa
