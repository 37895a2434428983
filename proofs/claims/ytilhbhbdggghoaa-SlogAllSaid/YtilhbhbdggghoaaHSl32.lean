/- slog: the law's own view of a log (shows). -/
import Derived.Test.YtilhbhbdggghoaaHSl29
import Derived.Test.YtilhbhbdggghoaaG1
namespace Go.Proofs.Ytilhbhbdggghoaa
open Go.ChangeShapes Go.WideShapes Go.ChangeAt Go.RowKit
set_option linter.unusedVariables false
set_option linter.unusedSimpArgs false
set_option maxRecDepth 100000

/-- A record that was appended, and the openings behind it. -/
structure Ar where
  r : Rcd
  op : Nat
def arC (a : Ar) : List Value := [.int .i64 (a.r.1 : Int), .string (toStr a.r.2), .int .i64 (a.op : Int), .bool false]
def arCs (A : List Ar) : List Value := (A.map arC).flatten
theorem arCs_at (A : List Ar) (i j : Nat) (hj : j < 4) (a : Ar) (ha : A[i]? = some a) : (arCs A)[i * 4 + j]? = (arC a)[j]? := by
  unfold arCs
  rw [flatten_at arC 4 (fun _ => rfl) A i j hj, ha]; rfl
theorem arCs_len (A : List Ar) : (arCs A).length = A.length * 4 := flatten_len arC 4 (fun _ => rfl) A
def ARow (w : World) (base : Nat) (v : Value) (A : List Ar) : Prop := w.ownsRow base 51 4 v A.length (arCs A)
theorem ARow.slice {w : World} {base : Nat} {v : Value} {A : List Ar} (h : ARow w base v A) : ∃ a cap, v = .slice a A.length cap := ownsRow_slice h
theorem ARow.keep {w w' : World} {base : Nat} {v : Value} {A : List Ar} {S : List Nat} (h : ARow w base v A) (k : Keep S w w') (hS : ∀ b, v.ownBlock = some b → b ∉ S) : ARow w' base v A := by
  refine ⟨h.1, ?_⟩
  rcases h.2 with h2 | ⟨g, cap, cur, rfl, hb, hg, r⟩
  · exact .inl h2
  · exact .inr ⟨g, cap, cur, rfl, hb, by rw [k.block g (Array.getElem?_eq_some_iff.1 hg).1 (hS g rfl)]; exact hg, r⟩
theorem ARow.lt {w : World} {base : Nat} {v : Value} {A : List Ar} (h : ARow w base v A) : ∀ b, v.ownBlock = some b → base ≤ b ∧ b < w.heap.size := World.ownsRow.lt h
theorem ARow.at_ {w : World} {base : Nat} {v : Value} {A : List Ar} (h : ARow w base v A) (hp : 0 < A.length) : ∃ g cap, v = .slice (some ⟨g, 0, none⟩) A.length cap ∧ ∀ i a, A[i]? = some a → w.cell? ⟨g, i * 4, none⟩ = some (.int .i64 (a.r.1 : Int)) ∧ w.cell? ⟨g, i * 4 + 1, none⟩ = some (.string (toStr a.r.2)) ∧ w.cell? ⟨g, i * 4 + 2, none⟩ = some (.int .i64 (a.op : Int)) ∧ w.cell? ⟨g, i * 4 + 3, none⟩ = some (.bool false) := by
  unfold ARow at h
  have h0 := h
  rcases h0.2 with ⟨_, hn⟩ | ⟨g, cap, cur, he, _⟩
  · omega
  · subst he
    refine ⟨g, cap, rfl, fun i a ha => ?_⟩
    have hi := (List.getElem?_eq_some_iff.1 ha).1
    have hc : ∀ j, j < 4 → w.cell? ⟨g, i * 4 + j, none⟩ = (arC a)[j]? := fun j hj => by
      rw [World.ownsRow.cellAt h (i * 4 + j) (by omega), arCs_at A i j hj a ha]
    exact ⟨hc 0 (by decide), hc 1 (by decide), hc 2 (by decide), hc 3 (by decide)⟩
/-- What a list of records costs, with the openings. -/
def costA (A : List Ar) : Nat := (A.map (fun a => a.r.2.length + 60 + 400 * a.op)).sum
theorem costA_ge (A : List Ar) : costR (A.map (·.r)) ≤ costA A := by
  induction A with
  | nil => exact Nat.le_refl _
  | cons a A ih =>
    have e : costR ((a :: A).map (·.r)) = a.r.2.length + 60 + costR (A.map (·.r)) := by simp [costR]
    have e2 : costA (a :: A) = a.r.2.length + 60 + 400 * a.op + costA A := by simp [costA]
    omega
theorem costA_drop (A : List Ar) (i : Nat) (a : Ar) (ha : A[i]? = some a) : costA (A.drop i) = a.r.2.length + 60 + 400 * a.op + costA (A.drop (i + 1)) := by
  obtain ⟨hi, rfl⟩ := List.getElem?_eq_some_iff.1 ha
  unfold costA
  rw [List.drop_eq_getElem_cons hi, List.map_cons, List.sum_cons]
theorem costA_le (A : List Ar) (h : ∀ a ∈ A, a.r.2.length ≤ 300 ∧ a.op ≤ 80) : costA A ≤ 40000 * A.length := by
  induction A with
  | nil => exact Nat.le_refl _
  | cons a A ih =>
    have e2 : costA (a :: A) = a.r.2.length + 60 + 400 * a.op + costA A := by simp [costA]
    have h1 := h a (by simp)
    have h2 := ih (fun x hx => h x (by simp [hx]))
    rw [e2, List.length_cons]; omega
set_option maxHeartbeats 4000000 in
theorem cost_any {w : World} (a : Ar) (ha : a.r.2.length ≤ 300 ∧ a.op ≤ 80) :
    Calls Try.prog 34 #[.agg #[.int .i64 (a.r.1 : Int), .string (toStr a.r.2), .int .i64 (a.op : Int), .bool false]] w fun e w' => e = .returned (.int .i64 ((a.r.2.length + 60 + 400 * a.op : Nat) : Int)) ∧ Keep [] w w' := by
  have hb0 := Blk.new w (arC a) 51
  have K := (Keep.refl [] w).alloc (.cells (arC a).toArray 51)
  have c1 : (w.alloc (.cells (arC a).toArray 51)).cell? ⟨w.heap.size, 1, none⟩ = some (.string (toStr a.r.2)) := hb0.cell 1
  have c2 : (w.alloc (.cells (arC a).toArray 51)).cell? ⟨w.heap.size, 2, none⟩ = some (.int .i64 (a.op : Int)) := hb0.cell 2
  have HK := Lib.hid K
  have hsz : (toStr a.r.2).size = a.r.2.length := toStr_size _
  obtain ⟨N, hN⟩ : ∃ N, N = a.r.2.length := ⟨_, rfl⟩
  obtain ⟨M, hM⟩ : ∃ M, M = a.op := ⟨_, rfl⟩
  rw [← hN] at hsz ha ⊢
  rw [← hM] at c2 ha ⊢
  unfold arC at c1 c2
  simp only [List.toArray] at c1 c2
  rw [← hM] at c1 c2
  obtain ⟨h1, h2⟩ := ha
  clear hb0 K hN
  go_enter Try.func34, Try.ntmps34
  go_wp2_with fail
  go_ret
  refine ⟨?_, by have := HK.out; unfold arC at this; exact this⟩
  first | rfl | exact congrArg (fun z => Ending.returned (Value.int .i64 z)) (by omega)
end Go.Proofs.Ytilhbhbdggghoaa
