/- Write of whatever sector, of whatever bytes; operations that came in. -/
import Derived.Test.YthknelejcedhnaaDevSame
namespace Go.Proofs.Ythknelejcedhnaa
open Go.ChangeShapes Go.WideShapes Go.ChangeAt Go.RowKit
set_option linter.unusedVariables false
set_option linter.unusedSimpArgs false

def wErr (l : List Sec) (i : Int) (m : List Nat) : Int := if i < 0 ∨ (l.length : Int) ≤ i then 4 else if 64 < m.length then 1 else 0
def wSecs (l : List Sec) (i : Int) (m : List Nat) : List Sec :=
  if i < 0 ∨ (l.length : Int) ≤ i then l else if 64 < m.length then l else l.set i.toNat ⟨over (l.getD i.toNat zeroSec).now 0 m, (l.getD i.toNat zeroSec).lasts, true⟩
def wCount (l : List Sec) (i : Int) (m : List Nat) : Nat := if i < 0 ∨ (l.length : Int) ≤ i then 0 else if 64 < m.length then 0 else 1
theorem wCount_le (l : List Sec) (i : Int) (m : List Nat) : wCount l i m ≤ 1 := by unfold wCount; split <;> (try split) <;> omega
theorem wSecs_length (l : List Sec) (i : Int) (m : List Nat) : (wSecs l i m).length = l.length := by unfold wSecs; split <;> (try split) <;> simp

theorem Write_any {w : World} {b sb : Nat} {l : List Sec} {c : Nat} (h : IsDev w b sb l c) (i : Int) (v : Value) (m : List Nat) (hv : Rd w v m) (hmb : ∀ x ∈ m, x < 256) (hc : c < 1099511627776) :
    Calls Try.prog 31 #[.pointer (some ⟨b, 0, none⟩), .int .i64 i, v] w fun e w' => e = .returned (.int .i64 (wErr l i m)) ∧ IsDev w' b sb (wSecs l i m) (c + wCount l i m) ∧ Keep [b, sb] w w' := by
  unfold wErr wSecs wCount
  by_cases h1 : i < 0 ∨ (l.length : Int) ≤ i
  · rw [if_pos h1, if_pos h1, if_pos h1]
    refine (Write_out h i v h1).mono ?_
    rintro e w' ⟨rfl, rfl⟩
    exact ⟨rfl, h, Keep.refl _ _⟩
  · rw [if_neg h1, if_neg h1, if_neg h1]
    by_cases h2 : 64 < m.length
    · rw [if_pos h2, if_pos h2, if_pos h2]
      obtain ⟨_, a, cap, rfl, _⟩ := id hv
      refine (Write_long h i a m.length cap (by omega) (by omega) h2).mono ?_
      rintro e w' ⟨rfl, rfl⟩
      exact ⟨rfl, h, Keep.refl _ _⟩
    · rw [if_neg h2, if_neg h2, if_neg h2]
      have hlt : i.toNat < l.length := by omega
      obtain ⟨s, hs, _⟩ := sec_mem hlt
      have e : l.getD i.toNat zeroSec = s := by simp [List.getD_eq_getElem?_getD, hs]
      rw [e]
      exact Write_at h i i.toNat (by omega) s hs v m hv (by omega) hmb hc
theorem refWrite_any {w : World} {B r nb fb db : Nat} {l : List Sec} {c : Nat} (h : IsRef w B r nb fb db l c) (i : Int) (v : Value) (m : List Nat) (hv : Rd w v m) (hmb : ∀ x ∈ m, x < 256) (hc : c < 1099511627776) (hB : B ≤ w.heap.size) :
    Calls Try.prog 33 #[.pointer (some ⟨r, 0, none⟩), .int .i64 i, v] w fun e w' => e = .returned (.int .i64 (wErr l i m)) ∧ IsRef w' B r nb fb db (wSecs l i m) (c + wCount l i m) ∧ Keep [r, nb, db] w w' := by
  unfold wErr wSecs wCount
  by_cases h1 : i < 0 ∨ (l.length : Int) ≤ i
  · rw [if_pos h1, if_pos h1, if_pos h1]
    refine (refWrite_out h i v h1).mono ?_
    rintro e w' ⟨rfl, rfl⟩
    exact ⟨rfl, h, Keep.refl _ _⟩
  · rw [if_neg h1, if_neg h1, if_neg h1]
    by_cases h2 : 64 < m.length
    · rw [if_pos h2, if_pos h2, if_pos h2]
      obtain ⟨_, a, cap, rfl, _⟩ := id hv
      refine (refWrite_long h i a m.length cap (by omega) (by omega) h2).mono ?_
      rintro e w' ⟨rfl, rfl⟩
      exact ⟨rfl, h, Keep.refl _ _⟩
    · rw [if_neg h2, if_neg h2, if_neg h2]
      have hlt : i.toNat < l.length := by omega
      obtain ⟨s, hs, _⟩ := sec_mem hlt
      have e : l.getD i.toNat zeroSec = s := by simp [List.getD_eq_getElem?_getD, hs]
      rw [e]
      have hi : i = (i.toNat : Int) := by omega
      rw [hi]
      simp only [Int.toNat_natCast]
      exact refWrite_in h i.toNat s hs v m hv (by omega) hmb hc hB

/-- An operation's cells. -/
abbrev OpT := Int × Int × (Value × List Nat) × (Value × List Bool)
def opCells (y : OpT) : List Value := [.int .i64 y.1, .int .i64 y.2.1, y.2.2.1.1, y.2.2.2.1]
def OpOk (w : World) (y : OpT) : Prop := (Lit.int .i64 y.1).wf = true ∧ (Lit.int .i64 y.2.1).wf = true ∧
  (Rd w y.2.2.1.1 y.2.2.1.2 ∧ y.2.2.1.2.length ≤ 9223372036854775807 ∧ ∀ c ∈ y.2.2.1.2, c < 256) ∧ (Rv w 1 y.2.2.2.1 y.2.2.2.2.length (bools y.2.2.2.2) ∧ y.2.2.2.2.length ≤ 9223372036854775807)
/-- Operations that came in. -/
def IsOps (w : World) (v : Value) : Prop := ∃ l : List OpT, Rv w 4 v l.length (l.map opCells).flatten ∧ l.length ≤ 9223372036854775807 ∧ ∀ y ∈ l, OpOk w y
theorem open_ops {H : Type} {enc : TypeId × Value → H} {W : World} {v : Value} {d : DataW H} {p : List MemPlace} {r : Reach} {b : Nat}
    (hv : Value.okWide Try.prog W r b 51 v) (h : DataW.Trod enc Try.prog W 0 (fun _ => true) true 51 v d p) : IsOps W v := by
  obtain ⟨a0, len, cap, rfl⟩ := okWide_slice Try.underlying51 hv
  have ho : Opens enc Try.prog W 56 opCells (OpOk W) :=
    opens_struct4 (g0 := Value.int .i64) (g1 := Value.int .i64) (g2 := fun p : Value × List Nat => p.1) (g3 := fun p : Value × List Bool => p.1) Try.underlying56 (by kernel_rfl) (by decide) ⟨by kernel_rfl, by kernel_rfl, by kernel_rfl, by kernel_rfl⟩
      (opens_int Try.underlying3) (opens_int Try.underlying3) (opens_bytes Try.underlying22 Try.underlying5 (by kernel_rfl)) (opens_bools Try.underlying54 Try.underlying4 (by kernel_rfl))
  obtain ⟨⟨y, l⟩, hy, h1, h2, h3⟩ := opens_val (f := fun p : Value × List OpT => p.1) (opens_slice Try.underlying51 (by kernel_rfl) (show 0 < 4 by omega) (fun _ => rfl) ho) (fun y hy => by simpa [Value.cells] using hy) h
  exact ⟨l, hy ▸ h1, h2, h3⟩
/-- The cells of operation i. -/
theorem ops_at {w : World} {v : Value} {l : List OpT} (h : Rv w 4 v l.length (l.map opCells).flatten) (i : Nat) (y : OpT) (hi : l[i]? = some y) :
    ∃ sb so cap, v = .slice (some ⟨sb, so, none⟩) l.length cap ∧ l.length ≤ cap ∧ sb < w.heap.size ∧ w.cell? ⟨sb, so + i * 4, none⟩ = some (.int .i64 y.1) ∧ w.cell? ⟨sb, so + i * 4 + 1, none⟩ = some (.int .i64 y.2.1) ∧ w.cell? ⟨sb, so + i * 4 + 2, none⟩ = some y.2.2.1.1 ∧ w.cell? ⟨sb, so + i * 4 + 3, none⟩ = some y.2.2.2.1 := by
  have hlt : i < l.length := (List.getElem?_eq_some_iff.1 hi).1
  have hfl := flatten_len opCells 4 (fun _ => rfl) l
  obtain ⟨hl, a, cap, rfl, hc, hh⟩ := h
  obtain ⟨sb, so, rfl, hs, hat⟩ := hh (by rw [hfl]; omega)
  have hf : ∀ j, j < 4 → w.cell? ⟨sb, so + (i * 4 + j), none⟩ = (opCells y)[j]? := by
    intro j hj
    rw [hat _ (by rw [hfl]; omega), flatten_at opCells 4 (fun _ => rfl) l i j hj, hi]; rfl
  exact ⟨sb, so, cap, rfl, hc, hs, hf 0 (by omega), by rw [Nat.add_assoc]; exact hf 1 (by omega), by rw [Nat.add_assoc]; exact hf 2 (by omega), by rw [Nat.add_assoc]; exact hf 3 (by omega)⟩
end Go.Proofs.Ythknelejcedhnaa
