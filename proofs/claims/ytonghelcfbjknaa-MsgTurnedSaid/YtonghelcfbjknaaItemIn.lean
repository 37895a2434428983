/- Entries that came in, opened. -/
import Derived.Test.YtonghelcfbjknaaItemEnc
namespace Go.Proofs.Ytonghelcfbjknaa
open Go.ChangeShapes Go.WideShapes Go.ChangeAt Go.RowKit
set_option linter.unusedVariables false
set_option linter.unusedSimpArgs false

def IsItems (w : World) (v : Value) : Prop := ∃ l : List It, IRd w v l ∧ l.length ≤ 9223372036854775807 ∧ ∀ y ∈ l, y.1.size ≤ 9223372036854775807 ∧ y.2.1.size ≤ 9223372036854775807
theorem items_opens {H : Type} {enc : TypeId × Value → H} {W : World} : Opens enc Try.prog W 24 itc
    (fun y => y.1.size ≤ 9223372036854775807 ∧ y.2.1.size ≤ 9223372036854775807 ∧ (Lit.int .i64 y.2.2.1).wf = true ∧ True) :=
  opens_struct4 Try.underlying24 (by kernel_rfl) (by decide) (by refine ⟨?_, ?_, ?_, ?_⟩ <;> kernel_rfl)
    (opens_string Try.underlying9) (opens_string Try.underlying9) (opens_int Try.underlying2) (opens_bool Try.underlying4)
theorem open_items {H : Type} {enc : TypeId × Value → H} {W : World} {v : Value} {d : DataW H} {p : List MemPlace} {r : Reach} {b : Nat}
    (hv : Value.okWide Try.prog W r b 25 v) (h : DataW.Trod enc Try.prog W 0 (fun _ => true) true 25 v d p) : IsItems W v := by
  obtain ⟨a0, len, cap, rfl⟩ := okWide_slice Try.underlying25 hv
  obtain ⟨⟨y, l⟩, hy, h1, h2, h3⟩ := opens_val (f := fun p : Value × List It => p.1) (opens_slice (k := 4) Try.underlying25 (by kernel_rfl) (by omega) (fun _ => rfl) items_opens) (fun y hy => by simpa [Value.cells] using hy) h
  exact ⟨l, hy ▸ h1, h2, fun y hy => ⟨(h3 y hy).1, (h3 y hy).2.1⟩⟩
theorem itCut_sizes (l : List It) (n : Nat) : ∀ y ∈ (l.take n).map itCut, y.1.size ≤ 210 ∧ y.2.1.size ≤ 210 := by
  intro y hy
  obtain ⟨z, _, rfl⟩ := List.mem_map.1 hy
  have h1 := cutStr_size z.1 50
  have h2 := cutStr_size z.2.1 210
  exact ⟨by simp only [itCut]; omega, h2⟩
theorem itCut_len (l : List It) (n : Nat) : ((l.take n).map itCut).length ≤ n := by simp; omega
end Go.Proofs.Ytonghelcfbjknaa
