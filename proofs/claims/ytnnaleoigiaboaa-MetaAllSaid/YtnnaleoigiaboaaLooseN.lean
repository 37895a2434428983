/- The places of loose sectors. -/
import Derived.Test.YtnnaleoigiaboaaDevFlush
namespace Go.Proofs.Ytnnaleoigiaboaa
open Go.ChangeShapes Go.WideShapes Go.ChangeAt Go.RowKit
set_option linter.unusedVariables false
set_option linter.unusedSimpArgs false

theorem IsDev.loose {w : World} {b sb : Nat} {l : List Sec} {c : Nat} (h : IsDev w b sb l c) (k : Nat) (s : Sec) (hs : l[k]? = some s) : w.cell? ⟨sb, k * 129 + 128, none⟩ = some (.bool s.loose) := by
  have hok := h.ok s (List.mem_of_getElem? hs)
  have r2 := devCells_range h.ok k s hs 128 1 (by omega)
  rw [h.secs.cell]
  have h3 := congrArg (fun x : List Value => x[0]?) r2
  simp only [List.getElem?_take, List.getElem?_drop, Nat.zero_lt_one, if_true, Nat.add_zero] at h3
  rw [h3]
  unfold secCells
  have h1 := hok.1
  have h2 := hok.2.1
  rw [List.getElem?_append_right (by simp; omega), List.getElem?_append_right (by simp; omega)]
  simp [h1, h2]

/-- The places ahead of k where the list says yes. -/
def looseN (bs : List Bool) (k : Nat) : List Int := ((List.range k).filter fun i => bs.getD i false).map fun (i : Nat) => (i : Int)
theorem looseN_succ (bs : List Bool) (k : Nat) : looseN bs (k + 1) = looseN bs k ++ if bs.getD k false then [(k : Int)] else [] := by
  unfold looseN
  rw [List.range_succ, List.filter_append, List.map_append]
  congr 1
  cases hb : bs.getD k false <;> simp only [List.filter_cons, hb, List.filter_nil] <;> rfl
theorem looseN_len (bs : List Bool) (k : Nat) : (looseN bs k).length ≤ k := by
  unfold looseN
  have := List.length_filter_le (fun i => bs.getD i false) (List.range k)
  simp at this ⊢; omega
theorem loose_new {P : Program} {t e : TypeId} (ht : P.underlying t = some (.slice e)) (w : World) (X : Int) (T : TypeId) :
    Src P 1 t (.slice (some ⟨w.heap.size, 0, none⟩) 1 1) 1 (ints [X]) (w.alloc (.cells #[.int .i64 X] T)) := by
  refine Src.ofSlice _ ht ⟨w.heap.size, 0, none⟩ 1 1 (ints [X]) rfl ?_ (ints_one _)
  intro j u hu
  match j, hu with
  | 0, hu => simp [ints] at hu; subst hu; simp [Addr.add]
  | j + 1, hu => simp [ints] at hu
end Go.Proofs.Ytnnaleoigiaboaa
