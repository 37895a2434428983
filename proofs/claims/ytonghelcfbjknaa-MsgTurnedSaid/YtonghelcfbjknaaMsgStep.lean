/- Steps of regions that draw their order, with whole messages; rows beside a block that is written. -/
import Derived.Test.YtonghelcfbjknaaMsgLaws
import Derived.Test.YtonghelcfbjknaaMsgOpen
namespace Go.Proofs.Ytonghelcfbjknaa
open Go.ChangeShapes Go.WideShapes Go.ChangeAt Go.RowKit
set_option linter.unusedVariables false
set_option linter.unusedSimpArgs false

theorem step_load_rowg {P : Program} {w : World} {ops : Array Oper} {o : Oper} {a : Act} {K : Act → World → Prop} {Q : Exit → Act → World → Prop} {F : Prop} (ty : TypeId) (x : Operand) (ho : o.op = .load ty x)
    (g : Nat) (hx : a.eval x = .pointer (some ⟨g, 0, none⟩)) (t : TypeId) (cs : Array Value) (fr : Nat × Nat) (d : TypeDesc) (hg : w.heap[g]? = some (.cells cs t fr))
    (hu : P.underlying ty = some d) (hd : (match d with | .struct _ | .array _ _ => true | _ => false) = true) (hi : (P.info? ty).map (·.size) = some cs.size)
    (hgd : Region.wanted o (yielded ops a.tmps) = true) (h : K (a.put o.dst (.agg cs)) w) :
    if Region.wanted o (yielded ops a.tmps) = true then Oper.wp P o a w K Q else F := by
  rw [if_pos hgd]; exact wp_load_row ty x ho g hx t cs fr d hg hu hd hi h
/-- Rows beside what is written. -/
theorem MsRd.keep0 {w w' : World} {m : Ms} {vi vk vm vo : Value} {S : List Nat} (h : MsRd w m vi vk vm vo) (k : Keep S w w')
    (h1 : ∀ b, vi.ownBlock = some b → 0 < m.its.length → b ∉ S) (h2 : ∀ b, vk.ownBlock = some b → 0 < m.mks.length → b ∉ S) (h3 : ∀ b, vm.ownBlock = some b → 0 < m.mem.length → b ∉ S) (h4 : ∀ b, vo.ownBlock = some b → 0 < m.old.length → b ∉ S) : MsRd w' m vi vk vm vo :=
  ⟨Rv.keep0 h.its k (fun b hb hp => h1 b hb (by rw [ic_len] at hp; omega)), Rv.keep0 h.mks k (fun b hb hp => h2 b hb (by rw [kc_len] at hp; omega)), Rv.keep0 h.mem k (fun b hb hp => h3 b hb (by simpa using hp)), Rv.keep0 h.old k (fun b hb hp => h4 b hb (by simpa using hp))⟩
theorem MsRd.memlo {w : World} {m : Ms} {vi vk vm vo : Value} (h : MsRd w m vi vk vm vo) : (∀ b, vm.ownBlock = some b → 0 < m.mem.length → b < w.heap.size) ∧ (∀ b, vo.ownBlock = some b → 0 < m.old.length → b < w.heap.size) :=
  ⟨fun b hb hp => h.mem.lo b hb (by simpa using hp), fun b hb hp => h.old.lo b hb (by simpa using hp)⟩
/-- The cut message's rows, when its block is written: b lay behind the rows that came in, ahead of the cut's new ones. -/
theorem MsRd.cutKeep {w0 w2 w3 : World} {m : Ms} {vi vk vm vo ui uk um uo : Value} {n b : Nat} (h0 : MsRd w0 m vi vk vm vo) (h : MsRd w2 (msCut m) ui uk um uo) (s : MsSep n ui uk um uo vm vo) (hb : w0.heap.size ≤ b) (hn : b < n) (k : Keep [b] w2 w3) : MsRd w3 (msCut m) ui uk um uo :=
  h.keep0 k (fun q hq _ hm => by have := s.1 q hq; simp at hm; omega) (fun q hq _ hm => by have := s.2.1 q hq; simp at hm; omega)
    (fun q hq hp hm => by have := h0.memlo.1 q (s.2.2.1 ▸ hq) (by have : (msCut m).mem.length = (m.mem.take 7).length := rfl; rw [this] at hp; simp at hp; omega); simp at hm; omega)
    (fun q hq hp hm => by have := h0.memlo.2 q (s.2.2.2 ▸ hq) (by have : (msCut m).old.length = (m.old.take 7).length := rfl; rw [this] at hp; simp at hp; omega); simp at hm; omega)
end Go.Proofs.Ytonghelcfbjknaa
