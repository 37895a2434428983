/-
  No cell of these rows narrows 'for every input' (looked for: loops, veiled, ifaces, maps, wideKeys, modest, calm, conditions, laid).
  DERIVED. THE GIVEN ROWS OF THIS SEAT. 5 by the template 'for every input the law returns true; each argument reads behind the call as it read before'; 0 by the template 'total and deterministic' (their statements: YtcoaobdijlppgaaTotals.lean).
  GIVEN WITH THE SEED: the statements are not yours to turn. If you find one false, say at which input.
  Laid BY PROGRAM, IN A SANDBOX (cutbox-rows.mjs): the forced cells as the released guide's own fill.sh prints them over the translation 05d005ff3a0946e7… (all of the seat's roots in one cut). By AI agents, Wed Nov 11 2026. No macro, syntax, notation, axiom, sorry.
-/
import Derived.Test.YtcoaobdijlppgaaChecked
import GoSem.Claim
import GoSem.ClaimJoined
import GoSem.ClaimMapViews
import Derived.JoinedTies
import Derived.KernelRfl
namespace Go.Proofs.Ytcoaobdijlppgaa
/- THE CELL 'sum', in the pinned program and in every row, IS THE sha256 OF THE DUMP (.gsa) THAT YtcoaobdijlppgaaProg.lean LOADS. Nothing in Lean hashes anything: it is a label: what it is worth is what the hold of that sum in a sandbox is worth. -/
noncomputable def Try.pinned : Pinned := { name := "ytcoaobdijlppgaa", sum := "05d005ff3a0946e79f591e9fbb3b5aed595ff951e326ba00ea8a5c8c8b15c25b", checked := Try.checked }
namespace Rows
def none {H : Type} : Left H := { results := [], args := [] }

/-- 'icehouselaw23.ControlPhases': WHATEVER THE INPUT: true; the input reads as it did. -/
def controlPhasesSpec : ChangeSpec := { name := "controlPhases", fn := fun _ => fun
  | [d1, d2, d3] => { results := [.lit (.bool true)], args := [d1, d2, d3] }
  | _ => none }
def controlPhasesRow : OpenClaim := { program := "ytcoaobdijlppgaa", sum := "05d005ff3a0946e79f591e9fbb3b5aed595ff951e326ba00ea8a5c8c8b15c25b", func := "icehouse/icehouselaw23.ControlPhases", spec := "controlPhases", apart := false }
def ControlPhasesSaid : Prop := controlPhasesRow.holds Try.pinned (OpenSpec.ofChange controlPhasesSpec)

/-- ITS FALSE NEIGHBOUR: 'it returns false'. Refute it at one input. -/
def controlPhasesWrong : ChangeSpec := { name := "controlPhases", fn := fun _ => fun
  | [d1, d2, d3] => { results := [.lit (.bool false)], args := [d1, d2, d3] }
  | _ => none }
def ControlPhasesWrongFalsely : Prop := controlPhasesRow.holds Try.pinned (OpenSpec.ofChange controlPhasesWrong)

/-- 'icehouselaw23.ControlMany': WHATEVER THE INPUT: true; the input reads as it did. -/
def controlManySpec : ChangeSpec := { name := "controlMany", fn := fun _ => fun
  | [d1, d2] => { results := [.lit (.bool true)], args := [d1, d2] }
  | _ => none }
def controlManyRow : OpenClaim := { program := "ytcoaobdijlppgaa", sum := "05d005ff3a0946e79f591e9fbb3b5aed595ff951e326ba00ea8a5c8c8b15c25b", func := "icehouse/icehouselaw23.ControlMany", spec := "controlMany", apart := false }
def ControlManySaid : Prop := controlManyRow.holds Try.pinned (OpenSpec.ofChange controlManySpec)

/-- ITS FALSE NEIGHBOUR: 'it returns false'. Refute it at one input. -/
def controlManyWrong : ChangeSpec := { name := "controlMany", fn := fun _ => fun
  | [d1, d2] => { results := [.lit (.bool false)], args := [d1, d2] }
  | _ => none }
def ControlManyWrongFalsely : Prop := controlManyRow.holds Try.pinned (OpenSpec.ofChange controlManyWrong)

/-- 'icehouselaw23.ControlBack': WHATEVER THE INPUT: true; the input reads as it did. -/
def controlBackSpec : ChangeSpec := { name := "controlBack", fn := fun _ => fun
  | [d1, d2] => { results := [.lit (.bool true)], args := [d1, d2] }
  | _ => none }
def controlBackRow : OpenClaim := { program := "ytcoaobdijlppgaa", sum := "05d005ff3a0946e79f591e9fbb3b5aed595ff951e326ba00ea8a5c8c8b15c25b", func := "icehouse/icehouselaw23.ControlBack", spec := "controlBack", apart := false }
def ControlBackSaid : Prop := controlBackRow.holds Try.pinned (OpenSpec.ofChange controlBackSpec)

/-- ITS FALSE NEIGHBOUR: 'it returns false'. Refute it at one input. -/
def controlBackWrong : ChangeSpec := { name := "controlBack", fn := fun _ => fun
  | [d1, d2] => { results := [.lit (.bool false)], args := [d1, d2] }
  | _ => none }
def ControlBackWrongFalsely : Prop := controlBackRow.holds Try.pinned (OpenSpec.ofChange controlBackWrong)

/-- 'icehouselaw23.ControlNone': WHATEVER THE INPUT: true; the input reads as it did. -/
def controlNoneSpec : ChangeSpec := { name := "controlNone", fn := fun _ => fun
  | [] => { results := [.lit (.bool true)], args := [] }
  | _ => none }
def controlNoneRow : OpenClaim := { program := "ytcoaobdijlppgaa", sum := "05d005ff3a0946e79f591e9fbb3b5aed595ff951e326ba00ea8a5c8c8b15c25b", func := "icehouse/icehouselaw23.ControlNone", spec := "controlNone", apart := false }
def ControlNoneSaid : Prop := controlNoneRow.holds Try.pinned (OpenSpec.ofChange controlNoneSpec)

/-- ITS FALSE NEIGHBOUR: 'it returns false'. Refute it at one input. -/
def controlNoneWrong : ChangeSpec := { name := "controlNone", fn := fun _ => fun
  | [] => { results := [.lit (.bool false)], args := [] }
  | _ => none }
def ControlNoneWrongFalsely : Prop := controlNoneRow.holds Try.pinned (OpenSpec.ofChange controlNoneWrong)

/-- 'icehouselaw23.ControlLose': WHATEVER THE INPUT: true; the input reads as it did. -/
def controlLoseSpec : ChangeSpec := { name := "controlLose", fn := fun _ => fun
  | [d1, d2, d3] => { results := [.lit (.bool true)], args := [d1, d2, d3] }
  | _ => none }
def controlLoseRow : OpenClaim := { program := "ytcoaobdijlppgaa", sum := "05d005ff3a0946e79f591e9fbb3b5aed595ff951e326ba00ea8a5c8c8b15c25b", func := "icehouse/icehouselaw23.ControlLose", spec := "controlLose", apart := false }
def ControlLoseSaid : Prop := controlLoseRow.holds Try.pinned (OpenSpec.ofChange controlLoseSpec)

/-- ITS FALSE NEIGHBOUR: 'it returns false'. Refute it at one input. -/
def controlLoseWrong : ChangeSpec := { name := "controlLose", fn := fun _ => fun
  | [d1, d2, d3] => { results := [.lit (.bool false)], args := [d1, d2, d3] }
  | _ => none }
def ControlLoseWrongFalsely : Prop := controlLoseRow.holds Try.pinned (OpenSpec.ofChange controlLoseWrong)

/- THE SECOND FORM. 'bulk': how many values and letters a reading holds, each counted each time it is reached (what is shared counts as often as it is met; a slice's spare places count too). A statement '..UptoSaid' is the law's where the arguments, and the package variables that the reading takes, are together of bulk at most 1048576: NARROWER than '..Said'. Prove '..Said' where nothing that the law and all that it calls make is longer than what came in: it says more and counts as full. Else prove '..UptoSaid'. A law counts once. -/
mutual
def uptoBulk {H : Type} : DataW H → Nat
  | .lit (.string bytes) => bytes.length + 1
  | .lit _ => 1
  | .nil => 1
  | .ptr d => uptoBulk d + 1
  | .slice elems spare => uptoBulkAll elems + uptoBulkAll spare + 1
  | .agg parts => uptoBulkAll parts + 1
  | .iface _ d => uptoBulk d + 1
  | .map entries => uptoBulkEntries entries + 1
  | .held _ => 1
def uptoBulkAll {H : Type} : List (DataW H) → Nat
  | [] => 0
  | d :: r => uptoBulk d + uptoBulkAll r
def uptoBulkEntries {H : Type} : List (Lit × DataW H) → Nat
  | [] => 0
  | x :: r => uptoBulkEntry x + uptoBulkEntries r
def uptoBulkEntry {H : Type} : Lit × DataW H → Nat
  | (.string bytes, d) => bytes.length + uptoBulk d + 1
  | (_, d) => uptoBulk d + 1
 end
def uptoSmall : (H : Type) → List (DataW H) → Bool := fun _ ds => decide (uptoBulkAll ds ≤ 1048576)
def OpenSpec.upto (s : _root_.Go.ChangeSpec) : _root_.Go.OpenSpec := { _root_.Go.OpenSpec.ofChange s with cond := some uptoSmall }

/-- 'icehouselaw23.ControlPhases', WHERE WHAT IT READS IS OF BULK AT MOST 1048576: true; the input reads as it did. -/
def controlPhasesUptoRow : OpenClaim := { program := "ytcoaobdijlppgaa", sum := "05d005ff3a0946e79f591e9fbb3b5aed595ff951e326ba00ea8a5c8c8b15c25b", func := "icehouse/icehouselaw23.ControlPhases", spec := "controlPhases", apart := false, narrowed := true }
def ControlPhasesUptoSaid : Prop := controlPhasesUptoRow.holds Try.pinned (OpenSpec.upto controlPhasesSpec)

/-- 'icehouselaw23.ControlMany', WHERE WHAT IT READS IS OF BULK AT MOST 1048576: true; the input reads as it did. -/
def controlManyUptoRow : OpenClaim := { program := "ytcoaobdijlppgaa", sum := "05d005ff3a0946e79f591e9fbb3b5aed595ff951e326ba00ea8a5c8c8b15c25b", func := "icehouse/icehouselaw23.ControlMany", spec := "controlMany", apart := false, narrowed := true }
def ControlManyUptoSaid : Prop := controlManyUptoRow.holds Try.pinned (OpenSpec.upto controlManySpec)

/-- 'icehouselaw23.ControlBack', WHERE WHAT IT READS IS OF BULK AT MOST 1048576: true; the input reads as it did. -/
def controlBackUptoRow : OpenClaim := { program := "ytcoaobdijlppgaa", sum := "05d005ff3a0946e79f591e9fbb3b5aed595ff951e326ba00ea8a5c8c8b15c25b", func := "icehouse/icehouselaw23.ControlBack", spec := "controlBack", apart := false, narrowed := true }
def ControlBackUptoSaid : Prop := controlBackUptoRow.holds Try.pinned (OpenSpec.upto controlBackSpec)

/-- 'icehouselaw23.ControlNone', WHERE WHAT IT READS IS OF BULK AT MOST 1048576: true; the input reads as it did. -/
def controlNoneUptoRow : OpenClaim := { program := "ytcoaobdijlppgaa", sum := "05d005ff3a0946e79f591e9fbb3b5aed595ff951e326ba00ea8a5c8c8b15c25b", func := "icehouse/icehouselaw23.ControlNone", spec := "controlNone", apart := false, narrowed := true }
def ControlNoneUptoSaid : Prop := controlNoneUptoRow.holds Try.pinned (OpenSpec.upto controlNoneSpec)

/-- 'icehouselaw23.ControlLose', WHERE WHAT IT READS IS OF BULK AT MOST 1048576: true; the input reads as it did. -/
def controlLoseUptoRow : OpenClaim := { program := "ytcoaobdijlppgaa", sum := "05d005ff3a0946e79f591e9fbb3b5aed595ff951e326ba00ea8a5c8c8b15c25b", func := "icehouse/icehouselaw23.ControlLose", spec := "controlLose", apart := false, narrowed := true }
def ControlLoseUptoSaid : Prop := controlLoseUptoRow.holds Try.pinned (OpenSpec.upto controlLoseSpec)

end Rows
end Go.Proofs.Ytcoaobdijlppgaa
