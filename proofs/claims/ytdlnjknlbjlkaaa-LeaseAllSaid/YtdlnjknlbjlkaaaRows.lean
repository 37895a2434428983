/-
  No cell of these rows narrows 'for every input' (looked for: loops, veiled, ifaces, maps, wideKeys, modest, calm, conditions, laid).
  DERIVED. THE GIVEN ROWS OF THIS SEAT. 10 by the template 'for every input the law returns true; each argument reads behind the call as it read before'; 0 by the template 'total and deterministic' (their statements: YtdlnjknlbjlkaaaTotals.lean).
  GIVEN WITH THE SEED: the statements are not yours to turn. If you find one false, say at which input.
  Laid BY PROGRAM, IN A SANDBOX (cutbox-rows.mjs): the forced cells as the released guide's own fill.sh prints them over the translation 9fb6b8dfe521a539… (all of the seat's roots in one cut). By AI agents, Wed Nov 11 2026. No macro, syntax, notation, axiom, sorry.
-/
import Derived.Test.YtdlnjknlbjlkaaaChecked
import GoSem.Claim
import GoSem.ClaimJoined
import GoSem.ClaimMapViews
import Derived.JoinedTies
import Derived.KernelRfl
namespace Go.Proofs.Ytdlnjknlbjlkaaa
/- THE CELL 'sum', in the pinned program and in every row, IS THE sha256 OF THE DUMP (.gsa) THAT YtdlnjknlbjlkaaaProg.lean LOADS. Nothing in Lean hashes anything: it is a label: what it is worth is what the hold of that sum in a sandbox is worth. -/
noncomputable def Try.pinned : Pinned := { name := "ytdlnjknlbjlkaaa", sum := "9fb6b8dfe521a53927d2a0e6a233d11df6cb4cdb610d77c6658cdc754dce1197", checked := Try.checked }
namespace Rows
def none {H : Type} : Left H := { results := [], args := [] }

/-- 'icehouselaw16.ClockAll': WHATEVER THE INPUT: true; the input reads as it did. -/
def clockAllSpec : ChangeSpec := { name := "clockAll", fn := fun _ => fun
  | [d1, d2] => { results := [.lit (.bool true)], args := [d1, d2] }
  | _ => none }
def clockAllRow : OpenClaim := { program := "ytdlnjknlbjlkaaa", sum := "9fb6b8dfe521a53927d2a0e6a233d11df6cb4cdb610d77c6658cdc754dce1197", func := "icehouse/icehouselaw16.ClockAll", spec := "clockAll", apart := false }
def ClockAllSaid : Prop := clockAllRow.holds Try.pinned (OpenSpec.ofChange clockAllSpec)

/-- ITS FALSE NEIGHBOUR: 'it returns false'. Refute it at one input. -/
def clockAllWrong : ChangeSpec := { name := "clockAll", fn := fun _ => fun
  | [d1, d2] => { results := [.lit (.bool false)], args := [d1, d2] }
  | _ => none }
def ClockAllWrongFalsely : Prop := clockAllRow.holds Try.pinned (OpenSpec.ofChange clockAllWrong)

/-- 'icehouselaw16.ClockNone': WHATEVER THE INPUT: true; the input reads as it did. -/
def clockNoneSpec : ChangeSpec := { name := "clockNone", fn := fun _ => fun
  | [] => { results := [.lit (.bool true)], args := [] }
  | _ => none }
def clockNoneRow : OpenClaim := { program := "ytdlnjknlbjlkaaa", sum := "9fb6b8dfe521a53927d2a0e6a233d11df6cb4cdb610d77c6658cdc754dce1197", func := "icehouse/icehouselaw16.ClockNone", spec := "clockNone", apart := false }
def ClockNoneSaid : Prop := clockNoneRow.holds Try.pinned (OpenSpec.ofChange clockNoneSpec)

/-- ITS FALSE NEIGHBOUR: 'it returns false'. Refute it at one input. -/
def clockNoneWrong : ChangeSpec := { name := "clockNone", fn := fun _ => fun
  | [] => { results := [.lit (.bool false)], args := [] }
  | _ => none }
def ClockNoneWrongFalsely : Prop := clockNoneRow.holds Try.pinned (OpenSpec.ofChange clockNoneWrong)

/-- 'icehouselaw16.ClockParts': WHATEVER THE INPUT: true; the input reads as it did. -/
def clockPartsSpec : ChangeSpec := { name := "clockParts", fn := fun _ => fun
  | [d] => { results := [.lit (.bool true)], args := [d] }
  | _ => none }
def clockPartsRow : OpenClaim := { program := "ytdlnjknlbjlkaaa", sum := "9fb6b8dfe521a53927d2a0e6a233d11df6cb4cdb610d77c6658cdc754dce1197", func := "icehouse/icehouselaw16.ClockParts", spec := "clockParts", apart := false }
def ClockPartsSaid : Prop := clockPartsRow.holds Try.pinned (OpenSpec.ofChange clockPartsSpec)

/-- ITS FALSE NEIGHBOUR: 'it returns false'. Refute it at one input. -/
def clockPartsWrong : ChangeSpec := { name := "clockParts", fn := fun _ => fun
  | [d] => { results := [.lit (.bool false)], args := [d] }
  | _ => none }
def ClockPartsWrongFalsely : Prop := clockPartsRow.holds Try.pinned (OpenSpec.ofChange clockPartsWrong)

/-- 'icehouselaw16.ClockEnd': WHATEVER THE INPUT: true; the input reads as it did. -/
def clockEndSpec : ChangeSpec := { name := "clockEnd", fn := fun _ => fun
  | [d] => { results := [.lit (.bool true)], args := [d] }
  | _ => none }
def clockEndRow : OpenClaim := { program := "ytdlnjknlbjlkaaa", sum := "9fb6b8dfe521a53927d2a0e6a233d11df6cb4cdb610d77c6658cdc754dce1197", func := "icehouse/icehouselaw16.ClockEnd", spec := "clockEnd", apart := false }
def ClockEndSaid : Prop := clockEndRow.holds Try.pinned (OpenSpec.ofChange clockEndSpec)

/-- ITS FALSE NEIGHBOUR: 'it returns false'. Refute it at one input. -/
def clockEndWrong : ChangeSpec := { name := "clockEnd", fn := fun _ => fun
  | [d] => { results := [.lit (.bool false)], args := [d] }
  | _ => none }
def ClockEndWrongFalsely : Prop := clockEndRow.holds Try.pinned (OpenSpec.ofChange clockEndWrong)

/-- 'icehouselaw17.LeaseEnd': WHATEVER THE INPUT: true; the input reads as it did. -/
def leaseEndSpec : ChangeSpec := { name := "leaseEnd", fn := fun _ => fun
  | [d1, d2, d3] => { results := [.lit (.bool true)], args := [d1, d2, d3] }
  | _ => none }
def leaseEndRow : OpenClaim := { program := "ytdlnjknlbjlkaaa", sum := "9fb6b8dfe521a53927d2a0e6a233d11df6cb4cdb610d77c6658cdc754dce1197", func := "icehouse/icehouselaw17.LeaseEnd", spec := "leaseEnd", apart := false }
def LeaseEndSaid : Prop := leaseEndRow.holds Try.pinned (OpenSpec.ofChange leaseEndSpec)

/-- ITS FALSE NEIGHBOUR: 'it returns false'. Refute it at one input. -/
def leaseEndWrong : ChangeSpec := { name := "leaseEnd", fn := fun _ => fun
  | [d1, d2, d3] => { results := [.lit (.bool false)], args := [d1, d2, d3] }
  | _ => none }
def LeaseEndWrongFalsely : Prop := leaseEndRow.holds Try.pinned (OpenSpec.ofChange leaseEndWrong)

/-- 'icehouselaw17.LeaseShared': WHATEVER THE INPUT: true; the input reads as it did. -/
def leaseSharedSpec : ChangeSpec := { name := "leaseShared", fn := fun _ => fun
  | [d1, d2] => { results := [.lit (.bool true)], args := [d1, d2] }
  | _ => none }
def leaseSharedRow : OpenClaim := { program := "ytdlnjknlbjlkaaa", sum := "9fb6b8dfe521a53927d2a0e6a233d11df6cb4cdb610d77c6658cdc754dce1197", func := "icehouse/icehouselaw17.LeaseShared", spec := "leaseShared", apart := false }
def LeaseSharedSaid : Prop := leaseSharedRow.holds Try.pinned (OpenSpec.ofChange leaseSharedSpec)

/-- ITS FALSE NEIGHBOUR: 'it returns false'. Refute it at one input. -/
def leaseSharedWrong : ChangeSpec := { name := "leaseShared", fn := fun _ => fun
  | [d1, d2] => { results := [.lit (.bool false)], args := [d1, d2] }
  | _ => none }
def LeaseSharedWrongFalsely : Prop := leaseSharedRow.holds Try.pinned (OpenSpec.ofChange leaseSharedWrong)

/-- 'icehouselaw17.LeaseLonger': WHATEVER THE INPUT: true; the input reads as it did. -/
def leaseLongerSpec : ChangeSpec := { name := "leaseLonger", fn := fun _ => fun
  | [d1, d2, d3] => { results := [.lit (.bool true)], args := [d1, d2, d3] }
  | _ => none }
def leaseLongerRow : OpenClaim := { program := "ytdlnjknlbjlkaaa", sum := "9fb6b8dfe521a53927d2a0e6a233d11df6cb4cdb610d77c6658cdc754dce1197", func := "icehouse/icehouselaw17.LeaseLonger", spec := "leaseLonger", apart := false }
def LeaseLongerSaid : Prop := leaseLongerRow.holds Try.pinned (OpenSpec.ofChange leaseLongerSpec)

/-- ITS FALSE NEIGHBOUR: 'it returns false'. Refute it at one input. -/
def leaseLongerWrong : ChangeSpec := { name := "leaseLonger", fn := fun _ => fun
  | [d1, d2, d3] => { results := [.lit (.bool false)], args := [d1, d2, d3] }
  | _ => none }
def LeaseLongerWrongFalsely : Prop := leaseLongerRow.holds Try.pinned (OpenSpec.ofChange leaseLongerWrong)

/-- 'icehouselaw17.LeaseAll': WHATEVER THE INPUT: true; the input reads as it did. -/
def leaseAllSpec : ChangeSpec := { name := "leaseAll", fn := fun _ => fun
  | [d1, d2] => { results := [.lit (.bool true)], args := [d1, d2] }
  | _ => none }
def leaseAllRow : OpenClaim := { program := "ytdlnjknlbjlkaaa", sum := "9fb6b8dfe521a53927d2a0e6a233d11df6cb4cdb610d77c6658cdc754dce1197", func := "icehouse/icehouselaw17.LeaseAll", spec := "leaseAll", apart := false }
def LeaseAllSaid : Prop := leaseAllRow.holds Try.pinned (OpenSpec.ofChange leaseAllSpec)

/-- ITS FALSE NEIGHBOUR: 'it returns false'. Refute it at one input. -/
def leaseAllWrong : ChangeSpec := { name := "leaseAll", fn := fun _ => fun
  | [d1, d2] => { results := [.lit (.bool false)], args := [d1, d2] }
  | _ => none }
def LeaseAllWrongFalsely : Prop := leaseAllRow.holds Try.pinned (OpenSpec.ofChange leaseAllWrong)

/-- 'icehouselaw17.LeaseNone': WHATEVER THE INPUT: true; the input reads as it did. -/
def leaseNoneSpec : ChangeSpec := { name := "leaseNone", fn := fun _ => fun
  | [] => { results := [.lit (.bool true)], args := [] }
  | _ => none }
def leaseNoneRow : OpenClaim := { program := "ytdlnjknlbjlkaaa", sum := "9fb6b8dfe521a53927d2a0e6a233d11df6cb4cdb610d77c6658cdc754dce1197", func := "icehouse/icehouselaw17.LeaseNone", spec := "leaseNone", apart := false }
def LeaseNoneSaid : Prop := leaseNoneRow.holds Try.pinned (OpenSpec.ofChange leaseNoneSpec)

/-- ITS FALSE NEIGHBOUR: 'it returns false'. Refute it at one input. -/
def leaseNoneWrong : ChangeSpec := { name := "leaseNone", fn := fun _ => fun
  | [] => { results := [.lit (.bool false)], args := [] }
  | _ => none }
def LeaseNoneWrongFalsely : Prop := leaseNoneRow.holds Try.pinned (OpenSpec.ofChange leaseNoneWrong)

/-- 'icehouselaw17.LeaseElder': WHATEVER THE INPUT: true; the input reads as it did. -/
def leaseElderSpec : ChangeSpec := { name := "leaseElder", fn := fun _ => fun
  | [d1, d2] => { results := [.lit (.bool true)], args := [d1, d2] }
  | _ => none }
def leaseElderRow : OpenClaim := { program := "ytdlnjknlbjlkaaa", sum := "9fb6b8dfe521a53927d2a0e6a233d11df6cb4cdb610d77c6658cdc754dce1197", func := "icehouse/icehouselaw17.LeaseElder", spec := "leaseElder", apart := false }
def LeaseElderSaid : Prop := leaseElderRow.holds Try.pinned (OpenSpec.ofChange leaseElderSpec)

/-- ITS FALSE NEIGHBOUR: 'it returns false'. Refute it at one input. -/
def leaseElderWrong : ChangeSpec := { name := "leaseElder", fn := fun _ => fun
  | [d1, d2] => { results := [.lit (.bool false)], args := [d1, d2] }
  | _ => none }
def LeaseElderWrongFalsely : Prop := leaseElderRow.holds Try.pinned (OpenSpec.ofChange leaseElderWrong)

/- THE SECOND FORM. 'bulk': how many values and letters a reading holds, each counted each time it is reached (what is shared counts as often as it is met; a slice's spare places count too). A statement '..UptoSaid' is the law's where the arguments, and the package variables that the reading takes, are together of bulk at most 1048576: NARROWER than '..Said'. Prove '..Said' where nothing that the law and all that it calls make is longer than what came in: it says more and counts as full. Else prove '..UptoSaid'. A law counts once. -/
mutual
def uptoBulk {H : Type} : DataW H → Nat
  | .lit (.string bytes) => bytes.length + 1
  | .lit _ => 1
  | .nil => 1
  | .ptr d => uptoBulk d + 1
  | .slice elems spare => uptoBulkAll elems + uptoBulkAll spare + 1
  | .agg parts => uptoBulkAll parts + 1
  | .iface _ d => uptoBulk d + 1
  | .map entries => uptoBulkEntries entries + 1
  | .held _ => 1
def uptoBulkAll {H : Type} : List (DataW H) → Nat
  | [] => 0
  | d :: r => uptoBulk d + uptoBulkAll r
def uptoBulkEntries {H : Type} : List (Lit × DataW H) → Nat
  | [] => 0
  | x :: r => uptoBulkEntry x + uptoBulkEntries r
def uptoBulkEntry {H : Type} : Lit × DataW H → Nat
  | (.string bytes, d) => bytes.length + uptoBulk d + 1
  | (_, d) => uptoBulk d + 1
 end
def uptoSmall : (H : Type) → List (DataW H) → Bool := fun _ ds => decide (uptoBulkAll ds ≤ 1048576)
def OpenSpec.upto (s : _root_.Go.ChangeSpec) : _root_.Go.OpenSpec := { _root_.Go.OpenSpec.ofChange s with cond := some uptoSmall }

/-- 'icehouselaw16.ClockAll', WHERE WHAT IT READS IS OF BULK AT MOST 1048576: true; the input reads as it did. -/
def clockAllUptoRow : OpenClaim := { program := "ytdlnjknlbjlkaaa", sum := "9fb6b8dfe521a53927d2a0e6a233d11df6cb4cdb610d77c6658cdc754dce1197", func := "icehouse/icehouselaw16.ClockAll", spec := "clockAll", apart := false, narrowed := true }
def ClockAllUptoSaid : Prop := clockAllUptoRow.holds Try.pinned (OpenSpec.upto clockAllSpec)

/-- 'icehouselaw16.ClockNone', WHERE WHAT IT READS IS OF BULK AT MOST 1048576: true; the input reads as it did. -/
def clockNoneUptoRow : OpenClaim := { program := "ytdlnjknlbjlkaaa", sum := "9fb6b8dfe521a53927d2a0e6a233d11df6cb4cdb610d77c6658cdc754dce1197", func := "icehouse/icehouselaw16.ClockNone", spec := "clockNone", apart := false, narrowed := true }
def ClockNoneUptoSaid : Prop := clockNoneUptoRow.holds Try.pinned (OpenSpec.upto clockNoneSpec)

/-- 'icehouselaw16.ClockParts', WHERE WHAT IT READS IS OF BULK AT MOST 1048576: true; the input reads as it did. -/
def clockPartsUptoRow : OpenClaim := { program := "ytdlnjknlbjlkaaa", sum := "9fb6b8dfe521a53927d2a0e6a233d11df6cb4cdb610d77c6658cdc754dce1197", func := "icehouse/icehouselaw16.ClockParts", spec := "clockParts", apart := false, narrowed := true }
def ClockPartsUptoSaid : Prop := clockPartsUptoRow.holds Try.pinned (OpenSpec.upto clockPartsSpec)

/-- 'icehouselaw16.ClockEnd', WHERE WHAT IT READS IS OF BULK AT MOST 1048576: true; the input reads as it did. -/
def clockEndUptoRow : OpenClaim := { program := "ytdlnjknlbjlkaaa", sum := "9fb6b8dfe521a53927d2a0e6a233d11df6cb4cdb610d77c6658cdc754dce1197", func := "icehouse/icehouselaw16.ClockEnd", spec := "clockEnd", apart := false, narrowed := true }
def ClockEndUptoSaid : Prop := clockEndUptoRow.holds Try.pinned (OpenSpec.upto clockEndSpec)

/-- 'icehouselaw17.LeaseEnd', WHERE WHAT IT READS IS OF BULK AT MOST 1048576: true; the input reads as it did. -/
def leaseEndUptoRow : OpenClaim := { program := "ytdlnjknlbjlkaaa", sum := "9fb6b8dfe521a53927d2a0e6a233d11df6cb4cdb610d77c6658cdc754dce1197", func := "icehouse/icehouselaw17.LeaseEnd", spec := "leaseEnd", apart := false, narrowed := true }
def LeaseEndUptoSaid : Prop := leaseEndUptoRow.holds Try.pinned (OpenSpec.upto leaseEndSpec)

/-- 'icehouselaw17.LeaseShared', WHERE WHAT IT READS IS OF BULK AT MOST 1048576: true; the input reads as it did. -/
def leaseSharedUptoRow : OpenClaim := { program := "ytdlnjknlbjlkaaa", sum := "9fb6b8dfe521a53927d2a0e6a233d11df6cb4cdb610d77c6658cdc754dce1197", func := "icehouse/icehouselaw17.LeaseShared", spec := "leaseShared", apart := false, narrowed := true }
def LeaseSharedUptoSaid : Prop := leaseSharedUptoRow.holds Try.pinned (OpenSpec.upto leaseSharedSpec)

/-- 'icehouselaw17.LeaseLonger', WHERE WHAT IT READS IS OF BULK AT MOST 1048576: true; the input reads as it did. -/
def leaseLongerUptoRow : OpenClaim := { program := "ytdlnjknlbjlkaaa", sum := "9fb6b8dfe521a53927d2a0e6a233d11df6cb4cdb610d77c6658cdc754dce1197", func := "icehouse/icehouselaw17.LeaseLonger", spec := "leaseLonger", apart := false, narrowed := true }
def LeaseLongerUptoSaid : Prop := leaseLongerUptoRow.holds Try.pinned (OpenSpec.upto leaseLongerSpec)

/-- 'icehouselaw17.LeaseAll', WHERE WHAT IT READS IS OF BULK AT MOST 1048576: true; the input reads as it did. -/
def leaseAllUptoRow : OpenClaim := { program := "ytdlnjknlbjlkaaa", sum := "9fb6b8dfe521a53927d2a0e6a233d11df6cb4cdb610d77c6658cdc754dce1197", func := "icehouse/icehouselaw17.LeaseAll", spec := "leaseAll", apart := false, narrowed := true }
def LeaseAllUptoSaid : Prop := leaseAllUptoRow.holds Try.pinned (OpenSpec.upto leaseAllSpec)

/-- 'icehouselaw17.LeaseNone', WHERE WHAT IT READS IS OF BULK AT MOST 1048576: true; the input reads as it did. -/
def leaseNoneUptoRow : OpenClaim := { program := "ytdlnjknlbjlkaaa", sum := "9fb6b8dfe521a53927d2a0e6a233d11df6cb4cdb610d77c6658cdc754dce1197", func := "icehouse/icehouselaw17.LeaseNone", spec := "leaseNone", apart := false, narrowed := true }
def LeaseNoneUptoSaid : Prop := leaseNoneUptoRow.holds Try.pinned (OpenSpec.upto leaseNoneSpec)

/-- 'icehouselaw17.LeaseElder', WHERE WHAT IT READS IS OF BULK AT MOST 1048576: true; the input reads as it did. -/
def leaseElderUptoRow : OpenClaim := { program := "ytdlnjknlbjlkaaa", sum := "9fb6b8dfe521a53927d2a0e6a233d11df6cb4cdb610d77c6658cdc754dce1197", func := "icehouse/icehouselaw17.LeaseElder", spec := "leaseElder", apart := false, narrowed := true }
def LeaseElderUptoSaid : Prop := leaseElderUptoRow.holds Try.pinned (OpenSpec.upto leaseElderSpec)

end Rows
end Go.Proofs.Ytdlnjknlbjlkaaa
