/-
  No cell of these rows narrows 'for every input' (looked for: loops, veiled, ifaces, maps, wideKeys, modest, calm, conditions, laid).
  DERIVED. THE GIVEN ROWS OF THIS SEAT. 6 by the template 'for every input the law returns true; each argument reads behind the call as it read before'; 0 by the template 'total and deterministic' (their statements: YtonghelcfbjknaaTotals.lean).
  GIVEN WITH THE SEED: the statements are not yours to turn. If you find one false, say at which input.
  Laid BY PROGRAM, IN A SANDBOX (cutbox-rows.mjs): the forced cells as the released guide's own fill.sh prints them over the translation 258c1f6b19f23252… (all of the seat's roots in one cut). By AI agents, Wed Nov 11 2026. No macro, syntax, notation, axiom, sorry.
-/
import Derived.Test.YtonghelcfbjknaaChecked
import GoSem.Claim
import GoSem.ClaimJoined
import GoSem.ClaimMapViews
import Derived.JoinedTies
import Derived.KernelRfl
namespace Go.Proofs.Ytonghelcfbjknaa
/- THE CELL 'sum', in the pinned program and in every row, IS THE sha256 OF THE DUMP (.gsa) THAT YtonghelcfbjknaaProg.lean LOADS. Nothing in Lean hashes anything: it is a label: what it is worth is what the hold of that sum in a sandbox is worth. -/
noncomputable def Try.pinned : Pinned := { name := "ytonghelcfbjknaa", sum := "258c1f6b19f23252f4b8a690167464ffacf05f1e2f87b9516ff392640a3ee49d", checked := Try.checked }
namespace Rows
def none {H : Type} : Left H := { results := [], args := [] }

/-- 'icehouselaw19.MsgMay': WHATEVER THE INPUT: true; the input reads as it did. -/
def msgMaySpec : ChangeSpec := { name := "msgMay", fn := fun _ => fun
  | [d] => { results := [.lit (.bool true)], args := [d] }
  | _ => none }
def msgMayRow : OpenClaim := { program := "ytonghelcfbjknaa", sum := "258c1f6b19f23252f4b8a690167464ffacf05f1e2f87b9516ff392640a3ee49d", func := "icehouse/icehouselaw19.MsgMay", spec := "msgMay", apart := false }
def MsgMaySaid : Prop := msgMayRow.holds Try.pinned (OpenSpec.ofChange msgMaySpec)

/-- ITS FALSE NEIGHBOUR: 'it returns false'. Refute it at one input. -/
def msgMayWrong : ChangeSpec := { name := "msgMay", fn := fun _ => fun
  | [d] => { results := [.lit (.bool false)], args := [d] }
  | _ => none }
def MsgMayWrongFalsely : Prop := msgMayRow.holds Try.pinned (OpenSpec.ofChange msgMayWrong)

/-- 'icehouselaw19.MsgBytes': WHATEVER THE INPUT: true; the input reads as it did. -/
def msgBytesSpec : ChangeSpec := { name := "msgBytes", fn := fun _ => fun
  | [d1, d2, d3, d4] => { results := [.lit (.bool true)], args := [d1, d2, d3, d4] }
  | _ => none }
def msgBytesRow : OpenClaim := { program := "ytonghelcfbjknaa", sum := "258c1f6b19f23252f4b8a690167464ffacf05f1e2f87b9516ff392640a3ee49d", func := "icehouse/icehouselaw19.MsgBytes", spec := "msgBytes", apart := false }
def MsgBytesSaid : Prop := msgBytesRow.holds Try.pinned (OpenSpec.ofChange msgBytesSpec)

/-- ITS FALSE NEIGHBOUR: 'it returns false'. Refute it at one input. -/
def msgBytesWrong : ChangeSpec := { name := "msgBytes", fn := fun _ => fun
  | [d1, d2, d3, d4] => { results := [.lit (.bool false)], args := [d1, d2, d3, d4] }
  | _ => none }
def MsgBytesWrongFalsely : Prop := msgBytesRow.holds Try.pinned (OpenSpec.ofChange msgBytesWrong)

/-- 'icehouselaw19.MsgAny': WHATEVER THE INPUT: true; the input reads as it did. -/
def msgAnySpec : ChangeSpec := { name := "msgAny", fn := fun _ => fun
  | [d] => { results := [.lit (.bool true)], args := [d] }
  | _ => none }
def msgAnyRow : OpenClaim := { program := "ytonghelcfbjknaa", sum := "258c1f6b19f23252f4b8a690167464ffacf05f1e2f87b9516ff392640a3ee49d", func := "icehouse/icehouselaw19.MsgAny", spec := "msgAny", apart := false }
def MsgAnySaid : Prop := msgAnyRow.holds Try.pinned (OpenSpec.ofChange msgAnySpec)

/-- ITS FALSE NEIGHBOUR: 'it returns false'. Refute it at one input. -/
def msgAnyWrong : ChangeSpec := { name := "msgAny", fn := fun _ => fun
  | [d] => { results := [.lit (.bool false)], args := [d] }
  | _ => none }
def MsgAnyWrongFalsely : Prop := msgAnyRow.holds Try.pinned (OpenSpec.ofChange msgAnyWrong)

/-- 'icehouselaw19.MsgEq': WHATEVER THE INPUT: true; the input reads as it did. -/
def msgEqSpec : ChangeSpec := { name := "msgEq", fn := fun _ => fun
  | [d1, d2] => { results := [.lit (.bool true)], args := [d1, d2] }
  | _ => none }
def msgEqRow : OpenClaim := { program := "ytonghelcfbjknaa", sum := "258c1f6b19f23252f4b8a690167464ffacf05f1e2f87b9516ff392640a3ee49d", func := "icehouse/icehouselaw19.MsgEq", spec := "msgEq", apart := false }
def MsgEqSaid : Prop := msgEqRow.holds Try.pinned (OpenSpec.ofChange msgEqSpec)

/-- ITS FALSE NEIGHBOUR: 'it returns false'. Refute it at one input. -/
def msgEqWrong : ChangeSpec := { name := "msgEq", fn := fun _ => fun
  | [d1, d2] => { results := [.lit (.bool false)], args := [d1, d2] }
  | _ => none }
def MsgEqWrongFalsely : Prop := msgEqRow.holds Try.pinned (OpenSpec.ofChange msgEqWrong)

/-- 'icehouselaw19.MsgTurned': WHATEVER THE INPUT: true; the input reads as it did. -/
def msgTurnedSpec : ChangeSpec := { name := "msgTurned", fn := fun _ => fun
  | [d1, d2] => { results := [.lit (.bool true)], args := [d1, d2] }
  | _ => none }
def msgTurnedRow : OpenClaim := { program := "ytonghelcfbjknaa", sum := "258c1f6b19f23252f4b8a690167464ffacf05f1e2f87b9516ff392640a3ee49d", func := "icehouse/icehouselaw19.MsgTurned", spec := "msgTurned", apart := false }
def MsgTurnedSaid : Prop := msgTurnedRow.holds Try.pinned (OpenSpec.ofChange msgTurnedSpec)

/-- ITS FALSE NEIGHBOUR: 'it returns false'. Refute it at one input. -/
def msgTurnedWrong : ChangeSpec := { name := "msgTurned", fn := fun _ => fun
  | [d1, d2] => { results := [.lit (.bool false)], args := [d1, d2] }
  | _ => none }
def MsgTurnedWrongFalsely : Prop := msgTurnedRow.holds Try.pinned (OpenSpec.ofChange msgTurnedWrong)

/-- 'icehouselaw19.MsgSmall': WHATEVER THE INPUT: true; the input reads as it did. -/
def msgSmallSpec : ChangeSpec := { name := "msgSmall", fn := fun _ => fun
  | [d1, d2, d3] => { results := [.lit (.bool true)], args := [d1, d2, d3] }
  | _ => none }
def msgSmallRow : OpenClaim := { program := "ytonghelcfbjknaa", sum := "258c1f6b19f23252f4b8a690167464ffacf05f1e2f87b9516ff392640a3ee49d", func := "icehouse/icehouselaw19.MsgSmall", spec := "msgSmall", apart := false }
def MsgSmallSaid : Prop := msgSmallRow.holds Try.pinned (OpenSpec.ofChange msgSmallSpec)

/-- ITS FALSE NEIGHBOUR: 'it returns false'. Refute it at one input. -/
def msgSmallWrong : ChangeSpec := { name := "msgSmall", fn := fun _ => fun
  | [d1, d2, d3] => { results := [.lit (.bool false)], args := [d1, d2, d3] }
  | _ => none }
def MsgSmallWrongFalsely : Prop := msgSmallRow.holds Try.pinned (OpenSpec.ofChange msgSmallWrong)

/- THE SECOND FORM. 'bulk': how many values and letters a reading holds, each counted each time it is reached (what is shared counts as often as it is met; a slice's spare places count too). A statement '..UptoSaid' is the law's where the arguments, and the package variables that the reading takes, are together of bulk at most 1048576: NARROWER than '..Said'. Prove '..Said' where nothing that the law and all that it calls make is longer than what came in: it says more and counts as full. Else prove '..UptoSaid'. A law counts once. -/
mutual
def uptoBulk {H : Type} : DataW H → Nat
  | .lit (.string bytes) => bytes.length + 1
  | .lit _ => 1
  | .nil => 1
  | .ptr d => uptoBulk d + 1
  | .slice elems spare => uptoBulkAll elems + uptoBulkAll spare + 1
  | .agg parts => uptoBulkAll parts + 1
  | .iface _ d => uptoBulk d + 1
  | .map entries => uptoBulkEntries entries + 1
  | .held _ => 1
def uptoBulkAll {H : Type} : List (DataW H) → Nat
  | [] => 0
  | d :: r => uptoBulk d + uptoBulkAll r
def uptoBulkEntries {H : Type} : List (Lit × DataW H) → Nat
  | [] => 0
  | x :: r => uptoBulkEntry x + uptoBulkEntries r
def uptoBulkEntry {H : Type} : Lit × DataW H → Nat
  | (.string bytes, d) => bytes.length + uptoBulk d + 1
  | (_, d) => uptoBulk d + 1
 end
def uptoSmall : (H : Type) → List (DataW H) → Bool := fun _ ds => decide (uptoBulkAll ds ≤ 1048576)
def OpenSpec.upto (s : _root_.Go.ChangeSpec) : _root_.Go.OpenSpec := { _root_.Go.OpenSpec.ofChange s with cond := some uptoSmall }

/-- 'icehouselaw19.MsgMay', WHERE WHAT IT READS IS OF BULK AT MOST 1048576: true; the input reads as it did. -/
def msgMayUptoRow : OpenClaim := { program := "ytonghelcfbjknaa", sum := "258c1f6b19f23252f4b8a690167464ffacf05f1e2f87b9516ff392640a3ee49d", func := "icehouse/icehouselaw19.MsgMay", spec := "msgMay", apart := false, narrowed := true }
def MsgMayUptoSaid : Prop := msgMayUptoRow.holds Try.pinned (OpenSpec.upto msgMaySpec)

/-- 'icehouselaw19.MsgBytes', WHERE WHAT IT READS IS OF BULK AT MOST 1048576: true; the input reads as it did. -/
def msgBytesUptoRow : OpenClaim := { program := "ytonghelcfbjknaa", sum := "258c1f6b19f23252f4b8a690167464ffacf05f1e2f87b9516ff392640a3ee49d", func := "icehouse/icehouselaw19.MsgBytes", spec := "msgBytes", apart := false, narrowed := true }
def MsgBytesUptoSaid : Prop := msgBytesUptoRow.holds Try.pinned (OpenSpec.upto msgBytesSpec)

/-- 'icehouselaw19.MsgAny', WHERE WHAT IT READS IS OF BULK AT MOST 1048576: true; the input reads as it did. -/
def msgAnyUptoRow : OpenClaim := { program := "ytonghelcfbjknaa", sum := "258c1f6b19f23252f4b8a690167464ffacf05f1e2f87b9516ff392640a3ee49d", func := "icehouse/icehouselaw19.MsgAny", spec := "msgAny", apart := false, narrowed := true }
def MsgAnyUptoSaid : Prop := msgAnyUptoRow.holds Try.pinned (OpenSpec.upto msgAnySpec)

/-- 'icehouselaw19.MsgEq', WHERE WHAT IT READS IS OF BULK AT MOST 1048576: true; the input reads as it did. -/
def msgEqUptoRow : OpenClaim := { program := "ytonghelcfbjknaa", sum := "258c1f6b19f23252f4b8a690167464ffacf05f1e2f87b9516ff392640a3ee49d", func := "icehouse/icehouselaw19.MsgEq", spec := "msgEq", apart := false, narrowed := true }
def MsgEqUptoSaid : Prop := msgEqUptoRow.holds Try.pinned (OpenSpec.upto msgEqSpec)

/-- 'icehouselaw19.MsgTurned', WHERE WHAT IT READS IS OF BULK AT MOST 1048576: true; the input reads as it did. -/
def msgTurnedUptoRow : OpenClaim := { program := "ytonghelcfbjknaa", sum := "258c1f6b19f23252f4b8a690167464ffacf05f1e2f87b9516ff392640a3ee49d", func := "icehouse/icehouselaw19.MsgTurned", spec := "msgTurned", apart := false, narrowed := true }
def MsgTurnedUptoSaid : Prop := msgTurnedUptoRow.holds Try.pinned (OpenSpec.upto msgTurnedSpec)

/-- 'icehouselaw19.MsgSmall', WHERE WHAT IT READS IS OF BULK AT MOST 1048576: true; the input reads as it did. -/
def msgSmallUptoRow : OpenClaim := { program := "ytonghelcfbjknaa", sum := "258c1f6b19f23252f4b8a690167464ffacf05f1e2f87b9516ff392640a3ee49d", func := "icehouse/icehouselaw19.MsgSmall", spec := "msgSmall", apart := false, narrowed := true }
def MsgSmallUptoSaid : Prop := msgSmallUptoRow.holds Try.pinned (OpenSpec.upto msgSmallSpec)

end Rows
end Go.Proofs.Ytonghelcfbjknaa
