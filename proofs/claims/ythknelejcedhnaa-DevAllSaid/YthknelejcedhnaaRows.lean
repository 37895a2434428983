/-
  No cell of these rows narrows 'for every input' (looked for: loops, veiled, ifaces, maps, wideKeys, modest, calm, conditions, laid).
  DERIVED. THE GIVEN ROWS OF THIS SEAT. 11 by the template 'for every input the law returns true; each argument reads behind the call as it read before'; 0 by the template 'total and deterministic' (their statements: YthknelejcedhnaaTotals.lean).
  GIVEN WITH THE SEED: the statements are not yours to turn. If you find one false, say at which input.
  Laid BY PROGRAM, IN A SANDBOX (cutbox-rows.mjs): the forced cells as the released guide's own fill.sh prints them over the translation 484a85096229b0f4… (all of the seat's roots in one cut). By AI agents, Wed Nov 11 2026. No macro, syntax, notation, axiom, sorry.
-/
import Derived.Test.YthknelejcedhnaaChecked
import GoSem.Claim
import GoSem.ClaimJoined
import GoSem.ClaimMapViews
import Derived.JoinedTies
import Derived.KernelRfl
namespace Go.Proofs.Ythknelejcedhnaa
/- THE CELL 'sum', in the pinned program and in every row, IS THE sha256 OF THE DUMP (.gsa) THAT YthknelejcedhnaaProg.lean LOADS. Nothing in Lean hashes anything: it is a label: what it is worth is what the hold of that sum in a sandbox is worth. -/
noncomputable def Try.pinned : Pinned := { name := "ythknelejcedhnaa", sum := "484a85096229b0f4b2f12164c03064390382faecc00f4468faa0f31e9546a332", checked := Try.checked }
namespace Rows
def none {H : Type} : Left H := { results := [], args := [] }

/-- 'icehouselaw2.NumMany': WHATEVER THE INPUT: true; the input reads as it did. -/
def numManySpec : ChangeSpec := { name := "numMany", fn := fun _ => fun
  | [d1, d2, d3, d4] => { results := [.lit (.bool true)], args := [d1, d2, d3, d4] }
  | _ => none }
def numManyRow : OpenClaim := { program := "ythknelejcedhnaa", sum := "484a85096229b0f4b2f12164c03064390382faecc00f4468faa0f31e9546a332", func := "icehouse/icehouselaw2.NumMany", spec := "numMany", apart := false }
def NumManySaid : Prop := numManyRow.holds Try.pinned (OpenSpec.ofChange numManySpec)

/-- ITS FALSE NEIGHBOUR: 'it returns false'. Refute it at one input. -/
def numManyWrong : ChangeSpec := { name := "numMany", fn := fun _ => fun
  | [d1, d2, d3, d4] => { results := [.lit (.bool false)], args := [d1, d2, d3, d4] }
  | _ => none }
def NumManyWrongFalsely : Prop := numManyRow.holds Try.pinned (OpenSpec.ofChange numManyWrong)

/-- 'icehouselaw2.NumAny': WHATEVER THE INPUT: true; the input reads as it did. -/
def numAnySpec : ChangeSpec := { name := "numAny", fn := fun _ => fun
  | [d] => { results := [.lit (.bool true)], args := [d] }
  | _ => none }
def numAnyRow : OpenClaim := { program := "ythknelejcedhnaa", sum := "484a85096229b0f4b2f12164c03064390382faecc00f4468faa0f31e9546a332", func := "icehouse/icehouselaw2.NumAny", spec := "numAny", apart := false }
def NumAnySaid : Prop := numAnyRow.holds Try.pinned (OpenSpec.ofChange numAnySpec)

/-- ITS FALSE NEIGHBOUR: 'it returns false'. Refute it at one input. -/
def numAnyWrong : ChangeSpec := { name := "numAny", fn := fun _ => fun
  | [d] => { results := [.lit (.bool false)], args := [d] }
  | _ => none }
def NumAnyWrongFalsely : Prop := numAnyRow.holds Try.pinned (OpenSpec.ofChange numAnyWrong)

/-- 'icehouselaw2.NumLong': WHATEVER THE INPUT: true; the input reads as it did. -/
def numLongSpec : ChangeSpec := { name := "numLong", fn := fun _ => fun
  | [d1, d2, d3] => { results := [.lit (.bool true)], args := [d1, d2, d3] }
  | _ => none }
def numLongRow : OpenClaim := { program := "ythknelejcedhnaa", sum := "484a85096229b0f4b2f12164c03064390382faecc00f4468faa0f31e9546a332", func := "icehouse/icehouselaw2.NumLong", spec := "numLong", apart := false }
def NumLongSaid : Prop := numLongRow.holds Try.pinned (OpenSpec.ofChange numLongSpec)

/-- ITS FALSE NEIGHBOUR: 'it returns false'. Refute it at one input. -/
def numLongWrong : ChangeSpec := { name := "numLong", fn := fun _ => fun
  | [d1, d2, d3] => { results := [.lit (.bool false)], args := [d1, d2, d3] }
  | _ => none }
def NumLongWrongFalsely : Prop := numLongRow.holds Try.pinned (OpenSpec.ofChange numLongWrong)

/-- 'icehouselaw2.NumCut': WHATEVER THE INPUT: true; the input reads as it did. -/
def numCutSpec : ChangeSpec := { name := "numCut", fn := fun _ => fun
  | [d1, d2, d3] => { results := [.lit (.bool true)], args := [d1, d2, d3] }
  | _ => none }
def numCutRow : OpenClaim := { program := "ythknelejcedhnaa", sum := "484a85096229b0f4b2f12164c03064390382faecc00f4468faa0f31e9546a332", func := "icehouse/icehouselaw2.NumCut", spec := "numCut", apart := false }
def NumCutSaid : Prop := numCutRow.holds Try.pinned (OpenSpec.ofChange numCutSpec)

/-- ITS FALSE NEIGHBOUR: 'it returns false'. Refute it at one input. -/
def numCutWrong : ChangeSpec := { name := "numCut", fn := fun _ => fun
  | [d1, d2, d3] => { results := [.lit (.bool false)], args := [d1, d2, d3] }
  | _ => none }
def NumCutWrongFalsely : Prop := numCutRow.holds Try.pinned (OpenSpec.ofChange numCutWrong)

/-- 'icehouselaw2.NumOne': WHATEVER THE INPUT: true; the input reads as it did. -/
def numOneSpec : ChangeSpec := { name := "numOne", fn := fun _ => fun
  | [d] => { results := [.lit (.bool true)], args := [d] }
  | _ => none }
def numOneRow : OpenClaim := { program := "ythknelejcedhnaa", sum := "484a85096229b0f4b2f12164c03064390382faecc00f4468faa0f31e9546a332", func := "icehouse/icehouselaw2.NumOne", spec := "numOne", apart := false }
def NumOneSaid : Prop := numOneRow.holds Try.pinned (OpenSpec.ofChange numOneSpec)

/-- ITS FALSE NEIGHBOUR: 'it returns false'. Refute it at one input. -/
def numOneWrong : ChangeSpec := { name := "numOne", fn := fun _ => fun
  | [d] => { results := [.lit (.bool false)], args := [d] }
  | _ => none }
def NumOneWrongFalsely : Prop := numOneRow.holds Try.pinned (OpenSpec.ofChange numOneWrong)

/-- 'icehouselaw4.DevSizes': WHATEVER THE INPUT: true; the input reads as it did. -/
def devSizesSpec : ChangeSpec := { name := "devSizes", fn := fun _ => fun
  | [d] => { results := [.lit (.bool true)], args := [d] }
  | _ => none }
def devSizesRow : OpenClaim := { program := "ythknelejcedhnaa", sum := "484a85096229b0f4b2f12164c03064390382faecc00f4468faa0f31e9546a332", func := "icehouse/icehouselaw4.DevSizes", spec := "devSizes", apart := false }
def DevSizesSaid : Prop := devSizesRow.holds Try.pinned (OpenSpec.ofChange devSizesSpec)

/-- ITS FALSE NEIGHBOUR: 'it returns false'. Refute it at one input. -/
def devSizesWrong : ChangeSpec := { name := "devSizes", fn := fun _ => fun
  | [d] => { results := [.lit (.bool false)], args := [d] }
  | _ => none }
def DevSizesWrongFalsely : Prop := devSizesRow.holds Try.pinned (OpenSpec.ofChange devSizesWrong)

/-- 'icehouselaw4.DevOwn': WHATEVER THE INPUT: true; the input reads as it did. -/
def devOwnSpec : ChangeSpec := { name := "devOwn", fn := fun _ => fun
  | [d] => { results := [.lit (.bool true)], args := [d] }
  | _ => none }
def devOwnRow : OpenClaim := { program := "ythknelejcedhnaa", sum := "484a85096229b0f4b2f12164c03064390382faecc00f4468faa0f31e9546a332", func := "icehouse/icehouselaw4.DevOwn", spec := "devOwn", apart := false }
def DevOwnSaid : Prop := devOwnRow.holds Try.pinned (OpenSpec.ofChange devOwnSpec)

/-- ITS FALSE NEIGHBOUR: 'it returns false'. Refute it at one input. -/
def devOwnWrong : ChangeSpec := { name := "devOwn", fn := fun _ => fun
  | [d] => { results := [.lit (.bool false)], args := [d] }
  | _ => none }
def DevOwnWrongFalsely : Prop := devOwnRow.holds Try.pinned (OpenSpec.ofChange devOwnWrong)

/-- 'icehouselaw4.DevAll': WHATEVER THE INPUT: true; the input reads as it did. -/
def devAllSpec : ChangeSpec := { name := "devAll", fn := fun _ => fun
  | [d1, d2] => { results := [.lit (.bool true)], args := [d1, d2] }
  | _ => none }
def devAllRow : OpenClaim := { program := "ythknelejcedhnaa", sum := "484a85096229b0f4b2f12164c03064390382faecc00f4468faa0f31e9546a332", func := "icehouse/icehouselaw4.DevAll", spec := "devAll", apart := false }
def DevAllSaid : Prop := devAllRow.holds Try.pinned (OpenSpec.ofChange devAllSpec)

/-- ITS FALSE NEIGHBOUR: 'it returns false'. Refute it at one input. -/
def devAllWrong : ChangeSpec := { name := "devAll", fn := fun _ => fun
  | [d1, d2] => { results := [.lit (.bool false)], args := [d1, d2] }
  | _ => none }
def DevAllWrongFalsely : Prop := devAllRow.holds Try.pinned (OpenSpec.ofChange devAllWrong)

/-- 'icehouselaw4.DevNone': WHATEVER THE INPUT: true; the input reads as it did. -/
def devNoneSpec : ChangeSpec := { name := "devNone", fn := fun _ => fun
  | [] => { results := [.lit (.bool true)], args := [] }
  | _ => none }
def devNoneRow : OpenClaim := { program := "ythknelejcedhnaa", sum := "484a85096229b0f4b2f12164c03064390382faecc00f4468faa0f31e9546a332", func := "icehouse/icehouselaw4.DevNone", spec := "devNone", apart := false }
def DevNoneSaid : Prop := devNoneRow.holds Try.pinned (OpenSpec.ofChange devNoneSpec)

/-- ITS FALSE NEIGHBOUR: 'it returns false'. Refute it at one input. -/
def devNoneWrong : ChangeSpec := { name := "devNone", fn := fun _ => fun
  | [] => { results := [.lit (.bool false)], args := [] }
  | _ => none }
def DevNoneWrongFalsely : Prop := devNoneRow.holds Try.pinned (OpenSpec.ofChange devNoneWrong)

/-- 'icehouselaw4.DevSectors': WHATEVER THE INPUT: true; the input reads as it did. -/
def devSectorsSpec : ChangeSpec := { name := "devSectors", fn := fun _ => fun
  | [d1, d2] => { results := [.lit (.bool true)], args := [d1, d2] }
  | _ => none }
def devSectorsRow : OpenClaim := { program := "ythknelejcedhnaa", sum := "484a85096229b0f4b2f12164c03064390382faecc00f4468faa0f31e9546a332", func := "icehouse/icehouselaw4.DevSectors", spec := "devSectors", apart := false }
def DevSectorsSaid : Prop := devSectorsRow.holds Try.pinned (OpenSpec.ofChange devSectorsSpec)

/-- ITS FALSE NEIGHBOUR: 'it returns false'. Refute it at one input. -/
def devSectorsWrong : ChangeSpec := { name := "devSectors", fn := fun _ => fun
  | [d1, d2] => { results := [.lit (.bool false)], args := [d1, d2] }
  | _ => none }
def DevSectorsWrongFalsely : Prop := devSectorsRow.holds Try.pinned (OpenSpec.ofChange devSectorsWrong)

/-- 'icehouselaw4.DevTwice': WHATEVER THE INPUT: true; the input reads as it did. -/
def devTwiceSpec : ChangeSpec := { name := "devTwice", fn := fun _ => fun
  | [d1, d2, d3] => { results := [.lit (.bool true)], args := [d1, d2, d3] }
  | _ => none }
def devTwiceRow : OpenClaim := { program := "ythknelejcedhnaa", sum := "484a85096229b0f4b2f12164c03064390382faecc00f4468faa0f31e9546a332", func := "icehouse/icehouselaw4.DevTwice", spec := "devTwice", apart := false }
def DevTwiceSaid : Prop := devTwiceRow.holds Try.pinned (OpenSpec.ofChange devTwiceSpec)

/-- ITS FALSE NEIGHBOUR: 'it returns false'. Refute it at one input. -/
def devTwiceWrong : ChangeSpec := { name := "devTwice", fn := fun _ => fun
  | [d1, d2, d3] => { results := [.lit (.bool false)], args := [d1, d2, d3] }
  | _ => none }
def DevTwiceWrongFalsely : Prop := devTwiceRow.holds Try.pinned (OpenSpec.ofChange devTwiceWrong)

/- THE SECOND FORM. 'bulk': how many values and letters a reading holds, each counted each time it is reached (what is shared counts as often as it is met; a slice's spare places count too). A statement '..UptoSaid' is the law's where the arguments, and the package variables that the reading takes, are together of bulk at most 1048576: NARROWER than '..Said'. Prove '..Said' where nothing that the law and all that it calls make is longer than what came in: it says more and counts as full. Else prove '..UptoSaid'. A law counts once. -/
mutual
def uptoBulk {H : Type} : DataW H → Nat
  | .lit (.string bytes) => bytes.length + 1
  | .lit _ => 1
  | .nil => 1
  | .ptr d => uptoBulk d + 1
  | .slice elems spare => uptoBulkAll elems + uptoBulkAll spare + 1
  | .agg parts => uptoBulkAll parts + 1
  | .iface _ d => uptoBulk d + 1
  | .map entries => uptoBulkEntries entries + 1
  | .held _ => 1
def uptoBulkAll {H : Type} : List (DataW H) → Nat
  | [] => 0
  | d :: r => uptoBulk d + uptoBulkAll r
def uptoBulkEntries {H : Type} : List (Lit × DataW H) → Nat
  | [] => 0
  | x :: r => uptoBulkEntry x + uptoBulkEntries r
def uptoBulkEntry {H : Type} : Lit × DataW H → Nat
  | (.string bytes, d) => bytes.length + uptoBulk d + 1
  | (_, d) => uptoBulk d + 1
 end
def uptoSmall : (H : Type) → List (DataW H) → Bool := fun _ ds => decide (uptoBulkAll ds ≤ 1048576)
def OpenSpec.upto (s : _root_.Go.ChangeSpec) : _root_.Go.OpenSpec := { _root_.Go.OpenSpec.ofChange s with cond := some uptoSmall }

/-- 'icehouselaw2.NumMany', WHERE WHAT IT READS IS OF BULK AT MOST 1048576: true; the input reads as it did. -/
def numManyUptoRow : OpenClaim := { program := "ythknelejcedhnaa", sum := "484a85096229b0f4b2f12164c03064390382faecc00f4468faa0f31e9546a332", func := "icehouse/icehouselaw2.NumMany", spec := "numMany", apart := false, narrowed := true }
def NumManyUptoSaid : Prop := numManyUptoRow.holds Try.pinned (OpenSpec.upto numManySpec)

/-- 'icehouselaw2.NumAny', WHERE WHAT IT READS IS OF BULK AT MOST 1048576: true; the input reads as it did. -/
def numAnyUptoRow : OpenClaim := { program := "ythknelejcedhnaa", sum := "484a85096229b0f4b2f12164c03064390382faecc00f4468faa0f31e9546a332", func := "icehouse/icehouselaw2.NumAny", spec := "numAny", apart := false, narrowed := true }
def NumAnyUptoSaid : Prop := numAnyUptoRow.holds Try.pinned (OpenSpec.upto numAnySpec)

/-- 'icehouselaw2.NumLong', WHERE WHAT IT READS IS OF BULK AT MOST 1048576: true; the input reads as it did. -/
def numLongUptoRow : OpenClaim := { program := "ythknelejcedhnaa", sum := "484a85096229b0f4b2f12164c03064390382faecc00f4468faa0f31e9546a332", func := "icehouse/icehouselaw2.NumLong", spec := "numLong", apart := false, narrowed := true }
def NumLongUptoSaid : Prop := numLongUptoRow.holds Try.pinned (OpenSpec.upto numLongSpec)

/-- 'icehouselaw2.NumCut', WHERE WHAT IT READS IS OF BULK AT MOST 1048576: true; the input reads as it did. -/
def numCutUptoRow : OpenClaim := { program := "ythknelejcedhnaa", sum := "484a85096229b0f4b2f12164c03064390382faecc00f4468faa0f31e9546a332", func := "icehouse/icehouselaw2.NumCut", spec := "numCut", apart := false, narrowed := true }
def NumCutUptoSaid : Prop := numCutUptoRow.holds Try.pinned (OpenSpec.upto numCutSpec)

/-- 'icehouselaw2.NumOne', WHERE WHAT IT READS IS OF BULK AT MOST 1048576: true; the input reads as it did. -/
def numOneUptoRow : OpenClaim := { program := "ythknelejcedhnaa", sum := "484a85096229b0f4b2f12164c03064390382faecc00f4468faa0f31e9546a332", func := "icehouse/icehouselaw2.NumOne", spec := "numOne", apart := false, narrowed := true }
def NumOneUptoSaid : Prop := numOneUptoRow.holds Try.pinned (OpenSpec.upto numOneSpec)

/-- 'icehouselaw4.DevSizes', WHERE WHAT IT READS IS OF BULK AT MOST 1048576: true; the input reads as it did. -/
def devSizesUptoRow : OpenClaim := { program := "ythknelejcedhnaa", sum := "484a85096229b0f4b2f12164c03064390382faecc00f4468faa0f31e9546a332", func := "icehouse/icehouselaw4.DevSizes", spec := "devSizes", apart := false, narrowed := true }
def DevSizesUptoSaid : Prop := devSizesUptoRow.holds Try.pinned (OpenSpec.upto devSizesSpec)

/-- 'icehouselaw4.DevOwn', WHERE WHAT IT READS IS OF BULK AT MOST 1048576: true; the input reads as it did. -/
def devOwnUptoRow : OpenClaim := { program := "ythknelejcedhnaa", sum := "484a85096229b0f4b2f12164c03064390382faecc00f4468faa0f31e9546a332", func := "icehouse/icehouselaw4.DevOwn", spec := "devOwn", apart := false, narrowed := true }
def DevOwnUptoSaid : Prop := devOwnUptoRow.holds Try.pinned (OpenSpec.upto devOwnSpec)

/-- 'icehouselaw4.DevAll', WHERE WHAT IT READS IS OF BULK AT MOST 1048576: true; the input reads as it did. -/
def devAllUptoRow : OpenClaim := { program := "ythknelejcedhnaa", sum := "484a85096229b0f4b2f12164c03064390382faecc00f4468faa0f31e9546a332", func := "icehouse/icehouselaw4.DevAll", spec := "devAll", apart := false, narrowed := true }
def DevAllUptoSaid : Prop := devAllUptoRow.holds Try.pinned (OpenSpec.upto devAllSpec)

/-- 'icehouselaw4.DevNone', WHERE WHAT IT READS IS OF BULK AT MOST 1048576: true; the input reads as it did. -/
def devNoneUptoRow : OpenClaim := { program := "ythknelejcedhnaa", sum := "484a85096229b0f4b2f12164c03064390382faecc00f4468faa0f31e9546a332", func := "icehouse/icehouselaw4.DevNone", spec := "devNone", apart := false, narrowed := true }
def DevNoneUptoSaid : Prop := devNoneUptoRow.holds Try.pinned (OpenSpec.upto devNoneSpec)

/-- 'icehouselaw4.DevSectors', WHERE WHAT IT READS IS OF BULK AT MOST 1048576: true; the input reads as it did. -/
def devSectorsUptoRow : OpenClaim := { program := "ythknelejcedhnaa", sum := "484a85096229b0f4b2f12164c03064390382faecc00f4468faa0f31e9546a332", func := "icehouse/icehouselaw4.DevSectors", spec := "devSectors", apart := false, narrowed := true }
def DevSectorsUptoSaid : Prop := devSectorsUptoRow.holds Try.pinned (OpenSpec.upto devSectorsSpec)

/-- 'icehouselaw4.DevTwice', WHERE WHAT IT READS IS OF BULK AT MOST 1048576: true; the input reads as it did. -/
def devTwiceUptoRow : OpenClaim := { program := "ythknelejcedhnaa", sum := "484a85096229b0f4b2f12164c03064390382faecc00f4468faa0f31e9546a332", func := "icehouse/icehouselaw4.DevTwice", spec := "devTwice", apart := false, narrowed := true }
def DevTwiceUptoSaid : Prop := devTwiceUptoRow.holds Try.pinned (OpenSpec.upto devTwiceSpec)

end Rows
end Go.Proofs.Ythknelejcedhnaa
