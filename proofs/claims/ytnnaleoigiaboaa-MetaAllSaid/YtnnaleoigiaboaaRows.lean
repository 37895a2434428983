/-
  No cell of these rows narrows 'for every input' (looked for: loops, veiled, ifaces, maps, wideKeys, modest, calm, conditions, laid).
  DERIVED. THE GIVEN ROWS OF THIS SEAT. 10 by the template 'for every input the law returns true; each argument reads behind the call as it read before'; 0 by the template 'total and deterministic' (their statements: YtnnaleoigiaboaaTotals.lean).
  GIVEN WITH THE SEED: the statements are not yours to turn. If you find one false, say at which input.
  Laid BY PROGRAM, IN A SANDBOX (cutbox-rows.mjs): the forced cells as the released guide's own fill.sh prints them over the translation 878905b347a1a733… (all of the seat's roots in one cut). By AI agents, Wed Nov 11 2026. No macro, syntax, notation, axiom, sorry.
-/
import Derived.Test.YtnnaleoigiaboaaChecked
import GoSem.Claim
import GoSem.ClaimJoined
import GoSem.ClaimMapViews
import Derived.JoinedTies
import Derived.KernelRfl
namespace Go.Proofs.Ytnnaleoigiaboaa
/- THE CELL 'sum', in the pinned program and in every row, IS THE sha256 OF THE DUMP (.gsa) THAT YtnnaleoigiaboaaProg.lean LOADS. Nothing in Lean hashes anything: it is a label: what it is worth is what the hold of that sum in a sandbox is worth. -/
noncomputable def Try.pinned : Pinned := { name := "ytnnaleoigiaboaa", sum := "878905b347a1a73335364c27e2a7b43f50d90640f9b6f428ab7c3aa287dcdaa3", checked := Try.checked }
namespace Rows
def none {H : Type} : Left H := { results := [], args := [] }

/-- 'icehouselaw5.SuperSpoilt': WHATEVER THE INPUT: true; the input reads as it did. -/
def superSpoiltSpec : ChangeSpec := { name := "superSpoilt", fn := fun _ => fun
  | [d1, d2, d3, d4, d5] => { results := [.lit (.bool true)], args := [d1, d2, d3, d4, d5] }
  | _ => none }
def superSpoiltRow : OpenClaim := { program := "ytnnaleoigiaboaa", sum := "878905b347a1a73335364c27e2a7b43f50d90640f9b6f428ab7c3aa287dcdaa3", func := "icehouse/icehouselaw5.SuperSpoilt", spec := "superSpoilt", apart := false }
def SuperSpoiltSaid : Prop := superSpoiltRow.holds Try.pinned (OpenSpec.ofChange superSpoiltSpec)

/-- ITS FALSE NEIGHBOUR: 'it returns false'. Refute it at one input. -/
def superSpoiltWrong : ChangeSpec := { name := "superSpoilt", fn := fun _ => fun
  | [d1, d2, d3, d4, d5] => { results := [.lit (.bool false)], args := [d1, d2, d3, d4, d5] }
  | _ => none }
def SuperSpoiltWrongFalsely : Prop := superSpoiltRow.holds Try.pinned (OpenSpec.ofChange superSpoiltWrong)

/-- 'icehouselaw5.SuperNone': WHATEVER THE INPUT: true; the input reads as it did. -/
def superNoneSpec : ChangeSpec := { name := "superNone", fn := fun _ => fun
  | [] => { results := [.lit (.bool true)], args := [] }
  | _ => none }
def superNoneRow : OpenClaim := { program := "ytnnaleoigiaboaa", sum := "878905b347a1a73335364c27e2a7b43f50d90640f9b6f428ab7c3aa287dcdaa3", func := "icehouse/icehouselaw5.SuperNone", spec := "superNone", apart := false }
def SuperNoneSaid : Prop := superNoneRow.holds Try.pinned (OpenSpec.ofChange superNoneSpec)

/-- ITS FALSE NEIGHBOUR: 'it returns false'. Refute it at one input. -/
def superNoneWrong : ChangeSpec := { name := "superNone", fn := fun _ => fun
  | [] => { results := [.lit (.bool false)], args := [] }
  | _ => none }
def SuperNoneWrongFalsely : Prop := superNoneRow.holds Try.pinned (OpenSpec.ofChange superNoneWrong)

/-- 'icehouselaw5.SuperPlace': WHATEVER THE INPUT: true; the input reads as it did. -/
def superPlaceSpec : ChangeSpec := { name := "superPlace", fn := fun _ => fun
  | [d1, d2, d3] => { results := [.lit (.bool true)], args := [d1, d2, d3] }
  | _ => none }
def superPlaceRow : OpenClaim := { program := "ytnnaleoigiaboaa", sum := "878905b347a1a73335364c27e2a7b43f50d90640f9b6f428ab7c3aa287dcdaa3", func := "icehouse/icehouselaw5.SuperPlace", spec := "superPlace", apart := false }
def SuperPlaceSaid : Prop := superPlaceRow.holds Try.pinned (OpenSpec.ofChange superPlaceSpec)

/-- ITS FALSE NEIGHBOUR: 'it returns false'. Refute it at one input. -/
def superPlaceWrong : ChangeSpec := { name := "superPlace", fn := fun _ => fun
  | [d1, d2, d3] => { results := [.lit (.bool false)], args := [d1, d2, d3] }
  | _ => none }
def SuperPlaceWrongFalsely : Prop := superPlaceRow.holds Try.pinned (OpenSpec.ofChange superPlaceWrong)

/-- 'icehouselaw5.SuperAll': WHATEVER THE INPUT: true; the input reads as it did. -/
def superAllSpec : ChangeSpec := { name := "superAll", fn := fun _ => fun
  | [d1, d2] => { results := [.lit (.bool true)], args := [d1, d2] }
  | _ => none }
def superAllRow : OpenClaim := { program := "ytnnaleoigiaboaa", sum := "878905b347a1a73335364c27e2a7b43f50d90640f9b6f428ab7c3aa287dcdaa3", func := "icehouse/icehouselaw5.SuperAll", spec := "superAll", apart := false }
def SuperAllSaid : Prop := superAllRow.holds Try.pinned (OpenSpec.ofChange superAllSpec)

/-- ITS FALSE NEIGHBOUR: 'it returns false'. Refute it at one input. -/
def superAllWrong : ChangeSpec := { name := "superAll", fn := fun _ => fun
  | [d1, d2] => { results := [.lit (.bool false)], args := [d1, d2] }
  | _ => none }
def SuperAllWrongFalsely : Prop := superAllRow.holds Try.pinned (OpenSpec.ofChange superAllWrong)

/-- 'icehouselaw5.SuperTorn': WHATEVER THE INPUT: true; the input reads as it did. -/
def superTornSpec : ChangeSpec := { name := "superTorn", fn := fun _ => fun
  | [d1, d2, d3] => { results := [.lit (.bool true)], args := [d1, d2, d3] }
  | _ => none }
def superTornRow : OpenClaim := { program := "ytnnaleoigiaboaa", sum := "878905b347a1a73335364c27e2a7b43f50d90640f9b6f428ab7c3aa287dcdaa3", func := "icehouse/icehouselaw5.SuperTorn", spec := "superTorn", apart := false }
def SuperTornSaid : Prop := superTornRow.holds Try.pinned (OpenSpec.ofChange superTornSpec)

/-- ITS FALSE NEIGHBOUR: 'it returns false'. Refute it at one input. -/
def superTornWrong : ChangeSpec := { name := "superTorn", fn := fun _ => fun
  | [d1, d2, d3] => { results := [.lit (.bool false)], args := [d1, d2, d3] }
  | _ => none }
def SuperTornWrongFalsely : Prop := superTornRow.holds Try.pinned (OpenSpec.ofChange superTornWrong)

/-- 'icehouselaw5.SuperMany': WHATEVER THE INPUT: true; the input reads as it did. -/
def superManySpec : ChangeSpec := { name := "superMany", fn := fun _ => fun
  | [d] => { results := [.lit (.bool true)], args := [d] }
  | _ => none }
def superManyRow : OpenClaim := { program := "ytnnaleoigiaboaa", sum := "878905b347a1a73335364c27e2a7b43f50d90640f9b6f428ab7c3aa287dcdaa3", func := "icehouse/icehouselaw5.SuperMany", spec := "superMany", apart := false }
def SuperManySaid : Prop := superManyRow.holds Try.pinned (OpenSpec.ofChange superManySpec)

/-- ITS FALSE NEIGHBOUR: 'it returns false'. Refute it at one input. -/
def superManyWrong : ChangeSpec := { name := "superMany", fn := fun _ => fun
  | [d] => { results := [.lit (.bool false)], args := [d] }
  | _ => none }
def SuperManyWrongFalsely : Prop := superManyRow.holds Try.pinned (OpenSpec.ofChange superManyWrong)

/-- 'icehouselaw12.MetaAll': WHATEVER THE INPUT: true; the input reads as it did. -/
def metaAllSpec : ChangeSpec := { name := "metaAll", fn := fun _ => fun
  | [d1, d2] => { results := [.lit (.bool true)], args := [d1, d2] }
  | _ => none }
def metaAllRow : OpenClaim := { program := "ytnnaleoigiaboaa", sum := "878905b347a1a73335364c27e2a7b43f50d90640f9b6f428ab7c3aa287dcdaa3", func := "icehouse/icehouselaw12.MetaAll", spec := "metaAll", apart := false }
def MetaAllSaid : Prop := metaAllRow.holds Try.pinned (OpenSpec.ofChange metaAllSpec)

/-- ITS FALSE NEIGHBOUR: 'it returns false'. Refute it at one input. -/
def metaAllWrong : ChangeSpec := { name := "metaAll", fn := fun _ => fun
  | [d1, d2] => { results := [.lit (.bool false)], args := [d1, d2] }
  | _ => none }
def MetaAllWrongFalsely : Prop := metaAllRow.holds Try.pinned (OpenSpec.ofChange metaAllWrong)

/-- 'icehouselaw12.MetaNone': WHATEVER THE INPUT: true; the input reads as it did. -/
def metaNoneSpec : ChangeSpec := { name := "metaNone", fn := fun _ => fun
  | [] => { results := [.lit (.bool true)], args := [] }
  | _ => none }
def metaNoneRow : OpenClaim := { program := "ytnnaleoigiaboaa", sum := "878905b347a1a73335364c27e2a7b43f50d90640f9b6f428ab7c3aa287dcdaa3", func := "icehouse/icehouselaw12.MetaNone", spec := "metaNone", apart := false }
def MetaNoneSaid : Prop := metaNoneRow.holds Try.pinned (OpenSpec.ofChange metaNoneSpec)

/-- ITS FALSE NEIGHBOUR: 'it returns false'. Refute it at one input. -/
def metaNoneWrong : ChangeSpec := { name := "metaNone", fn := fun _ => fun
  | [] => { results := [.lit (.bool false)], args := [] }
  | _ => none }
def MetaNoneWrongFalsely : Prop := metaNoneRow.holds Try.pinned (OpenSpec.ofChange metaNoneWrong)

/-- 'icehouselaw12.MetaFalls': WHATEVER THE INPUT: true; the input reads as it did. -/
def metaFallsSpec : ChangeSpec := { name := "metaFalls", fn := fun _ => fun
  | [d1, d2, d3, d4] => { results := [.lit (.bool true)], args := [d1, d2, d3, d4] }
  | _ => none }
def metaFallsRow : OpenClaim := { program := "ytnnaleoigiaboaa", sum := "878905b347a1a73335364c27e2a7b43f50d90640f9b6f428ab7c3aa287dcdaa3", func := "icehouse/icehouselaw12.MetaFalls", spec := "metaFalls", apart := false }
def MetaFallsSaid : Prop := metaFallsRow.holds Try.pinned (OpenSpec.ofChange metaFallsSpec)

/-- ITS FALSE NEIGHBOUR: 'it returns false'. Refute it at one input. -/
def metaFallsWrong : ChangeSpec := { name := "metaFalls", fn := fun _ => fun
  | [d1, d2, d3, d4] => { results := [.lit (.bool false)], args := [d1, d2, d3, d4] }
  | _ => none }
def MetaFallsWrongFalsely : Prop := metaFallsRow.holds Try.pinned (OpenSpec.ofChange metaFallsWrong)

/-- 'icehouselaw12.MetaMay': WHATEVER THE INPUT: true; the input reads as it did. -/
def metaMaySpec : ChangeSpec := { name := "metaMay", fn := fun _ => fun
  | [d] => { results := [.lit (.bool true)], args := [d] }
  | _ => none }
def metaMayRow : OpenClaim := { program := "ytnnaleoigiaboaa", sum := "878905b347a1a73335364c27e2a7b43f50d90640f9b6f428ab7c3aa287dcdaa3", func := "icehouse/icehouselaw12.MetaMay", spec := "metaMay", apart := false }
def MetaMaySaid : Prop := metaMayRow.holds Try.pinned (OpenSpec.ofChange metaMaySpec)

/-- ITS FALSE NEIGHBOUR: 'it returns false'. Refute it at one input. -/
def metaMayWrong : ChangeSpec := { name := "metaMay", fn := fun _ => fun
  | [d] => { results := [.lit (.bool false)], args := [d] }
  | _ => none }
def MetaMayWrongFalsely : Prop := metaMayRow.holds Try.pinned (OpenSpec.ofChange metaMayWrong)

/- THE SECOND FORM. 'bulk': how many values and letters a reading holds, each counted each time it is reached (what is shared counts as often as it is met; a slice's spare places count too). A statement '..UptoSaid' is the law's where the arguments, and the package variables that the reading takes, are together of bulk at most 1048576: NARROWER than '..Said'. Prove '..Said' where nothing that the law and all that it calls make is longer than what came in: it says more and counts as full. Else prove '..UptoSaid'. A law counts once. -/
mutual
def uptoBulk {H : Type} : DataW H → Nat
  | .lit (.string bytes) => bytes.length + 1
  | .lit _ => 1
  | .nil => 1
  | .ptr d => uptoBulk d + 1
  | .slice elems spare => uptoBulkAll elems + uptoBulkAll spare + 1
  | .agg parts => uptoBulkAll parts + 1
  | .iface _ d => uptoBulk d + 1
  | .map entries => uptoBulkEntries entries + 1
  | .held _ => 1
def uptoBulkAll {H : Type} : List (DataW H) → Nat
  | [] => 0
  | d :: r => uptoBulk d + uptoBulkAll r
def uptoBulkEntries {H : Type} : List (Lit × DataW H) → Nat
  | [] => 0
  | x :: r => uptoBulkEntry x + uptoBulkEntries r
def uptoBulkEntry {H : Type} : Lit × DataW H → Nat
  | (.string bytes, d) => bytes.length + uptoBulk d + 1
  | (_, d) => uptoBulk d + 1
 end
def uptoSmall : (H : Type) → List (DataW H) → Bool := fun _ ds => decide (uptoBulkAll ds ≤ 1048576)
def OpenSpec.upto (s : _root_.Go.ChangeSpec) : _root_.Go.OpenSpec := { _root_.Go.OpenSpec.ofChange s with cond := some uptoSmall }

/-- 'icehouselaw5.SuperSpoilt', WHERE WHAT IT READS IS OF BULK AT MOST 1048576: true; the input reads as it did. -/
def superSpoiltUptoRow : OpenClaim := { program := "ytnnaleoigiaboaa", sum := "878905b347a1a73335364c27e2a7b43f50d90640f9b6f428ab7c3aa287dcdaa3", func := "icehouse/icehouselaw5.SuperSpoilt", spec := "superSpoilt", apart := false, narrowed := true }
def SuperSpoiltUptoSaid : Prop := superSpoiltUptoRow.holds Try.pinned (OpenSpec.upto superSpoiltSpec)

/-- 'icehouselaw5.SuperNone', WHERE WHAT IT READS IS OF BULK AT MOST 1048576: true; the input reads as it did. -/
def superNoneUptoRow : OpenClaim := { program := "ytnnaleoigiaboaa", sum := "878905b347a1a73335364c27e2a7b43f50d90640f9b6f428ab7c3aa287dcdaa3", func := "icehouse/icehouselaw5.SuperNone", spec := "superNone", apart := false, narrowed := true }
def SuperNoneUptoSaid : Prop := superNoneUptoRow.holds Try.pinned (OpenSpec.upto superNoneSpec)

/-- 'icehouselaw5.SuperPlace', WHERE WHAT IT READS IS OF BULK AT MOST 1048576: true; the input reads as it did. -/
def superPlaceUptoRow : OpenClaim := { program := "ytnnaleoigiaboaa", sum := "878905b347a1a73335364c27e2a7b43f50d90640f9b6f428ab7c3aa287dcdaa3", func := "icehouse/icehouselaw5.SuperPlace", spec := "superPlace", apart := false, narrowed := true }
def SuperPlaceUptoSaid : Prop := superPlaceUptoRow.holds Try.pinned (OpenSpec.upto superPlaceSpec)

/-- 'icehouselaw5.SuperAll', WHERE WHAT IT READS IS OF BULK AT MOST 1048576: true; the input reads as it did. -/
def superAllUptoRow : OpenClaim := { program := "ytnnaleoigiaboaa", sum := "878905b347a1a73335364c27e2a7b43f50d90640f9b6f428ab7c3aa287dcdaa3", func := "icehouse/icehouselaw5.SuperAll", spec := "superAll", apart := false, narrowed := true }
def SuperAllUptoSaid : Prop := superAllUptoRow.holds Try.pinned (OpenSpec.upto superAllSpec)

/-- 'icehouselaw5.SuperTorn', WHERE WHAT IT READS IS OF BULK AT MOST 1048576: true; the input reads as it did. -/
def superTornUptoRow : OpenClaim := { program := "ytnnaleoigiaboaa", sum := "878905b347a1a73335364c27e2a7b43f50d90640f9b6f428ab7c3aa287dcdaa3", func := "icehouse/icehouselaw5.SuperTorn", spec := "superTorn", apart := false, narrowed := true }
def SuperTornUptoSaid : Prop := superTornUptoRow.holds Try.pinned (OpenSpec.upto superTornSpec)

/-- 'icehouselaw5.SuperMany', WHERE WHAT IT READS IS OF BULK AT MOST 1048576: true; the input reads as it did. -/
def superManyUptoRow : OpenClaim := { program := "ytnnaleoigiaboaa", sum := "878905b347a1a73335364c27e2a7b43f50d90640f9b6f428ab7c3aa287dcdaa3", func := "icehouse/icehouselaw5.SuperMany", spec := "superMany", apart := false, narrowed := true }
def SuperManyUptoSaid : Prop := superManyUptoRow.holds Try.pinned (OpenSpec.upto superManySpec)

/-- 'icehouselaw12.MetaAll', WHERE WHAT IT READS IS OF BULK AT MOST 1048576: true; the input reads as it did. -/
def metaAllUptoRow : OpenClaim := { program := "ytnnaleoigiaboaa", sum := "878905b347a1a73335364c27e2a7b43f50d90640f9b6f428ab7c3aa287dcdaa3", func := "icehouse/icehouselaw12.MetaAll", spec := "metaAll", apart := false, narrowed := true }
def MetaAllUptoSaid : Prop := metaAllUptoRow.holds Try.pinned (OpenSpec.upto metaAllSpec)

/-- 'icehouselaw12.MetaNone', WHERE WHAT IT READS IS OF BULK AT MOST 1048576: true; the input reads as it did. -/
def metaNoneUptoRow : OpenClaim := { program := "ytnnaleoigiaboaa", sum := "878905b347a1a73335364c27e2a7b43f50d90640f9b6f428ab7c3aa287dcdaa3", func := "icehouse/icehouselaw12.MetaNone", spec := "metaNone", apart := false, narrowed := true }
def MetaNoneUptoSaid : Prop := metaNoneUptoRow.holds Try.pinned (OpenSpec.upto metaNoneSpec)

/-- 'icehouselaw12.MetaFalls', WHERE WHAT IT READS IS OF BULK AT MOST 1048576: true; the input reads as it did. -/
def metaFallsUptoRow : OpenClaim := { program := "ytnnaleoigiaboaa", sum := "878905b347a1a73335364c27e2a7b43f50d90640f9b6f428ab7c3aa287dcdaa3", func := "icehouse/icehouselaw12.MetaFalls", spec := "metaFalls", apart := false, narrowed := true }
def MetaFallsUptoSaid : Prop := metaFallsUptoRow.holds Try.pinned (OpenSpec.upto metaFallsSpec)

/-- 'icehouselaw12.MetaMay', WHERE WHAT IT READS IS OF BULK AT MOST 1048576: true; the input reads as it did. -/
def metaMayUptoRow : OpenClaim := { program := "ytnnaleoigiaboaa", sum := "878905b347a1a73335364c27e2a7b43f50d90640f9b6f428ab7c3aa287dcdaa3", func := "icehouse/icehouselaw12.MetaMay", spec := "metaMay", apart := false, narrowed := true }
def MetaMayUptoSaid : Prop := metaMayUptoRow.holds Try.pinned (OpenSpec.upto metaMaySpec)

end Rows
end Go.Proofs.Ytnnaleoigiaboaa
