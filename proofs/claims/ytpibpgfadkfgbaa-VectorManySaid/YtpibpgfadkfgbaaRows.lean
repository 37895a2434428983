/-
  No cell of these rows narrows 'for every input' (looked for: loops, veiled, ifaces, maps, wideKeys, modest, calm, conditions, laid).
  DERIVED. THE GIVEN ROWS OF THIS SEAT. 10 by the template 'for every input the law returns true; each argument reads behind the call as it read before'; 0 by the template 'total and deterministic' (their statements: YtpibpgfadkfgbaaTotals.lean).
  GIVEN WITH THE SEED: the statements are not yours to turn. If you find one false, say at which input.
  Laid BY PROGRAM, IN A SANDBOX (cutbox-rows.mjs): the forced cells as the released guide's own fill.sh prints them over the translation 877f3cd3a43832cb… (all of the seat's roots in one cut). By AI agents, Wed Nov 11 2026. No macro, syntax, notation, axiom, sorry.
-/
import Derived.Test.YtpibpgfadkfgbaaChecked
import GoSem.Claim
import GoSem.ClaimJoined
import GoSem.ClaimMapViews
import Derived.JoinedTies
import Derived.KernelRfl
namespace Go.Proofs.Ytpibpgfadkfgbaa
/- THE CELL 'sum', in the pinned program and in every row, IS THE sha256 OF THE DUMP (.gsa) THAT YtpibpgfadkfgbaaProg.lean LOADS. Nothing in Lean hashes anything: it is a label: what it is worth is what the hold of that sum in a sandbox is worth. -/
noncomputable def Try.pinned : Pinned := { name := "ytpibpgfadkfgbaa", sum := "877f3cd3a43832cbbafb409a7b9c21d946bd6f8c46c9245a061e012fb9d2922d", checked := Try.checked }
namespace Rows
def none {H : Type} : Left H := { results := [], args := [] }

/-- 'icehouselaw11.VectorAll': WHATEVER THE INPUT: true; the input reads as it did. -/
def vectorAllSpec : ChangeSpec := { name := "vectorAll", fn := fun _ => fun
  | [d1, d2, d3, d4, d5] => { results := [.lit (.bool true)], args := [d1, d2, d3, d4, d5] }
  | _ => none }
def vectorAllRow : OpenClaim := { program := "ytpibpgfadkfgbaa", sum := "877f3cd3a43832cbbafb409a7b9c21d946bd6f8c46c9245a061e012fb9d2922d", func := "icehouse/icehouselaw11.VectorAll", spec := "vectorAll", apart := false }
def VectorAllSaid : Prop := vectorAllRow.holds Try.pinned (OpenSpec.ofChange vectorAllSpec)

/-- ITS FALSE NEIGHBOUR: 'it returns false'. Refute it at one input. -/
def vectorAllWrong : ChangeSpec := { name := "vectorAll", fn := fun _ => fun
  | [d1, d2, d3, d4, d5] => { results := [.lit (.bool false)], args := [d1, d2, d3, d4, d5] }
  | _ => none }
def VectorAllWrongFalsely : Prop := vectorAllRow.holds Try.pinned (OpenSpec.ofChange vectorAllWrong)

/-- 'icehouselaw11.VectorBytes': WHATEVER THE INPUT: true; the input reads as it did. -/
def vectorBytesSpec : ChangeSpec := { name := "vectorBytes", fn := fun _ => fun
  | [d1, d2, d3, d4] => { results := [.lit (.bool true)], args := [d1, d2, d3, d4] }
  | _ => none }
def vectorBytesRow : OpenClaim := { program := "ytpibpgfadkfgbaa", sum := "877f3cd3a43832cbbafb409a7b9c21d946bd6f8c46c9245a061e012fb9d2922d", func := "icehouse/icehouselaw11.VectorBytes", spec := "vectorBytes", apart := false }
def VectorBytesSaid : Prop := vectorBytesRow.holds Try.pinned (OpenSpec.ofChange vectorBytesSpec)

/-- ITS FALSE NEIGHBOUR: 'it returns false'. Refute it at one input. -/
def vectorBytesWrong : ChangeSpec := { name := "vectorBytes", fn := fun _ => fun
  | [d1, d2, d3, d4] => { results := [.lit (.bool false)], args := [d1, d2, d3, d4] }
  | _ => none }
def VectorBytesWrongFalsely : Prop := vectorBytesRow.holds Try.pinned (OpenSpec.ofChange vectorBytesWrong)

/-- 'icehouselaw11.VectorLaws': WHATEVER THE INPUT: true; the input reads as it did. -/
def vectorLawsSpec : ChangeSpec := { name := "vectorLaws", fn := fun _ => fun
  | [d1, d2] => { results := [.lit (.bool true)], args := [d1, d2] }
  | _ => none }
def vectorLawsRow : OpenClaim := { program := "ytpibpgfadkfgbaa", sum := "877f3cd3a43832cbbafb409a7b9c21d946bd6f8c46c9245a061e012fb9d2922d", func := "icehouse/icehouselaw11.VectorLaws", spec := "vectorLaws", apart := false }
def VectorLawsSaid : Prop := vectorLawsRow.holds Try.pinned (OpenSpec.ofChange vectorLawsSpec)

/-- ITS FALSE NEIGHBOUR: 'it returns false'. Refute it at one input. -/
def vectorLawsWrong : ChangeSpec := { name := "vectorLaws", fn := fun _ => fun
  | [d1, d2] => { results := [.lit (.bool false)], args := [d1, d2] }
  | _ => none }
def VectorLawsWrongFalsely : Prop := vectorLawsRow.holds Try.pinned (OpenSpec.ofChange vectorLawsWrong)

/-- 'icehouselaw11.VectorMany': WHATEVER THE INPUT: true; the input reads as it did. -/
def vectorManySpec : ChangeSpec := { name := "vectorMany", fn := fun _ => fun
  | [d1, d2] => { results := [.lit (.bool true)], args := [d1, d2] }
  | _ => none }
def vectorManyRow : OpenClaim := { program := "ytpibpgfadkfgbaa", sum := "877f3cd3a43832cbbafb409a7b9c21d946bd6f8c46c9245a061e012fb9d2922d", func := "icehouse/icehouselaw11.VectorMany", spec := "vectorMany", apart := false }
def VectorManySaid : Prop := vectorManyRow.holds Try.pinned (OpenSpec.ofChange vectorManySpec)

/-- ITS FALSE NEIGHBOUR: 'it returns false'. Refute it at one input. -/
def vectorManyWrong : ChangeSpec := { name := "vectorMany", fn := fun _ => fun
  | [d1, d2] => { results := [.lit (.bool false)], args := [d1, d2] }
  | _ => none }
def VectorManyWrongFalsely : Prop := vectorManyRow.holds Try.pinned (OpenSpec.ofChange vectorManyWrong)

/-- 'icehouselaw11.VectorSet': WHATEVER THE INPUT: true; the input reads as it did. -/
def vectorSetSpec : ChangeSpec := { name := "vectorSet", fn := fun _ => fun
  | [d1, d2, d3, d4] => { results := [.lit (.bool true)], args := [d1, d2, d3, d4] }
  | _ => none }
def vectorSetRow : OpenClaim := { program := "ytpibpgfadkfgbaa", sum := "877f3cd3a43832cbbafb409a7b9c21d946bd6f8c46c9245a061e012fb9d2922d", func := "icehouse/icehouselaw11.VectorSet", spec := "vectorSet", apart := false }
def VectorSetSaid : Prop := vectorSetRow.holds Try.pinned (OpenSpec.ofChange vectorSetSpec)

/-- ITS FALSE NEIGHBOUR: 'it returns false'. Refute it at one input. -/
def vectorSetWrong : ChangeSpec := { name := "vectorSet", fn := fun _ => fun
  | [d1, d2, d3, d4] => { results := [.lit (.bool false)], args := [d1, d2, d3, d4] }
  | _ => none }
def VectorSetWrongFalsely : Prop := vectorSetRow.holds Try.pinned (OpenSpec.ofChange vectorSetWrong)

/-- 'icehouselaw7.ItemMay': WHATEVER THE INPUT: true; the input reads as it did. -/
def itemMaySpec : ChangeSpec := { name := "itemMay", fn := fun _ => fun
  | [d1, d2] => { results := [.lit (.bool true)], args := [d1, d2] }
  | _ => none }
def itemMayRow : OpenClaim := { program := "ytpibpgfadkfgbaa", sum := "877f3cd3a43832cbbafb409a7b9c21d946bd6f8c46c9245a061e012fb9d2922d", func := "icehouse/icehouselaw7.ItemMay", spec := "itemMay", apart := false }
def ItemMaySaid : Prop := itemMayRow.holds Try.pinned (OpenSpec.ofChange itemMaySpec)

/-- ITS FALSE NEIGHBOUR: 'it returns false'. Refute it at one input. -/
def itemMayWrong : ChangeSpec := { name := "itemMay", fn := fun _ => fun
  | [d1, d2] => { results := [.lit (.bool false)], args := [d1, d2] }
  | _ => none }
def ItemMayWrongFalsely : Prop := itemMayRow.holds Try.pinned (OpenSpec.ofChange itemMayWrong)

/-- 'icehouselaw7.ItemBytes': WHATEVER THE INPUT: true; the input reads as it did. -/
def itemBytesSpec : ChangeSpec := { name := "itemBytes", fn := fun _ => fun
  | [d1, d2, d3] => { results := [.lit (.bool true)], args := [d1, d2, d3] }
  | _ => none }
def itemBytesRow : OpenClaim := { program := "ytpibpgfadkfgbaa", sum := "877f3cd3a43832cbbafb409a7b9c21d946bd6f8c46c9245a061e012fb9d2922d", func := "icehouse/icehouselaw7.ItemBytes", spec := "itemBytes", apart := false }
def ItemBytesSaid : Prop := itemBytesRow.holds Try.pinned (OpenSpec.ofChange itemBytesSpec)

/-- ITS FALSE NEIGHBOUR: 'it returns false'. Refute it at one input. -/
def itemBytesWrong : ChangeSpec := { name := "itemBytes", fn := fun _ => fun
  | [d1, d2, d3] => { results := [.lit (.bool false)], args := [d1, d2, d3] }
  | _ => none }
def ItemBytesWrongFalsely : Prop := itemBytesRow.holds Try.pinned (OpenSpec.ofChange itemBytesWrong)

/-- 'icehouselaw7.ItemAny': WHATEVER THE INPUT: true; the input reads as it did. -/
def itemAnySpec : ChangeSpec := { name := "itemAny", fn := fun _ => fun
  | [d] => { results := [.lit (.bool true)], args := [d] }
  | _ => none }
def itemAnyRow : OpenClaim := { program := "ytpibpgfadkfgbaa", sum := "877f3cd3a43832cbbafb409a7b9c21d946bd6f8c46c9245a061e012fb9d2922d", func := "icehouse/icehouselaw7.ItemAny", spec := "itemAny", apart := false }
def ItemAnySaid : Prop := itemAnyRow.holds Try.pinned (OpenSpec.ofChange itemAnySpec)

/-- ITS FALSE NEIGHBOUR: 'it returns false'. Refute it at one input. -/
def itemAnyWrong : ChangeSpec := { name := "itemAny", fn := fun _ => fun
  | [d] => { results := [.lit (.bool false)], args := [d] }
  | _ => none }
def ItemAnyWrongFalsely : Prop := itemAnyRow.holds Try.pinned (OpenSpec.ofChange itemAnyWrong)

/-- 'icehouselaw7.ItemTwins': WHATEVER THE INPUT: true; the input reads as it did. -/
def itemTwinsSpec : ChangeSpec := { name := "itemTwins", fn := fun _ => fun
  | [d1, d2] => { results := [.lit (.bool true)], args := [d1, d2] }
  | _ => none }
def itemTwinsRow : OpenClaim := { program := "ytpibpgfadkfgbaa", sum := "877f3cd3a43832cbbafb409a7b9c21d946bd6f8c46c9245a061e012fb9d2922d", func := "icehouse/icehouselaw7.ItemTwins", spec := "itemTwins", apart := false }
def ItemTwinsSaid : Prop := itemTwinsRow.holds Try.pinned (OpenSpec.ofChange itemTwinsSpec)

/-- ITS FALSE NEIGHBOUR: 'it returns false'. Refute it at one input. -/
def itemTwinsWrong : ChangeSpec := { name := "itemTwins", fn := fun _ => fun
  | [d1, d2] => { results := [.lit (.bool false)], args := [d1, d2] }
  | _ => none }
def ItemTwinsWrongFalsely : Prop := itemTwinsRow.holds Try.pinned (OpenSpec.ofChange itemTwinsWrong)

/-- 'icehouselaw7.ItemLimits': WHATEVER THE INPUT: true; the input reads as it did. -/
def itemLimitsSpec : ChangeSpec := { name := "itemLimits", fn := fun _ => fun
  | [d1, d2, d3, d4] => { results := [.lit (.bool true)], args := [d1, d2, d3, d4] }
  | _ => none }
def itemLimitsRow : OpenClaim := { program := "ytpibpgfadkfgbaa", sum := "877f3cd3a43832cbbafb409a7b9c21d946bd6f8c46c9245a061e012fb9d2922d", func := "icehouse/icehouselaw7.ItemLimits", spec := "itemLimits", apart := false }
def ItemLimitsSaid : Prop := itemLimitsRow.holds Try.pinned (OpenSpec.ofChange itemLimitsSpec)

/-- ITS FALSE NEIGHBOUR: 'it returns false'. Refute it at one input. -/
def itemLimitsWrong : ChangeSpec := { name := "itemLimits", fn := fun _ => fun
  | [d1, d2, d3, d4] => { results := [.lit (.bool false)], args := [d1, d2, d3, d4] }
  | _ => none }
def ItemLimitsWrongFalsely : Prop := itemLimitsRow.holds Try.pinned (OpenSpec.ofChange itemLimitsWrong)

/- THE SECOND FORM. 'bulk': how many values and letters a reading holds, each counted each time it is reached (what is shared counts as often as it is met; a slice's spare places count too). A statement '..UptoSaid' is the law's where the arguments, and the package variables that the reading takes, are together of bulk at most 1048576: NARROWER than '..Said'. Prove '..Said' where nothing that the law and all that it calls make is longer than what came in: it says more and counts as full. Else prove '..UptoSaid'. A law counts once. -/
mutual
def uptoBulk {H : Type} : DataW H → Nat
  | .lit (.string bytes) => bytes.length + 1
  | .lit _ => 1
  | .nil => 1
  | .ptr d => uptoBulk d + 1
  | .slice elems spare => uptoBulkAll elems + uptoBulkAll spare + 1
  | .agg parts => uptoBulkAll parts + 1
  | .iface _ d => uptoBulk d + 1
  | .map entries => uptoBulkEntries entries + 1
  | .held _ => 1
def uptoBulkAll {H : Type} : List (DataW H) → Nat
  | [] => 0
  | d :: r => uptoBulk d + uptoBulkAll r
def uptoBulkEntries {H : Type} : List (Lit × DataW H) → Nat
  | [] => 0
  | x :: r => uptoBulkEntry x + uptoBulkEntries r
def uptoBulkEntry {H : Type} : Lit × DataW H → Nat
  | (.string bytes, d) => bytes.length + uptoBulk d + 1
  | (_, d) => uptoBulk d + 1
 end
def uptoSmall : (H : Type) → List (DataW H) → Bool := fun _ ds => decide (uptoBulkAll ds ≤ 1048576)
def OpenSpec.upto (s : _root_.Go.ChangeSpec) : _root_.Go.OpenSpec := { _root_.Go.OpenSpec.ofChange s with cond := some uptoSmall }

/-- 'icehouselaw11.VectorAll', WHERE WHAT IT READS IS OF BULK AT MOST 1048576: true; the input reads as it did. -/
def vectorAllUptoRow : OpenClaim := { program := "ytpibpgfadkfgbaa", sum := "877f3cd3a43832cbbafb409a7b9c21d946bd6f8c46c9245a061e012fb9d2922d", func := "icehouse/icehouselaw11.VectorAll", spec := "vectorAll", apart := false, narrowed := true }
def VectorAllUptoSaid : Prop := vectorAllUptoRow.holds Try.pinned (OpenSpec.upto vectorAllSpec)

/-- 'icehouselaw11.VectorBytes', WHERE WHAT IT READS IS OF BULK AT MOST 1048576: true; the input reads as it did. -/
def vectorBytesUptoRow : OpenClaim := { program := "ytpibpgfadkfgbaa", sum := "877f3cd3a43832cbbafb409a7b9c21d946bd6f8c46c9245a061e012fb9d2922d", func := "icehouse/icehouselaw11.VectorBytes", spec := "vectorBytes", apart := false, narrowed := true }
def VectorBytesUptoSaid : Prop := vectorBytesUptoRow.holds Try.pinned (OpenSpec.upto vectorBytesSpec)

/-- 'icehouselaw11.VectorLaws', WHERE WHAT IT READS IS OF BULK AT MOST 1048576: true; the input reads as it did. -/
def vectorLawsUptoRow : OpenClaim := { program := "ytpibpgfadkfgbaa", sum := "877f3cd3a43832cbbafb409a7b9c21d946bd6f8c46c9245a061e012fb9d2922d", func := "icehouse/icehouselaw11.VectorLaws", spec := "vectorLaws", apart := false, narrowed := true }
def VectorLawsUptoSaid : Prop := vectorLawsUptoRow.holds Try.pinned (OpenSpec.upto vectorLawsSpec)

/-- 'icehouselaw11.VectorMany', WHERE WHAT IT READS IS OF BULK AT MOST 1048576: true; the input reads as it did. -/
def vectorManyUptoRow : OpenClaim := { program := "ytpibpgfadkfgbaa", sum := "877f3cd3a43832cbbafb409a7b9c21d946bd6f8c46c9245a061e012fb9d2922d", func := "icehouse/icehouselaw11.VectorMany", spec := "vectorMany", apart := false, narrowed := true }
def VectorManyUptoSaid : Prop := vectorManyUptoRow.holds Try.pinned (OpenSpec.upto vectorManySpec)

/-- 'icehouselaw11.VectorSet', WHERE WHAT IT READS IS OF BULK AT MOST 1048576: true; the input reads as it did. -/
def vectorSetUptoRow : OpenClaim := { program := "ytpibpgfadkfgbaa", sum := "877f3cd3a43832cbbafb409a7b9c21d946bd6f8c46c9245a061e012fb9d2922d", func := "icehouse/icehouselaw11.VectorSet", spec := "vectorSet", apart := false, narrowed := true }
def VectorSetUptoSaid : Prop := vectorSetUptoRow.holds Try.pinned (OpenSpec.upto vectorSetSpec)

/-- 'icehouselaw7.ItemMay', WHERE WHAT IT READS IS OF BULK AT MOST 1048576: true; the input reads as it did. -/
def itemMayUptoRow : OpenClaim := { program := "ytpibpgfadkfgbaa", sum := "877f3cd3a43832cbbafb409a7b9c21d946bd6f8c46c9245a061e012fb9d2922d", func := "icehouse/icehouselaw7.ItemMay", spec := "itemMay", apart := false, narrowed := true }
def ItemMayUptoSaid : Prop := itemMayUptoRow.holds Try.pinned (OpenSpec.upto itemMaySpec)

/-- 'icehouselaw7.ItemBytes', WHERE WHAT IT READS IS OF BULK AT MOST 1048576: true; the input reads as it did. -/
def itemBytesUptoRow : OpenClaim := { program := "ytpibpgfadkfgbaa", sum := "877f3cd3a43832cbbafb409a7b9c21d946bd6f8c46c9245a061e012fb9d2922d", func := "icehouse/icehouselaw7.ItemBytes", spec := "itemBytes", apart := false, narrowed := true }
def ItemBytesUptoSaid : Prop := itemBytesUptoRow.holds Try.pinned (OpenSpec.upto itemBytesSpec)

/-- 'icehouselaw7.ItemAny', WHERE WHAT IT READS IS OF BULK AT MOST 1048576: true; the input reads as it did. -/
def itemAnyUptoRow : OpenClaim := { program := "ytpibpgfadkfgbaa", sum := "877f3cd3a43832cbbafb409a7b9c21d946bd6f8c46c9245a061e012fb9d2922d", func := "icehouse/icehouselaw7.ItemAny", spec := "itemAny", apart := false, narrowed := true }
def ItemAnyUptoSaid : Prop := itemAnyUptoRow.holds Try.pinned (OpenSpec.upto itemAnySpec)

/-- 'icehouselaw7.ItemTwins', WHERE WHAT IT READS IS OF BULK AT MOST 1048576: true; the input reads as it did. -/
def itemTwinsUptoRow : OpenClaim := { program := "ytpibpgfadkfgbaa", sum := "877f3cd3a43832cbbafb409a7b9c21d946bd6f8c46c9245a061e012fb9d2922d", func := "icehouse/icehouselaw7.ItemTwins", spec := "itemTwins", apart := false, narrowed := true }
def ItemTwinsUptoSaid : Prop := itemTwinsUptoRow.holds Try.pinned (OpenSpec.upto itemTwinsSpec)

/-- 'icehouselaw7.ItemLimits', WHERE WHAT IT READS IS OF BULK AT MOST 1048576: true; the input reads as it did. -/
def itemLimitsUptoRow : OpenClaim := { program := "ytpibpgfadkfgbaa", sum := "877f3cd3a43832cbbafb409a7b9c21d946bd6f8c46c9245a061e012fb9d2922d", func := "icehouse/icehouselaw7.ItemLimits", spec := "itemLimits", apart := false, narrowed := true }
def ItemLimitsUptoSaid : Prop := itemLimitsUptoRow.holds Try.pinned (OpenSpec.upto itemLimitsSpec)

end Rows
end Go.Proofs.Ytpibpgfadkfgbaa
