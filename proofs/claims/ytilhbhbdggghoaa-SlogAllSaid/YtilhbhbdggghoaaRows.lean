/-
  No cell of these rows narrows 'for every input' (looked for: loops, veiled, ifaces, maps, wideKeys, modest, calm, conditions, laid).
  DERIVED. THE GIVEN ROWS OF THIS SEAT. 5 by the template 'for every input the law returns true; each argument reads behind the call as it read before'; 0 by the template 'total and deterministic' (their statements: YtilhbhbdggghoaaTotals.lean).
  GIVEN WITH THE SEED: the statements are not yours to turn. If you find one false, say at which input.
  Laid BY PROGRAM, IN A SANDBOX (cutbox-rows.mjs): the forced cells as the released guide's own fill.sh prints them over the translation aaf93d42ba746f77… (all of the seat's roots in one cut). By AI agents, Wed Nov 11 2026. No macro, syntax, notation, axiom, sorry.
-/
import Derived.Test.YtilhbhbdggghoaaChecked
import GoSem.Claim
import GoSem.ClaimJoined
import GoSem.ClaimMapViews
import Derived.JoinedTies
import Derived.KernelRfl
namespace Go.Proofs.Ytilhbhbdggghoaa
/- THE CELL 'sum', in the pinned program and in every row, IS THE sha256 OF THE DUMP (.gsa) THAT YtilhbhbdggghoaaProg.lean LOADS. Nothing in Lean hashes anything: it is a label: what it is worth is what the hold of that sum in a sandbox is worth. -/
noncomputable def Try.pinned : Pinned := { name := "ytilhbhbdggghoaa", sum := "aaf93d42ba746f77dc81b3e92ad14b6d4bdbc5ad74bfffdbbd33ca14431969d5", checked := Try.checked }
namespace Rows
def none {H : Type} : Left H := { results := [], args := [] }

/-- 'icehouselaw6.SlogRound': WHATEVER THE INPUT: true; the input reads as it did. -/
def slogRoundSpec : ChangeSpec := { name := "slogRound", fn := fun _ => fun
  | [d1, d2, d3] => { results := [.lit (.bool true)], args := [d1, d2, d3] }
  | _ => none }
def slogRoundRow : OpenClaim := { program := "ytilhbhbdggghoaa", sum := "aaf93d42ba746f77dc81b3e92ad14b6d4bdbc5ad74bfffdbbd33ca14431969d5", func := "icehouse/icehouselaw6.SlogRound", spec := "slogRound", unfollowed := true, recurses := true, apart := false }
def SlogRoundSaid : Prop := slogRoundRow.holds Try.pinned (OpenSpec.ofChange slogRoundSpec)

/-- ITS FALSE NEIGHBOUR: 'it returns false'. Refute it at one input. -/
def slogRoundWrong : ChangeSpec := { name := "slogRound", fn := fun _ => fun
  | [d1, d2, d3] => { results := [.lit (.bool false)], args := [d1, d2, d3] }
  | _ => none }
def SlogRoundWrongFalsely : Prop := slogRoundRow.holds Try.pinned (OpenSpec.ofChange slogRoundWrong)

/-- 'icehouselaw6.SlogOwn': WHATEVER THE INPUT: true; the input reads as it did. -/
def slogOwnSpec : ChangeSpec := { name := "slogOwn", fn := fun _ => fun
  | [d] => { results := [.lit (.bool true)], args := [d] }
  | _ => none }
def slogOwnRow : OpenClaim := { program := "ytilhbhbdggghoaa", sum := "aaf93d42ba746f77dc81b3e92ad14b6d4bdbc5ad74bfffdbbd33ca14431969d5", func := "icehouse/icehouselaw6.SlogOwn", spec := "slogOwn", unfollowed := true, recurses := true, apart := false }
def SlogOwnSaid : Prop := slogOwnRow.holds Try.pinned (OpenSpec.ofChange slogOwnSpec)

/-- ITS FALSE NEIGHBOUR: 'it returns false'. Refute it at one input. -/
def slogOwnWrong : ChangeSpec := { name := "slogOwn", fn := fun _ => fun
  | [d] => { results := [.lit (.bool false)], args := [d] }
  | _ => none }
def SlogOwnWrongFalsely : Prop := slogOwnRow.holds Try.pinned (OpenSpec.ofChange slogOwnWrong)

/-- 'icehouselaw6.SlogApart': WHATEVER THE INPUT: true; the input reads as it did. -/
def slogApartSpec : ChangeSpec := { name := "slogApart", fn := fun _ => fun
  | [d1, d2] => { results := [.lit (.bool true)], args := [d1, d2] }
  | _ => none }
def slogApartRow : OpenClaim := { program := "ytilhbhbdggghoaa", sum := "aaf93d42ba746f77dc81b3e92ad14b6d4bdbc5ad74bfffdbbd33ca14431969d5", func := "icehouse/icehouselaw6.SlogApart", spec := "slogApart", unfollowed := true, recurses := true, apart := false }
def SlogApartSaid : Prop := slogApartRow.holds Try.pinned (OpenSpec.ofChange slogApartSpec)

/-- ITS FALSE NEIGHBOUR: 'it returns false'. Refute it at one input. -/
def slogApartWrong : ChangeSpec := { name := "slogApart", fn := fun _ => fun
  | [d1, d2] => { results := [.lit (.bool false)], args := [d1, d2] }
  | _ => none }
def SlogApartWrongFalsely : Prop := slogApartRow.holds Try.pinned (OpenSpec.ofChange slogApartWrong)

/-- 'icehouselaw6.SlogAll': WHATEVER THE INPUT: true; the input reads as it did. -/
def slogAllSpec : ChangeSpec := { name := "slogAll", fn := fun _ => fun
  | [d1, d2, d3] => { results := [.lit (.bool true)], args := [d1, d2, d3] }
  | _ => none }
def slogAllRow : OpenClaim := { program := "ytilhbhbdggghoaa", sum := "aaf93d42ba746f77dc81b3e92ad14b6d4bdbc5ad74bfffdbbd33ca14431969d5", func := "icehouse/icehouselaw6.SlogAll", spec := "slogAll", unfollowed := true, recurses := true, apart := false }
def SlogAllSaid : Prop := slogAllRow.holds Try.pinned (OpenSpec.ofChange slogAllSpec)

/-- ITS FALSE NEIGHBOUR: 'it returns false'. Refute it at one input. -/
def slogAllWrong : ChangeSpec := { name := "slogAll", fn := fun _ => fun
  | [d1, d2, d3] => { results := [.lit (.bool false)], args := [d1, d2, d3] }
  | _ => none }
def SlogAllWrongFalsely : Prop := slogAllRow.holds Try.pinned (OpenSpec.ofChange slogAllWrong)

/-- 'icehouselaw6.SlogNone': WHATEVER THE INPUT: true; the input reads as it did. -/
def slogNoneSpec : ChangeSpec := { name := "slogNone", fn := fun _ => fun
  | [] => { results := [.lit (.bool true)], args := [] }
  | _ => none }
def slogNoneRow : OpenClaim := { program := "ytilhbhbdggghoaa", sum := "aaf93d42ba746f77dc81b3e92ad14b6d4bdbc5ad74bfffdbbd33ca14431969d5", func := "icehouse/icehouselaw6.SlogNone", spec := "slogNone", unfollowed := true, recurses := true, apart := false }
def SlogNoneSaid : Prop := slogNoneRow.holds Try.pinned (OpenSpec.ofChange slogNoneSpec)

/-- ITS FALSE NEIGHBOUR: 'it returns false'. Refute it at one input. -/
def slogNoneWrong : ChangeSpec := { name := "slogNone", fn := fun _ => fun
  | [] => { results := [.lit (.bool false)], args := [] }
  | _ => none }
def SlogNoneWrongFalsely : Prop := slogNoneRow.holds Try.pinned (OpenSpec.ofChange slogNoneWrong)

/- THE SECOND FORM. 'bulk': how many values and letters a reading holds, each counted each time it is reached (what is shared counts as often as it is met; a slice's spare places count too). A statement '..UptoSaid' is the law's where the arguments, and the package variables that the reading takes, are together of bulk at most 1048576: NARROWER than '..Said'. Prove '..Said' where nothing that the law and all that it calls make is longer than what came in: it says more and counts as full. Else prove '..UptoSaid'. A law counts once. -/
mutual
def uptoBulk {H : Type} : DataW H → Nat
  | .lit (.string bytes) => bytes.length + 1
  | .lit _ => 1
  | .nil => 1
  | .ptr d => uptoBulk d + 1
  | .slice elems spare => uptoBulkAll elems + uptoBulkAll spare + 1
  | .agg parts => uptoBulkAll parts + 1
  | .iface _ d => uptoBulk d + 1
  | .map entries => uptoBulkEntries entries + 1
  | .held _ => 1
def uptoBulkAll {H : Type} : List (DataW H) → Nat
  | [] => 0
  | d :: r => uptoBulk d + uptoBulkAll r
def uptoBulkEntries {H : Type} : List (Lit × DataW H) → Nat
  | [] => 0
  | x :: r => uptoBulkEntry x + uptoBulkEntries r
def uptoBulkEntry {H : Type} : Lit × DataW H → Nat
  | (.string bytes, d) => bytes.length + uptoBulk d + 1
  | (_, d) => uptoBulk d + 1
 end
def uptoSmall : (H : Type) → List (DataW H) → Bool := fun _ ds => decide (uptoBulkAll ds ≤ 1048576)
def OpenSpec.upto (s : _root_.Go.ChangeSpec) : _root_.Go.OpenSpec := { _root_.Go.OpenSpec.ofChange s with cond := some uptoSmall }

/-- 'icehouselaw6.SlogRound', WHERE WHAT IT READS IS OF BULK AT MOST 1048576: true; the input reads as it did. -/
def slogRoundUptoRow : OpenClaim := { program := "ytilhbhbdggghoaa", sum := "aaf93d42ba746f77dc81b3e92ad14b6d4bdbc5ad74bfffdbbd33ca14431969d5", func := "icehouse/icehouselaw6.SlogRound", spec := "slogRound", unfollowed := true, recurses := true, apart := false, narrowed := true }
def SlogRoundUptoSaid : Prop := slogRoundUptoRow.holds Try.pinned (OpenSpec.upto slogRoundSpec)

/-- 'icehouselaw6.SlogOwn', WHERE WHAT IT READS IS OF BULK AT MOST 1048576: true; the input reads as it did. -/
def slogOwnUptoRow : OpenClaim := { program := "ytilhbhbdggghoaa", sum := "aaf93d42ba746f77dc81b3e92ad14b6d4bdbc5ad74bfffdbbd33ca14431969d5", func := "icehouse/icehouselaw6.SlogOwn", spec := "slogOwn", unfollowed := true, recurses := true, apart := false, narrowed := true }
def SlogOwnUptoSaid : Prop := slogOwnUptoRow.holds Try.pinned (OpenSpec.upto slogOwnSpec)

/-- 'icehouselaw6.SlogApart', WHERE WHAT IT READS IS OF BULK AT MOST 1048576: true; the input reads as it did. -/
def slogApartUptoRow : OpenClaim := { program := "ytilhbhbdggghoaa", sum := "aaf93d42ba746f77dc81b3e92ad14b6d4bdbc5ad74bfffdbbd33ca14431969d5", func := "icehouse/icehouselaw6.SlogApart", spec := "slogApart", unfollowed := true, recurses := true, apart := false, narrowed := true }
def SlogApartUptoSaid : Prop := slogApartUptoRow.holds Try.pinned (OpenSpec.upto slogApartSpec)

/-- 'icehouselaw6.SlogAll', WHERE WHAT IT READS IS OF BULK AT MOST 1048576: true; the input reads as it did. -/
def slogAllUptoRow : OpenClaim := { program := "ytilhbhbdggghoaa", sum := "aaf93d42ba746f77dc81b3e92ad14b6d4bdbc5ad74bfffdbbd33ca14431969d5", func := "icehouse/icehouselaw6.SlogAll", spec := "slogAll", unfollowed := true, recurses := true, apart := false, narrowed := true }
def SlogAllUptoSaid : Prop := slogAllUptoRow.holds Try.pinned (OpenSpec.upto slogAllSpec)

/-- 'icehouselaw6.SlogNone', WHERE WHAT IT READS IS OF BULK AT MOST 1048576: true; the input reads as it did. -/
def slogNoneUptoRow : OpenClaim := { program := "ytilhbhbdggghoaa", sum := "aaf93d42ba746f77dc81b3e92ad14b6d4bdbc5ad74bfffdbbd33ca14431969d5", func := "icehouse/icehouselaw6.SlogNone", spec := "slogNone", unfollowed := true, recurses := true, apart := false, narrowed := true }
def SlogNoneUptoSaid : Prop := slogNoneUptoRow.holds Try.pinned (OpenSpec.upto slogNoneSpec)

end Rows
end Go.Proofs.Ytilhbhbdggghoaa
