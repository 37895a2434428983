/-
  No cell of these rows narrows 'for every input' (looked for: loops, veiled, ifaces, maps, wideKeys, modest, calm, conditions, laid).
  DERIVED. THE GIVEN ROWS OF THIS SEAT. 3 by the template 'for every input the law returns true; each argument reads behind the call as it read before'; 0 by the template 'total and deterministic' (their statements: YtnhbioehiiifdaaGreatTotals.lean).
  GIVEN WITH THE SEED: the statements are not yours to turn. If you find one false, say at which input.
  Laid BY PROGRAM, IN A SANDBOX (cutbox-rows.mjs): the forced cells as the released guide's own fill.sh prints them over the translation ed1826949f8baa45… (all of the seat's roots in one cut). By AI agents, Wed Nov 11 2026. No macro, syntax, notation, axiom, sorry.
-/
import Derived.Test.YtnhbioehiiifdaaGreatChecked
import GoSem.Claim
import GoSem.ClaimJoined
import GoSem.ClaimMapViews
import Derived.JoinedTies
import Derived.KernelRfl
namespace Go.Proofs.YtnhbioehiiifdaaGreat
/- THE CELL 'sum', in the pinned program and in every row, IS THE sha256 OF THE DUMP (.gsa) THAT YtnhbioehiiifdaaGreatProg.lean LOADS. Nothing in Lean hashes anything: it is a label: what it is worth is what the hold of that sum in a sandbox is worth. -/
noncomputable def Tryz.pinned : Pinned := { name := "ytnhbioehiiifdaagreat", sum := "ed1826949f8baa45a2b2990b75308fa9e709340c6994303ef60e5be8a8f32f45", checked := Tryz.checked }
namespace Rows
def none {H : Type} : Left H := { results := [], args := [] }

/-- 'icehousetop.TopRead': WHATEVER THE INPUT: true; the input reads as it did. -/
def topReadSpec : ChangeSpec := { name := "topRead", fn := fun _ => fun
  | [d1, d2] => { results := [.lit (.bool true)], args := [d1, d2] }
  | _ => none }
def topReadRow : OpenClaim := { program := "ytnhbioehiiifdaagreat", sum := "ed1826949f8baa45a2b2990b75308fa9e709340c6994303ef60e5be8a8f32f45", func := "icehouse/icehousetop.TopRead", spec := "topRead", unfollowed := true, recurses := true, apart := false }
def TopReadSaid : Prop := topReadRow.holds Tryz.pinned (OpenSpec.ofChange topReadSpec)

/-- ITS FALSE NEIGHBOUR: 'it returns false'. Refute it at one input. -/
def topReadWrong : ChangeSpec := { name := "topRead", fn := fun _ => fun
  | [d1, d2] => { results := [.lit (.bool false)], args := [d1, d2] }
  | _ => none }
def TopReadWrongFalsely : Prop := topReadRow.holds Tryz.pinned (OpenSpec.ofChange topReadWrong)

/-- 'icehousetop.TopNoLease': WHATEVER THE INPUT: true; the input reads as it did. -/
def topNoLeaseSpec : ChangeSpec := { name := "topNoLease", fn := fun _ => fun
  | [d1, d2] => { results := [.lit (.bool true)], args := [d1, d2] }
  | _ => none }
def topNoLeaseRow : OpenClaim := { program := "ytnhbioehiiifdaagreat", sum := "ed1826949f8baa45a2b2990b75308fa9e709340c6994303ef60e5be8a8f32f45", func := "icehouse/icehousetop.TopNoLease", spec := "topNoLease", unfollowed := true, recurses := true, apart := false }
def TopNoLeaseSaid : Prop := topNoLeaseRow.holds Tryz.pinned (OpenSpec.ofChange topNoLeaseSpec)

/-- ITS FALSE NEIGHBOUR: 'it returns false'. Refute it at one input. -/
def topNoLeaseWrong : ChangeSpec := { name := "topNoLease", fn := fun _ => fun
  | [d1, d2] => { results := [.lit (.bool false)], args := [d1, d2] }
  | _ => none }
def TopNoLeaseWrongFalsely : Prop := topNoLeaseRow.holds Tryz.pinned (OpenSpec.ofChange topNoLeaseWrong)

/-- 'icehousetop.TopAuthorityDown': WHATEVER THE INPUT: true; the input reads as it did. -/
def topAuthorityDownSpec : ChangeSpec := { name := "topAuthorityDown", fn := fun _ => fun
  | [d1, d2] => { results := [.lit (.bool true)], args := [d1, d2] }
  | _ => none }
def topAuthorityDownRow : OpenClaim := { program := "ytnhbioehiiifdaagreat", sum := "ed1826949f8baa45a2b2990b75308fa9e709340c6994303ef60e5be8a8f32f45", func := "icehouse/icehousetop.TopAuthorityDown", spec := "topAuthorityDown", unfollowed := true, recurses := true, apart := false }
def TopAuthorityDownSaid : Prop := topAuthorityDownRow.holds Tryz.pinned (OpenSpec.ofChange topAuthorityDownSpec)

/-- ITS FALSE NEIGHBOUR: 'it returns false'. Refute it at one input. -/
def topAuthorityDownWrong : ChangeSpec := { name := "topAuthorityDown", fn := fun _ => fun
  | [d1, d2] => { results := [.lit (.bool false)], args := [d1, d2] }
  | _ => none }
def TopAuthorityDownWrongFalsely : Prop := topAuthorityDownRow.holds Tryz.pinned (OpenSpec.ofChange topAuthorityDownWrong)

/- THE SECOND FORM. 'bulk': how many values and letters a reading holds, each counted each time it is reached (what is shared counts as often as it is met; a slice's spare places count too). A statement '..UptoSaid' is the law's where the arguments, and the package variables that the reading takes, are together of bulk at most 1048576: NARROWER than '..Said'. Prove '..Said' where nothing that the law and all that it calls make is longer than what came in: it says more and counts as full. Else prove '..UptoSaid'. A law counts once. -/
mutual
def uptoBulk {H : Type} : DataW H → Nat
  | .lit (.string bytes) => bytes.length + 1
  | .lit _ => 1
  | .nil => 1
  | .ptr d => uptoBulk d + 1
  | .slice elems spare => uptoBulkAll elems + uptoBulkAll spare + 1
  | .agg parts => uptoBulkAll parts + 1
  | .iface _ d => uptoBulk d + 1
  | .map entries => uptoBulkEntries entries + 1
  | .held _ => 1
def uptoBulkAll {H : Type} : List (DataW H) → Nat
  | [] => 0
  | d :: r => uptoBulk d + uptoBulkAll r
def uptoBulkEntries {H : Type} : List (Lit × DataW H) → Nat
  | [] => 0
  | x :: r => uptoBulkEntry x + uptoBulkEntries r
def uptoBulkEntry {H : Type} : Lit × DataW H → Nat
  | (.string bytes, d) => bytes.length + uptoBulk d + 1
  | (_, d) => uptoBulk d + 1
 end
def uptoSmall : (H : Type) → List (DataW H) → Bool := fun _ ds => decide (uptoBulkAll ds ≤ 1048576)
def OpenSpec.upto (s : _root_.Go.ChangeSpec) : _root_.Go.OpenSpec := { _root_.Go.OpenSpec.ofChange s with cond := some uptoSmall }

/-- 'icehousetop.TopRead', WHERE WHAT IT READS IS OF BULK AT MOST 1048576: true; the input reads as it did. -/
def topReadUptoRow : OpenClaim := { program := "ytnhbioehiiifdaagreat", sum := "ed1826949f8baa45a2b2990b75308fa9e709340c6994303ef60e5be8a8f32f45", func := "icehouse/icehousetop.TopRead", spec := "topRead", unfollowed := true, recurses := true, apart := false, narrowed := true }
def TopReadUptoSaid : Prop := topReadUptoRow.holds Tryz.pinned (OpenSpec.upto topReadSpec)

/-- 'icehousetop.TopNoLease', WHERE WHAT IT READS IS OF BULK AT MOST 1048576: true; the input reads as it did. -/
def topNoLeaseUptoRow : OpenClaim := { program := "ytnhbioehiiifdaagreat", sum := "ed1826949f8baa45a2b2990b75308fa9e709340c6994303ef60e5be8a8f32f45", func := "icehouse/icehousetop.TopNoLease", spec := "topNoLease", unfollowed := true, recurses := true, apart := false, narrowed := true }
def TopNoLeaseUptoSaid : Prop := topNoLeaseUptoRow.holds Tryz.pinned (OpenSpec.upto topNoLeaseSpec)

/-- 'icehousetop.TopAuthorityDown', WHERE WHAT IT READS IS OF BULK AT MOST 1048576: true; the input reads as it did. -/
def topAuthorityDownUptoRow : OpenClaim := { program := "ytnhbioehiiifdaagreat", sum := "ed1826949f8baa45a2b2990b75308fa9e709340c6994303ef60e5be8a8f32f45", func := "icehouse/icehousetop.TopAuthorityDown", spec := "topAuthorityDown", unfollowed := true, recurses := true, apart := false, narrowed := true }
def TopAuthorityDownUptoSaid : Prop := topAuthorityDownUptoRow.holds Tryz.pinned (OpenSpec.upto topAuthorityDownSpec)

end Rows
end Go.Proofs.YtnhbioehiiifdaaGreat
