/-
  No cell of these rows narrows 'for every input' (looked for: loops, veiled, ifaces, maps, wideKeys, modest, calm, conditions, laid).
  DERIVED. THE GIVEN ROWS OF THIS SEAT. 2 by the template 'for every input the law returns true; each argument reads behind the call as it read before'; 0 by the template 'total and deterministic' (their statements: YtoieckmegdcaeaaTotals.lean).
  GIVEN WITH THE SEED: the statements are not yours to turn. If you find one false, say at which input.
  Laid BY PROGRAM, IN A SANDBOX (cutbox-rows.mjs): the forced cells as the released guide's own fill.sh prints them over the translation 1c90eff498f12350… (all of the seat's roots in one cut). By AI agents, Wed Nov 11 2026. No macro, syntax, notation, axiom, sorry.
-/
import Derived.Test.YtoieckmegdcaeaaChecked
import GoSem.Claim
import GoSem.ClaimJoined
import GoSem.ClaimMapViews
import Derived.JoinedTies
import Derived.KernelRfl
namespace Go.Proofs.Ytoieckmegdcaeaa
/- THE CELL 'sum', in the pinned program and in every row, IS THE sha256 OF THE DUMP (.gsa) THAT YtoieckmegdcaeaaProg.lean LOADS. Nothing in Lean hashes anything: it is a label: what it is worth is what the hold of that sum in a sandbox is worth. -/
noncomputable def Try.pinned : Pinned := { name := "ytoieckmegdcaeaa", sum := "1c90eff498f12350d90529e2a263154ee74db369ff0e945f4ff112be3a05c6a9", checked := Try.checked }
namespace Rows
def none {H : Type} : Left H := { results := [], args := [] }

/-- 'tidemarklaw25.TupleCompares': WHATEVER THE INPUT: true; the input reads as it did. -/
def tupleComparesSpec : ChangeSpec := { name := "tupleCompares", fn := fun _ => fun
  | [d] => { results := [.lit (.bool true)], args := [d] }
  | _ => none }
def tupleComparesRow : OpenClaim := { program := "ytoieckmegdcaeaa", sum := "1c90eff498f12350d90529e2a263154ee74db369ff0e945f4ff112be3a05c6a9", func := "tidemark/tidemarklaw25.TupleCompares", spec := "tupleCompares", unfollowed := true, recurses := true, apart := false }
def TupleComparesSaid : Prop := tupleComparesRow.holds Try.pinned (OpenSpec.ofChange tupleComparesSpec)

/-- ITS FALSE NEIGHBOUR: 'it returns false'. Refute it at one input. -/
def tupleComparesWrong : ChangeSpec := { name := "tupleCompares", fn := fun _ => fun
  | [d] => { results := [.lit (.bool false)], args := [d] }
  | _ => none }
def TupleComparesWrongFalsely : Prop := tupleComparesRow.holds Try.pinned (OpenSpec.ofChange tupleComparesWrong)

/-- 'tidemarklaw25.TupleDecodes': WHATEVER THE INPUT: true; the input reads as it did. -/
def tupleDecodesSpec : ChangeSpec := { name := "tupleDecodes", fn := fun _ => fun
  | [d] => { results := [.lit (.bool true)], args := [d] }
  | _ => none }
def tupleDecodesRow : OpenClaim := { program := "ytoieckmegdcaeaa", sum := "1c90eff498f12350d90529e2a263154ee74db369ff0e945f4ff112be3a05c6a9", func := "tidemark/tidemarklaw25.TupleDecodes", spec := "tupleDecodes", apart := false }
def TupleDecodesSaid : Prop := tupleDecodesRow.holds Try.pinned (OpenSpec.ofChange tupleDecodesSpec)

/-- ITS FALSE NEIGHBOUR: 'it returns false'. Refute it at one input. -/
def tupleDecodesWrong : ChangeSpec := { name := "tupleDecodes", fn := fun _ => fun
  | [d] => { results := [.lit (.bool false)], args := [d] }
  | _ => none }
def TupleDecodesWrongFalsely : Prop := tupleDecodesRow.holds Try.pinned (OpenSpec.ofChange tupleDecodesWrong)

/- THE SECOND FORM. 'bulk': how many values and letters a reading holds, each counted each time it is reached (what is shared counts as often as it is met; a slice's spare places count too). A statement '..UptoSaid' is the law's where the arguments, and the package variables that the reading takes, are together of bulk at most 1048576: NARROWER than '..Said'. Prove '..Said' where nothing that the law and all that it calls make is longer than what came in: it says more and counts as full. Else prove '..UptoSaid'. A law counts once. -/
mutual
def uptoBulk {H : Type} : DataW H → Nat
  | .lit (.string bytes) => bytes.length + 1
  | .lit _ => 1
  | .nil => 1
  | .ptr d => uptoBulk d + 1
  | .slice elems spare => uptoBulkAll elems + uptoBulkAll spare + 1
  | .agg parts => uptoBulkAll parts + 1
  | .iface _ d => uptoBulk d + 1
  | .map entries => uptoBulkEntries entries + 1
  | .held _ => 1
def uptoBulkAll {H : Type} : List (DataW H) → Nat
  | [] => 0
  | d :: r => uptoBulk d + uptoBulkAll r
def uptoBulkEntries {H : Type} : List (Lit × DataW H) → Nat
  | [] => 0
  | x :: r => uptoBulkEntry x + uptoBulkEntries r
def uptoBulkEntry {H : Type} : Lit × DataW H → Nat
  | (.string bytes, d) => bytes.length + uptoBulk d + 1
  | (_, d) => uptoBulk d + 1
 end
def uptoSmall : (H : Type) → List (DataW H) → Bool := fun _ ds => decide (uptoBulkAll ds ≤ 1048576)
def OpenSpec.upto (s : _root_.Go.ChangeSpec) : _root_.Go.OpenSpec := { _root_.Go.OpenSpec.ofChange s with cond := some uptoSmall }

/-- 'tidemarklaw25.TupleCompares', WHERE WHAT IT READS IS OF BULK AT MOST 1048576: true; the input reads as it did. -/
def tupleComparesUptoRow : OpenClaim := { program := "ytoieckmegdcaeaa", sum := "1c90eff498f12350d90529e2a263154ee74db369ff0e945f4ff112be3a05c6a9", func := "tidemark/tidemarklaw25.TupleCompares", spec := "tupleCompares", unfollowed := true, recurses := true, apart := false, narrowed := true }
def TupleComparesUptoSaid : Prop := tupleComparesUptoRow.holds Try.pinned (OpenSpec.upto tupleComparesSpec)

/-- 'tidemarklaw25.TupleDecodes', WHERE WHAT IT READS IS OF BULK AT MOST 1048576: true; the input reads as it did. -/
def tupleDecodesUptoRow : OpenClaim := { program := "ytoieckmegdcaeaa", sum := "1c90eff498f12350d90529e2a263154ee74db369ff0e945f4ff112be3a05c6a9", func := "tidemark/tidemarklaw25.TupleDecodes", spec := "tupleDecodes", apart := false, narrowed := true }
def TupleDecodesUptoSaid : Prop := tupleDecodesUptoRow.holds Try.pinned (OpenSpec.upto tupleDecodesSpec)

end Rows
end Go.Proofs.Ytoieckmegdcaeaa
