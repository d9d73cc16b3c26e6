/-
  No cell of these rows narrows 'for every input' (looked for: loops, veiled, ifaces, maps, wideKeys, modest, calm, conditions, laid).
  DERIVED. THE GIVEN ROWS OF THIS SEAT. 2 by the template 'for every input the law returns true; each argument reads behind the call as it read before'; 0 by the template 'total and deterministic' (their statements: YtacobpmmpdadpaaGreatTotals.lean).
  GIVEN WITH THE SEED: the statements are not yours to turn. If you find one false, say at which input.
  Laid BY PROGRAM, IN A SANDBOX (cutbox-rows.mjs): the forced cells as the released guide's own fill.sh prints them over the translation c5275c7cd5af5335… (all of the seat's roots in one cut). By AI agents, Wed Nov 11 2026. No macro, syntax, notation, axiom, sorry.
-/
import Derived.Test.YtacobpmmpdadpaaGreatChecked
import GoSem.Claim
import GoSem.ClaimJoined
import GoSem.ClaimMapViews
import Derived.JoinedTies
import Derived.KernelRfl
namespace Go.Proofs.YtacobpmmpdadpaaGreat
/- THE CELL 'sum', in the pinned program and in every row, IS THE sha256 OF THE DUMP (.gsa) THAT YtacobpmmpdadpaaGreatProg.lean LOADS. Nothing in Lean hashes anything: it is a label: what it is worth is what the hold of that sum in a sandbox is worth. -/
noncomputable def Tryz.pinned : Pinned := { name := "ytacobpmmpdadpaagreat", sum := "c5275c7cd5af5335f1aa8c9a4243329e0e974040b0b5258fb01086769e2dcd9d", checked := Tryz.checked }
namespace Rows
def none {H : Type} : Left H := { results := [], args := [] }

/-- 'tendrillaw20.DomPlays': WHATEVER THE INPUT: true; the input reads as it did. -/
def domPlaysSpec : ChangeSpec := { name := "domPlays", fn := fun _ => fun
  | [d1, d2] => { results := [.lit (.bool true)], args := [d1, d2] }
  | _ => none }
def domPlaysRow : OpenClaim := { program := "ytacobpmmpdadpaagreat", sum := "c5275c7cd5af5335f1aa8c9a4243329e0e974040b0b5258fb01086769e2dcd9d", func := "tendril/tendrillaw20.DomPlays", spec := "domPlays", inPlace := ["internal/bytealg.IndexByteString", "slices.overlaps[tendril/api.Attr]"], unfollowed := true, recurses := true, apart := false }
def DomPlaysSaid : Prop := domPlaysRow.holds Tryz.pinned (OpenSpec.ofChange domPlaysSpec)

/-- ITS FALSE NEIGHBOUR: 'it returns false'. Refute it at one input. -/
def domPlaysWrong : ChangeSpec := { name := "domPlays", fn := fun _ => fun
  | [d1, d2] => { results := [.lit (.bool false)], args := [d1, d2] }
  | _ => none }
def DomPlaysWrongFalsely : Prop := domPlaysRow.holds Tryz.pinned (OpenSpec.ofChange domPlaysWrong)

/-- 'tendrillaw20.DomSteps': WHATEVER THE INPUT: true; the input reads as it did. -/
def domStepsSpec : ChangeSpec := { name := "domSteps", fn := fun _ => fun
  | [d] => { results := [.lit (.bool true)], args := [d] }
  | _ => none }
def domStepsRow : OpenClaim := { program := "ytacobpmmpdadpaagreat", sum := "c5275c7cd5af5335f1aa8c9a4243329e0e974040b0b5258fb01086769e2dcd9d", func := "tendril/tendrillaw20.DomSteps", spec := "domSteps", inPlace := ["internal/bytealg.IndexByteString", "slices.overlaps[tendril/api.Attr]"], unfollowed := true, recurses := true, apart := false }
def DomStepsSaid : Prop := domStepsRow.holds Tryz.pinned (OpenSpec.ofChange domStepsSpec)

/-- ITS FALSE NEIGHBOUR: 'it returns false'. Refute it at one input. -/
def domStepsWrong : ChangeSpec := { name := "domSteps", fn := fun _ => fun
  | [d] => { results := [.lit (.bool false)], args := [d] }
  | _ => none }
def DomStepsWrongFalsely : Prop := domStepsRow.holds Tryz.pinned (OpenSpec.ofChange domStepsWrong)

/- THE SECOND FORM. 'bulk': how many values and letters a reading holds, each counted each time it is reached (what is shared counts as often as it is met; a slice's spare places count too). A statement '..UptoSaid' is the law's where the arguments, and the package variables that the reading takes, are together of bulk at most 1048576: NARROWER than '..Said'. Prove '..Said' where nothing that the law and all that it calls make is longer than what came in: it says more and counts as full. Else prove '..UptoSaid'. A law counts once. -/
mutual
def uptoBulk {H : Type} : DataW H → Nat
  | .lit (.string bytes) => bytes.length + 1
  | .lit _ => 1
  | .nil => 1
  | .ptr d => uptoBulk d + 1
  | .slice elems spare => uptoBulkAll elems + uptoBulkAll spare + 1
  | .agg parts => uptoBulkAll parts + 1
  | .iface _ d => uptoBulk d + 1
  | .map entries => uptoBulkEntries entries + 1
  | .held _ => 1
def uptoBulkAll {H : Type} : List (DataW H) → Nat
  | [] => 0
  | d :: r => uptoBulk d + uptoBulkAll r
def uptoBulkEntries {H : Type} : List (Lit × DataW H) → Nat
  | [] => 0
  | x :: r => uptoBulkEntry x + uptoBulkEntries r
def uptoBulkEntry {H : Type} : Lit × DataW H → Nat
  | (.string bytes, d) => bytes.length + uptoBulk d + 1
  | (_, d) => uptoBulk d + 1
 end
def uptoSmall : (H : Type) → List (DataW H) → Bool := fun _ ds => decide (uptoBulkAll ds ≤ 1048576)
def OpenSpec.upto (s : _root_.Go.ChangeSpec) : _root_.Go.OpenSpec := { _root_.Go.OpenSpec.ofChange s with cond := some uptoSmall }

/-- 'tendrillaw20.DomPlays', WHERE WHAT IT READS IS OF BULK AT MOST 1048576: true; the input reads as it did. -/
def domPlaysUptoRow : OpenClaim := { program := "ytacobpmmpdadpaagreat", sum := "c5275c7cd5af5335f1aa8c9a4243329e0e974040b0b5258fb01086769e2dcd9d", func := "tendril/tendrillaw20.DomPlays", spec := "domPlays", inPlace := ["internal/bytealg.IndexByteString", "slices.overlaps[tendril/api.Attr]"], unfollowed := true, recurses := true, apart := false, narrowed := true }
def DomPlaysUptoSaid : Prop := domPlaysUptoRow.holds Tryz.pinned (OpenSpec.upto domPlaysSpec)

/-- 'tendrillaw20.DomSteps', WHERE WHAT IT READS IS OF BULK AT MOST 1048576: true; the input reads as it did. -/
def domStepsUptoRow : OpenClaim := { program := "ytacobpmmpdadpaagreat", sum := "c5275c7cd5af5335f1aa8c9a4243329e0e974040b0b5258fb01086769e2dcd9d", func := "tendril/tendrillaw20.DomSteps", spec := "domSteps", inPlace := ["internal/bytealg.IndexByteString", "slices.overlaps[tendril/api.Attr]"], unfollowed := true, recurses := true, apart := false, narrowed := true }
def DomStepsUptoSaid : Prop := domStepsUptoRow.holds Tryz.pinned (OpenSpec.upto domStepsSpec)

end Rows
end Go.Proofs.YtacobpmmpdadpaaGreat
