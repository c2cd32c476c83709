/-
  No cell of these rows narrows 'for every input' (looked for: loops, veiled, ifaces, maps, wideKeys, modest, calm, conditions, laid).
  DERIVED. THE GIVEN ROWS OF THIS SEAT. 3 by the template 'for every input the law returns true; each argument reads behind the call as it read before'; 0 by the template 'total and deterministic' (their statements: YteeclengpnjlgaaGreatTotals.lean).
  GIVEN WITH THE SEED: the statements are not yours to turn. If you find one false, say at which input.
  Laid BY PROGRAM, IN A SANDBOX (cutbox-rows.mjs): the forced cells as the released guide's own fill.sh prints them over the translation 80e079ffa77749ba… (all of the seat's roots in one cut). By AI agents, Wed Nov 11 2026. No macro, syntax, notation, axiom, sorry.
-/
import Derived.Test.YteeclengpnjlgaaGreatChecked
import GoSem.Claim
import GoSem.ClaimJoined
import GoSem.ClaimMapViews
import Derived.JoinedTies
import Derived.KernelRfl
namespace Go.Proofs.YteeclengpnjlgaaGreat
/- THE CELL 'sum', in the pinned program and in every row, IS THE sha256 OF THE DUMP (.gsa) THAT YteeclengpnjlgaaGreatProg.lean LOADS. Nothing in Lean hashes anything: it is a label: what it is worth is what the hold of that sum in a sandbox is worth. -/
noncomputable def Tryz.pinned : Pinned := { name := "yteeclengpnjlgaagreat", sum := "80e079ffa77749ba520b7d5c331a216c7b570e2c66f228897a19c76b1461e126", checked := Tryz.checked }
namespace Rows
def none {H : Type} : Left H := { results := [], args := [] }

/-- 'pledgelaw27.ImageSplit': WHATEVER THE INPUT: true; the input reads as it did. -/
def imageSplitSpec : ChangeSpec := { name := "imageSplit", fn := fun _ => fun
  | [d1, d2] => { results := [.lit (.bool true)], args := [d1, d2] }
  | _ => none }
def imageSplitRow : OpenClaim := { program := "yteeclengpnjlgaagreat", sum := "80e079ffa77749ba520b7d5c331a216c7b570e2c66f228897a19c76b1461e126", func := "pledge/pledgelaw27.ImageSplit", spec := "imageSplit", inPlace := ["math/bits.Add64"], unfollowed := true, recurses := true, plainKeys := false, apart := false }
def ImageSplitSaid : Prop := imageSplitRow.holds Tryz.pinned (OpenSpec.ofChange imageSplitSpec)

/-- ITS FALSE NEIGHBOUR: 'it returns false'. Refute it at one input. -/
def imageSplitWrong : ChangeSpec := { name := "imageSplit", fn := fun _ => fun
  | [d1, d2] => { results := [.lit (.bool false)], args := [d1, d2] }
  | _ => none }
def ImageSplitWrongFalsely : Prop := imageSplitRow.holds Tryz.pinned (OpenSpec.ofChange imageSplitWrong)

/-- 'pledgelaw27.ImageHeads': WHATEVER THE INPUT: true; the input reads as it did. -/
def imageHeadsSpec : ChangeSpec := { name := "imageHeads", fn := fun _ => fun
  | [d1, d2, d3] => { results := [.lit (.bool true)], args := [d1, d2, d3] }
  | _ => none }
def imageHeadsRow : OpenClaim := { program := "yteeclengpnjlgaagreat", sum := "80e079ffa77749ba520b7d5c331a216c7b570e2c66f228897a19c76b1461e126", func := "pledge/pledgelaw27.ImageHeads", spec := "imageHeads", inPlace := ["math/bits.Add64"], unfollowed := true, recurses := true, plainKeys := false, apart := false }
def ImageHeadsSaid : Prop := imageHeadsRow.holds Tryz.pinned (OpenSpec.ofChange imageHeadsSpec)

/-- ITS FALSE NEIGHBOUR: 'it returns false'. Refute it at one input. -/
def imageHeadsWrong : ChangeSpec := { name := "imageHeads", fn := fun _ => fun
  | [d1, d2, d3] => { results := [.lit (.bool false)], args := [d1, d2, d3] }
  | _ => none }
def ImageHeadsWrongFalsely : Prop := imageHeadsRow.holds Tryz.pinned (OpenSpec.ofChange imageHeadsWrong)

/-- 'pledgelaw25.StateNil': WHATEVER THE INPUT: true; the input reads as it did. -/
def stateNilSpec : ChangeSpec := { name := "stateNil", fn := fun _ => fun
  | [d1, d2] => { results := [.lit (.bool true)], args := [d1, d2] }
  | _ => none }
def stateNilRow : OpenClaim := { program := "yteeclengpnjlgaagreat", sum := "80e079ffa77749ba520b7d5c331a216c7b570e2c66f228897a19c76b1461e126", func := "pledge/pledgelaw25.StateNil", spec := "stateNil", inPlace := ["math/bits.Add64"], unfollowed := true, recurses := true, plainKeys := false, apart := false }
def StateNilSaid : Prop := stateNilRow.holds Tryz.pinned (OpenSpec.ofChange stateNilSpec)

/-- ITS FALSE NEIGHBOUR: 'it returns false'. Refute it at one input. -/
def stateNilWrong : ChangeSpec := { name := "stateNil", fn := fun _ => fun
  | [d1, d2] => { results := [.lit (.bool false)], args := [d1, d2] }
  | _ => none }
def StateNilWrongFalsely : Prop := stateNilRow.holds Tryz.pinned (OpenSpec.ofChange stateNilWrong)

/- THE SECOND FORM. 'bulk': how many values and letters a reading holds, each counted each time it is reached (what is shared counts as often as it is met; a slice's spare places count too). A statement '..UptoSaid' is the law's where the arguments, and the package variables that the reading takes, are together of bulk at most 1048576: NARROWER than '..Said'. Prove '..Said' where nothing that the law and all that it calls make is longer than what came in: it says more and counts as full. Else prove '..UptoSaid'. A law counts once. -/
mutual
def uptoBulk {H : Type} : DataW H → Nat
  | .lit (.string bytes) => bytes.length + 1
  | .lit _ => 1
  | .nil => 1
  | .ptr d => uptoBulk d + 1
  | .slice elems spare => uptoBulkAll elems + uptoBulkAll spare + 1
  | .agg parts => uptoBulkAll parts + 1
  | .iface _ d => uptoBulk d + 1
  | .map entries => uptoBulkEntries entries + 1
  | .held _ => 1
def uptoBulkAll {H : Type} : List (DataW H) → Nat
  | [] => 0
  | d :: r => uptoBulk d + uptoBulkAll r
def uptoBulkEntries {H : Type} : List (Lit × DataW H) → Nat
  | [] => 0
  | x :: r => uptoBulkEntry x + uptoBulkEntries r
def uptoBulkEntry {H : Type} : Lit × DataW H → Nat
  | (.string bytes, d) => bytes.length + uptoBulk d + 1
  | (_, d) => uptoBulk d + 1
 end
def uptoSmall : (H : Type) → List (DataW H) → Bool := fun _ ds => decide (uptoBulkAll ds ≤ 1048576)
def OpenSpec.upto (s : _root_.Go.ChangeSpec) : _root_.Go.OpenSpec := { _root_.Go.OpenSpec.ofChange s with cond := some uptoSmall }

/-- 'pledgelaw27.ImageSplit', WHERE WHAT IT READS IS OF BULK AT MOST 1048576: true; the input reads as it did. -/
def imageSplitUptoRow : OpenClaim := { program := "yteeclengpnjlgaagreat", sum := "80e079ffa77749ba520b7d5c331a216c7b570e2c66f228897a19c76b1461e126", func := "pledge/pledgelaw27.ImageSplit", spec := "imageSplit", inPlace := ["math/bits.Add64"], unfollowed := true, recurses := true, plainKeys := false, apart := false, narrowed := true }
def ImageSplitUptoSaid : Prop := imageSplitUptoRow.holds Tryz.pinned (OpenSpec.upto imageSplitSpec)

/-- 'pledgelaw27.ImageHeads', WHERE WHAT IT READS IS OF BULK AT MOST 1048576: true; the input reads as it did. -/
def imageHeadsUptoRow : OpenClaim := { program := "yteeclengpnjlgaagreat", sum := "80e079ffa77749ba520b7d5c331a216c7b570e2c66f228897a19c76b1461e126", func := "pledge/pledgelaw27.ImageHeads", spec := "imageHeads", inPlace := ["math/bits.Add64"], unfollowed := true, recurses := true, plainKeys := false, apart := false, narrowed := true }
def ImageHeadsUptoSaid : Prop := imageHeadsUptoRow.holds Tryz.pinned (OpenSpec.upto imageHeadsSpec)

/-- 'pledgelaw25.StateNil', WHERE WHAT IT READS IS OF BULK AT MOST 1048576: true; the input reads as it did. -/
def stateNilUptoRow : OpenClaim := { program := "yteeclengpnjlgaagreat", sum := "80e079ffa77749ba520b7d5c331a216c7b570e2c66f228897a19c76b1461e126", func := "pledge/pledgelaw25.StateNil", spec := "stateNil", inPlace := ["math/bits.Add64"], unfollowed := true, recurses := true, plainKeys := false, apart := false, narrowed := true }
def StateNilUptoSaid : Prop := stateNilUptoRow.holds Tryz.pinned (OpenSpec.upto stateNilSpec)

end Rows
end Go.Proofs.YteeclengpnjlgaaGreat
