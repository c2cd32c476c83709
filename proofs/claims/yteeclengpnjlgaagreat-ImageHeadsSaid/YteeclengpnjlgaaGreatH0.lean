-- PRINTED by print.py (a twelfth state) out of the translation. Not trusted: Lean checks it.
import Derived.Test.YteeclengpnjlgaaGreatProg
import Derived.Below
import Derived.Deep.Draws
import Derived.Deep.AppendLies
import Derived.Maps.AppendAt
import Derived.OwnWalk
import Derived.Laws.BytesArg
import Derived.Laws.MakeOwn
import Derived.Laws.OwnMore
import Derived.Deep.OwnRows
import Derived.Tactics
import Derived.Lib.ConvBytes
import Derived.Laws.Slices
import Derived.WalkKit
import Derived.KernelRfl
import Derived.RowKit3
import Derived.Deep.LoopGhost
import Derived.Deep.QuietTactic
import Derived.BigQuiet
import Derived.WideLaws
import Derived.Deep.DeepCutAuto
import Derived.Deep.CutBlock
import Derived.Deep.RegionHeld3
import Derived.Laws.Rows
import Derived.Lib.AppendStr
import Derived.ArgAppend
import Derived.Laws.IdiomCopy
import Derived.OrdersHeld
import Derived.Laws.BitsLemmas
import Derived.RowKit
import Derived.Lib.SliceRun
import Derived.Test.YteeclengpnjlgaaGreatMk
import Derived.Test.YteeclengpnjlgaaGreatWWords
import Derived.Test.YteeclengpnjlgaaGreatWLast
import Derived.Test.YteeclengpnjlgaaGreatWTab
import Derived.Test.YteeclengpnjlgaaGreatWFour
import Derived.Test.YteeclengpnjlgaaGreatWQPut
import Derived.Test.YteeclengpnjlgaaGreatWApart
import Derived.Test.YteeclengpnjlgaaGreatWArr
import Derived.Test.YteeclengpnjlgaaGreatWZeros
import Derived.Test.YteeclengpnjlgaaGreatWFoot
import Derived.Test.YteeclengpnjlgaaGreatWKept
import Derived.Test.YteeclengpnjlgaaGreatWShare
import Derived.Test.YteeclengpnjlgaaGreatWN
import Derived.Test.YteeclengpnjlgaaGreatWFootNe
import Derived.Test.YteeclengpnjlgaaGreatWAt
import Derived.Test.YteeclengpnjlgaaGreatWEqStruct
import Derived.Test.YteeclengpnjlgaaGreatWRepsOne
import Derived.Test.YteeclengpnjlgaaGreatWInv
import Derived.Test.YteeclengpnjlgaaGreatWInvWords
import Derived.Test.YteeclengpnjlgaaGreatWGuard
import Derived.Test.YteeclengpnjlgaaGreatWNEv
import Derived.Test.YteeclengpnjlgaaGreatWMore
namespace Go.Proofs.YteeclengpnjlgaaGreat.H
open Go.RowKit Go.Proofs.YteeclengpnjlgaaGreatW.PrintWords Go.Proofs.YteeclengpnjlgaaGreatW.PrintLast Go.Proofs.YteeclengpnjlgaaGreatW.PrintMore
attribute [local go_sem] max2_int min2_int max_two min_two max_three min_three max_four min_four   -- for this text's walks alone
set_option linter.unusedVariables false
set_option linter.unusedSimpArgs false



def errW : Option Int → Value
  | none => .nilIface
  | some c => .iface 0 (.int .i64 c)
theorem errW_none : errW none = .nilIface := rfl
theorem errW_some (c : Int) : errW (some c) = .iface 0 (.int .i64 c) := rfl

theorem info5 : (Tryz.prog.info? 5).map (fun i => (i.zero, i.size, i.bytes)) = some (some (.int .u8 0), 1, 1) := by kernel_rfl
-- the values' own types

end Go.Proofs.YteeclengpnjlgaaGreat.H
