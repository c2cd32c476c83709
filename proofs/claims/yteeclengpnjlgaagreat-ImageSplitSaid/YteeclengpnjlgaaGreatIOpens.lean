import Derived.Test.YteeclengpnjlgaaGreatOpen
import Derived.Test.YteeclengpnjlgaaGreatI0
/- From the form's reading of the laws' arguments to the printed kinds. -/
namespace Go.Proofs.YteeclengpnjlgaaGreat.I
open Go.RowKit Go.Proofs.YteeclengpnjlgaaGreatW.PrintWords
set_option linter.unusedVariables false
def WI5 (z : Int) : Prop := (Lit.int .u8 z).wf = true
theorem opens5 : Opens Tryz.prog 5 (Kd.int .u8) WI5 := opens_int Tryz.underlying5 (by kernel_rfl)
def WI22 (l : List Int) : Prop := ∀ x ∈ l, WI5 x
theorem opens22 : Opens Tryz.prog 22 (Kd.slice 5 (Kd.int .u8)) WI22 := opens_slice Tryz.underlying22 (by kernel_rfl) opens5
def WI3 (z : Int) : Prop := (Lit.int .i64 z).wf = true
theorem opens3 : Opens Tryz.prog 3 (Kd.int .i64) WI3 := opens_int Tryz.underlying3 (by kernel_rfl)
end Go.Proofs.YteeclengpnjlgaaGreat.I
