import Derived.Test.YteeclengpnjlgaaGreatIOpens
import Derived.Test.YteeclengpnjlgaaGreatSpt
namespace Go.Proofs.YteeclengpnjlgaaGreat.I
open Go.RowKit Go.Proofs.YteeclengpnjlgaaGreatW.PrintWords
set_option linter.unusedVariables false
def pledgelaw27_ImageSplit.Pure : Prop := ∀ (x0 : List Int) (x1 : Int), WI22 x0 → WI3 x1 → ∃ k : Nat, pledgelaw27_ImageSplit.f x0 x1 = some true
end Go.Proofs.YteeclengpnjlgaaGreat.I
