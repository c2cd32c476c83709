import Derived.Test.YteeclengpnjlgaaGreatLOpens
import Derived.Test.YteeclengpnjlgaaGreatL1
namespace Go.Proofs.YteeclengpnjlgaaGreat.L
open Go.RowKit Go.Proofs.YteeclengpnjlgaaGreatW.PrintWords
set_option linter.unusedVariables false
def pledgelaw27_ImageHeads.Pure : Prop := ∀ (x0 : S29) (x1 : List Int) (x2 : S32), WL29 x0 → WL30 x1 → WL32 x2 → ∃ k : Nat, pledgelaw27_ImageHeads.f x0.f0 x0.f1 x0.f2 x0.f3 x0.f4 x0.f5 x0.f6 x0.f7 x0.f8 x0.f9 x0.f10 x0.f11 x1 x2.f0 x2.f1 x2.f2 = some true
end Go.Proofs.YteeclengpnjlgaaGreat.L
