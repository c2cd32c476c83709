import Derived.Test.YteeclengpnjlgaaGreatNOpens
import Derived.Test.YteeclengpnjlgaaGreatN1
namespace Go.Proofs.YteeclengpnjlgaaGreat.N
open Go.RowKit Go.Proofs.YteeclengpnjlgaaGreatW.PrintWords
set_option linter.unusedVariables false
def pledgelaw25_StateNil.Pure : Prop := ∀ (x0 : S58) (x1 : S52), WN58 x0 → WN52 x1 → ∃ k : Nat, pledgelaw25_StateNil.f x0.f0 x0.f1 x0.f2 x0.f3 x0.f4 x0.f5.f0 x0.f5.f1 x0.f5.f2 x0.f6 x0.f7 x0.f8.f0 x0.f8.f1 x0.f8.f2 x0.f8.f3 x0.f8.f4 x0.f8.f5 x0.f8.f6 x0.f8.f7 x0.f8.f8 x0.f8.f9 x1.f0 x1.f1 x1.f2 = some true
end Go.Proofs.YteeclengpnjlgaaGreat.N
