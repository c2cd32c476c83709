import Derived.Test.YteeclengpnjlgaaGreatNStatStateNil
/- StateNil: the plain law: the body answers true, whatever came in. -/
namespace Go.Proofs.YteeclengpnjlgaaGreat.N
open Go.RowKit Go.Proofs.YteeclengpnjlgaaGreatW.PrintWords
theorem StateNil : pledgelaw25_StateNil.Pure := by
  intro x0 x1 _ _
  exact ⟨0, rfl⟩
end Go.Proofs.YteeclengpnjlgaaGreat.N
