import Derived.Test.YteeclengpnjlgaaGreatIStatImageSplit
/- ImageSplit: the plain law: the body answers true at every size that an int may be. -/
namespace Go.Proofs.YteeclengpnjlgaaGreat.I
open Go.RowKit Go.Proofs.YteeclengpnjlgaaGreatW.PrintWords
theorem ImageSplit : pledgelaw27_ImageSplit.Pure := by
  intro x0 x1 _ h
  refine ⟨0, ?_⟩
  unfold pledgelaw27_ImageSplit.f
  have h1 : x1 ≤ 9223372036854775807 := by
    have : -9223372036854775808 ≤ x1 ∧ x1 ≤ 9223372036854775807 := by simpa [WI3, Lit.wf, IntKind.min, IntKind.max, IntKind.signed, IntKind.bits] using h
    exact this.2
  rw [if_pos h1]
end Go.Proofs.YteeclengpnjlgaaGreat.I
