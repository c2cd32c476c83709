import Derived.Test.YteeclengpnjlgaaGreatLStatImageHeads
/- ImageHeads: the plain law: the body answers true at numbers of their kinds and at lists that a machine may bear. -/
namespace Go.Proofs.YteeclengpnjlgaaGreat.L
open Go.RowKit Go.Proofs.YteeclengpnjlgaaGreatW.PrintWords
theorem wu8 {z : Int} (h : (Lit.int .u8 z).wf = true) : 0 ≤ z ∧ z ≤ 255 := by simpa [Lit.wf, IntKind.min, IntKind.max, IntKind.signed, IntKind.bits] using h
theorem wu16 {z : Int} (h : (Lit.int .u16 z).wf = true) : 0 ≤ z ∧ z ≤ 65535 := by simpa [Lit.wf, IntKind.min, IntKind.max, IntKind.signed, IntKind.bits] using h
theorem ImageHeads : pledgelaw27_ImageHeads.Pure := by
  intro x0 x1 x2 h0 _ h2
  refine ⟨0, ?_⟩
  obtain ⟨p0, p1, p2, p3, p4, p5, p6, p7, p8, p9, p10, p11⟩ := h0
  obtain ⟨_, _, q⟩ := h2
  unfold pledgelaw27_ImageHeads.f
  rw [if_pos]
  refine ⟨⟨wu8 p0, wu8 p1, wu8 p2, wu16 p3, wu8 p4, wu8 p5, wu8 p6, wu8 p7, wu8 p8, wu8 p9, wu16 p10, wu8 p11⟩, fun b hb => ?_⟩
  have h5 := q.2 b hb
  refine ⟨by have := h5.1; omega, fun z hz => ?_⟩
  have := wu8 (h5.2 z hz)
  omega
end Go.Proofs.YteeclengpnjlgaaGreat.L
