import Derived.Test.YteeclengpnjlgaaGreatEvR1
namespace Go.Proofs.YteeclengpnjlgaaGreat.Ev
open Go.RowKit
theorem works_calls (w : World) : Calls Tryz.prog 16 #[] w fun e w' => e = .returned (.bool true) ∧ Below w.heap.size w w' := by
  obtain ⟨n, H, h⟩ := isTrue_ok run16
  exact closed_ok (evFn_ok known_ok (by kernel_rfl) (planOf plans) (plans_ok plans_all) 30) h rfl w
end Go.Proofs.YteeclengpnjlgaaGreat.Ev
