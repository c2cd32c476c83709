import Derived.Test.YteeclengpnjlgaaGreatEvX
import Derived.Test.YteeclengpnjlgaaGreatEvPlans16
namespace Go.Proofs.YteeclengpnjlgaaGreat.Ev
set_option maxRecDepth 100000
def isTrue : Option (Value × Nat × T AO) → Bool
  | some (.bool true, _, _) => true
  | _ => false
theorem isTrue_ok {x : Option (Value × Nat × T AO)} (h : isTrue x = true) : ∃ n H, x = some (.bool true, n, H) := by
  unfold isTrue at h
  split at h
  · exact ⟨_, _, rfl⟩
  · cases h
theorem run16 : isTrue (evFn Tryz.prog known (planOf plans) 30 (0, []) 16 [] 0 .nil) = true := by kernel_rfl
end Go.Proofs.YteeclengpnjlgaaGreat.Ev
