-- PRINTED by print.py (a twelfth state) out of the translation. Not trusted: Lean checks it.
import Derived.Test.YteeclengpnjlgaaGreatL0
namespace Go.Proofs.YteeclengpnjlgaaGreat.L
open Go.RowKit Go.Proofs.YteeclengpnjlgaaGreatW.PrintWords Go.Proofs.YteeclengpnjlgaaGreatW.PrintLast Go.Proofs.YteeclengpnjlgaaGreatW.PrintMore
attribute [local go_sem] max2_int min2_int max_two min_two max_three min_three max_four min_four   -- for this text's walks alone
set_option linter.unusedVariables false
set_option linter.unusedSimpArgs false

/-! ### pledgelaw27_ImageHeads: function 4 (by hand) -/
def pledgelaw27_ImageHeads.f (a0 a1 a2 a3 a4 a5 a6 a7 a8 a9 a10 a11 : Int) (l1 : List Int) (xI xAt : Int) (l2 : List (List Int)) : Option Bool := if ((0 ≤ a0 ∧ a0 ≤ 255) ∧ (0 ≤ a1 ∧ a1 ≤ 255) ∧ (0 ≤ a2 ∧ a2 ≤ 255) ∧ (0 ≤ a3 ∧ a3 ≤ 65535) ∧ (0 ≤ a4 ∧ a4 ≤ 255) ∧ (0 ≤ a5 ∧ a5 ≤ 255) ∧ (0 ≤ a6 ∧ a6 ≤ 255) ∧ (0 ≤ a7 ∧ a7 ≤ 255) ∧ (0 ≤ a8 ∧ a8 ≤ 255) ∧ (0 ≤ a9 ∧ a9 ≤ 255) ∧ (0 ≤ a10 ∧ a10 ≤ 65535) ∧ (0 ≤ a11 ∧ a11 ≤ 255)) ∧ ∀ b ∈ l2, b.length ≤ 140737488351232 ∧ ∀ z ∈ b, (0 : Int) ≤ z ∧ z < 256 then some true else none
theorem pledgelaw27_ImageHeads.calls (a0 a1 a2 a3 a4 a5 a6 a7 a8 a9 a10 a11 : Int) (A1 : Option Addr) (c1 : Nat) (l1 : List Int) (xI xAt : Int) (A2 : Option Addr) (c2 : Nat) (l2 : List (List Int)) (r : Bool) (w : World) (hr1 : Kd.C (Kd.int .i64) w A1 l1.length l1) (hc1 : l1.length ≤ c1) (hr2 : Kd.C (Kd.slice 5 (Kd.int .u8)) w A2 l2.length l2) (hc2 : l2.length ≤ c2) (h : pledgelaw27_ImageHeads.f a0 a1 a2 a3 a4 a5 a6 a7 a8 a9 a10 a11 l1 xI xAt l2 = some r) :
    Calls Tryz.prog 4 #[.agg #[.int .u8 a0, .int .u8 a1, .int .u8 a2, .int .u16 a3, .int .u8 a4, .int .u8 a5, .int .u8 a6, .int .u8 a7, .int .u8 a8, .int .u8 a9, .int .u16 a10, .int .u8 a11], .slice A1 l1.length c1, .agg #[.int .i64 xI, .int .i64 xAt, .slice A2 l2.length c2]] w fun e w' => e = .returned (.bool r) ∧ Below w.heap.size w w' := by
  unfold pledgelaw27_ImageHeads.f at h
  split at h
  · rename_i hb
    obtain rfl := Option.some.inj h
    obtain ⟨⟨h0, h1, h2, h3, h4, h5, h6, h7, h8, h9, h10, h11⟩, hbl⟩ := hb
    exact Go.Proofs.YteeclengpnjlgaaGreat.I.heads_law a0 a1 a2 a3 a4 a5 a6 a7 a8 a9 a10 a11 w h0 h1 h2 h3 h4 h5 h6 h7 h8 h9 h10 h11 A1 c1 l1 xI xAt A2 c2 l2 hr1 hc1 hr2 hc2 (fun b hb => (hbl b hb).2) (fun b hb => (hbl b hb).1)
  · cases h

end Go.Proofs.YteeclengpnjlgaaGreat.L
