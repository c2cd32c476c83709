-- PRINTED by print.py (a twelfth state) out of the translation. Not trusted: Lean checks it.
import Derived.Test.YteeclengpnjlgaaGreatN0
namespace Go.Proofs.YteeclengpnjlgaaGreat.N
open Go.RowKit Go.Proofs.YteeclengpnjlgaaGreatW.PrintWords Go.Proofs.YteeclengpnjlgaaGreatW.PrintLast Go.Proofs.YteeclengpnjlgaaGreatW.PrintMore
attribute [local go_sem] max2_int min2_int max_two min_two max_three min_three max_four min_four   -- for this text's walks alone
set_option linter.unusedVariables false
set_option linter.unusedSimpArgs false

/-! ### pledgelaw25_StateNil: function 5 (by hand) -/
def pledgelaw25_StateNil.f (a0_0 a0_1 a0_2 a0_3 : Int) (a0_4 : Bool) (a0_5 a0_6 a0_7 a0_8 a0_9 a0_10 a0_11 a0_12 : Int) (l0_13 : List (S178)) (l0_14 : List (S181)) (l0_15 : List (S178)) (a0_16 a0_17 a0_18 a0_19 : Int) (a1_0 a1_1 a1_2 : Int) : Option Bool := some true
theorem pledgelaw25_StateNil.calls (a0_0 a0_1 a0_2 a0_3 : Int) (a0_4 : Bool) (a0_5 a0_6 a0_7 a0_8 a0_9 a0_10 a0_11 a0_12 : Int) (A0_13 : Option Addr) (c0_13 : Nat) (l0_13 : List (S178)) (A0_14 : Option Addr) (c0_14 : Nat) (l0_14 : List (S181)) (A0_15 : Option Addr) (c0_15 : Nat) (l0_15 : List (S178)) (a0_16 a0_17 a0_18 a0_19 : Int) (a1_0 a1_1 a1_2 : Int) (r : Bool) (w : World) (hr0_13 : Kd.C k178 w A0_13 l0_13.length l0_13) (hc0_13 : l0_13.length ≤ c0_13) (hr0_14 : Kd.C k181 w A0_14 l0_14.length l0_14) (hc0_14 : l0_14.length ≤ c0_14) (hr0_15 : Kd.C k178 w A0_15 l0_15.length l0_15) (hc0_15 : l0_15.length ≤ c0_15) (h : pledgelaw25_StateNil.f a0_0 a0_1 a0_2 a0_3 a0_4 a0_5 a0_6 a0_7 a0_8 a0_9 a0_10 a0_11 a0_12 l0_13 l0_14 l0_15 a0_16 a0_17 a0_18 a0_19 a1_0 a1_1 a1_2 = some r) :
    Calls Tryz.prog 5 #[.agg #[.int .u8 a0_0, .int .u32 a0_1, .int .u32 a0_2, .int .u8 a0_3, .bool a0_4, .int .u8 a0_5, .int .u8 a0_6, .int .u8 a0_7, .int .i64 a0_8, .int .u8 a0_9, .int .u8 a0_10, .int .u32 a0_11, .int .u8 a0_12, .slice A0_13 l0_13.length c0_13, .slice A0_14 l0_14.length c0_14, .slice A0_15 l0_15.length c0_15, .int .u8 a0_16, .int .u8 a0_17, .int .u8 a0_18, .int .i64 a0_19], .agg #[.int .u8 a1_0, .int .u8 a1_1, .int .u8 a1_2]] w fun e w' => e = .returned (.bool r) ∧ Below w.heap.size w w' := by
  unfold pledgelaw25_StateNil.f at h
  obtain rfl := Option.some.inj h
  exact Go.Proofs.YteeclengpnjlgaaGreat.Ev.nil_law a0_0 a0_1 a0_2 a0_3 a0_4 a0_5 a0_6 a0_7 a0_8 a0_9 a0_10 a0_11 a0_12 A0_13 A0_14 A0_15 l0_13.length l0_14.length l0_15.length c0_13 c0_14 c0_15 a0_16 a0_17 a0_18 a0_19 a1_0 a1_1 a1_2 w

end Go.Proofs.YteeclengpnjlgaaGreat.N
