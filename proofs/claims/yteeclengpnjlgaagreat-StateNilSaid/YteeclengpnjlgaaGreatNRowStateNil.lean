import Derived.Test.YteeclengpnjlgaaGreatRows
import Derived.Test.YteeclengpnjlgaaGreatN1
import Derived.Test.YteeclengpnjlgaaGreatNOpens
import Derived.Test.YteeclengpnjlgaaGreatNPureStateNil
import Derived.WalkKit
import Derived.ProofKit
import Derived.OpenShut
import Derived.ShutString
import Derived.ChangeOld
import Derived.Below
import Derived.SizedLaws
/- StateNil: for every input the law returns true, and each argument reads as it did. Conditions: what the row lists. -/
namespace Go.Proofs.YteeclengpnjlgaaGreat.NstateNil
open Go Go.ChangeShapes Go.WideShapes Go.ChangeAt Go.RowKit Go.Proofs.YteeclengpnjlgaaGreatW.PrintWords Go.Proofs.YteeclengpnjlgaaGreat.N
open Go.ChangeMaps (open_string shut_string)
set_option linter.unusedVariables false
theorem own : ownKnob Tryz.prog.godebug = none := by kernel_rfl
theorem laidOut : laidOutB Tryz.prog = true := by kernel_rfl
set_option maxRecDepth 100000 in
theorem lifted (os : Os) (started : os.Started) (H : Type) (enc : TypeId × Value → H) :
    ReturnsInHanded {} Tryz.checked os 5 .any (Rows.stateNilSpec.pre6 enc Tryz.prog Tryz.f5 Rows.stateNilRow.domain false) (Rows.stateNilSpec.post enc Tryz.prog Tryz.f5 false true false false) := by
  refine returnsInHanded_of_change_sized (C := Tryz.checked) own started (by kernel_rfl) Tryz.func5
    (ChangeSpec.witness6 (enc := enc) (C := Tryz.checked) false ⟨#[], #[.agg #[.int .u8 0, .int .u32 0, .int .u32 0, .int .u8 0, .bool false, .int .u8 0, .int .u8 0, .int .u8 0, .int .i64 0, .int .u8 0, .int .u8 0, .int .u32 0, .int .u8 0, .slice none 0 0, .slice none 0 0, .slice none 0 0, .int .u8 0, .int .u8 0, .int .u8 0, .int .i64 0], .agg #[.int .u8 0, .int .u8 0, .int .u8 0]], []⟩ 8 (by kernel_rfl) (by kernel_rfl) (by kernel_rfl) (by kernel_rfl)) ?_
  intro W base args ds gs before hval0 hW _ hsz0 _
  have hval : ∀ (j : Nat) t v, Tryz.f5.params[j]? = some t → args[j]? = some v → Value.okWide Tryz.prog W .any base t v := hval0
  have hW' := hW
  obtain ⟨p, q, hA0, hV, rfl, hfz, hnd⟩ := hW
  have hA : DataW.TrodAll enc Tryz.prog W 0 (fun _ => true) true Tryz.f5.params.toList args.toList ds p := hA0
  rw [Tryz.params5] at hA hval
  obtain ⟨v0, vs0, d0, ds0, p0, q0, hargs, rfl, rfl, h0, r0⟩ := trodAll_cons hA
  obtain ⟨v1, vs1, d1, ds1, p1, q1, rfl, rfl, rfl, h1, r1⟩ := trodAll_cons r0
  obtain ⟨rfl, rfl, rfl⟩ := trodAll_nil r1
  obtain rfl : args = #[v0, v1] := by cases args; simp_all
  obtain ⟨rfl, rfl⟩ := trodVars_none hV
  have lt0 : ∀ x ∈ p0, x.block < W.heap.size := by obtain ⟨m, hm⟩ := h0; exact DataW.trod_lt m _ _ _ hm
  obtain ⟨cs0, rfl, cz0⟩ := okWide_struct Tryz.underlying58 (hval 0 58 v0 rfl rfl)
  have g0 := h0
  obtain ⟨fu0, hf0⟩ := g0
  obtain ⟨x0, hk0, hw0⟩ := opens58.op hf0
  obtain ⟨A0_0, c0_0, A0_1, c0_1, A0_2, c0_2, he0, hc0_0, hr0_0, hc0_1, hr0_1, hc0_2, hr0_2⟩ := k58_open hk0
  replace he0 : (Value.agg cs0).cells.toList = _ := he0
  obtain rfl : cs0 = #[.int .u8 x0.f0, .int .u32 x0.f1, .int .u32 x0.f2, .int .u8 x0.f3, .bool x0.f4, .int .u8 x0.f5.f0, .int .u8 x0.f5.f1, .int .u8 x0.f5.f2, .int .i64 x0.f6, .int .u8 x0.f7, .int .u8 x0.f8.f0, .int .u32 x0.f8.f1, .int .u8 x0.f8.f2, .slice A0_0 x0.f8.f3.length c0_0, .slice A0_1 x0.f8.f4.length c0_1, .slice A0_2 x0.f8.f5.length c0_2, .int .u8 x0.f8.f6, .int .u8 x0.f8.f7, .int .u8 x0.f8.f8, .int .i64 x0.f8.f9] := by cases cs0; simpa [Value.cells] using he0
  have lt1 : ∀ x ∈ p1, x.block < W.heap.size := by obtain ⟨m, hm⟩ := h1; exact DataW.trod_lt m _ _ _ hm
  obtain ⟨cs1, rfl, cz1⟩ := okWide_struct Tryz.underlying52 (hval 1 52 v1 rfl rfl)
  have g1 := h1
  obtain ⟨fu1, hf1⟩ := g1
  obtain ⟨x1, hk1, hw1⟩ := opens52.op hf1
  have he1 : (Value.agg cs1).cells.toList = _ := k52_open hk1
  obtain rfl : cs1 = #[.int .u8 x1.f0, .int .u8 x1.f1, .int .u8 x1.f2] := by cases cs1; simpa [Value.cells] using he1
  obtain ⟨k, hp⟩ := StateNil x0 x1 hw0 hw1
  clear hA0 hval0 hsz0
  refine (pledgelaw25_StateNil.calls x0.f0 x0.f1 x0.f2 x0.f3 x0.f4 x0.f5.f0 x0.f5.f1 x0.f5.f2 x0.f6 x0.f7 x0.f8.f0 x0.f8.f1 x0.f8.f2 _ _ x0.f8.f3 _ _ x0.f8.f4 _ _ x0.f8.f5 x0.f8.f6 x0.f8.f7 x0.f8.f8 x0.f8.f9 x1.f0 x1.f1 x1.f2 true W hr0_0 hc0_0 hr0_1 hc0_1 hr0_2 hc0_2 hp).mono ?_
  rintro e W' ⟨rfl, bel0⟩
  have bel : Below W.heap.size W W' := bel0
  exact ⟨_, rfl, _, _, _, [], _, [], hW', trodAll_mk1 (shut_bool Tryz.underlying4 _), (trodAll_cons_mk (Below.trod laidOut (by kernel_rfl) (of_decide_eq_true (by kernel_rfl)) h0 bel lt0) (trodAll_cons_mk (Below.trod laidOut (by kernel_rfl) (of_decide_eq_true (by kernel_rfl)) h1 bel lt1) trodAll_mk0)), rfl, bel.frame _, fun h => by cases h⟩
theorem over : Rows.stateNilRow.holds Tryz.pinned (OpenSpec.ofChange Rows.stateNilSpec) :=
  OpenClaim.holds_of_wide 5 Tryz.f5 rfl rfl rfl rfl rfl rfl rfl ⟨rfl, rfl, rfl, rfl, rfl⟩ rfl rfl rfl rfl rfl (by kernel_rfl) Tryz.func5 (by kernel_rfl)
    (of_decide_eq_true (by kernel_rfl)) (by unfold Func.isWrapper; first | (rw [if_pos (by decide +kernel)]; kernel_rfl) | (rw [if_neg (by decide +kernel)]; exact ⟨rfl, rfl⟩))
    (fun os started H enc _ => lifted os started H enc)
theorem proved : Rows.StateNilSaid := over
#print axioms proved
end Go.Proofs.YteeclengpnjlgaaGreat.NstateNil
namespace Go.Proofs.YteeclengpnjlgaaGreat
theorem stateNil_holds : Rows.StateNilSaid := NstateNil.proved
end Go.Proofs.YteeclengpnjlgaaGreat
