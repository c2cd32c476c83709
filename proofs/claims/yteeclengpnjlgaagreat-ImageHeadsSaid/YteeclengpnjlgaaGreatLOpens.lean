import Derived.Test.YteeclengpnjlgaaGreatOpenZ
import Derived.Test.YteeclengpnjlgaaGreatL0
/- From the form's reading of the laws' arguments to the printed kinds. -/
namespace Go.Proofs.YteeclengpnjlgaaGreat.L
open Go.RowKit Go.Proofs.YteeclengpnjlgaaGreatW.PrintWords
set_option linter.unusedVariables false
def WL5 (z : Int) : Prop := (Lit.int .u8 z).wf = true
theorem opens5 : OpensZ Tryz.prog 5 (Kd.int .u8) WL5 := (opens_int Tryz.underlying5 (by kernel_rfl)).z
def WL27 (z : Int) : Prop := (Lit.int .u16 z).wf = true
theorem opens27 : OpensZ Tryz.prog 27 (Kd.int .u16) WL27 := (opens_int Tryz.underlying27 (by kernel_rfl)).z
def WL29 (x : S29) : Prop := WL5 x.f0 ∧ WL5 x.f1 ∧ WL5 x.f2 ∧ WL27 x.f3 ∧ WL5 x.f4 ∧ WL5 x.f5 ∧ WL5 x.f6 ∧ WL5 x.f7 ∧ WL5 x.f8 ∧ WL5 x.f9 ∧ WL27 x.f10 ∧ WL5 x.f11
theorem opens29 : OpensZ Tryz.prog 29 k29 WL29 := ⟨by kernel_rfl, by
  intro H enc w base sp held fuel cs x h hz
  obtain ⟨xs, n, _, rfl, hl, hxl, hf⟩ := DataW.trod_struct Tryz.underlying29 h
  have hz2 := agg_weights Tryz.underlying29 hz
  obtain ⟨a0, k0, w0⟩ := fieldZ_opens opens5 hz2 0 0 (by rw [hxl]; decide) rfl (hf 0 _ rfl)
  obtain ⟨a1, k1, w1⟩ := fieldZ_opens opens5 hz2 1 1 (by rw [hxl]; decide) rfl (hf 1 _ rfl)
  obtain ⟨a2, k2, w2⟩ := fieldZ_opens opens5 hz2 2 2 (by rw [hxl]; decide) rfl (hf 2 _ rfl)
  obtain ⟨a3, k3, w3⟩ := fieldZ_opens opens27 hz2 3 3 (by rw [hxl]; decide) rfl (hf 3 _ rfl)
  obtain ⟨a4, k4, w4⟩ := fieldZ_opens opens5 hz2 4 4 (by rw [hxl]; decide) rfl (hf 4 _ rfl)
  obtain ⟨a5, k5, w5⟩ := fieldZ_opens opens5 hz2 5 5 (by rw [hxl]; decide) rfl (hf 5 _ rfl)
  obtain ⟨a6, k6, w6⟩ := fieldZ_opens opens5 hz2 6 6 (by rw [hxl]; decide) rfl (hf 6 _ rfl)
  obtain ⟨a7, k7, w7⟩ := fieldZ_opens opens5 hz2 7 7 (by rw [hxl]; decide) rfl (hf 7 _ rfl)
  obtain ⟨a8, k8, w8⟩ := fieldZ_opens opens5 hz2 8 8 (by rw [hxl]; decide) rfl (hf 8 _ rfl)
  obtain ⟨a9, k9, w9⟩ := fieldZ_opens opens5 hz2 9 9 (by rw [hxl]; decide) rfl (hf 9 _ rfl)
  obtain ⟨a10, k10, w10⟩ := fieldZ_opens opens27 hz2 10 10 (by rw [hxl]; decide) rfl (hf 10 _ rfl)
  obtain ⟨a11, k11, w11⟩ := fieldZ_opens opens5 hz2 11 11 (by rw [hxl]; decide) rfl (hf 11 _ rfl)
  have hk := (K_pair_at 0 1 rfl k0 (K_pair_at 1 2 rfl k1 (K_pair_at 2 3 rfl k2 (K_pair_at 3 4 rfl k3 (K_pair_at 4 5 rfl k4 (K_pair_at 5 6 rfl k5 (K_pair_at 6 7 rfl k6 (K_pair_at 7 8 rfl k7 (K_pair_at 8 9 rfl k8 (K_pair_at 9 10 rfl k9 (K_pair_at 10 11 rfl k10 k11)))))))))))
  refine ⟨⟨a0, a1, a2, a3, a4, a5, a6, a7, a8, a9, a10, a11⟩, K_whole (d := k29) (by rw [hl]; kernel_rfl) hk, ⟨w0, w1, w2, w3, w4, w5, w6, w7, w8, w9, w10, w11⟩⟩⟩
def WL2 (z : Int) : Prop := (Lit.int .i64 z).wf = true
theorem opens2 : OpensZ Tryz.prog 2 (Kd.int .i64) WL2 := (opens_int Tryz.underlying2 (by kernel_rfl)).z
def WL30 (l : List Int) : Prop := l.length * 8 ≤ 140737488351232 ∧ ∀ x ∈ l, WL2 x
theorem opens30 : OpensZ Tryz.prog 30 (Kd.slice 2 (Kd.int .i64)) WL30 := opensZ_slice Tryz.underlying30 (by kernel_rfl) 8 (by kernel_rfl) opens2
def WL3 (z : Int) : Prop := (Lit.int .i64 z).wf = true
theorem opens3 : OpensZ Tryz.prog 3 (Kd.int .i64) WL3 := (opens_int Tryz.underlying3 (by kernel_rfl)).z
def WL22 (l : List Int) : Prop := l.length * 1 ≤ 140737488351232 ∧ ∀ x ∈ l, WL5 x
theorem opens22 : OpensZ Tryz.prog 22 (Kd.slice 5 (Kd.int .u8)) WL22 := opensZ_slice Tryz.underlying22 (by kernel_rfl) 1 (by kernel_rfl) opens5
def WL23 (l : List (List Int)) : Prop := l.length * 24 ≤ 140737488351232 ∧ ∀ x ∈ l, WL22 x
theorem opens23 : OpensZ Tryz.prog 23 (Kd.slice 22 (Kd.slice 5 (Kd.int .u8))) WL23 := opensZ_slice Tryz.underlying23 (by kernel_rfl) 24 (by kernel_rfl) opens22
def WL32 (x : S32) : Prop := WL3 x.f0 ∧ WL2 x.f1 ∧ WL23 x.f2
theorem opens32 : OpensZ Tryz.prog 32 k32 WL32 := ⟨by kernel_rfl, by
  intro H enc w base sp held fuel cs x h hz
  obtain ⟨xs, n, _, rfl, hl, hxl, hf⟩ := DataW.trod_struct Tryz.underlying32 h
  have hz2 := agg_weights Tryz.underlying32 hz
  obtain ⟨a0, k0, w0⟩ := fieldZ_opens opens3 hz2 0 0 (by rw [hxl]; decide) rfl (hf 0 _ rfl)
  obtain ⟨a1, k1, w1⟩ := fieldZ_opens opens2 hz2 1 1 (by rw [hxl]; decide) rfl (hf 1 _ rfl)
  obtain ⟨a2, k2, w2⟩ := fieldZ_opens opens23 hz2 2 2 (by rw [hxl]; decide) rfl (hf 2 _ rfl)
  have hk := (K_pair_at 0 1 rfl k0 (K_pair_at 1 2 rfl k1 k2))
  refine ⟨⟨a0, a1, a2⟩, K_whole (d := k32) (by rw [hl]; kernel_rfl) hk, ⟨w0, w1, w2⟩⟩⟩
end Go.Proofs.YteeclengpnjlgaaGreat.L
