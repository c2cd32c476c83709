import Derived.Test.YteeclengpnjlgaaGreatOpen
import Derived.Test.YteeclengpnjlgaaGreatN0
/- From the form's reading of the laws' arguments to the printed kinds. -/
namespace Go.Proofs.YteeclengpnjlgaaGreat.N
open Go.RowKit Go.Proofs.YteeclengpnjlgaaGreatW.PrintWords
set_option linter.unusedVariables false
def WN5 (z : Int) : Prop := (Lit.int .u8 z).wf = true
theorem opens5 : Opens Tryz.prog 5 (Kd.int .u8) WN5 := (opens_int Tryz.underlying5 (by kernel_rfl))
def WN50 (z : Int) : Prop := (Lit.int .u32 z).wf = true
theorem opens50 : Opens Tryz.prog 50 (Kd.int .u32) WN50 := (opens_int Tryz.underlying50 (by kernel_rfl))
theorem opens4 : Opens Tryz.prog 4 Kd.bool (fun _ => True) := (opens_bool Tryz.underlying4 (by kernel_rfl))
def WN52 (x : S52) : Prop := WN5 x.f0 ∧ WN5 x.f1 ∧ WN5 x.f2
theorem opens52 : Opens Tryz.prog 52 k52 WN52 := ⟨by kernel_rfl, by
  intro H enc w base sp held fuel cs x h
  obtain ⟨xs, n, _, _, hl, hxl, hf⟩ := DataW.trod_struct Tryz.underlying52 h
  obtain ⟨a0, k0, w0⟩ := field_opens opens5 0 0 (by rw [hxl]; decide) (hf 0 _ rfl)
  obtain ⟨a1, k1, w1⟩ := field_opens opens5 1 1 (by rw [hxl]; decide) (hf 1 _ rfl)
  obtain ⟨a2, k2, w2⟩ := field_opens opens5 2 2 (by rw [hxl]; decide) (hf 2 _ rfl)
  have hk := (K_pair_at 0 1 rfl k0 (K_pair_at 1 2 rfl k1 k2))
  refine ⟨⟨a0, a1, a2⟩, K_whole (d := k52) (by rw [hl]; kernel_rfl) hk, ⟨w0, w1, w2⟩⟩⟩
def WN2 (z : Int) : Prop := (Lit.int .i64 z).wf = true
theorem opens2 : Opens Tryz.prog 2 (Kd.int .i64) WN2 := (opens_int Tryz.underlying2 (by kernel_rfl))
def WN178 (x : S178) : Prop := WN5 x.f0 ∧ WN2 x.f1
theorem opens178 : Opens Tryz.prog 178 k178 WN178 := ⟨by kernel_rfl, by
  intro H enc w base sp held fuel cs x h
  obtain ⟨xs, n, _, _, hl, hxl, hf⟩ := DataW.trod_struct Tryz.underlying178 h
  obtain ⟨a0, k0, w0⟩ := field_opens opens5 0 0 (by rw [hxl]; decide) (hf 0 _ rfl)
  obtain ⟨a1, k1, w1⟩ := field_opens opens2 1 1 (by rw [hxl]; decide) (hf 1 _ rfl)
  have hk := (K_pair_at 0 1 rfl k0 k1)
  refine ⟨⟨a0, a1⟩, K_whole (d := k178) (by rw [hl]; kernel_rfl) hk, ⟨w0, w1⟩⟩⟩
def WN53 (l : List (S178)) : Prop := ∀ x ∈ l, WN178 x
theorem opens53 : Opens Tryz.prog 53 (Kd.slice 178 k178) WN53 := opens_slice Tryz.underlying53 (by kernel_rfl) opens178
def WN181 (x : S181) : Prop := WN50 x.f0 ∧ WN5 x.f1 ∧ WN5 x.f2 ∧ WN2 x.f3
theorem opens181 : Opens Tryz.prog 181 k181 WN181 := ⟨by kernel_rfl, by
  intro H enc w base sp held fuel cs x h
  obtain ⟨xs, n, _, _, hl, hxl, hf⟩ := DataW.trod_struct Tryz.underlying181 h
  obtain ⟨a0, k0, w0⟩ := field_opens opens50 0 0 (by rw [hxl]; decide) (hf 0 _ rfl)
  obtain ⟨a1, k1, w1⟩ := field_opens opens5 1 1 (by rw [hxl]; decide) (hf 1 _ rfl)
  obtain ⟨a2, k2, w2⟩ := field_opens opens5 2 2 (by rw [hxl]; decide) (hf 2 _ rfl)
  obtain ⟨a3, k3, w3⟩ := field_opens opens2 3 3 (by rw [hxl]; decide) (hf 3 _ rfl)
  have hk := (K_pair_at 0 1 rfl k0 (K_pair_at 1 2 rfl k1 (K_pair_at 2 3 rfl k2 k3)))
  refine ⟨⟨a0, a1, a2, a3⟩, K_whole (d := k181) (by rw [hl]; kernel_rfl) hk, ⟨w0, w1, w2, w3⟩⟩⟩
def WN54 (l : List (S181)) : Prop := ∀ x ∈ l, WN181 x
theorem opens54 : Opens Tryz.prog 54 (Kd.slice 181 k181) WN54 := opens_slice Tryz.underlying54 (by kernel_rfl) opens181
def WN56 (x : S56) : Prop := WN5 x.f0 ∧ WN50 x.f1 ∧ WN5 x.f2 ∧ WN53 x.f3 ∧ WN54 x.f4 ∧ WN53 x.f5 ∧ WN5 x.f6 ∧ WN5 x.f7 ∧ WN5 x.f8 ∧ WN2 x.f9
theorem opens56 : Opens Tryz.prog 56 k56 WN56 := ⟨by kernel_rfl, by
  intro H enc w base sp held fuel cs x h
  obtain ⟨xs, n, _, _, hl, hxl, hf⟩ := DataW.trod_struct Tryz.underlying56 h
  obtain ⟨a0, k0, w0⟩ := field_opens opens5 0 0 (by rw [hxl]; decide) (hf 0 _ rfl)
  obtain ⟨a1, k1, w1⟩ := field_opens opens50 1 1 (by rw [hxl]; decide) (hf 1 _ rfl)
  obtain ⟨a2, k2, w2⟩ := field_opens opens5 2 2 (by rw [hxl]; decide) (hf 2 _ rfl)
  obtain ⟨a3, k3, w3⟩ := field_opens opens53 3 3 (by rw [hxl]; decide) (hf 3 _ rfl)
  obtain ⟨a4, k4, w4⟩ := field_opens opens54 4 4 (by rw [hxl]; decide) (hf 4 _ rfl)
  obtain ⟨a5, k5, w5⟩ := field_opens opens53 5 5 (by rw [hxl]; decide) (hf 5 _ rfl)
  obtain ⟨a6, k6, w6⟩ := field_opens opens5 6 6 (by rw [hxl]; decide) (hf 6 _ rfl)
  obtain ⟨a7, k7, w7⟩ := field_opens opens5 7 7 (by rw [hxl]; decide) (hf 7 _ rfl)
  obtain ⟨a8, k8, w8⟩ := field_opens opens5 8 8 (by rw [hxl]; decide) (hf 8 _ rfl)
  obtain ⟨a9, k9, w9⟩ := field_opens opens2 9 9 (by rw [hxl]; decide) (hf 9 _ rfl)
  have hk := (K_pair_at 0 1 rfl k0 (K_pair_at 1 2 rfl k1 (K_pair_at 2 3 rfl k2 (K_pair_at 3 4 rfl k3 (K_pair_at 4 5 rfl k4 (K_pair_at 5 6 rfl k5 (K_pair_at 6 7 rfl k6 (K_pair_at 7 8 rfl k7 (K_pair_at 8 9 rfl k8 k9)))))))))
  refine ⟨⟨a0, a1, a2, a3, a4, a5, a6, a7, a8, a9⟩, K_whole (d := k56) (by rw [hl]; kernel_rfl) hk, ⟨w0, w1, w2, w3, w4, w5, w6, w7, w8, w9⟩⟩⟩
def WN58 (x : S58) : Prop := WN5 x.f0 ∧ WN50 x.f1 ∧ WN50 x.f2 ∧ WN5 x.f3 ∧ WN52 x.f5 ∧ WN2 x.f6 ∧ WN5 x.f7 ∧ WN56 x.f8
theorem opens58 : Opens Tryz.prog 58 k58 WN58 := ⟨by kernel_rfl, by
  intro H enc w base sp held fuel cs x h
  obtain ⟨xs, n, _, _, hl, hxl, hf⟩ := DataW.trod_struct Tryz.underlying58 h
  obtain ⟨a0, k0, w0⟩ := field_opens opens5 0 0 (by rw [hxl]; decide) (hf 0 _ rfl)
  obtain ⟨a1, k1, w1⟩ := field_opens opens50 1 1 (by rw [hxl]; decide) (hf 1 _ rfl)
  obtain ⟨a2, k2, w2⟩ := field_opens opens50 2 2 (by rw [hxl]; decide) (hf 2 _ rfl)
  obtain ⟨a3, k3, w3⟩ := field_opens opens5 3 3 (by rw [hxl]; decide) (hf 3 _ rfl)
  obtain ⟨a4, k4, w4⟩ := field_opens opens4 4 4 (by rw [hxl]; decide) (hf 4 _ rfl)
  obtain ⟨a5, k5, w5⟩ := field_opens opens52 5 5 (by rw [hxl]; decide) (hf 5 _ rfl)
  obtain ⟨a6, k6, w6⟩ := field_opens opens2 6 8 (by rw [hxl]; decide) (hf 6 _ rfl)
  obtain ⟨a7, k7, w7⟩ := field_opens opens5 7 9 (by rw [hxl]; decide) (hf 7 _ rfl)
  obtain ⟨a8, k8, w8⟩ := field_opens opens56 8 10 (by rw [hxl]; decide) (hf 8 _ rfl)
  have hk := (K_pair_at 0 1 rfl k0 (K_pair_at 1 2 rfl k1 (K_pair_at 2 3 rfl k2 (K_pair_at 3 4 rfl k3 (K_pair_at 4 5 rfl k4 (K_pair_at 5 8 rfl k5 (K_pair_at 8 9 rfl k6 (K_pair_at 9 10 rfl k7 k8))))))))
  refine ⟨⟨a0, a1, a2, a3, a4, a5, a6, a7, a8⟩, K_whole (d := k58) (by rw [hl]; kernel_rfl) hk, ⟨w0, w1, w2, w3, w5, w6, w7, w8⟩⟩⟩
end Go.Proofs.YteeclengpnjlgaaGreat.N
