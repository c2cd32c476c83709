import Derived.Test.YtpnehgajhpejjaaGreatDoorOpen
import Derived.Test.YtpnehgajhpejjaaGreatDoorW0
/- From the form's reading of the laws' arguments to the printed kinds. -/
namespace Go.Proofs.YtpnehgajhpejjaaGreatDoor.W
open Go.RowKit Go.Proofs.YtpnehgajhpejjaaGreatDoorW.PrintWords
set_option linter.unusedVariables false
def WW5 (z : Int) : Prop := (Lit.int .u8 z).wf = true
theorem opens5 : Opens Tryz.prog 5 (Kd.int .u8) WW5 := opens_int Tryz.underlying5 (by kernel_rfl)
def WW22 (z : Int) : Prop := (Lit.int .u32 z).wf = true
theorem opens22 : Opens Tryz.prog 22 (Kd.int .u32) WW22 := opens_int Tryz.underlying22 (by kernel_rfl)
def WW3 (z : Int) : Prop := (Lit.int .i64 z).wf = true
theorem opens3 : Opens Tryz.prog 3 (Kd.int .i64) WW3 := opens_int Tryz.underlying3 (by kernel_rfl)
def WW23 (l : List Int) : Prop := ∀ x ∈ l, WW5 x
theorem opens23 : Opens Tryz.prog 23 (Kd.slice 5 (Kd.int .u8)) WW23 := opens_slice Tryz.underlying23 (by kernel_rfl) opens5
def WW25 (x : S25) : Prop := WW5 x.f0 ∧ WW22 x.f1 ∧ WW3 x.f2 ∧ WW3 x.f3 ∧ WW23 x.f4
theorem opens25 : Opens Tryz.prog 25 k25 WW25 := ⟨by kernel_rfl, by
  intro H enc w base sp held fuel cs x h
  obtain ⟨xs, n, _, _, hl, hxl, hf⟩ := DataW.trod_struct Tryz.underlying25 h
  obtain ⟨a0, k0, w0⟩ := field_opens opens5 0 0 (by rw [hxl]; decide) (hf 0 _ rfl)
  obtain ⟨a1, k1, w1⟩ := field_opens opens22 1 1 (by rw [hxl]; decide) (hf 1 _ rfl)
  obtain ⟨a2, k2, w2⟩ := field_opens opens3 2 2 (by rw [hxl]; decide) (hf 2 _ rfl)
  obtain ⟨a3, k3, w3⟩ := field_opens opens3 3 3 (by rw [hxl]; decide) (hf 3 _ rfl)
  obtain ⟨a4, k4, w4⟩ := field_opens opens23 4 4 (by rw [hxl]; decide) (hf 4 _ rfl)
  have hk := (K_pair_at 0 1 rfl k0 (K_pair_at 1 2 rfl k1 (K_pair_at 2 3 rfl k2 (K_pair_at 3 4 rfl k3 k4))))
  refine ⟨⟨a0, a1, a2, a3, a4⟩, K_whole (d := k25) (by rw [hl]; kernel_rfl) hk, ⟨w0, w1, w2, w3, w4⟩⟩⟩
def WW27 (l : List (S25)) : Prop := ∀ x ∈ l, WW25 x
theorem opens27 : Opens Tryz.prog 27 (Kd.slice 25 k25) WW27 := opens_slice Tryz.underlying27 (by kernel_rfl) opens25
def WW9 (s : ByteArray) : Prop := s.size ≤ maxLen
theorem opens9 : Opens Tryz.prog 9 Kd.string WW9 := opens_string Tryz.underlying9 (by kernel_rfl)
end Go.Proofs.YtpnehgajhpejjaaGreatDoor.W
