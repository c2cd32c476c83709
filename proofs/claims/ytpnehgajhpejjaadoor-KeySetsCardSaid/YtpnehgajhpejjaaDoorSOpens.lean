import Derived.Test.YtpnehgajhpejjaaDoorOpen
import Derived.Test.YtpnehgajhpejjaaDoorS0
/- From the form's reading of the laws' arguments to the printed kinds. -/
namespace Go.Proofs.YtpnehgajhpejjaaDoor.S
open Go.RowKit Go.Proofs.YtpnehgajhpejjaaDoorW.PrintWords
set_option linter.unusedVariables false
def WS5 (z : Int) : Prop := (Lit.int .u8 z).wf = true
theorem opens5 : Opens Tryd.prog 5 (Kd.int .u8) WS5 := opens_int Tryd.underlying5 (by kernel_rfl)
def WS23 (x : S23) : Prop := WS5 x.f0 ∧ WS5 x.f1 ∧ WS5 x.f2
theorem opens23 : Opens Tryd.prog 23 k23 WS23 := ⟨by kernel_rfl, by
  intro H enc w base sp held fuel cs x h
  obtain ⟨xs, n, _, _, hl, hxl, hf⟩ := DataW.trod_struct Tryd.underlying23 h
  obtain ⟨a0, k0, w0⟩ := field_opens opens5 0 0 (by rw [hxl]; decide) (hf 0 _ rfl)
  obtain ⟨a1, k1, w1⟩ := field_opens opens5 1 1 (by rw [hxl]; decide) (hf 1 _ rfl)
  obtain ⟨a2, k2, w2⟩ := field_opens opens5 2 2 (by rw [hxl]; decide) (hf 2 _ rfl)
  have hk := (K_pair_at 0 1 rfl k0 (K_pair_at 1 2 rfl k1 k2))
  refine ⟨⟨a0, a1, a2⟩, K_whole (d := k23) (by rw [hl]; kernel_rfl) hk, ⟨w0, w1, w2⟩⟩⟩
def WS29 (l : List (S23)) : Prop := ∀ x ∈ l, WS23 x
theorem opens29 : Opens Tryd.prog 29 (Kd.slice 23 k23) WS29 := opens_slice Tryd.underlying29 (by kernel_rfl) opens23
end Go.Proofs.YtpnehgajhpejjaaDoor.S
