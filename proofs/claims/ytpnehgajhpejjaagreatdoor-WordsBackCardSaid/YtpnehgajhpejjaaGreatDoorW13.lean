import Derived.Test.YtpnehgajhpejjaaGreatDoorSq
import Derived.Test.YtpnehgajhpejjaaGreatDoorW0
namespace Go.Proofs.YtpnehgajhpejjaaGreatDoor.W
open Go.RowKit Go.Proofs.YtpnehgajhpejjaaGreatDoorW.PrintWords Go.Proofs.YtpnehgajhpejjaaGreatDoorW.PrintLast Go.Proofs.YtpnehgajhpejjaaGreatDoorW.PrintMore
attribute [local go_sem] max2_int min2_int max_two min_two max_three min_three max_four min_four
set_option linter.unusedVariables false
set_option linter.unusedSimpArgs false
/-! ### pledgeref34_Decode: function 28 (by hand) -/
def pledgeref34_Decode.gLines : Nat → Int × List Int → List S90 × (Int × List Int)
  | 0, s => ([], s)
  | n + 1, s => if s.1 ≠ 0 then ([], s) else (⟨(gRead 1 s).1 % 256, wrap64 (gRead 8 (gRead 1 s).2).1⟩ :: (pledgeref34_Decode.gLines n (gRead 8 (gRead 1 s).2).2).1, (pledgeref34_Decode.gLines n (gRead 8 (gRead 1 s).2).2).2)
theorem pledgeref34_Decode.gLines_err (n : Nat) (s : Int × List Int) (h : s.1 ≠ 0) : pledgeref34_Decode.gLines n s = ([], s) := by
  cases n with
  | zero => rfl
  | succ n => simp only [pledgeref34_Decode.gLines]; rw [if_pos h]
def pledgeref34_Decode.fin (s : Int × List Int) (a b c : Int) (l : List S90) (d e f g : Int) : Int × Int × Int × List S90 × Int × Int × Int × Int × Int := if rEnd s = 0 then (a, b, c, l, d, e, f, g, 0) else (0, 0, 0, [], 0, 0, 0, 0, rEnd s)
def pledgeref34_Decode.decF (bs : List Int) : Int × Int × Int × List S90 × Int × Int × Int × Int × Int :=
  if (gRead 1 (0, bs)).2.1 ≠ 0 then (0, 0, 0, [], 0, 0, 0, 0, (gRead 1 (0, bs)).2.1)
  else if (gRead 1 (0, bs)).1 < 1 ∨ 7 < (gRead 1 (0, bs)).1 then (0, 0, 0, [], 0, 0, 0, 0, 8)
  else if (gRead 1 (0, bs)).1 = 1 then pledgeref34_Decode.fin (pledgeref34_Decode.gLines (gCount (gRead 1 (gRead 4 (gRead 1 (0, bs)).2).2).2).1.toNat (gCount (gRead 1 (gRead 4 (gRead 1 (0, bs)).2).2).2).2).2 1 ((gRead 4 (gRead 1 (0, bs)).2).1 % 4294967296) ((gRead 1 (gRead 4 (gRead 1 (0, bs)).2).2).1 % 256) (pledgeref34_Decode.gLines (gCount (gRead 1 (gRead 4 (gRead 1 (0, bs)).2).2).2).1.toNat (gCount (gRead 1 (gRead 4 (gRead 1 (0, bs)).2).2).2).2).1 0 0 0 0
  else if (gRead 1 (0, bs)).1 ≤ 4 then pledgeref34_Decode.fin (gRead 4 (gRead 1 (0, bs)).2).2 (gRead 1 (0, bs)).1 ((gRead 4 (gRead 1 (0, bs)).2).1 % 4294967296) 0 [] 0 0 0 0
  else if (gRead 1 (0, bs)).1 = 5 then pledgeref34_Decode.fin (gRead 8 (gRead 1 (gRead 1 (gRead 1 (0, bs)).2).2).2).2 5 0 0 [] ((gRead 1 (gRead 1 (0, bs)).2).1 % 256) 0 ((gRead 1 (gRead 1 (gRead 1 (0, bs)).2).2).1 % 256) (wrap64 (gRead 8 (gRead 1 (gRead 1 (gRead 1 (0, bs)).2).2).2).1)
  else if (gRead 1 (0, bs)).1 = 6 then pledgeref34_Decode.fin (gRead 8 (gRead 1 (gRead 1 (gRead 1 (gRead 1 (0, bs)).2).2).2).2).2 6 0 0 [] ((gRead 1 (gRead 1 (0, bs)).2).1 % 256) ((gRead 1 (gRead 1 (gRead 1 (0, bs)).2).2).1 % 256) ((gRead 1 (gRead 1 (gRead 1 (gRead 1 (0, bs)).2).2).2).1 % 256) (wrap64 (gRead 8 (gRead 1 (gRead 1 (gRead 1 (gRead 1 (0, bs)).2).2).2).2).1)
  else pledgeref34_Decode.fin (gRead 1 (gRead 1 (0, bs)).2).2 7 0 0 [] ((gRead 1 (gRead 1 (0, bs)).2).1 % 256) 0 0 0
def pledgeref34_Decode.f (l0 : List Int) : Option (Int × Int × Int × List (S90) × Int × Int × Int × Int × Int) := if l0.length ≤ 1000000 ∧ l0.all (fun x => decide (0 ≤ x ∧ x < 256)) = true then some (pledgeref34_Decode.decF l0) else none
end Go.Proofs.YtpnehgajhpejjaaGreatDoor.W
