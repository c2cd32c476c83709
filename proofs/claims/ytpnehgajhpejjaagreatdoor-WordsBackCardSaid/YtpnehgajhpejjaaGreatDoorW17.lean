import Derived.Test.YtpnehgajhpejjaaGreatDoorSq
import Derived.Test.YtpnehgajhpejjaaGreatDoorW0
namespace Go.Proofs.YtpnehgajhpejjaaGreatDoor.W
open Go.RowKit Go.Proofs.YtpnehgajhpejjaaGreatDoorW.PrintWords Go.Proofs.YtpnehgajhpejjaaGreatDoorW.PrintLast Go.Proofs.YtpnehgajhpejjaaGreatDoorW.PrintMore
attribute [local go_sem] max2_int min2_int max_two min_two max_three min_three max_four min_four
set_option linter.unusedVariables false
set_option linter.unusedSimpArgs false
/-! ### pledgeref39_value: function 42 -/
mutual
def pledgeref39_value.j0 : Nat → ByteArray → Bool → Option (Int)
  | 0, _, _ => none
  | k + 1, x0, x3 => pledgeref39_value.l0 k x0 x3 0 0
def pledgeref39_value.l0 : Nat → ByteArray → Bool → Int → Int → Option (Int)
  | 0, _, _, _, _ => none
  | k + 1, x0, x3, x4, x5 => if x5 < (x0.size : Int) then (pledgeref39_value.j2 k x0 x3 x4 x5 (decide (x5 < 20))) else (pledgeref39_value.j2 k x0 x3 x4 x5 false)
def pledgeref39_value.j2 : Nat → ByteArray → Bool → Int → Int → Bool → Option (Int)
  | 0, _, _, _, _, _ => none
  | k + 1, x0, x3, x4, x5, x21 => if x21 = true then (if 0 ≤ x5 then (if x5 < (x0.size : Int) then (if (bt x0 x5) ≥ 48 then (if (bt x0 x5) ≤ 57 then (pledgeref39_value.l0 k x0 x3 (IntKind.u64.wrap ((IntKind.u64.wrap (x4 * 10)) + (((bt x0 x5) - 48) % 256))) (wrap64 (x5 + 1))) else (pledgeref39_value.l0 k x0 x3 x4 (wrap64 (x5 + 1)))) else (pledgeref39_value.l0 k x0 x3 x4 (wrap64 (x5 + 1)))) else (none)) else (none)) else (if x3 = true then (some (wrap64 (IntKind.u64.wrap (-x4)))) else (some (wrap64 (x4))))
end
def pledgeref39_value.f (k : Nat) (a0 : ByteArray) : Option (Int) := if (a0.size : Int) > 0 then (if 0 < (a0.size : Int) then (pledgeref39_value.j0 k a0 ((bt a0 0) == 45)) else (none)) else (pledgeref39_value.j0 k a0 false)
/-! ### pledgeref39_at: function 43 -/
def pledgeref39_at.f (l0 : List ByteArray) (a1 : Int) : Option (ByteArray) := if a1 ≥ (l0.length : Int) then (some (⟨#[]⟩ : ByteArray)) else (if 0 ≤ a1 then (if a1 < (l0.length : Int) then (some (rdOf ByteArray.empty l0 a1)) else (none)) else (none))
/-! ### pledgeref39_digit: function 75 -/
def pledgeref39_digit.f (a0 : Int) : Option (Int) := if a0 ≥ 97 then (some ((a0 - 87) % 256)) else (some ((a0 - 48) % 256))
end Go.Proofs.YtpnehgajhpejjaaGreatDoor.W
