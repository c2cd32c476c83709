import Derived.Test.YtpnehgajhpejjaaGreatDoorSq
import Derived.Test.YtpnehgajhpejjaaGreatDoorW0
namespace Go.Proofs.YtpnehgajhpejjaaGreatDoor.W
open Go.RowKit Go.Proofs.YtpnehgajhpejjaaGreatDoorW.PrintWords Go.Proofs.YtpnehgajhpejjaaGreatDoorW.PrintLast Go.Proofs.YtpnehgajhpejjaaGreatDoorW.PrintMore
attribute [local go_sem] max2_int min2_int max_two min_two max_three min_three max_four min_four
set_option linter.unusedVariables false
set_option linter.unusedSimpArgs false
/-! ### pledgeref36_digits: function 87 -/
def pledgeref36_digits.l0 : Nat → Int → ByteArray → Option (ByteArray)
  | 0, _, _ => none
  | k + 1, x0, x3 => if x0 ≥ 10 then ((some (([(IntKind.u64.wrap (48 + (Int.tmod (IntKind.u64.wrap (Int.tdiv x0 10)) 10))) % 256] : List Int) : List Int)).bind fun y245 => (if (strOfNums y245).size + x3.size ≤ 9223372036854775807 then (pledgeref36_digits.l0 k (IntKind.u64.wrap (Int.tdiv x0 10)) ((strOfNums y245) ++ x3)) else (none))) else (some x3)
def pledgeref36_digits.f (k : Nat) (a0 : Int) : Option (ByteArray) := pledgeref36_digits.l0 k a0 (strOfNums (([(IntKind.u64.wrap (48 + (Int.tmod a0 10))) % 256] : List Int)))
/-! ### pledgeref36_Digits: function 61 -/
def pledgeref36_Digits.f (k : Nat) (a0 : Int) : Option (ByteArray) := if a0 < 0 then ((pledgeref36_digits.f k (IntKind.u64.wrap ((IntKind.u64.wrap (wrap64 (-(wrap64 (a0 + 1))))) + 1))).bind fun t248 => (if 1 + t248.size ≤ 9223372036854775807 then (some ((⟨#[45]⟩ : ByteArray) ++ t248)) else (none))) else ((pledgeref36_digits.f k (IntKind.u64.wrap (a0))).bind fun t249 => (some t249))
/-! ### pledgeref39_num: function 31 -/
def pledgeref39_num.f (k : Nat) (a0 : Int) : Option (ByteArray) := (pledgeref36_Digits.f k a0).bind fun t250 => (if 1 + t250.size ≤ 9223372036854775807 then (some ((⟨#[32]⟩ : ByteArray) ++ t250)) else (none))
end Go.Proofs.YtpnehgajhpejjaaGreatDoor.W
