import Derived.Test.YtpnehgajhpejjaaGreatDoorSq
import Derived.Test.YtpnehgajhpejjaaGreatDoorW0
import Derived.Test.YtpnehgajhpejjaaGreatDoorW12
import Derived.Test.YtpnehgajhpejjaaGreatDoorW13
import Derived.Test.YtpnehgajhpejjaaGreatDoorW14
import Derived.Test.YtpnehgajhpejjaaGreatDoorW15
namespace Go.Proofs.YtpnehgajhpejjaaGreatDoor.W
open Go.RowKit Go.Proofs.YtpnehgajhpejjaaGreatDoorW.PrintWords Go.Proofs.YtpnehgajhpejjaaGreatDoorW.PrintLast Go.Proofs.YtpnehgajhpejjaaGreatDoorW.PrintMore
attribute [local go_sem] max2_int min2_int max_two min_two max_three min_three max_four min_four
set_option linter.unusedVariables false
set_option linter.unusedSimpArgs false
/-! ### pledgeref39_hex: function 30 -/
def pledgeref39_hex.l0 : Nat → List Int → ByteArray → Int → Option (ByteArray)
  | 0, _, _, _ => none
  | k + 1, x0, x3, x4 => if x4 < (x0.length : Int) then (if 0 ≤ x4 then (if 0 ≤ (wrap64 (Int.tdiv (wrap64 (rd x0 x4)) 16)) then (if (wrap64 (Int.tdiv (wrap64 (rd x0 x4)) 16)) < 16 then (if 0 ≤ (Int.tmod (wrap64 (rd x0 x4)) 16) then (if (Int.tmod (wrap64 (rd x0 x4)) 16) < 16 then ((some (([bt (⟨#[48, 49, 50, 51, 52, 53, 54, 55, 56, 57, 97, 98, 99, 100, 101, 102]⟩ : ByteArray) (wrap64 (Int.tdiv (wrap64 (rd x0 x4)) 16)), bt (⟨#[48, 49, 50, 51, 52, 53, 54, 55, 56, 57, 97, 98, 99, 100, 101, 102]⟩ : ByteArray) (Int.tmod (wrap64 (rd x0 x4)) 16)] : List Int) : List Int)).bind fun y266 => (if x3.size + (strOfNums y266).size ≤ 9223372036854775807 then (pledgeref39_hex.l0 k x0 (x3 ++ (strOfNums y266)) (wrap64 (x4 + 1))) else (none))) else (none)) else (none)) else (none)) else (none)) else (none)) else (some x3)
def pledgeref39_hex.f (k : Nat) (l0 : List Int) : Option (ByteArray) := pledgeref39_hex.l0 k l0 (⟨#[]⟩ : ByteArray) 0
/-! ### pledgeref39_Line: function 11 -/
def pledgeref39_Line.f (k : Nat) (a0_0 : Int) (a0_1 : Int) (a0_2 : Int) (a0_3 : Int) (l0_4 : List Int) : Option (ByteArray) := (pledgeref38_Good.f a0_0 a0_1 a0_2 a0_3 l0_4).bind fun t270 => (if t270 = true then (if a0_0 = 1 then ((pledgeref34_Decode.f l0_4).bind fun bt271 => (if bt271.2.2.2.2.2.2.2.2 = 0 then ((pledgeref39_Ask.f k bt271.1 bt271.2.1 bt271.2.2.1 bt271.2.2.2.1 bt271.2.2.2.2.1 bt271.2.2.2.2.2.1 bt271.2.2.2.2.2.2.1 bt271.2.2.2.2.2.2.2.1).bind fun t283 => (some t283)) else (if (l0_4.length : Int) = 0 then (some (⟨#[97, 115, 107]⟩ : ByteArray)) else ((pledgeref39_hex.f k l0_4).bind fun t284 => (if 4 + t284.size ≤ 9223372036854775807 then (some ((⟨#[97, 115, 107, 32]⟩ : ByteArray) ++ t284)) else (none)))))) else (if a0_0 = 2 then ((pledgeref39_num.f k (wrap64 (a0_1))).bind fun t285 => (if 4 + t285.size ≤ 9223372036854775807 then (some ((⟨#[112, 105, 99, 107]⟩ : ByteArray) ++ t285)) else (none))) else (if a0_0 = 3 then ((pledgeref39_num.f k (wrap64 (a0_1))).bind fun t286 => (if 4 + t286.size ≤ 9223372036854775807 then (some ((⟨#[107, 105, 108, 108]⟩ : ByteArray) ++ t286)) else (none))) else (if a0_0 = 4 then (some (⟨#[119, 114, 105, 116, 101]⟩ : ByteArray)) else (if a0_0 = 5 then (some (⟨#[115, 121, 110, 99]⟩ : ByteArray)) else (if a0_0 = 6 then (some (⟨#[99, 107, 112, 116]⟩ : ByteArray)) else (if a0_0 = 7 then ((pledgeref39_num.f k a0_2).bind fun t287 => (if 5 + t287.size ≤ 9223372036854775807 then ((pledgeref39_num.f k a0_3).bind fun t288 => (if 5 + t287.size + t288.size ≤ 9223372036854775807 then (some (((⟨#[99, 114, 97, 115, 104]⟩ : ByteArray) ++ t287) ++ t288)) else (none))) else (none))) else (some (⟨#[98, 111, 111, 116]⟩ : ByteArray))))))))) else (some (⟨#[]⟩ : ByteArray)))
end Go.Proofs.YtpnehgajhpejjaaGreatDoor.W
