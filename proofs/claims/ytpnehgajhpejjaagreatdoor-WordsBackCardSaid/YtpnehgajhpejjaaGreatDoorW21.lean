import Derived.Test.YtpnehgajhpejjaaGreatDoorSq
import Derived.Test.YtpnehgajhpejjaaGreatDoorW0
import Derived.Test.YtpnehgajhpejjaaGreatDoorW20
namespace Go.Proofs.YtpnehgajhpejjaaGreatDoor.W
open Go.RowKit Go.Proofs.YtpnehgajhpejjaaGreatDoorW.PrintWords Go.Proofs.YtpnehgajhpejjaaGreatDoorW.PrintLast Go.Proofs.YtpnehgajhpejjaaGreatDoorW.PrintMore
attribute [local go_sem] max2_int min2_int max_two min_two max_three min_three max_four min_four
set_option linter.unusedVariables false
set_option linter.unusedSimpArgs false
/-! ### pledgeref13_LinesBytes: function 78 -/
def pledgeref13_LinesBytes.l0 : Nat → List (S90) → List Int → Int → Option (List Int)
  | 0, _, _, _ => none
  | k + 1, x0, x3, x4 => if x4 < (x0.length : Int) then (if 0 ≤ x4 then (if x3.length < 140737488355328 then ((some (x3 ++ [(rd_T90 x0 x4).f0] : List Int)).bind fun y341 => ((pledgeref03_Int.f k ((rd_T90 x0 x4).f1)).bind fun t345 => (if y341.length + t345.length < 140737488355328 then (pledgeref13_LinesBytes.l0 k x0 (y341 ++ t345) (wrap64 (x4 + 1))) else (none)))) else (none)) else (none)) else (some x3)
def pledgeref13_LinesBytes.f (k : Nat) (l0 : List (S90)) : Option (List Int) := pledgeref13_LinesBytes.l0 k l0 (([((l0.length : Int)) % 256] : List Int)) 0
/-! ### pledgeref34_Bytes: function 47 -/
def pledgeref34_Bytes.j0 : Nat → List Int → Int → Int → Int → List (S90) → Int → Int → Int → Int → Option (List Int)
  | 0, _, _, _, _, _, _, _, _, _ => none
  | k + 1, x3, x352000, x352001, x352002, x352003, x352004, x352005, x352006, x352007 => if x352000 = 1 then (if x3.length < 140737488355328 then ((some (x3 ++ [x352002] : List Int)).bind fun y361 => ((pledgeref13_LinesBytes.f k x352003).bind fun t364 => (if y361.length + t364.length < 140737488355328 then (some (y361 ++ t364)) else (none)))) else (none)) else (if x352000 = 5 then ((some (([x352004, x352006] : List Int) : List Int)).bind fun y370 => (if x3.length + y370.length < 140737488355328 then ((some (x3 ++ y370 : List Int)).bind fun y373 => ((pledgeref03_Int.f k x352007).bind fun t376 => (if y373.length + t376.length < 140737488355328 then (some (y373 ++ t376)) else (none)))) else (none))) else (if x352000 = 6 then ((some (([x352004, x352005, x352006] : List Int) : List Int)).bind fun y382 => (if x3.length + y382.length < 140737488355328 then ((some (x3 ++ y382 : List Int)).bind fun y385 => ((pledgeref03_Int.f k x352007).bind fun t388 => (if y385.length + t388.length < 140737488355328 then (some (y385 ++ t388)) else (none)))) else (none))) else (if x352000 = 7 then (if x3.length < 140737488355328 then (some (x3 ++ [x352004])) else (none)) else (some x3))))
def pledgeref34_Bytes.f (k : Nat) (a0_0 : Int) (a0_1 : Int) (a0_2 : Int) (l0_3 : List (S90)) (a0_4 : Int) (a0_5 : Int) (a0_6 : Int) (a0_7 : Int) : Option (List Int) := (some (([a0_0] : List Int) : List Int)).bind fun y352 => (if a0_0 ≤ 4 then ((pledgeref03_Num.f k (IntKind.u64.wrap (a0_1)) 4).bind fun t355 => (if y352.length + t355.length < 140737488355328 then (pledgeref34_Bytes.j0 k (y352 ++ t355) a0_0 a0_1 a0_2 l0_3 a0_4 a0_5 a0_6 a0_7) else (none))) else (pledgeref34_Bytes.j0 k y352 a0_0 a0_1 a0_2 l0_3 a0_4 a0_5 a0_6 a0_7))
end Go.Proofs.YtpnehgajhpejjaaGreatDoor.W
