import Derived.Test.YtpnehgajhpejjaaGreatDoorSq
import Derived.Test.YtpnehgajhpejjaaGreatDoorW0
import Derived.Test.YtpnehgajhpejjaaGreatDoorW1
namespace Go.Proofs.YtpnehgajhpejjaaGreatDoor.W
open Go.RowKit Go.Proofs.YtpnehgajhpejjaaGreatDoorW.PrintWords Go.Proofs.YtpnehgajhpejjaaGreatDoorW.PrintLast Go.Proofs.YtpnehgajhpejjaaGreatDoorW.PrintMore
attribute [local go_sem] max2_int min2_int max_two min_two max_three min_three max_four min_four
set_option linter.unusedVariables false
set_option linter.unusedSimpArgs false
/-! ### pledgeref12_SameLines: function 98 -/
def pledgeref12_SameLines.l0 : Nat → List (S90) → List (S90) → Int → Option (Bool)
  | 0, _, _, _ => none
  | k + 1, x0, x1, x5 => if x5 < (x0.length : Int) then (if 0 ≤ x5 then (if x5 < (x1.length : Int) then (if (!(((rd_T90 x0 x5).f0) == ((rd_T90 x1 x5).f0)) || (!(((rd_T90 x0 x5).f1) == ((rd_T90 x1 x5).f1)))) = true then (some false) else (pledgeref12_SameLines.l0 k x0 x1 (wrap64 (x5 + 1)))) else (none)) else (none)) else (some true)
def pledgeref12_SameLines.f (k : Nat) (l0 : List (S90)) (l1 : List (S90)) : Option (Bool) := if (l0.length : Int) = (l1.length : Int) then (pledgeref12_SameLines.l0 k l0 l1 0) else (some false)
/-! ### pledgeref34_Same: function 76 -/
def pledgeref34_Same.f (k : Nat) (a0_0 : Int) (a0_1 : Int) (a0_2 : Int) (l0_3 : List (S90)) (a0_4 : Int) (a0_5 : Int) (a0_6 : Int) (a0_7 : Int) (a1_0 : Int) (a1_1 : Int) (a1_2 : Int) (l1_3 : List (S90)) (a1_4 : Int) (a1_5 : Int) (a1_6 : Int) (a1_7 : Int) : Option (Bool) := if a0_0 = a1_0 then (if a0_1 = a1_1 then (if a0_2 = a1_2 then ((pledgeref12_SameLines.f k l0_3 l1_3).bind fun t327 => (if t327 = true then (if a0_4 = a1_4 then (if a0_5 = a1_5 then (if a0_6 = a1_6 then (some (a0_7 == a1_7)) else (some false)) else (some false)) else (some false)) else (some false))) else (some false)) else (some false)) else (some false)
/-! ### pledgeref34_Plain: function 46 (by hand) -/
def pledgeref34_Plain.f (k o p : Int) (l : List (S90)) (s f t q : Int) : Option (Bool) :=
  if k < 1 ∨ 7 < k then some false else if ¬ l.length ≤ 3 then some false else if k = 1 then pledgeref34_Same.f 5 1 o p l s f t q 1 o p l 0 0 0 0 else if k = 2 then pledgeref34_Same.f 5 2 o p l s f t q 2 o 0 [] 0 0 0 0 else if k = 3 then pledgeref34_Same.f 5 3 o p l s f t q 3 o 0 [] 0 0 0 0 else if k = 4 then pledgeref34_Same.f 5 4 o p l s f t q 4 o 0 [] 0 0 0 0 else if k = 5 then pledgeref34_Same.f 5 5 o p l s f t q 5 0 0 [] s 0 t q else if k = 6 then pledgeref34_Same.f 5 6 o p l s f t q 6 0 0 [] s f t q else pledgeref34_Same.f 5 7 o p l s f t q 7 0 0 [] s 0 0 0
/-! ### pledgeref03_Num: function 77 -/
def pledgeref03_Num.l0 : Nat → Int → Int → List Int → Int → Option (List Int)
  | 0, _, _, _, _ => none
  | k + 1, x0, x1, x5, x6 => if x6 < x1 then (if x5.length < 140737488355328 then (pledgeref03_Num.l0 k (IntKind.u64.wrap (Int.tdiv x0 256)) x1 (x5 ++ [(Int.tmod x0 256) % 256]) (wrap64 (x6 + 1))) else (none)) else (some x5)
def pledgeref03_Num.f (k : Nat) (a0 : Int) (a1 : Int) : Option (List Int) := pledgeref03_Num.l0 k a0 a1 (([] : List Int)) 0
/-! ### pledgeref03_Int: function 79 -/
def pledgeref03_Int.f (k : Nat) (a0 : Int) : Option (List Int) := (pledgeref03_Num.f k (IntKind.u64.wrap (a0)) 8).bind fun t334 => (some t334)
end Go.Proofs.YtpnehgajhpejjaaGreatDoor.W
