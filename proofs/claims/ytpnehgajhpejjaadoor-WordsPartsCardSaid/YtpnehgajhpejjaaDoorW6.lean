import Derived.Test.YtpnehgajhpejjaaDoorSq
import Derived.Test.YtpnehgajhpejjaaDoorW0
import Derived.Test.YtpnehgajhpejjaaDoorW5
namespace Go.Proofs.YtpnehgajhpejjaaDoor.W
open Go.RowKit Go.Proofs.YtpnehgajhpejjaaDoorW.PrintWords Go.Proofs.YtpnehgajhpejjaaDoorW.PrintLast Go.Proofs.YtpnehgajhpejjaaDoorW.PrintMore
attribute [local go_sem] max2_int min2_int max_two min_two max_three min_three max_four min_four
set_option linter.unusedVariables false
set_option linter.unusedSimpArgs false
theorem qW6x1 {p : Prop} (h : p := by first | rfl | (simp; done) | (simp [*]; done)) : p := h
/-! ### request_Plain: function 102 -/
mutual
def request_Plain.j0 : Nat → Bool → Int → Int → Int → List (S109) → Int → Int → Int → Int → Option (Bool)
  | 0, _, _, _, _, _, _, _, _, _ => none
  | k + 1, x16, x163000, x163001, x163002, x163003, x163004, x163005, x163006, x163007 => if x16 = true then (some false) else (if x163000 = 1 then (if x163000 = 6 then (request_Plain.j1 k false x163000 x163001 x163002 x163003 x163004 x163005 x163006 x163007) else (request_Plain.j1 k (x163005 != 0) x163000 x163001 x163002 x163003 x163004 x163005 x163006 x163007)) else (if x163002 = 0 then (if (x163003.length : Int) = 0 then (if x163000 = 6 then (request_Plain.j1 k false x163000 x163001 x163002 x163003 x163004 x163005 x163006 x163007) else (request_Plain.j1 k (x163005 != 0) x163000 x163001 x163002 x163003 x163004 x163005 x163006 x163007)) else (request_Plain.j1 k true x163000 x163001 x163002 x163003 x163004 x163005 x163006 x163007)) else (request_Plain.j1 k true x163000 x163001 x163002 x163003 x163004 x163005 x163006 x163007)))
def request_Plain.j1 : Nat → Bool → Int → Int → Int → List (S109) → Int → Int → Int → Int → Option (Bool)
  | 0, _, _, _, _, _, _, _, _, _ => none
  | k + 1, x40, x163000, x163001, x163002, x163003, x163004, x163005, x163006, x163007 => if x40 = true then (some false) else ((request_ordered.f x163000).bind fun t163 => (if t163 = true then (if x163004 = 0 then (if x163006 = 0 then (some (x163007 == 0)) else (some false)) else (some false)) else (if x163001 = 0 then ((request_moved.f x163000).bind fun t164 => (if t164 = true then (some true) else (if x163006 = 0 then (some (x163007 == 0)) else (some false)))) else (some false))))
end
def request_Plain.f (k : Nat) (a0_0 : Int) (a0_1 : Int) (a0_2 : Int) (l0_3 : List (S109)) (a0_4 : Int) (a0_5 : Int) (a0_6 : Int) (a0_7 : Int) : Option (Bool) := if a0_0 < 1 then (request_Plain.j0 k true a0_0 a0_1 a0_2 l0_3 a0_4 a0_5 a0_6 a0_7) else (if a0_0 > 7 then (request_Plain.j0 k true a0_0 a0_1 a0_2 l0_3 a0_4 a0_5 a0_6 a0_7) else (request_Plain.j0 k (decide ((l0_3.length : Int) > 3)) a0_0 a0_1 a0_2 l0_3 a0_4 a0_5 a0_6 a0_7))
set_option maxHeartbeats 8000000 in
set_option maxRecDepth 100000 in
theorem request_Plain.calls (k : Nat) (a0_0 : Int) (a0_1 : Int) (a0_2 : Int) (A0_3 : Option Addr) (c0_3 : Nat) (l0_3 : List (S109)) (a0_4 : Int) (a0_5 : Int) (a0_6 : Int) (a0_7 : Int) (r : Bool) (w : World) (hr0_3 : Kd.C k109 w A0_3 l0_3.length l0_3) (hc0_3 : l0_3.length ≤ c0_3) (h : request_Plain.f k a0_0 a0_1 a0_2 l0_3 a0_4 a0_5 a0_6 a0_7 = some r) :
    Calls Tryd.prog 102 #[.agg #[.int .u8 a0_0, .int .u32 a0_1, .int .u8 a0_2, .slice A0_3 l0_3.length c0_3, .int .u8 a0_4, .int .u8 a0_5, .int .u8 a0_6, .int .i64 a0_7]] w fun e w' => e = .returned (.bool r) ∧ Below w.heap.size w w' := by
  have hu78 := Tryd.underlying78
  have HR0_3 := Aside0.mk hr0_3
  have HC0_3 := Aside0.mk hc0_3
  clear hr0_3 hc0_3
  have HB := Aside0.mk (Below.refl w.heap.size w)
  have H : (if a0_0 < 1 then (request_Plain.j0 k true a0_0 a0_1 a0_2 l0_3 a0_4 a0_5 a0_6 a0_7) else (if a0_0 > 7 then (request_Plain.j0 k true a0_0 a0_1 a0_2 l0_3 a0_4 a0_5 a0_6 a0_7) else (request_Plain.j0 k (decide ((l0_3.length : Int) > 3)) a0_0 a0_1 a0_2 l0_3 a0_4 a0_5 a0_6 a0_7))) = some r := h
  clear h
  have HC2 := Aside0.mk H
  clear H
  go_enter Tryd.func102, Tryd.ntmps102
  go_upto_region 1 with (first | ((with_reducible refine gate_dst (N := 1) rfl ?_); (try (refine gate_guard (by rfl) ?_; dsimp only)); refine zbox (N := 1) (cs := #[.int .u8 a0_0, .int .u32 a0_1, .int .u8 a0_2, .slice A0_3 l0_3.length c0_3, .int .u8 a0_4, .int .u8 a0_5, .int .u8 a0_6, .int .i64 a0_7]) (t := 78) (h := ?_); intro gb162 hg w3 hbox hb; have BK162 := Aside0.mk (hbox); have GW162 := zG (p := w.heap.size ≤ gb162); have GE162 := GW162; replace HB := zH hb; clear hb hbox hg))
  (try simp only [Act.put, List.setIfInBounds_toArray, List.set_cons_zero, List.set_cons_succ])
  go_cut [16] (fun v16 wc => ∃ (kq : Nat) (x16_1 : Bool), v16 = .bool x16_1 ∧ Aside0 (request_Plain.j0 kq x16_1 a0_0 a0_1 a0_2 l0_3 a0_4 a0_5 a0_6 a0_7 = some r) ∧ Aside0 (kq ≤ k) ∧ Aside0 (wc.heap[gb162]? = some (.cells #[.int .u8 a0_0, .int .u32 a0_1, .int .u8 a0_2, (.slice A0_3 l0_3.length c0_3), .int .u8 a0_4, .int .u8 a0_5, .int .u8 a0_6, .int .i64 a0_7] 78 (0, 0))) ∧ Aside0 (Below w.heap.size w wc))
  case first =>
    have H := HC2.out
    clear HC2
    by_cases c4 : a0_0 < 1
    · rw [if_pos c4] at H
      have c4b0 := decide_eq_true c4
      clear c4
      (first | rw [c4b0] | (simp only [i64_w, i32_w]; rw [c4b0]) | skip)
      have H' := Aside0.mk H
      clear H
      have hcz5_0 := zcf8 BK162.out
      go_wp2
      go_meet
      case rel => exact ⟨_, (true), qW6x1, H', ⟨by first | omega | exact Nat.le_refl _⟩, ⟨by (with_reducible repeat (first | refine blk_drewN ?_ _ | refine blk_drew ?_ | refine blk_alloc ?_ _)); exact BK162.out⟩, ⟨zB⟩⟩
    rw [if_neg c4] at H
    have c4b0 : decide (a0_0 < 1) = false := decide_eq_false c4
    clear c4
    (first | rw [c4b0] | (simp only [i64_w, i32_w]; rw [c4b0]) | skip)
    by_cases c6 : a0_0 > 7
    · rw [if_pos c6] at H
      have c6b0 := decide_eq_true c6
      clear c6
      have H' := Aside0.mk H
      clear H
      have hcz7_0 := zcf8 BK162.out
      go_wp2
      go_meet
      case rel => exact ⟨_, (true), qW6x1, H', ⟨by first | omega | exact Nat.le_refl _⟩, ⟨by (with_reducible repeat (first | refine blk_drewN ?_ _ | refine blk_drew ?_ | refine blk_alloc ?_ _)); exact BK162.out⟩, ⟨zB⟩⟩
    rw [if_neg c6] at H
    have c6b0 : decide (7 < a0_0) = false := decide_eq_false c6
    clear c6
    have H' := Aside0.mk H
    clear H
    have hcz8_0 := zcf8 BK162.out
    go_wp2
    go_meet
    case rel => exact ⟨_, (decide ((l0_3.length : Int) > 3)), qW6x1, H', ⟨by first | omega | exact Nat.le_refl _⟩, ⟨by (with_reducible repeat (first | refine blk_drewN ?_ _ | refine blk_drew ?_ | refine blk_alloc ?_ _)); exact BK162.out⟩, ⟨zB⟩⟩
  case rest =>
    clear HC2
    try clear c1
    try clear p2
    try clear c4
    try clear c4b0
    try clear c6
    try clear c6b0
    try clear hcz5_0
    try clear hcz7_0
    try clear hcz8_0
    obtain ⟨kq, x16_1, rfl, HA, HJ1, BK162, HB⟩ := hcut
    cases kq with
    | zero => exact absurd HA.out (by simp [request_Plain.j0])
    | succ kj1 =>
      have H := HA.out
      clear HA
      simp only [request_Plain.j0] at H
      by_cases c9 : x16_1 = true
      · subst c9
        have H1 : (some false) = some r := by rw [if_pos rfl] at H; exact H
        clear H
        have H := H1
        clear H1
        obtain rfl := Option.some.inj H
        go_wp2
        go_ret
        exact ⟨zer, zB⟩
      replace c9 := Bool.eq_false_iff.mpr c9
      subst c9
      have H1 : (if a0_0 = 1 then (if a0_0 = 6 then (request_Plain.j1 kj1 false a0_0 a0_1 a0_2 l0_3 a0_4 a0_5 a0_6 a0_7) else (request_Plain.j1 kj1 (a0_5 != 0) a0_0 a0_1 a0_2 l0_3 a0_4 a0_5 a0_6 a0_7)) else (if a0_2 = 0 then (if (l0_3.length : Int) = 0 then (if a0_0 = 6 then (request_Plain.j1 kj1 false a0_0 a0_1 a0_2 l0_3 a0_4 a0_5 a0_6 a0_7) else (request_Plain.j1 kj1 (a0_5 != 0) a0_0 a0_1 a0_2 l0_3 a0_4 a0_5 a0_6 a0_7)) else (request_Plain.j1 kj1 true a0_0 a0_1 a0_2 l0_3 a0_4 a0_5 a0_6 a0_7)) else (request_Plain.j1 kj1 true a0_0 a0_1 a0_2 l0_3 a0_4 a0_5 a0_6 a0_7))) = some r := by rw [if_neg (show ¬ (false = true) by decide)] at H; exact H
      clear H
      have H := H1
      clear H1
      have HC10 := Aside0.mk H
      clear H
      go_upto_region 3 with (fail)
      go_cut [40] (fun v40 wc => ∃ (kq : Nat) (x40_9 : Bool), v40 = .bool x40_9 ∧ Aside0 (request_Plain.j1 kq x40_9 a0_0 a0_1 a0_2 l0_3 a0_4 a0_5 a0_6 a0_7 = some r) ∧ Aside0 (kq ≤ kj1) ∧ Aside0 (wc.heap[gb162]? = some (.cells #[.int .u8 a0_0, .int .u32 a0_1, .int .u8 a0_2, (.slice A0_3 l0_3.length c0_3), .int .u8 a0_4, .int .u8 a0_5, .int .u8 a0_6, .int .i64 a0_7] 78 (0, 0))) ∧ Aside0 (Below w.heap.size w wc))
      case first =>
        have H := HC10.out
        clear HC10
        by_cases c11 : a0_0 = 1
        · rw [if_pos c11] at H
          obtain ⟨c11b0, c11b1⟩ := zeq c11
          clear c11
          (first | rw [c11b0] | (simp only [i64_w, i32_w]; rw [c11b0]) | skip)
          by_cases c12 : a0_0 = 6
          rotate_left
          · rw [if_neg c12] at H
            obtain ⟨c12b0, c12b1⟩ := zne c12
            have H' := Aside0.mk H
            clear H
            have hcz14_0 := zcf8 BK162.out
            go_wp2
            go_meet
            case rel => exact ⟨_, ((a0_5 != 0)), qW6x1, H', ⟨by have := HJ1.out; first | omega | exact Nat.le_refl _⟩, ⟨by (with_reducible repeat (first | refine blk_drewN ?_ _ | refine blk_drew ?_ | refine blk_alloc ?_ _)); exact BK162.out⟩, ⟨zB⟩⟩
          rw [if_pos c12] at H
          obtain ⟨c12b0, c12b1⟩ := zeq c12
          clear c12
          have H' := Aside0.mk H
          clear H
          have hcz13_0 := zcf8 BK162.out
          go_wp2
          go_meet
          case rel => exact ⟨_, (false), qW6x1, H', ⟨by have := HJ1.out; first | omega | exact Nat.le_refl _⟩, ⟨by (with_reducible repeat (first | refine blk_drewN ?_ _ | refine blk_drew ?_ | refine blk_alloc ?_ _)); exact BK162.out⟩, ⟨zB⟩⟩
        rw [if_neg c11] at H
        obtain ⟨c11b0, c11b1⟩ := zne c11
        (first | rw [c11b0] | (simp only [i64_w, i32_w]; rw [c11b0]) | skip)
        by_cases c15 : a0_2 = 0
        rotate_left
        · rw [if_neg c15] at H
          obtain ⟨c15b0, c15b1⟩ := zne c15
          have H' := Aside0.mk H
          clear H
          have hcz21_0 := zcf8 BK162.out
          go_wp2
          go_meet
          case rel => exact ⟨_, (true), qW6x1, H', ⟨by have := HJ1.out; first | omega | exact Nat.le_refl _⟩, ⟨by (with_reducible repeat (first | refine blk_drewN ?_ _ | refine blk_drew ?_ | refine blk_alloc ?_ _)); exact BK162.out⟩, ⟨zB⟩⟩
        rw [if_pos c15] at H
        obtain ⟨c15b0, c15b1⟩ := zeq c15
        clear c15
        by_cases c16 : (l0_3.length : Int) = 0
        rotate_left
        · rw [if_neg c16] at H
          obtain ⟨c16b0, c16b1⟩ := zne c16
          have c16b2 : ¬ (l0_3 = []) := fun h_ => c16 (by rw [h_]; rfl)
          have H' := Aside0.mk H
          clear H
          have hcz20_0 := zcf8 BK162.out
          go_wp2
          go_meet
          case rel => exact ⟨_, (true), qW6x1, H', ⟨by have := HJ1.out; first | omega | exact Nat.le_refl _⟩, ⟨by (with_reducible repeat (first | refine blk_drewN ?_ _ | refine blk_drew ?_ | refine blk_alloc ?_ _)); exact BK162.out⟩, ⟨zB⟩⟩
        rw [if_pos c16] at H
        obtain ⟨c16b0, c16b1⟩ := zeq c16
        clear c16
        by_cases c17 : a0_0 = 6
        rotate_left
        · rw [if_neg c17] at H
          obtain ⟨c17b0, c17b1⟩ := zne c17
          have H' := Aside0.mk H
          clear H
          have hcz19_0 := zcf8 BK162.out
          go_wp2
          go_meet
          case rel => exact ⟨_, ((a0_5 != 0)), qW6x1, H', ⟨by have := HJ1.out; first | omega | exact Nat.le_refl _⟩, ⟨by (with_reducible repeat (first | refine blk_drewN ?_ _ | refine blk_drew ?_ | refine blk_alloc ?_ _)); exact BK162.out⟩, ⟨zB⟩⟩
        rw [if_pos c17] at H
        obtain ⟨c17b0, c17b1⟩ := zeq c17
        clear c17
        have H' := Aside0.mk H
        clear H
        have hcz18_0 := zcf8 BK162.out
        go_wp2
        go_meet
        case rel => exact ⟨_, (false), qW6x1, H', ⟨by have := HJ1.out; first | omega | exact Nat.le_refl _⟩, ⟨by (with_reducible repeat (first | refine blk_drewN ?_ _ | refine blk_drew ?_ | refine blk_alloc ?_ _)); exact BK162.out⟩, ⟨zB⟩⟩
      case rest =>
        clear HC10
        try clear c1
        try clear p2
        try clear c4
        try clear c4b0
        try clear c6
        try clear c6b0
        try clear c9
        try clear c10
        try clear c11
        try clear c11b0
        try clear c11b1
        try clear c12
        try clear c12b0
        try clear c12b1
        try clear c15
        try clear c15b0
        try clear c15b1
        try clear c16
        try clear c16b0
        try clear c16b1
        try clear c16b2
        try clear c17
        try clear c17b0
        try clear c17b1
        try clear hcz13_0
        try clear hcz14_0
        try clear hcz18_0
        try clear hcz19_0
        try clear hcz20_0
        try clear hcz21_0
        try clear hcz5_0
        try clear hcz7_0
        try clear hcz8_0
        try clear p2
        obtain ⟨kq, x40_9, rfl, HA, HJ9, BK162, HB⟩ := hcut
        cases kq with
        | zero => exact absurd HA.out (by simp [request_Plain.j1])
        | succ kj9 =>
          have H := HA.out
          clear HA
          simp only [request_Plain.j1] at H
          by_cases c22 : x40_9 = true
          · subst c22
            have H1 : (some false) = some r := by rw [if_pos rfl] at H; exact H
            clear H
            have H := H1
            clear H1
            obtain rfl := Option.some.inj H
            go_wp2
            go_ret
            exact ⟨zer, zB⟩
          replace c22 := Bool.eq_false_iff.mpr c22
          subst c22
          have H1 : ((request_ordered.f a0_0).bind fun t163 => (if t163 = true then (if a0_4 = 0 then (if a0_6 = 0 then (some (a0_7 == 0)) else (some false)) else (some false)) else (if a0_1 = 0 then ((request_moved.f a0_0).bind fun t164 => (if t164 = true then (some true) else (if a0_6 = 0 then (some (a0_7 == 0)) else (some false)))) else (some false)))) = some r := by rw [if_neg (show ¬ (false = true) by decide)] at H; exact H
          clear H
          have H := H1
          clear H1
          obtain ⟨t163, A23, H⟩ := zO H
          try dsimp only at H
          by_cases c24 : t163 = true
          · subst c24
            have H1 : (if a0_4 = 0 then (if a0_6 = 0 then (some (a0_7 == 0)) else (some false)) else (some false)) = some r := by rw [if_pos rfl] at H; exact H
            clear H
            have H := H1
            clear H1
            by_cases c25 : a0_4 = 0
            rotate_left
            · rw [if_neg c25] at H
              obtain ⟨c25b0, c25b1⟩ := zne c25
              obtain rfl := Option.some.inj H
              have hcz29_0 := zcf8 BK162.out
              go_wp2_with (first | ((with_reducible refine gate_callee (f := 77) rfl ?_); refine goesZ (some 43) Tryd.func77 (args := #[.int .u8 a0_0]) (h := ?_); (with_reducible refine (request_ordered.calls a0_0 true _ A23.out).mono ?_); rintro e w' ⟨rfl, ⟨nd, rfl⟩⟩; refine ⟨_, rfl, ?_⟩))
              go_ret
              exact ⟨zer, zB⟩
            rw [if_pos c25] at H
            obtain ⟨c25b0, c25b1⟩ := zeq c25
            clear c25
            by_cases c26 : a0_6 = 0
            rotate_left
            · rw [if_neg c26] at H
              obtain ⟨c26b0, c26b1⟩ := zne c26
              obtain rfl := Option.some.inj H
              have hcz28_0 := zcf8 BK162.out
              go_wp2_with (first | ((with_reducible refine gate_callee (f := 77) rfl ?_); refine goesZ (some 43) Tryd.func77 (args := #[.int .u8 a0_0]) (h := ?_); (with_reducible refine (request_ordered.calls a0_0 true _ A23.out).mono ?_); rintro e w' ⟨rfl, ⟨nd, rfl⟩⟩; refine ⟨_, rfl, ?_⟩))
              go_ret
              exact ⟨zer, zB⟩
            rw [if_pos c26] at H
            obtain ⟨c26b0, c26b1⟩ := zeq c26
            clear c26
            obtain rfl := Option.some.inj H
            have hcz27_0 := zcf8 BK162.out
            go_wp2_with (first | ((with_reducible refine gate_callee (f := 77) rfl ?_); refine goesZ (some 43) Tryd.func77 (args := #[.int .u8 a0_0]) (h := ?_); (with_reducible refine (request_ordered.calls a0_0 true _ A23.out).mono ?_); rintro e w' ⟨rfl, ⟨nd, rfl⟩⟩; refine ⟨_, rfl, ?_⟩))
            go_ret
            exact ⟨zer, zB⟩
          replace c24 := Bool.eq_false_iff.mpr c24
          subst c24
          have H1 : (if a0_1 = 0 then ((request_moved.f a0_0).bind fun t164 => (if t164 = true then (some true) else (if a0_6 = 0 then (some (a0_7 == 0)) else (some false)))) else (some false)) = some r := by rw [if_neg (show ¬ (false = true) by decide)] at H; exact H
          clear H
          have H := H1
          clear H1
          by_cases c30 : a0_1 = 0
          rotate_left
          · rw [if_neg c30] at H
            obtain ⟨c30b0, c30b1⟩ := zne c30
            obtain rfl := Option.some.inj H
            have hcz37_0 := zcf8 BK162.out
            go_wp2_with (first | ((with_reducible refine gate_callee (f := 77) rfl ?_); refine goesZ (some 43) Tryd.func77 (args := #[.int .u8 a0_0]) (h := ?_); (with_reducible refine (request_ordered.calls a0_0 false _ A23.out).mono ?_); rintro e w' ⟨rfl, ⟨nd, rfl⟩⟩; refine ⟨_, rfl, ?_⟩))
            go_ret
            exact ⟨zer, zB⟩
          rw [if_pos c30] at H
          obtain ⟨c30b0, c30b1⟩ := zeq c30
          clear c30
          obtain ⟨t164, A31, H⟩ := zO H
          try dsimp only at H
          by_cases c32 : t164 = true
          · subst c32
            have H1 : (some true) = some r := by rw [if_pos rfl] at H; exact H
            clear H
            have H := H1
            clear H1
            obtain rfl := Option.some.inj H
            have hcz33_0 := zcf8 BK162.out
            go_wp2_with (first | ((with_reducible refine gate_callee (f := 77) rfl ?_); refine goesZ (some 43) Tryd.func77 (args := #[.int .u8 a0_0]) (h := ?_); (with_reducible refine (request_ordered.calls a0_0 false _ A23.out).mono ?_); rintro e w' ⟨rfl, ⟨nd, rfl⟩⟩; refine ⟨_, rfl, ?_⟩) | (go_at_call 79; (with_reducible refine (request_moved.calls a0_0 true _ A31.out).mono ?_); rintro e w' ⟨rfl, ⟨nd, rfl⟩⟩))
            go_ret
            exact ⟨zer, zB⟩
          replace c32 := Bool.eq_false_iff.mpr c32
          subst c32
          have H1 : (if a0_6 = 0 then (some (a0_7 == 0)) else (some false)) = some r := by rw [if_neg (show ¬ (false = true) by decide)] at H; exact H
          clear H
          have H := H1
          clear H1
          by_cases c34 : a0_6 = 0
          rotate_left
          · rw [if_neg c34] at H
            obtain ⟨c34b0, c34b1⟩ := zne c34
            obtain rfl := Option.some.inj H
            have hcz36_0 := zcf8 BK162.out
            go_wp2_with (first | ((with_reducible refine gate_callee (f := 77) rfl ?_); refine goesZ (some 43) Tryd.func77 (args := #[.int .u8 a0_0]) (h := ?_); (with_reducible refine (request_ordered.calls a0_0 false _ A23.out).mono ?_); rintro e w' ⟨rfl, ⟨nd, rfl⟩⟩; refine ⟨_, rfl, ?_⟩) | (go_at_call 79; (with_reducible refine (request_moved.calls a0_0 false _ A31.out).mono ?_); rintro e w' ⟨rfl, ⟨nd, rfl⟩⟩))
            go_ret
            exact ⟨zer, zB⟩
          rw [if_pos c34] at H
          obtain ⟨c34b0, c34b1⟩ := zeq c34
          clear c34
          obtain rfl := Option.some.inj H
          have hcz35_0 := zcf8 BK162.out
          go_wp2_with (first | ((with_reducible refine gate_callee (f := 77) rfl ?_); refine goesZ (some 43) Tryd.func77 (args := #[.int .u8 a0_0]) (h := ?_); (with_reducible refine (request_ordered.calls a0_0 false _ A23.out).mono ?_); rintro e w' ⟨rfl, ⟨nd, rfl⟩⟩; refine ⟨_, rfl, ?_⟩) | (go_at_call 79; (with_reducible refine (request_moved.calls a0_0 false _ A31.out).mono ?_); rintro e w' ⟨rfl, ⟨nd, rfl⟩⟩))
          go_ret
          exact ⟨zer, zB⟩
end Go.Proofs.YtpnehgajhpejjaaDoor.W
