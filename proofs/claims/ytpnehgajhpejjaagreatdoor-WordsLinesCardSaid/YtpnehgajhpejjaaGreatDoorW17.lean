import Derived.Test.YtpnehgajhpejjaaGreatDoorSq
import Derived.Test.YtpnehgajhpejjaaGreatDoorW0
namespace Go.Proofs.YtpnehgajhpejjaaGreatDoor.W
open Go.RowKit Go.Proofs.YtpnehgajhpejjaaGreatDoorW.PrintWords Go.Proofs.YtpnehgajhpejjaaGreatDoorW.PrintLast Go.Proofs.YtpnehgajhpejjaaGreatDoorW.PrintMore
attribute [local go_sem] max2_int min2_int max_two min_two max_three min_three max_four min_four
set_option linter.unusedVariables false
set_option linter.unusedSimpArgs false
theorem qW17x1 {p : Prop} (h : p := by first | rfl | (simp; done) | (simp [*]; done)) : p := h

/-! ### pledgeref39_value: function 42 -/
mutual
def pledgeref39_value.j0 : Nat → ByteArray → Bool → Option (Int)
  | 0, _, _ => none
  | k + 1, x0, x3 => pledgeref39_value.l0 k x0 x3 0 0
def pledgeref39_value.l0 : Nat → ByteArray → Bool → Int → Int → Option (Int)
  | 0, _, _, _, _ => none
  | k + 1, x0, x3, x4, x5 => if x5 < (x0.size : Int) then (pledgeref39_value.j2 k x0 x3 x4 x5 (decide (x5 < 20))) else (pledgeref39_value.j2 k x0 x3 x4 x5 false)
def pledgeref39_value.j2 : Nat → ByteArray → Bool → Int → Int → Bool → Option (Int)
  | 0, _, _, _, _, _ => none
  | k + 1, x0, x3, x4, x5, x21 => if x21 = true then (if 0 ≤ x5 then (if x5 < (x0.size : Int) then (if (bt x0 x5) ≥ 48 then (if (bt x0 x5) ≤ 57 then (pledgeref39_value.l0 k x0 x3 (IntKind.u64.wrap ((IntKind.u64.wrap (x4 * 10)) + (((bt x0 x5) - 48) % 256))) (wrap64 (x5 + 1))) else (pledgeref39_value.l0 k x0 x3 x4 (wrap64 (x5 + 1)))) else (pledgeref39_value.l0 k x0 x3 x4 (wrap64 (x5 + 1)))) else (none)) else (none)) else (if x3 = true then (some (wrap64 (IntKind.u64.wrap (-x4)))) else (some (wrap64 (x4))))
end
def pledgeref39_value.f (k : Nat) (a0 : ByteArray) : Option (Int) := if (a0.size : Int) > 0 then (if 0 < (a0.size : Int) then (pledgeref39_value.j0 k a0 ((bt a0 0) == 45)) else (none)) else (pledgeref39_value.j0 k a0 false)
theorem pledgeref39_value.mono_l : ∀ k, (∀ y0 y1, LeO (pledgeref39_value.j0 k y0 y1) (pledgeref39_value.j0 (k + 1) y0 y1)) ∧ (∀ y0 y1 y2 y3, LeO (pledgeref39_value.l0 k y0 y1 y2 y3) (pledgeref39_value.l0 (k + 1) y0 y1 y2 y3)) ∧ (∀ y0 y1 y2 y3 y4, LeO (pledgeref39_value.j2 k y0 y1 y2 y3 y4) (pledgeref39_value.j2 (k + 1) y0 y1 y2 y3 y4))
  | 0 => ⟨fun _ _ r h => by simp [pledgeref39_value.j0] at h, fun _ _ _ _ r h => by simp [pledgeref39_value.l0] at h, fun _ _ _ _ _ r h => by simp [pledgeref39_value.j2] at h⟩
  | k + 1 => by
    obtain ⟨ih0, ih1, ih2⟩ := pledgeref39_value.mono_l k
    refine ⟨?_, ?_, ?_⟩
    · intro y0 y1
      unfold pledgeref39_value.j0
      repeat' first
      | (with_reducible exact ih0 _ _)
      | (with_reducible exact ih1 _ _ _ _)
      | (with_reducible exact ih2 _ _ _ _ _)
      | (with_reducible exact LeO.refl _)
      | (with_reducible exact LeO.none _)
      | (with_reducible refine LeO.ite ?_ ?_)
      | (with_reducible refine LeO.bind ?_ (fun _ => ?_))
      | exact ih0 _ _
      | exact ih1 _ _ _ _
      | exact ih2 _ _ _ _ _
      | exact LeO.none _
      | refine LeO.ite ?_ ?_
      | refine LeO.bind ?_ (fun _ => ?_)
    · intro y0 y1 y2 y3
      unfold pledgeref39_value.l0
      repeat' first
      | (with_reducible exact ih0 _ _)
      | (with_reducible exact ih1 _ _ _ _)
      | (with_reducible exact ih2 _ _ _ _ _)
      | (with_reducible exact LeO.refl _)
      | (with_reducible exact LeO.none _)
      | (with_reducible refine LeO.ite ?_ ?_)
      | (with_reducible refine LeO.bind ?_ (fun _ => ?_))
      | exact ih0 _ _
      | exact ih1 _ _ _ _
      | exact ih2 _ _ _ _ _
      | exact LeO.none _
      | refine LeO.ite ?_ ?_
      | refine LeO.bind ?_ (fun _ => ?_)
    · intro y0 y1 y2 y3 y4
      unfold pledgeref39_value.j2
      repeat' first
      | (with_reducible exact ih0 _ _)
      | (with_reducible exact ih1 _ _ _ _)
      | (with_reducible exact ih2 _ _ _ _ _)
      | (with_reducible exact LeO.refl _)
      | (with_reducible exact LeO.none _)
      | (with_reducible refine LeO.ite ?_ ?_)
      | (with_reducible refine LeO.bind ?_ (fun _ => ?_))
      | exact ih0 _ _
      | exact ih1 _ _ _ _
      | exact ih2 _ _ _ _ _
      | exact LeO.none _
      | refine LeO.ite ?_ ?_
      | refine LeO.bind ?_ (fun _ => ?_)
theorem pledgeref39_value.mono : ∀ a0 k, LeO (pledgeref39_value.f k a0) (pledgeref39_value.f (k + 1) a0) := by
  intro a0 k
  obtain ⟨ih0, ih1, ih2⟩ := pledgeref39_value.mono_l k
  unfold pledgeref39_value.f
  repeat' first
      | (with_reducible exact ih0 _ _)
      | (with_reducible exact ih1 _ _ _ _)
      | (with_reducible exact ih2 _ _ _ _ _)
      | (with_reducible exact LeO.refl _)
      | (with_reducible exact LeO.none _)
      | (with_reducible refine LeO.ite ?_ ?_)
      | (with_reducible refine LeO.bind ?_ (fun _ => ?_))
      | exact ih0 _ _
      | exact ih1 _ _ _ _
      | exact ih2 _ _ _ _ _
      | exact LeO.none _
      | refine LeO.ite ?_ ?_
      | refine LeO.bind ?_ (fun _ => ?_)
set_option maxHeartbeats 8000000 in
set_option maxRecDepth 100000 in
theorem pledgeref39_value.calls (k : Nat) (a0 : ByteArray) (r : Int) (w : World) (h : pledgeref39_value.f k a0 = some r) :
    Calls Tryz.prog 42 #[.string a0] w fun e w' => e = .returned (.int .i64 r) ∧ Drawn0 w w' := by
  have H : (if (a0.size : Int) > 0 then (if 0 < (a0.size : Int) then (pledgeref39_value.j0 k a0 ((bt a0 0) == 45)) else (none)) else (pledgeref39_value.j0 k a0 false)) = some r := h
  clear h
  have HC2 := Aside0.mk H
  clear H
  go_enter Tryz.func42, Tryz.ntmps42
  go_upto_region 1 with (fail)
  go_cut [3] (fun v3 wc => ∃ (kq : Nat) (x3_1 : Bool), v3 = .bool x3_1 ∧ Aside0 (pledgeref39_value.j0 kq a0 x3_1 = some r) ∧ Aside0 (kq ≤ k) ∧ Drawn0 w wc)
  case first =>
    have H := HC2.out
    clear HC2
    by_cases c3 : (a0.size : Int) > 0
    rotate_left
    · rw [if_neg c3] at H
      have c3b0 : decide (0 < (a0.size : Int)) = false := decide_eq_false c3
      have c3b1 : decide (0 < a0.size) = false := decide_eq_false (by omega)
      clear c3
      (first | rw [c3b0] | (simp only [i64_w, i32_w]; rw [c3b0]) | skip)
      have H' := Aside0.mk H
      clear H
      go_wp2
      go_meet
      case rel => exact ⟨_, (false), qW17x1, H', ⟨by first | omega | exact Nat.le_refl _⟩, by repeat (first | exact Drawn0.refl _ | apply Drawn0.step)⟩
    rw [if_pos c3] at H
    have c3b0 := decide_eq_true c3
    have c3b1 : decide (0 < a0.size) = true := decide_eq_true (by omega)
    clear c3
    (first | rw [c3b0] | (simp only [i64_w, i32_w]; rw [c3b0]) | skip)
    by_cases c4 : 0 < (a0.size : Int)
    rotate_left
    · rw [if_neg c4] at H
      exact absurd H (by simp)
    rw [if_pos c4] at H
    have c4b0 := decide_eq_true c4
    have c4b1 : decide (0 < a0.size) = true := decide_eq_true (by omega)
    clear c4
    have H' := Aside0.mk H
    clear H
    have p5 : 0 ≤ (0 : Int) := (by omega)
    have q5 : 0 < a0.size := (by have : (0 : Int) < (a0.size : Int) := of_decide_eq_true zas; omega)
    have hx5 : ∀ h : 0 < a0.size, ((a0[0]'h).toNat : Int) = bt a0 0 := bt_at a0 0
    clear p5
    have qi5 : (0 < (a0.size : Int)) = True := eq_true (of_decide_eq_true zas)
    replace q5 := eq_true q5
    go_wp2
    go_meet
    case rel => exact ⟨_, (((bt a0 0) == 45)), qW17x1, H', ⟨by first | omega | exact Nat.le_refl _⟩, by repeat (first | exact Drawn0.refl _ | apply Drawn0.step)⟩
  case rest =>
    clear HC2
    try clear p2
    try clear c3
    try clear c3b0
    try clear c3b1
    try clear c4
    try clear c4b0
    try clear c4b1
    try clear p5
    try clear q5
    try clear hx5
    try clear qi5
    try clear p5
    try clear q5
    obtain ⟨kq, x3_1, rfl, HA, HJ1, ⟨mc1, rfl⟩⟩ := hcut
    cases kq with
    | zero => exact absurd HA.out (by simp [pledgeref39_value.j0])
    | succ kj1 =>
      have H := HA.out
      clear HA
      simp only [pledgeref39_value.j0] at H
      have H' := Aside0.mk H
      clear H
      go_wp2
      go_loopg [4, 5] kj1 (fun kq v4 v5 w' => ∃ (x4_2 : Int) (x5_2 : Int), v4 = .int .u64 x4_2 ∧ v5 = .int .i64 x5_2 ∧ Aside0 (pledgeref39_value.l0 kq a0 x3_1 x4_2 x5_2 = some r) ∧ Aside0 (kq ≤ kj1) ∧ Drawn0 w w')
      case atStart => exact ⟨(0), (0), qW17x1, qW17x1, H', ⟨Nat.le_refl _⟩, by repeat (first | exact Drawn0.refl _ | apply Drawn0.step)⟩
      case round =>
        clear H'
        try clear c1
        try clear p2
        try clear c3
        try clear c3b0
        try clear c3b1
        try clear c4
        try clear c4b0
        try clear c4b1
        try clear p5
        try clear q5
        try clear hx5
        try clear qi5
        try clear p2
        try clear p5
        try clear q5
        obtain ⟨x4_2, x5_2, rfl, rfl, HA, HK2, ⟨m2, rfl⟩⟩ := hrel
        cases gk with
        | zero => exact absurd HA.out (by simp [pledgeref39_value.l0])
        | succ k2 =>
          have H := HA.out
          clear HA
          simp only [pledgeref39_value.l0] at H
          have HC6 := Aside0.mk H
          clear H
          go_upto_region 4 with (fail)
          go_cut [21] (fun v21 wc => ∃ (kq : Nat) (x21_5 : Bool), v21 = .bool x21_5 ∧ Aside0 (pledgeref39_value.j2 kq a0 x3_1 x4_2 x5_2 x21_5 = some r) ∧ Aside0 (kq ≤ k2) ∧ Drawn0 w wc)
          case first =>
            have H := HC6.out
            clear HC6
            by_cases c7 : x5_2 < (a0.size : Int)
            · rw [if_pos c7] at H
              have c7b0 := decide_eq_true c7
              clear c7
              (first | rw [c7b0] | (simp only [i64_w, i32_w]; rw [c7b0]) | skip)
              have H' := Aside0.mk H
              clear H
              go_wp2
              go_meet
              case rel => exact ⟨_, (decide (x5_2 < 20)), qW17x1, H', ⟨by have := HJ1.out; have := HK2.out; first | omega | exact Nat.le_refl _⟩, by repeat (first | exact Drawn0.refl _ | apply Drawn0.step)⟩
            rw [if_neg c7] at H
            have c7b0 : decide (x5_2 < (a0.size : Int)) = false := decide_eq_false c7
            clear c7
            (first | rw [c7b0] | (simp only [i64_w, i32_w]; rw [c7b0]) | skip)
            have H' := Aside0.mk H
            clear H
            go_wp2
            go_meet
            case rel => exact ⟨_, (false), qW17x1, H', ⟨by have := HJ1.out; have := HK2.out; first | omega | exact Nat.le_refl _⟩, by repeat (first | exact Drawn0.refl _ | apply Drawn0.step)⟩
          case rest =>
            clear HC6
            try clear c1
            try clear p2
            try clear c3
            try clear c3b0
            try clear c3b1
            try clear c4
            try clear c4b0
            try clear c4b1
            try clear p5
            try clear q5
            try clear hx5
            try clear qi5
            try clear c7
            try clear c7b0
            try clear p2
            try clear p5
            try clear q5
            obtain ⟨kq, x21_5, rfl, HA, HJ5, ⟨mc5, rfl⟩⟩ := hcut
            cases kq with
            | zero => exact absurd HA.out (by simp [pledgeref39_value.j2])
            | succ kj5 =>
              have H := HA.out
              clear HA
              simp only [pledgeref39_value.j2] at H
              by_cases c8 : x21_5 = true
              rotate_left
              · replace c8 := Bool.eq_false_iff.mpr c8
                subst c8
                have H1 : (if x3_1 = true then (some (wrap64 (IntKind.u64.wrap (-x4_2)))) else (some (wrap64 (x4_2)))) = some r := by rw [if_neg (show ¬ (false = true) by decide)] at H; exact H
                clear H
                have H := H1
                clear H1
                by_cases c16 : x3_1 = true
                · subst c16
                  have H1 : (some (wrap64 (IntKind.u64.wrap (-x4_2)))) = some r := by rw [if_pos rfl] at H; exact H
                  clear H
                  have H := H1
                  clear H1
                  obtain rfl := Option.some.inj H
                  go_wp2
                  go_ret
                  exact ⟨by first | rfl | (simp; done) | (simp [*]; done), by repeat (first | exact Drawn0.refl _ | apply Drawn0.step)⟩
                replace c16 := Bool.eq_false_iff.mpr c16
                subst c16
                have H1 : (some (wrap64 (x4_2))) = some r := by rw [if_neg (show ¬ (false = true) by decide)] at H; exact H
                clear H
                have H := H1
                clear H1
                obtain rfl := Option.some.inj H
                go_wp2
                go_ret
                exact ⟨by first | rfl | (simp; done) | (simp [*]; done), by repeat (first | exact Drawn0.refl _ | apply Drawn0.step)⟩
              subst c8
              have H1 : (if 0 ≤ x5_2 then (if x5_2 < (a0.size : Int) then (if (bt a0 x5_2) ≥ 48 then (if (bt a0 x5_2) ≤ 57 then (pledgeref39_value.l0 kj5 a0 x3_1 (IntKind.u64.wrap ((IntKind.u64.wrap (x4_2 * 10)) + (((bt a0 x5_2) - 48) % 256))) (wrap64 (x5_2 + 1))) else (pledgeref39_value.l0 kj5 a0 x3_1 x4_2 (wrap64 (x5_2 + 1)))) else (pledgeref39_value.l0 kj5 a0 x3_1 x4_2 (wrap64 (x5_2 + 1)))) else (none)) else (none)) = some r := by rw [if_pos rfl] at H; exact H
              clear H
              have H := H1
              clear H1
              by_cases c9 : 0 ≤ x5_2
              rotate_left
              · rw [if_neg c9] at H
                exact absurd H (by simp)
              rw [if_pos c9] at H
              have c9b0 := decide_eq_true c9
              clear c9
              by_cases c10 : x5_2 < (a0.size : Int)
              rotate_left
              · rw [if_neg c10] at H
                exact absurd H (by simp)
              rw [if_pos c10] at H
              have c10b0 := decide_eq_true c10
              clear c10
              by_cases c12 : (bt a0 x5_2) ≥ 48
              rotate_left
              · rw [if_neg c12] at H
                have c12b0 : decide (48 ≤ (bt a0 x5_2)) = false := decide_eq_false c12
                clear c12
                have H' := Aside0.mk H
                clear H
                have p11 : 0 ≤ (x5_2 : Int) := of_decide_eq_true zas
                have q11 : x5_2 < (a0.size : Int) := of_decide_eq_true zas
                have hx11 := bt_at a0 x5_2
                replace p11 := eq_true p11
                replace q11 := eq_true q11
                go_wp2
                go_roundg kj5
                case measure => have := HJ1.out; have := HK2.out; have := HJ5.out; omega
                case rel => exact ⟨(x4_2), (wrap64 (x5_2 + 1)), qW17x1, qW17x1, H', ⟨by have := HJ1.out; have := HK2.out; have := HJ5.out; omega⟩, by repeat (first | exact Drawn0.refl _ | apply Drawn0.step)⟩
              rw [if_pos c12] at H
              have c12b0 := decide_eq_true c12
              clear c12
              by_cases c14 : (bt a0 x5_2) ≤ 57
              rotate_left
              · rw [if_neg c14] at H
                have c14b0 : decide ((bt a0 x5_2) ≤ 57) = false := decide_eq_false c14
                clear c14
                have H' := Aside0.mk H
                clear H
                have p11 : 0 ≤ (x5_2 : Int) := of_decide_eq_true zas
                have q11 : x5_2 < (a0.size : Int) := of_decide_eq_true zas
                have hx11 := bt_at a0 x5_2
                replace p11 := eq_true p11
                replace q11 := eq_true q11
                have p13 : 0 ≤ (x5_2 : Int) := of_decide_eq_true zas
                have q13 : x5_2 < (a0.size : Int) := of_decide_eq_true zas
                have hx13 := bt_at a0 x5_2
                replace p13 := eq_true p13
                replace q13 := eq_true q13
                go_wp2
                go_roundg kj5
                case measure => have := HJ1.out; have := HK2.out; have := HJ5.out; omega
                case rel => exact ⟨(x4_2), (wrap64 (x5_2 + 1)), qW17x1, qW17x1, H', ⟨by have := HJ1.out; have := HK2.out; have := HJ5.out; omega⟩, by repeat (first | exact Drawn0.refl _ | apply Drawn0.step)⟩
              rw [if_pos c14] at H
              have c14b0 := decide_eq_true c14
              clear c14
              have H' := Aside0.mk H
              clear H
              have p11 : 0 ≤ (x5_2 : Int) := of_decide_eq_true zas
              have q11 : x5_2 < (a0.size : Int) := of_decide_eq_true zas
              have hx11 := bt_at a0 x5_2
              replace p11 := eq_true p11
              replace q11 := eq_true q11
              have p13 : 0 ≤ (x5_2 : Int) := of_decide_eq_true zas
              have q13 : x5_2 < (a0.size : Int) := of_decide_eq_true zas
              have hx13 := bt_at a0 x5_2
              replace p13 := eq_true p13
              replace q13 := eq_true q13
              have p15 : 0 ≤ (x5_2 : Int) := of_decide_eq_true zas
              have q15 : x5_2 < (a0.size : Int) := of_decide_eq_true zas
              have hx15 := bt_at a0 x5_2
              replace p15 := eq_true p15
              replace q15 := eq_true q15
              go_wp2
              go_roundg kj5
              case measure => have := HJ1.out; have := HK2.out; have := HJ5.out; omega
              case rel => exact ⟨(IntKind.u64.wrap ((IntKind.u64.wrap (x4_2 * 10)) + (((bt a0 x5_2) - 48) % 256))), (wrap64 (x5_2 + 1)), qW17x1, qW17x1, H', ⟨by have := HJ1.out; have := HK2.out; have := HJ5.out; omega⟩, by repeat (first | exact Drawn0.refl _ | apply Drawn0.step)⟩

/-! ### pledgeref39_at: function 43 -/
def pledgeref39_at.f (l0 : List ByteArray) (a1 : Int) : Option (ByteArray) := if a1 ≥ (l0.length : Int) then (some (⟨#[]⟩ : ByteArray)) else (if 0 ≤ a1 then (if a1 < (l0.length : Int) then (some (rdOf ByteArray.empty l0 a1)) else (none)) else (none))
set_option maxHeartbeats 8000000 in
set_option maxRecDepth 100000 in
theorem pledgeref39_at.calls (A0 : Option Addr) (c0 : Nat) (l0 : List ByteArray) (a1 : Int) (r : ByteArray) (w : World) (hr0 : Kd.C Kd.string w A0 l0.length l0) (hc0 : l0.length ≤ c0) (h : pledgeref39_at.f l0 a1 = some r) :
    Calls Tryz.prog 43 #[.slice A0 l0.length c0, .int .i64 a1] w fun e w' => e = .returned (.string r) ∧ Drawn0 w w' := by
  have HR0 := Aside0.mk hr0
  have HC0 := Aside0.mk hc0
  clear hr0 hc0
  have H : (if a1 ≥ (l0.length : Int) then (some (⟨#[]⟩ : ByteArray)) else (if 0 ≤ a1 then (if a1 < (l0.length : Int) then (some (rdOf ByteArray.empty l0 a1)) else (none)) else (none))) = some r := h
  clear h
  by_cases c3 : a1 ≥ (l0.length : Int)
  focus
    rw [if_pos c3] at H
    have c3b0 := decide_eq_true c3
    clear c3
    obtain rfl := Option.some.inj H
  rotate_left
  rw [if_neg c3] at H
  have c3b0 : decide ((l0.length : Int) ≤ a1) = false := decide_eq_false c3
  clear c3
  by_cases c4 : 0 ≤ a1
  focus
    rw [if_pos c4] at H
    have c4b0 := decide_eq_true c4
    clear c4
    by_cases c5 : a1 < (l0.length : Int)
    focus
      rw [if_pos c5] at H
      have c5b0 := decide_eq_true c5
      clear c5
      obtain rfl := Option.some.inj H
      have p289 : 0 ≤ (a1 : Int) := of_decide_eq_true zas
      have q289 : a1 < (l0.length : Int) := of_decide_eq_true zas
      obtain ⟨ad289, e289, hx289_0⟩ := Kd.at_string HR0.out a1 p289 q289
      cases e289
      replace p289 := eq_true p289
      replace q289 := eq_true q289
    rotate_left
    · rw [if_neg c5] at H
      exact absurd H (by simp)
  rotate_left
  · rw [if_neg c4] at H
    exact absurd H (by simp)
  all_goals go_enter Tryz.func43, Tryz.ntmps43
  all_goals go_wp2
  all_goals (go_ret; exact ⟨by first | rfl | (simp; done) | (simp [*]; done), by repeat (first | exact Drawn0.refl _ | apply Drawn0.step)⟩)

/-! ### pledgeref39_digit: function 75 -/
def pledgeref39_digit.f (a0 : Int) : Option (Int) := if a0 ≥ 97 then (some ((a0 - 87) % 256)) else (some ((a0 - 48) % 256))
set_option maxHeartbeats 8000000 in
set_option maxRecDepth 100000 in
theorem pledgeref39_digit.calls (a0 : Int) (r : Int) (w : World) (h : pledgeref39_digit.f a0 = some r) :
    Calls Tryz.prog 75 #[.int .u8 a0] w fun e w' => e = .returned (.int .u8 r) ∧ Drawn0 w w' := by
  have H : (if a0 ≥ 97 then (some ((a0 - 87) % 256)) else (some ((a0 - 48) % 256))) = some r := h
  clear h
  by_cases c2 : a0 ≥ 97
  focus
    rw [if_pos c2] at H
    have c2b0 := decide_eq_true c2
    clear c2
    obtain rfl := Option.some.inj H
  rotate_left
  rw [if_neg c2] at H
  have c2b0 : decide (97 ≤ a0) = false := decide_eq_false c2
  clear c2
  obtain rfl := Option.some.inj H
  all_goals go_enter Tryz.func75, Tryz.ntmps75
  all_goals go_wp2
  all_goals (go_ret; exact ⟨by first | rfl | (simp; done) | (simp [*]; done), by repeat (first | exact Drawn0.refl _ | apply Drawn0.step)⟩)

end Go.Proofs.YtpnehgajhpejjaaGreatDoor.W
