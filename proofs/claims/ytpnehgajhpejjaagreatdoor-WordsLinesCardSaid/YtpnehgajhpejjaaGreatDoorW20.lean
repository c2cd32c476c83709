import Derived.Test.YtpnehgajhpejjaaGreatDoorSq
import Derived.Test.YtpnehgajhpejjaaGreatDoorW0
import Derived.Test.YtpnehgajhpejjaaGreatDoorW1
namespace Go.Proofs.YtpnehgajhpejjaaGreatDoor.W
open Go.RowKit Go.Proofs.YtpnehgajhpejjaaGreatDoorW.PrintWords Go.Proofs.YtpnehgajhpejjaaGreatDoorW.PrintLast Go.Proofs.YtpnehgajhpejjaaGreatDoorW.PrintMore
attribute [local go_sem] max2_int min2_int max_two min_two max_three min_three max_four min_four
set_option linter.unusedVariables false
set_option linter.unusedSimpArgs false
theorem qW20x1 {p : Prop} (h : p := by first | rfl | (simp; done) | (simp [*]; done)) : p := h
theorem qW20x2 {p : Prop} (h : p := by omega) : p := h

attribute [local go_sem high] eqA90
/-! ### pledgeref12_SameLines: function 98 -/
def pledgeref12_SameLines.l0 : Nat → List (S90) → List (S90) → Int → Option (Bool)
  | 0, _, _, _ => none
  | k + 1, x0, x1, x5 => if x5 < (x0.length : Int) then (if 0 ≤ x5 then (if x5 < (x1.length : Int) then (if (!(((rd_T90 x0 x5).f0) == ((rd_T90 x1 x5).f0)) || (!(((rd_T90 x0 x5).f1) == ((rd_T90 x1 x5).f1)))) = true then (some false) else (pledgeref12_SameLines.l0 k x0 x1 (wrap64 (x5 + 1)))) else (none)) else (none)) else (some true)
def pledgeref12_SameLines.f (k : Nat) (l0 : List (S90)) (l1 : List (S90)) : Option (Bool) := if (l0.length : Int) = (l1.length : Int) then (pledgeref12_SameLines.l0 k l0 l1 0) else (some false)
theorem pledgeref12_SameLines.mono_l : ∀ k, (∀ y0 y1 y2, LeO (pledgeref12_SameLines.l0 k y0 y1 y2) (pledgeref12_SameLines.l0 (k + 1) y0 y1 y2))
  | 0 => fun _ _ _ r h => by simp [pledgeref12_SameLines.l0] at h
  | k + 1 => by
    have ih0 := pledgeref12_SameLines.mono_l k
    · intro y0 y1 y2
      unfold pledgeref12_SameLines.l0
      repeat' first
      | (with_reducible exact ih0 _ _ _)
      | (with_reducible exact LeO.refl _)
      | (with_reducible exact LeO.none _)
      | (with_reducible refine LeO.ite ?_ ?_)
      | (with_reducible refine LeO.bind ?_ (fun _ => ?_))
      | exact ih0 _ _ _
      | exact LeO.none _
      | refine LeO.ite ?_ ?_
      | refine LeO.bind ?_ (fun _ => ?_)
theorem pledgeref12_SameLines.mono : ∀ a0 a1 k, LeO (pledgeref12_SameLines.f k a0 a1) (pledgeref12_SameLines.f (k + 1) a0 a1) := by
  intro a0 a1 k
  have ih0 := pledgeref12_SameLines.mono_l k
  unfold pledgeref12_SameLines.f
  repeat' first
      | (with_reducible exact ih0 _ _ _)
      | (with_reducible exact LeO.refl _)
      | (with_reducible exact LeO.none _)
      | (with_reducible refine LeO.ite ?_ ?_)
      | (with_reducible refine LeO.bind ?_ (fun _ => ?_))
      | exact ih0 _ _ _
      | exact LeO.none _
      | refine LeO.ite ?_ ?_
      | refine LeO.bind ?_ (fun _ => ?_)
set_option maxHeartbeats 8000000 in
set_option maxRecDepth 100000 in
theorem pledgeref12_SameLines.calls (k : Nat) (A0 : Option Addr) (c0 : Nat) (l0 : List (S90)) (A1 : Option Addr) (c1 : Nat) (l1 : List (S90)) (r : Bool) (w : World) (hr0 : Kd.C k90 w A0 l0.length l0) (hc0 : l0.length ≤ c0) (hr1 : Kd.C k90 w A1 l1.length l1) (hc1 : l1.length ≤ c1) (h : pledgeref12_SameLines.f k l0 l1 = some r) :
    Calls Tryz.prog 98 #[.slice A0 l0.length c0, .slice A1 l1.length c1] w fun e w' => e = .returned (.bool r) ∧ Drawn0 w w' := by
  have hu90 := Tryz.underlying90
  have HR0 := Aside0.mk hr0
  have HC0 := Aside0.mk hc0
  clear hr0 hc0
  have HR1 := Aside0.mk hr1
  have HC1 := Aside0.mk hc1
  clear hr1 hc1
  have H : (if (l0.length : Int) = (l1.length : Int) then (pledgeref12_SameLines.l0 k l0 l1 0) else (some false)) = some r := h
  clear h
  by_cases c3 : (l0.length : Int) = (l1.length : Int)
  rotate_left
  · rw [if_neg c3] at H
    obtain ⟨c3b0, c3b1⟩ := zne c3
    have c3b2 : (l0.length == l1.length) = false := by first | simpa using c3 | (simp at c3 ⊢; omega)
    obtain rfl := Option.some.inj H
    go_enter Tryz.func98, Tryz.ntmps98
    go_wp2
    repeat (go_quiet (fail); try go_wp2)
    go_ret
    exact ⟨by first | rfl | (simp; done) | (simp [*]; done), by repeat (first | exact Drawn0.refl _ | apply Drawn0.step)⟩
  rw [if_pos c3] at H
  obtain ⟨c3b0, c3b1⟩ := zeq c3
  have c3b2 : (l0.length == l1.length) = true := by first | simpa using c3 | (simp at c3 ⊢; omega)
  clear c3
  have H' := Aside0.mk H
  clear H
  go_enter Tryz.func98, Tryz.ntmps98
  go_wp2
  repeat (go_quiet (fail); try go_wp2)
  go_loopg [5] k (fun kq v5 w' => ∃ (x5_1 : Int), v5 = .int .i64 x5_1 ∧ Aside0 (pledgeref12_SameLines.l0 kq l0 l1 x5_1 = some r) ∧ Aside0 (kq ≤ k) ∧ Drawn0 w w')
  case atStart => exact ⟨(0), qW20x1, H', ⟨Nat.le_refl _⟩, by repeat (first | exact Drawn0.refl _ | apply Drawn0.step)⟩
  case round =>
    clear H'
    try clear c1
    try clear p2
    try clear c3
    try clear c3b0
    try clear c3b1
    try clear c3b2
    obtain ⟨x5_1, rfl, HA, HK1, ⟨m1, rfl⟩⟩ := hrel
    cases gk with
    | zero => exact absurd HA.out (by simp [pledgeref12_SameLines.l0])
    | succ k1 =>
      have H := HA.out
      clear HA
      simp only [pledgeref12_SameLines.l0] at H
      by_cases c4 : x5_1 < (l0.length : Int)
      rotate_left
      · rw [if_neg c4] at H
        have c4b0 : decide (x5_1 < (l0.length : Int)) = false := decide_eq_false c4
        clear c4
        obtain rfl := Option.some.inj H
        go_wp2
        repeat (go_quiet (fail); try go_wp2)
        go_ret
        exact ⟨by first | rfl | (simp; done) | (simp [*]; done), by repeat (first | exact Drawn0.refl _ | apply Drawn0.step)⟩
      rw [if_pos c4] at H
      have c4b0 := decide_eq_true c4
      clear c4
      by_cases c5 : 0 ≤ x5_1
      rotate_left
      · rw [if_neg c5] at H
        exact absurd H (by simp)
      rw [if_pos c5] at H
      have c5b0 := decide_eq_true c5
      clear c5
      by_cases c6 : x5_1 < (l1.length : Int)
      rotate_left
      · rw [if_neg c6] at H
        exact absurd H (by simp)
      rw [if_pos c6] at H
      have c6b0 := decide_eq_true c6
      clear c6
      by_cases c7 : (!(((rd_T90 l0 x5_1).f0) == ((rd_T90 l1 x5_1).f0)) || (!(((rd_T90 l0 x5_1).f1) == ((rd_T90 l1 x5_1).f1)))) = true
      · rw [if_pos c7] at H
        have c7b0 : (!(((rd_T90 l0 x5_1).f0) == ((rd_T90 l1 x5_1).f0)) || (!(((rd_T90 l0 x5_1).f1) == ((rd_T90 l1 x5_1).f1)))) = true := c7
        clear c7
        obtain rfl := Option.some.inj H
        have p323 : 0 ≤ (x5_1 : Int) := of_decide_eq_true zas
        have q323 : x5_1 < (l0.length : Int) := of_decide_eq_true zas
        obtain ⟨ad323, e323, hx323_0, hx323_1⟩ := at_T90 HR0.out x5_1 p323 q323
        cases e323
        replace p323 := eq_true p323
        replace q323 := eq_true q323
        have p324 : 0 ≤ (x5_1 : Int) := of_decide_eq_true zas
        have q324 : x5_1 < (l1.length : Int) := of_decide_eq_true zas
        obtain ⟨ad324, e324, hx324_0, hx324_1⟩ := at_T90 HR1.out x5_1 p324 q324
        cases e324
        replace p324 := eq_true p324
        replace q324 := eq_true q324
        go_wp2
        repeat (go_quiet (fail); try go_wp2)
        go_ret
        exact ⟨by first | rfl | (simp; done) | (simp [*]; done), by repeat (first | exact Drawn0.refl _ | apply Drawn0.step)⟩
      rw [if_neg c7] at H
      have c7b0 : (!(((rd_T90 l0 x5_1).f0) == ((rd_T90 l1 x5_1).f0)) || (!(((rd_T90 l0 x5_1).f1) == ((rd_T90 l1 x5_1).f1)))) = false := by simpa using c7
      clear c7
      have H' := Aside0.mk H
      clear H
      have p323 : 0 ≤ (x5_1 : Int) := of_decide_eq_true zas
      have q323 : x5_1 < (l0.length : Int) := of_decide_eq_true zas
      obtain ⟨ad323, e323, hx323_0, hx323_1⟩ := at_T90 HR0.out x5_1 p323 q323
      cases e323
      replace p323 := eq_true p323
      replace q323 := eq_true q323
      have p324 : 0 ≤ (x5_1 : Int) := of_decide_eq_true zas
      have q324 : x5_1 < (l1.length : Int) := of_decide_eq_true zas
      obtain ⟨ad324, e324, hx324_0, hx324_1⟩ := at_T90 HR1.out x5_1 p324 q324
      cases e324
      replace p324 := eq_true p324
      replace q324 := eq_true q324
      go_wp2
      repeat (go_quiet (fail); try go_wp2)
      go_roundg k1
      case measure => have := HK1.out; omega
      case rel => exact ⟨(wrap64 (x5_1 + 1)), qW20x1, H', ⟨by have := HK1.out; omega⟩, by repeat (first | exact Drawn0.refl _ | apply Drawn0.step)⟩

/-! ### pledgeref34_Same: function 76 -/
def pledgeref34_Same.f (k : Nat) (a0_0 : Int) (a0_1 : Int) (a0_2 : Int) (l0_3 : List (S90)) (a0_4 : Int) (a0_5 : Int) (a0_6 : Int) (a0_7 : Int) (a1_0 : Int) (a1_1 : Int) (a1_2 : Int) (l1_3 : List (S90)) (a1_4 : Int) (a1_5 : Int) (a1_6 : Int) (a1_7 : Int) : Option (Bool) := if a0_0 = a1_0 then (if a0_1 = a1_1 then (if a0_2 = a1_2 then ((pledgeref12_SameLines.f k l0_3 l1_3).bind fun t327 => (if t327 = true then (if a0_4 = a1_4 then (if a0_5 = a1_5 then (if a0_6 = a1_6 then (some (a0_7 == a1_7)) else (some false)) else (some false)) else (some false)) else (some false))) else (some false)) else (some false)) else (some false)
theorem pledgeref34_Same.mono : ∀ a0 a1 a2 a3 a4 a5 a6 a7 a8 a9 a10 a11 a12 a13 a14 a15 k, LeO (pledgeref34_Same.f k a0 a1 a2 a3 a4 a5 a6 a7 a8 a9 a10 a11 a12 a13 a14 a15) (pledgeref34_Same.f (k + 1) a0 a1 a2 a3 a4 a5 a6 a7 a8 a9 a10 a11 a12 a13 a14 a15) := by
  intro a0 a1 a2 a3 a4 a5 a6 a7 a8 a9 a10 a11 a12 a13 a14 a15 k
  unfold pledgeref34_Same.f
  repeat' first
      | (with_reducible exact pledgeref12_SameLines.mono _ _ _)
      | (with_reducible exact LeO.refl _)
      | (with_reducible exact LeO.none _)
      | (with_reducible refine LeO.ite ?_ ?_)
      | (with_reducible refine LeO.bind ?_ (fun _ => ?_))
      | exact pledgeref12_SameLines.mono _ _ _
      | exact LeO.none _
      | refine LeO.ite ?_ ?_
      | refine LeO.bind ?_ (fun _ => ?_)
set_option maxHeartbeats 8000000 in
set_option maxRecDepth 100000 in
theorem pledgeref34_Same.calls (k : Nat) (a0_0 : Int) (a0_1 : Int) (a0_2 : Int) (A0_3 : Option Addr) (c0_3 : Nat) (l0_3 : List (S90)) (a0_4 : Int) (a0_5 : Int) (a0_6 : Int) (a0_7 : Int) (a1_0 : Int) (a1_1 : Int) (a1_2 : Int) (A1_3 : Option Addr) (c1_3 : Nat) (l1_3 : List (S90)) (a1_4 : Int) (a1_5 : Int) (a1_6 : Int) (a1_7 : Int) (r : Bool) (w : World) (hr0_3 : Kd.C k90 w A0_3 l0_3.length l0_3) (hc0_3 : l0_3.length ≤ c0_3) (hr1_3 : Kd.C k90 w A1_3 l1_3.length l1_3) (hc1_3 : l1_3.length ≤ c1_3) (h : pledgeref34_Same.f k a0_0 a0_1 a0_2 l0_3 a0_4 a0_5 a0_6 a0_7 a1_0 a1_1 a1_2 l1_3 a1_4 a1_5 a1_6 a1_7 = some r) :
    Calls Tryz.prog 76 #[.agg #[.int .u8 a0_0, .int .u32 a0_1, .int .u8 a0_2, .slice A0_3 l0_3.length c0_3, .int .u8 a0_4, .int .u8 a0_5, .int .u8 a0_6, .int .i64 a0_7], .agg #[.int .u8 a1_0, .int .u32 a1_1, .int .u8 a1_2, .slice A1_3 l1_3.length c1_3, .int .u8 a1_4, .int .u8 a1_5, .int .u8 a1_6, .int .i64 a1_7]] w fun e w' => e = .returned (.bool r) ∧ Below w.heap.size w w' := by
  have hu51 := Tryz.underlying51
  have HR0_3 := Aside0.mk hr0_3
  have HC0_3 := Aside0.mk hc0_3
  clear hr0_3 hc0_3
  have HR1_3 := Aside0.mk hr1_3
  have HC1_3 := Aside0.mk hc1_3
  clear hr1_3 hc1_3
  have HB := Aside0.mk (Below.refl w.heap.size w)
  have H : (if a0_0 = a1_0 then (if a0_1 = a1_1 then (if a0_2 = a1_2 then ((pledgeref12_SameLines.f k l0_3 l1_3).bind fun t327 => (if t327 = true then (if a0_4 = a1_4 then (if a0_5 = a1_5 then (if a0_6 = a1_6 then (some (a0_7 == a1_7)) else (some false)) else (some false)) else (some false)) else (some false))) else (some false)) else (some false)) else (some false)) = some r := h
  clear h
  by_cases c3 : a0_0 = a1_0
  focus
    rw [if_pos c3] at H
    obtain ⟨c3b0, c3b1⟩ := zeq c3
    clear c3
    by_cases c4 : a0_1 = a1_1
    focus
      rw [if_pos c4] at H
      obtain ⟨c4b0, c4b1⟩ := zeq c4
      clear c4
      by_cases c5 : a0_2 = a1_2
      focus
        rw [if_pos c5] at H
        obtain ⟨c5b0, c5b1⟩ := zeq c5
        clear c5
        obtain ⟨t327, A6, H⟩ := zO H
        try dsimp only at H
        by_cases c7 : t327 = true
        focus
          subst c7
          have H1 : (if a0_4 = a1_4 then (if a0_5 = a1_5 then (if a0_6 = a1_6 then (some (a0_7 == a1_7)) else (some false)) else (some false)) else (some false)) = some r := by rw [if_pos rfl] at H; exact H
          clear H
          have H := H1
          clear H1
          by_cases c8 : a0_4 = a1_4
          focus
            rw [if_pos c8] at H
            obtain ⟨c8b0, c8b1⟩ := zeq c8
            clear c8
            by_cases c9 : a0_5 = a1_5
            focus
              rw [if_pos c9] at H
              obtain ⟨c9b0, c9b1⟩ := zeq c9
              clear c9
              by_cases c10 : a0_6 = a1_6
              focus
                rw [if_pos c10] at H
                obtain ⟨c10b0, c10b1⟩ := zeq c10
                clear c10
                obtain rfl := Option.some.inj H
              rotate_left
              rw [if_neg c10] at H
              obtain ⟨c10b0, c10b1⟩ := zne c10
              obtain rfl := Option.some.inj H
            rotate_left 2
            rw [if_neg c9] at H
            obtain ⟨c9b0, c9b1⟩ := zne c9
            obtain rfl := Option.some.inj H
          rotate_left 3
          rw [if_neg c8] at H
          obtain ⟨c8b0, c8b1⟩ := zne c8
          obtain rfl := Option.some.inj H
        rotate_left 4
        replace c7 := Bool.eq_false_iff.mpr c7
        subst c7
        have H1 : (some false) = some r := by rw [if_neg (show ¬ (false = true) by decide)] at H; exact H
        clear H
        have H := H1
        clear H1
        obtain rfl := Option.some.inj H
      rotate_left 5
      rw [if_neg c5] at H
      obtain ⟨c5b0, c5b1⟩ := zne c5
      obtain rfl := Option.some.inj H
    rotate_left 6
    rw [if_neg c4] at H
    obtain ⟨c4b0, c4b1⟩ := zne c4
    obtain rfl := Option.some.inj H
  rotate_left 7
  rw [if_neg c3] at H
  obtain ⟨c3b0, c3b1⟩ := zne c3
  obtain rfl := Option.some.inj H
  all_goals go_enter Tryz.func76, Tryz.ntmps76
  all_goals go_wp2_with (first | ((with_reducible refine gate_dst (N := 2) rfl ?_); refine zbox (N := 2) (cs := #[.int .u8 a0_0, .int .u32 a0_1, .int .u8 a0_2, .slice A0_3 l0_3.length c0_3, .int .u8 a0_4, .int .u8 a0_5, .int .u8 a0_6, .int .i64 a0_7]) (t := 51) (h := ?_); intro gbx1 hg wx1 hbox hb; have BKx1 := Aside0.mk (hbox); have GWx1 := zG (p := w.heap.size ≤ gbx1); have GEx1 := GWx1; replace HB := zH hb; clear hb hbox hg) | ((with_reducible refine gate_dst (N := 3) rfl ?_); refine zbox (N := 3) (cs := #[.int .u8 a1_0, .int .u32 a1_1, .int .u8 a1_2, .slice A1_3 l1_3.length c1_3, .int .u8 a1_4, .int .u8 a1_5, .int .u8 a1_6, .int .i64 a1_7]) (t := 51) (h := ?_); intro gbx2 hg wx2 hbox hb; have BKx2 := Aside0.mk (hbox); have GWx2 := zG (p := w.heap.size ≤ gbx2); have GEx2 := GWx2; have NBx1 := zNlt BKx1.out (p := gbx1 ≠ gbx2); have NBx2 := zNgt BKx1.out (p := gbx2 ≠ gbx1); replace BKx1 := zJ BKx1 hb; replace HB := zH hb; clear hb hbox hg; have hnbx1 := NBx1.out; have hncx1 := NBx2.out; have hczx1 := zcf8 BKx1.out; have hczx2 := zcf8 BKx2.out) | (go_at_call 98; (with_reducible refine (pledgeref12_SameLines.calls k _ _ l0_3 _ _ l1_3 false _ ?side1 ?side2 ?side3 ?side4 A6.out).mono ?_); (case side1 => exact zC (Kd.C_below HR0_3.out HB.out)); (case side2 => exact HC0_3.out); (case side3 => exact zC (Kd.C_below HR1_3.out HB.out)); (case side4 => exact HC1_3.out); rintro e w' ⟨rfl, ⟨nd, rfl⟩⟩) | (go_at_call 98; (with_reducible refine (pledgeref12_SameLines.calls k _ _ l0_3 _ _ l1_3 true _ ?side1 ?side2 ?side3 ?side4 A6.out).mono ?_); (case side1 => exact zC (Kd.C_below HR0_3.out HB.out)); (case side2 => exact HC0_3.out); (case side3 => exact zC (Kd.C_below HR1_3.out HB.out)); (case side4 => exact HC1_3.out); rintro e w' ⟨rfl, ⟨nd, rfl⟩⟩))
  all_goals (go_ret; exact ⟨zer, zB⟩)

/-! ### pledgeref34_Plain: function 46 (by hand) -/
set_option maxHeartbeats 4000000 in
set_option maxRecDepth 100000 in
theorem pledgeref34_Plain.k1 (o p s f t q : Int) (A0 : Option Addr) (c0 : Nat) (l : List S90) (w : World) (hr0 : Kd.C k90 w A0 l.length l) (hc0 : l.length ≤ c0) (hl : l.length ≤ 3) (b : Bool) (hb : pledgeref34_Same.f 5 1 o p l s f t q 1 o p l 0 0 0 0 = some b) :
    Calls Tryz.prog 46 #[.agg #[.int .u8 1, .int .u32 o, .int .u8 p, .slice A0 l.length c0, .int .u8 s, .int .u8 f, .int .u8 t, .int .i64 q]] w fun e w' => e = .returned (.bool b) ∧ Below w.heap.size w w' := by
  have HC := Aside0.mk hr0
  have HS := Aside0.mk hb
  have hl2 : (l.length : Int) ≤ 3 := by omega
  clear hr0 hb
  go_enter Tryz.func46, Tryz.ntmps46
  go_wp2_with (first | fail)
  refine (pledgeref34_Same.calls 5 1 o p A0 c0 l s f t q 1 o p A0 c0 l 0 0 0 0 b _ ?h1 hc0 ?h2 ?h3 HS.out).mono ?_
  (case h1 => exact Kd.C_alloc (Kd.C_alloc HC.out _) _)
  (case h2 => exact Kd.C_alloc (Kd.C_alloc HC.out _) _)
  (case h3 => exact hc0)
  rintro e w1 ⟨rfl, hb⟩
  go_wp2_with (first | fail)
  go_ret
  exact ⟨rfl, below_step (below_alloc (below_alloc (Below.refl _ _) _) _) hb⟩
set_option maxHeartbeats 4000000 in
set_option maxRecDepth 100000 in
theorem pledgeref34_Plain.k1n (o p s f t q : Int) (A0 : Option Addr) (c0 : Nat) (l : List S90) (w : World) (hr0 : Kd.C k90 w A0 l.length l) (hc0 : l.length ≤ c0) (hl : ¬ l.length ≤ 3) :
    Calls Tryz.prog 46 #[.agg #[.int .u8 1, .int .u32 o, .int .u8 p, .slice A0 l.length c0, .int .u8 s, .int .u8 f, .int .u8 t, .int .i64 q]] w fun e w' => e = .returned (.bool false) ∧ Below w.heap.size w w' := by
  have hl2 : ¬ ((l.length : Int) ≤ 3) := by omega
  clear hr0
  go_enter Tryz.func46, Tryz.ntmps46
  go_wp2_with (first | fail)
  go_ret
  exact ⟨rfl, below_alloc (below_alloc (Below.refl _ _) _) _⟩
set_option maxHeartbeats 4000000 in
set_option maxRecDepth 100000 in
theorem pledgeref34_Plain.k2 (o p s f t q : Int) (A0 : Option Addr) (c0 : Nat) (l : List S90) (w : World) (hr0 : Kd.C k90 w A0 l.length l) (hc0 : l.length ≤ c0) (hl : l.length ≤ 3) (b : Bool) (hb : pledgeref34_Same.f 5 2 o p l s f t q 2 o 0 [] 0 0 0 0 = some b) :
    Calls Tryz.prog 46 #[.agg #[.int .u8 2, .int .u32 o, .int .u8 p, .slice A0 l.length c0, .int .u8 s, .int .u8 f, .int .u8 t, .int .i64 q]] w fun e w' => e = .returned (.bool b) ∧ Below w.heap.size w w' := by
  have HC := Aside0.mk hr0
  have HS := Aside0.mk hb
  have hl2 : (l.length : Int) ≤ 3 := by omega
  clear hr0 hb
  go_enter Tryz.func46, Tryz.ntmps46
  go_wp2_with (first | fail)
  refine (pledgeref34_Same.calls 5 2 o p A0 c0 l s f t q 2 o 0 none 0 [] 0 0 0 0 b _ ?h1 hc0 ?h2 ?h3 HS.out).mono ?_
  (case h1 => exact Kd.C_alloc (Kd.C_alloc HC.out _) _)
  (case h2 => exact Kd.C_nil _ _)
  (case h3 => exact Nat.le_refl _)
  rintro e w1 ⟨rfl, hb⟩
  go_wp2_with (first | fail)
  go_ret
  exact ⟨rfl, below_step (below_alloc (below_alloc (Below.refl _ _) _) _) hb⟩
set_option maxHeartbeats 4000000 in
set_option maxRecDepth 100000 in
theorem pledgeref34_Plain.k2n (o p s f t q : Int) (A0 : Option Addr) (c0 : Nat) (l : List S90) (w : World) (hr0 : Kd.C k90 w A0 l.length l) (hc0 : l.length ≤ c0) (hl : ¬ l.length ≤ 3) :
    Calls Tryz.prog 46 #[.agg #[.int .u8 2, .int .u32 o, .int .u8 p, .slice A0 l.length c0, .int .u8 s, .int .u8 f, .int .u8 t, .int .i64 q]] w fun e w' => e = .returned (.bool false) ∧ Below w.heap.size w w' := by
  have hl2 : ¬ ((l.length : Int) ≤ 3) := by omega
  clear hr0
  go_enter Tryz.func46, Tryz.ntmps46
  go_wp2_with (first | fail)
  go_ret
  exact ⟨rfl, below_alloc (below_alloc (Below.refl _ _) _) _⟩
set_option maxHeartbeats 4000000 in
set_option maxRecDepth 100000 in
theorem pledgeref34_Plain.k3 (o p s f t q : Int) (A0 : Option Addr) (c0 : Nat) (l : List S90) (w : World) (hr0 : Kd.C k90 w A0 l.length l) (hc0 : l.length ≤ c0) (hl : l.length ≤ 3) (b : Bool) (hb : pledgeref34_Same.f 5 3 o p l s f t q 3 o 0 [] 0 0 0 0 = some b) :
    Calls Tryz.prog 46 #[.agg #[.int .u8 3, .int .u32 o, .int .u8 p, .slice A0 l.length c0, .int .u8 s, .int .u8 f, .int .u8 t, .int .i64 q]] w fun e w' => e = .returned (.bool b) ∧ Below w.heap.size w w' := by
  have HC := Aside0.mk hr0
  have HS := Aside0.mk hb
  have hl2 : (l.length : Int) ≤ 3 := by omega
  clear hr0 hb
  go_enter Tryz.func46, Tryz.ntmps46
  go_wp2_with (first | fail)
  refine (pledgeref34_Same.calls 5 3 o p A0 c0 l s f t q 3 o 0 none 0 [] 0 0 0 0 b _ ?h1 hc0 ?h2 ?h3 HS.out).mono ?_
  (case h1 => exact Kd.C_alloc (Kd.C_alloc HC.out _) _)
  (case h2 => exact Kd.C_nil _ _)
  (case h3 => exact Nat.le_refl _)
  rintro e w1 ⟨rfl, hb⟩
  go_wp2_with (first | fail)
  go_ret
  exact ⟨rfl, below_step (below_alloc (below_alloc (Below.refl _ _) _) _) hb⟩
set_option maxHeartbeats 4000000 in
set_option maxRecDepth 100000 in
theorem pledgeref34_Plain.k3n (o p s f t q : Int) (A0 : Option Addr) (c0 : Nat) (l : List S90) (w : World) (hr0 : Kd.C k90 w A0 l.length l) (hc0 : l.length ≤ c0) (hl : ¬ l.length ≤ 3) :
    Calls Tryz.prog 46 #[.agg #[.int .u8 3, .int .u32 o, .int .u8 p, .slice A0 l.length c0, .int .u8 s, .int .u8 f, .int .u8 t, .int .i64 q]] w fun e w' => e = .returned (.bool false) ∧ Below w.heap.size w w' := by
  have hl2 : ¬ ((l.length : Int) ≤ 3) := by omega
  clear hr0
  go_enter Tryz.func46, Tryz.ntmps46
  go_wp2_with (first | fail)
  go_ret
  exact ⟨rfl, below_alloc (below_alloc (Below.refl _ _) _) _⟩
set_option maxHeartbeats 4000000 in
set_option maxRecDepth 100000 in
theorem pledgeref34_Plain.k4 (o p s f t q : Int) (A0 : Option Addr) (c0 : Nat) (l : List S90) (w : World) (hr0 : Kd.C k90 w A0 l.length l) (hc0 : l.length ≤ c0) (hl : l.length ≤ 3) (b : Bool) (hb : pledgeref34_Same.f 5 4 o p l s f t q 4 o 0 [] 0 0 0 0 = some b) :
    Calls Tryz.prog 46 #[.agg #[.int .u8 4, .int .u32 o, .int .u8 p, .slice A0 l.length c0, .int .u8 s, .int .u8 f, .int .u8 t, .int .i64 q]] w fun e w' => e = .returned (.bool b) ∧ Below w.heap.size w w' := by
  have HC := Aside0.mk hr0
  have HS := Aside0.mk hb
  have hl2 : (l.length : Int) ≤ 3 := by omega
  clear hr0 hb
  go_enter Tryz.func46, Tryz.ntmps46
  go_wp2_with (first | fail)
  refine (pledgeref34_Same.calls 5 4 o p A0 c0 l s f t q 4 o 0 none 0 [] 0 0 0 0 b _ ?h1 hc0 ?h2 ?h3 HS.out).mono ?_
  (case h1 => exact Kd.C_alloc (Kd.C_alloc HC.out _) _)
  (case h2 => exact Kd.C_nil _ _)
  (case h3 => exact Nat.le_refl _)
  rintro e w1 ⟨rfl, hb⟩
  go_wp2_with (first | fail)
  go_ret
  exact ⟨rfl, below_step (below_alloc (below_alloc (Below.refl _ _) _) _) hb⟩
set_option maxHeartbeats 4000000 in
set_option maxRecDepth 100000 in
theorem pledgeref34_Plain.k4n (o p s f t q : Int) (A0 : Option Addr) (c0 : Nat) (l : List S90) (w : World) (hr0 : Kd.C k90 w A0 l.length l) (hc0 : l.length ≤ c0) (hl : ¬ l.length ≤ 3) :
    Calls Tryz.prog 46 #[.agg #[.int .u8 4, .int .u32 o, .int .u8 p, .slice A0 l.length c0, .int .u8 s, .int .u8 f, .int .u8 t, .int .i64 q]] w fun e w' => e = .returned (.bool false) ∧ Below w.heap.size w w' := by
  have hl2 : ¬ ((l.length : Int) ≤ 3) := by omega
  clear hr0
  go_enter Tryz.func46, Tryz.ntmps46
  go_wp2_with (first | fail)
  go_ret
  exact ⟨rfl, below_alloc (below_alloc (Below.refl _ _) _) _⟩
set_option maxHeartbeats 4000000 in
set_option maxRecDepth 100000 in
theorem pledgeref34_Plain.k5 (o p s f t q : Int) (A0 : Option Addr) (c0 : Nat) (l : List S90) (w : World) (hr0 : Kd.C k90 w A0 l.length l) (hc0 : l.length ≤ c0) (hl : l.length ≤ 3) (b : Bool) (hb : pledgeref34_Same.f 5 5 o p l s f t q 5 0 0 [] s 0 t q = some b) :
    Calls Tryz.prog 46 #[.agg #[.int .u8 5, .int .u32 o, .int .u8 p, .slice A0 l.length c0, .int .u8 s, .int .u8 f, .int .u8 t, .int .i64 q]] w fun e w' => e = .returned (.bool b) ∧ Below w.heap.size w w' := by
  have HC := Aside0.mk hr0
  have HS := Aside0.mk hb
  have hl2 : (l.length : Int) ≤ 3 := by omega
  clear hr0 hb
  go_enter Tryz.func46, Tryz.ntmps46
  go_wp2_with (first | fail)
  refine (pledgeref34_Same.calls 5 5 o p A0 c0 l s f t q 5 0 0 none 0 [] s 0 t q b _ ?h1 hc0 ?h2 ?h3 HS.out).mono ?_
  (case h1 => exact Kd.C_alloc (Kd.C_alloc HC.out _) _)
  (case h2 => exact Kd.C_nil _ _)
  (case h3 => exact Nat.le_refl _)
  rintro e w1 ⟨rfl, hb⟩
  go_wp2_with (first | fail)
  go_ret
  exact ⟨rfl, below_step (below_alloc (below_alloc (Below.refl _ _) _) _) hb⟩
set_option maxHeartbeats 4000000 in
set_option maxRecDepth 100000 in
theorem pledgeref34_Plain.k5n (o p s f t q : Int) (A0 : Option Addr) (c0 : Nat) (l : List S90) (w : World) (hr0 : Kd.C k90 w A0 l.length l) (hc0 : l.length ≤ c0) (hl : ¬ l.length ≤ 3) :
    Calls Tryz.prog 46 #[.agg #[.int .u8 5, .int .u32 o, .int .u8 p, .slice A0 l.length c0, .int .u8 s, .int .u8 f, .int .u8 t, .int .i64 q]] w fun e w' => e = .returned (.bool false) ∧ Below w.heap.size w w' := by
  have hl2 : ¬ ((l.length : Int) ≤ 3) := by omega
  clear hr0
  go_enter Tryz.func46, Tryz.ntmps46
  go_wp2_with (first | fail)
  go_ret
  exact ⟨rfl, below_alloc (below_alloc (Below.refl _ _) _) _⟩
set_option maxHeartbeats 4000000 in
set_option maxRecDepth 100000 in
theorem pledgeref34_Plain.k6 (o p s f t q : Int) (A0 : Option Addr) (c0 : Nat) (l : List S90) (w : World) (hr0 : Kd.C k90 w A0 l.length l) (hc0 : l.length ≤ c0) (hl : l.length ≤ 3) (b : Bool) (hb : pledgeref34_Same.f 5 6 o p l s f t q 6 0 0 [] s f t q = some b) :
    Calls Tryz.prog 46 #[.agg #[.int .u8 6, .int .u32 o, .int .u8 p, .slice A0 l.length c0, .int .u8 s, .int .u8 f, .int .u8 t, .int .i64 q]] w fun e w' => e = .returned (.bool b) ∧ Below w.heap.size w w' := by
  have HC := Aside0.mk hr0
  have HS := Aside0.mk hb
  have hl2 : (l.length : Int) ≤ 3 := by omega
  clear hr0 hb
  go_enter Tryz.func46, Tryz.ntmps46
  go_wp2_with (first | fail)
  refine (pledgeref34_Same.calls 5 6 o p A0 c0 l s f t q 6 0 0 none 0 [] s f t q b _ ?h1 hc0 ?h2 ?h3 HS.out).mono ?_
  (case h1 => exact Kd.C_alloc (Kd.C_alloc HC.out _) _)
  (case h2 => exact Kd.C_nil _ _)
  (case h3 => exact Nat.le_refl _)
  rintro e w1 ⟨rfl, hb⟩
  go_wp2_with (first | fail)
  go_ret
  exact ⟨rfl, below_step (below_alloc (below_alloc (Below.refl _ _) _) _) hb⟩
set_option maxHeartbeats 4000000 in
set_option maxRecDepth 100000 in
theorem pledgeref34_Plain.k6n (o p s f t q : Int) (A0 : Option Addr) (c0 : Nat) (l : List S90) (w : World) (hr0 : Kd.C k90 w A0 l.length l) (hc0 : l.length ≤ c0) (hl : ¬ l.length ≤ 3) :
    Calls Tryz.prog 46 #[.agg #[.int .u8 6, .int .u32 o, .int .u8 p, .slice A0 l.length c0, .int .u8 s, .int .u8 f, .int .u8 t, .int .i64 q]] w fun e w' => e = .returned (.bool false) ∧ Below w.heap.size w w' := by
  have hl2 : ¬ ((l.length : Int) ≤ 3) := by omega
  clear hr0
  go_enter Tryz.func46, Tryz.ntmps46
  go_wp2_with (first | fail)
  go_ret
  exact ⟨rfl, below_alloc (below_alloc (Below.refl _ _) _) _⟩
set_option maxHeartbeats 4000000 in
set_option maxRecDepth 100000 in
theorem pledgeref34_Plain.k7 (o p s f t q : Int) (A0 : Option Addr) (c0 : Nat) (l : List S90) (w : World) (hr0 : Kd.C k90 w A0 l.length l) (hc0 : l.length ≤ c0) (hl : l.length ≤ 3) (b : Bool) (hb : pledgeref34_Same.f 5 7 o p l s f t q 7 0 0 [] s 0 0 0 = some b) :
    Calls Tryz.prog 46 #[.agg #[.int .u8 7, .int .u32 o, .int .u8 p, .slice A0 l.length c0, .int .u8 s, .int .u8 f, .int .u8 t, .int .i64 q]] w fun e w' => e = .returned (.bool b) ∧ Below w.heap.size w w' := by
  have HC := Aside0.mk hr0
  have HS := Aside0.mk hb
  have hl2 : (l.length : Int) ≤ 3 := by omega
  clear hr0 hb
  go_enter Tryz.func46, Tryz.ntmps46
  go_wp2_with (first | fail)
  refine (pledgeref34_Same.calls 5 7 o p A0 c0 l s f t q 7 0 0 none 0 [] s 0 0 0 b _ ?h1 hc0 ?h2 ?h3 HS.out).mono ?_
  (case h1 => exact Kd.C_alloc (Kd.C_alloc HC.out _) _)
  (case h2 => exact Kd.C_nil _ _)
  (case h3 => exact Nat.le_refl _)
  rintro e w1 ⟨rfl, hb⟩
  go_wp2_with (first | fail)
  go_ret
  exact ⟨rfl, below_step (below_alloc (below_alloc (Below.refl _ _) _) _) hb⟩
set_option maxHeartbeats 4000000 in
set_option maxRecDepth 100000 in
theorem pledgeref34_Plain.k7n (o p s f t q : Int) (A0 : Option Addr) (c0 : Nat) (l : List S90) (w : World) (hr0 : Kd.C k90 w A0 l.length l) (hc0 : l.length ≤ c0) (hl : ¬ l.length ≤ 3) :
    Calls Tryz.prog 46 #[.agg #[.int .u8 7, .int .u32 o, .int .u8 p, .slice A0 l.length c0, .int .u8 s, .int .u8 f, .int .u8 t, .int .i64 q]] w fun e w' => e = .returned (.bool false) ∧ Below w.heap.size w w' := by
  have hl2 : ¬ ((l.length : Int) ≤ 3) := by omega
  clear hr0
  go_enter Tryz.func46, Tryz.ntmps46
  go_wp2_with (first | fail)
  go_ret
  exact ⟨rfl, below_alloc (below_alloc (Below.refl _ _) _) _⟩
set_option maxHeartbeats 4000000 in
set_option maxRecDepth 100000 in
theorem pledgeref34_Plain.kbad (k o p s f t q : Int) (A0 : Option Addr) (c0 : Nat) (l : List S90) (w : World) (hk : k < 1 ∨ 7 < k) :
    Calls Tryz.prog 46 #[.agg #[.int .u8 k, .int .u32 o, .int .u8 p, .slice A0 l.length c0, .int .u8 s, .int .u8 f, .int .u8 t, .int .i64 q]] w fun e w' => e = .returned (.bool false) ∧ Below w.heap.size w w' := by
  have e1 : (k == 1) = false := beq_eq_false_iff_ne.2 qW20x2
  have e2 : (k == 2) = false := beq_eq_false_iff_ne.2 qW20x2
  have e3 : (k == 3) = false := beq_eq_false_iff_ne.2 qW20x2
  have e4 : (k == 4) = false := beq_eq_false_iff_ne.2 qW20x2
  have e5 : (k == 5) = false := beq_eq_false_iff_ne.2 qW20x2
  have e6 : (k == 6) = false := beq_eq_false_iff_ne.2 qW20x2
  have e7 : (k == 7) = false := beq_eq_false_iff_ne.2 qW20x2
  clear hk
  go_enter Tryz.func46, Tryz.ntmps46
  go_wp2_with (first | fail)
  go_ret
  exact ⟨rfl, below_alloc (below_alloc (Below.refl _ _) _) _⟩
def pledgeref34_Plain.f (k o p : Int) (l : List (S90)) (s f t q : Int) : Option (Bool) :=
  if k < 1 ∨ 7 < k then some false else if ¬ l.length ≤ 3 then some false else if k = 1 then pledgeref34_Same.f 5 1 o p l s f t q 1 o p l 0 0 0 0 else if k = 2 then pledgeref34_Same.f 5 2 o p l s f t q 2 o 0 [] 0 0 0 0 else if k = 3 then pledgeref34_Same.f 5 3 o p l s f t q 3 o 0 [] 0 0 0 0 else if k = 4 then pledgeref34_Same.f 5 4 o p l s f t q 4 o 0 [] 0 0 0 0 else if k = 5 then pledgeref34_Same.f 5 5 o p l s f t q 5 0 0 [] s 0 t q else if k = 6 then pledgeref34_Same.f 5 6 o p l s f t q 6 0 0 [] s f t q else pledgeref34_Same.f 5 7 o p l s f t q 7 0 0 [] s 0 0 0
theorem pledgeref34_Plain.calls (a0_0 : Int) (a0_1 : Int) (a0_2 : Int) (A0_3 : Option Addr) (c0_3 : Nat) (l0_3 : List (S90)) (a0_4 : Int) (a0_5 : Int) (a0_6 : Int) (a0_7 : Int) (r : Bool) (w : World) (hr0_3 : Kd.C k90 w A0_3 l0_3.length l0_3) (hc0_3 : l0_3.length ≤ c0_3) (h : pledgeref34_Plain.f a0_0 a0_1 a0_2 l0_3 a0_4 a0_5 a0_6 a0_7 = some r) :
    Calls Tryz.prog 46 #[.agg #[.int .u8 a0_0, .int .u32 a0_1, .int .u8 a0_2, .slice A0_3 l0_3.length c0_3, .int .u8 a0_4, .int .u8 a0_5, .int .u8 a0_6, .int .i64 a0_7]] w fun e w' => e = .returned (.bool r) ∧ Below w.heap.size w w' := by
  unfold pledgeref34_Plain.f at h
  by_cases hk : a0_0 < 1 ∨ 7 < a0_0
  · rw [if_pos hk] at h
    obtain rfl := Option.some.inj h
    exact pledgeref34_Plain.kbad a0_0 a0_1 a0_2 a0_4 a0_5 a0_6 a0_7 A0_3 c0_3 l0_3 w hk
  rw [if_neg hk] at h
  by_cases hl : l0_3.length ≤ 3
  rotate_left
  · rw [if_pos hl] at h
    obtain rfl := Option.some.inj h
    obtain rfl | rfl | rfl | rfl | rfl | rfl | rfl : a0_0 = 1 ∨ a0_0 = 2 ∨ a0_0 = 3 ∨ a0_0 = 4 ∨ a0_0 = 5 ∨ a0_0 = 6 ∨ a0_0 = 7 := by omega
    · exact pledgeref34_Plain.k1n a0_1 a0_2 a0_4 a0_5 a0_6 a0_7 A0_3 c0_3 l0_3 w hr0_3 hc0_3 hl
    · exact pledgeref34_Plain.k2n a0_1 a0_2 a0_4 a0_5 a0_6 a0_7 A0_3 c0_3 l0_3 w hr0_3 hc0_3 hl
    · exact pledgeref34_Plain.k3n a0_1 a0_2 a0_4 a0_5 a0_6 a0_7 A0_3 c0_3 l0_3 w hr0_3 hc0_3 hl
    · exact pledgeref34_Plain.k4n a0_1 a0_2 a0_4 a0_5 a0_6 a0_7 A0_3 c0_3 l0_3 w hr0_3 hc0_3 hl
    · exact pledgeref34_Plain.k5n a0_1 a0_2 a0_4 a0_5 a0_6 a0_7 A0_3 c0_3 l0_3 w hr0_3 hc0_3 hl
    · exact pledgeref34_Plain.k6n a0_1 a0_2 a0_4 a0_5 a0_6 a0_7 A0_3 c0_3 l0_3 w hr0_3 hc0_3 hl
    · exact pledgeref34_Plain.k7n a0_1 a0_2 a0_4 a0_5 a0_6 a0_7 A0_3 c0_3 l0_3 w hr0_3 hc0_3 hl
  rw [if_neg (fun h => h hl)] at h
  by_cases h1 : a0_0 = 1
  · subst h1
    rw [if_pos rfl] at h
    exact pledgeref34_Plain.k1 a0_1 a0_2 a0_4 a0_5 a0_6 a0_7 A0_3 c0_3 l0_3 w hr0_3 hc0_3 hl r h
  skip
  by_cases h2 : a0_0 = 2
  · subst h2
    rw [if_neg qW20x2, if_pos rfl] at h
    exact pledgeref34_Plain.k2 a0_1 a0_2 a0_4 a0_5 a0_6 a0_7 A0_3 c0_3 l0_3 w hr0_3 hc0_3 hl r h
  skip
  by_cases h3 : a0_0 = 3
  · subst h3
    rw [if_neg qW20x2, if_neg qW20x2, if_pos rfl] at h
    exact pledgeref34_Plain.k3 a0_1 a0_2 a0_4 a0_5 a0_6 a0_7 A0_3 c0_3 l0_3 w hr0_3 hc0_3 hl r h
  skip
  by_cases h4 : a0_0 = 4
  · subst h4
    rw [if_neg qW20x2, if_neg qW20x2, if_neg qW20x2, if_pos rfl] at h
    exact pledgeref34_Plain.k4 a0_1 a0_2 a0_4 a0_5 a0_6 a0_7 A0_3 c0_3 l0_3 w hr0_3 hc0_3 hl r h
  skip
  by_cases h5 : a0_0 = 5
  · subst h5
    rw [if_neg qW20x2, if_neg qW20x2, if_neg qW20x2, if_neg qW20x2, if_pos rfl] at h
    exact pledgeref34_Plain.k5 a0_1 a0_2 a0_4 a0_5 a0_6 a0_7 A0_3 c0_3 l0_3 w hr0_3 hc0_3 hl r h
  skip
  by_cases h6 : a0_0 = 6
  · subst h6
    rw [if_neg qW20x2, if_neg qW20x2, if_neg qW20x2, if_neg qW20x2, if_neg qW20x2, if_pos rfl] at h
    exact pledgeref34_Plain.k6 a0_1 a0_2 a0_4 a0_5 a0_6 a0_7 A0_3 c0_3 l0_3 w hr0_3 hc0_3 hl r h
  skip
  obtain rfl : a0_0 = 7 := by omega
  rw [if_neg qW20x2, if_neg qW20x2, if_neg qW20x2, if_neg qW20x2, if_neg qW20x2, if_neg qW20x2] at h
  exact pledgeref34_Plain.k7 a0_1 a0_2 a0_4 a0_5 a0_6 a0_7 A0_3 c0_3 l0_3 w hr0_3 hc0_3 hl r h

/-! ### pledgeref03_Num: function 77 -/
def pledgeref03_Num.l0 : Nat → Int → Int → List Int → Int → Option (List Int)
  | 0, _, _, _, _ => none
  | k + 1, x0, x1, x5, x6 => if x6 < x1 then (if x5.length < 140737488355328 then (pledgeref03_Num.l0 k (IntKind.u64.wrap (Int.tdiv x0 256)) x1 (x5 ++ [(Int.tmod x0 256) % 256]) (wrap64 (x6 + 1))) else (none)) else (some x5)
def pledgeref03_Num.f (k : Nat) (a0 : Int) (a1 : Int) : Option (List Int) := pledgeref03_Num.l0 k a0 a1 (([] : List Int)) 0
theorem pledgeref03_Num.mono_l : ∀ k, (∀ y0 y1 y2 y3, LeO (pledgeref03_Num.l0 k y0 y1 y2 y3) (pledgeref03_Num.l0 (k + 1) y0 y1 y2 y3))
  | 0 => fun _ _ _ _ r h => by simp [pledgeref03_Num.l0] at h
  | k + 1 => by
    have ih0 := pledgeref03_Num.mono_l k
    · intro y0 y1 y2 y3
      unfold pledgeref03_Num.l0
      repeat' first
      | (with_reducible exact ih0 _ _ _ _)
      | (with_reducible exact LeO.refl _)
      | (with_reducible exact LeO.none _)
      | (with_reducible refine LeO.ite ?_ ?_)
      | (with_reducible refine LeO.bind ?_ (fun _ => ?_))
      | exact ih0 _ _ _ _
      | exact LeO.none _
      | refine LeO.ite ?_ ?_
      | refine LeO.bind ?_ (fun _ => ?_)
theorem pledgeref03_Num.mono : ∀ a0 a1 k, LeO (pledgeref03_Num.f k a0 a1) (pledgeref03_Num.f (k + 1) a0 a1) := by
  intro a0 a1 k
  have ih0 := pledgeref03_Num.mono_l k
  unfold pledgeref03_Num.f
  repeat' first
      | (with_reducible exact ih0 _ _ _ _)
      | (with_reducible exact LeO.refl _)
      | (with_reducible exact LeO.none _)
      | (with_reducible refine LeO.ite ?_ ?_)
      | (with_reducible refine LeO.bind ?_ (fun _ => ?_))
      | exact ih0 _ _ _ _
      | exact LeO.none _
      | refine LeO.ite ?_ ?_
      | refine LeO.bind ?_ (fun _ => ?_)
set_option maxHeartbeats 8000000 in
set_option maxRecDepth 100000 in
theorem pledgeref03_Num.calls (k : Nat) (a0 : Int) (a1 : Int) (r : List Int) (w : World) (h : pledgeref03_Num.f k a0 a1 = some r) :
    Calls Tryz.prog 77 #[.int .u64 a0, .int .i64 a1] w fun e w' => ∃ v0_ : Value, e = .returned (v0_) ∧ Kd.R (Kd.int .u8) 5 w' w.heap.size (fun _ => True) v0_ r ∧ Below w.heap.size w w' := by
  have HB := Aside0.mk (Below.refl w.heap.size w)
  have H : (pledgeref03_Num.l0 k a0 a1 (([] : List Int)) 0) = some r := h
  clear h
  obtain ⟨y328, hy328⟩ : ∃ y_ : List Int, y_ = (([] : List Int)) := ⟨_, rfl⟩
  replace H : (pledgeref03_Num.l0 k a0 a1 y328 0) = some r := by first | (rw [hy328]; with_reducible exact H) | (have H2_ := (Option.bind_some _ _).symm.trans H; rw [hy328]; with_reducible exact H2_) | (have H2_ := (Option.bind_some _ _).symm.trans H; with_reducible exact H2_) | with_reducible exact H | (rw [hy328]; exact H) | exact H
  have Ny328 := Aside0.mk hy328
  clear hy328
  have H' := Aside0.mk H
  clear H
  go_enter Tryz.func77, Tryz.ntmps77
  go_wp2_with (first | ((with_reducible refine gate_dst (N := 7) rfl ?_); refine Kd.R_lit (Kd.int .u8) _ 5 ?hg (N := 7) ?hd (xs := ([] : List Int)) (inner := []) (ok := fun _ => True) (okp := fun _ => True) ?hr ?hp (fun _ hk => hk) trivial (Below.refl _ _) (Nat.le_refl _) (by simp) ?_; (case hd => rfl); (case hg => rfl); (case hr => first | (go_simp; done) | (go_simp; rfl)); (case hp => exact (Reps.none _ _)); intro v329 w3 ho4 hb hg_ hnew_; clear hg_ hnew_; (first | rw [← Ny328.out] at ho4 | (simp only [Int.reduceToNat] at ho4; rw [← Ny328.out] at ho4)); have HO330 := Aside0.mk (Kd.R_lower ho4 (below_size zB)); replace HB := zH hb; clear hb ho4))
  go_loopg [0, 5, 6] k (fun kq v0 v5 v6 w' => ∃ (x0_1 : Int) (x5_1 : List Int) (x6_1 : Int), v0 = .int .u64 x0_1 ∧ v6 = .int .i64 x6_1 ∧ Aside0 (pledgeref03_Num.l0 kq x0_1 a1 x5_1 x6_1 = some r) ∧ Aside0 (kq ≤ k) ∧ Aside0 (Kd.R (Kd.int .u8) 5 w' w.heap.size (fun _ => True) v5 x5_1) ∧ Aside0 (Below w.heap.size w w'))
  case atStart => exact ⟨(a0), (y328), (0), qW20x1, qW20x1, H', ⟨Nat.le_refl _⟩, ⟨by (with_reducible repeat (first | apply Kd.R_alloc | apply Kd.R_drewN | apply Kd.R_drew)); exact HO330.out⟩, ⟨zB⟩⟩
  case round =>
    clear H'
    try clear p2
    obtain ⟨x0_1, x5_1, x6_1, rfl, rfl, HA, HK1, HO_5, HB⟩ := hrel
    cases gk with
    | zero => exact absurd HA.out (by simp [pledgeref03_Num.l0])
    | succ k1 =>
      have H := HA.out
      clear HA
      simp only [pledgeref03_Num.l0] at H
      by_cases c5 : x6_1 < a1
      rotate_left
      · rw [if_neg c5] at H
        have c5b0 : decide (x6_1 < a1) = false := decide_eq_false c5
        clear c5
        obtain rfl := Option.some.inj H
        go_wp2
        go_ret
        exact ⟨_, zer, by (with_reducible repeat (first | apply Kd.R_alloc | apply Kd.R_drewN | apply Kd.R_drew)); exact HO_5.out, zB⟩
      rw [if_pos c5] at H
      have c5b0 := decide_eq_true c5
      clear c5
      by_cases c6 : x5_1.length < 140737488355328
      rotate_left
      · rw [if_neg c6] at H
        exact absurd H (by simp)
      rw [if_pos c6] at H
      have LMc6 := Aside0.mk c6
      clear c6
      obtain ⟨y331, hy331⟩ : ∃ y_ : List Int, y_ = (x5_1 ++ [(Int.tmod x0_1 256) % 256]) := ⟨_, rfl⟩
      replace H : (pledgeref03_Num.l0 k1 (IntKind.u64.wrap (Int.tdiv x0_1 256)) a1 y331 (wrap64 (x6_1 + 1))) = some r := by first | (rw [hy331]; with_reducible exact H) | (have H2_ := (Option.bind_some _ _).symm.trans H; rw [hy331]; with_reducible exact H2_) | (have H2_ := (Option.bind_some _ _).symm.trans H; with_reducible exact H2_) | with_reducible exact H | (rw [hy331]; exact H) | exact H
      have Ny331 := Aside0.mk hy331
      clear hy331
      have H' := Aside0.mk H
      clear H
      go_wp2_with (first | ((with_reducible refine gate_builtin (b := .append) (xs := #[.tmp 13, .tmp 17]) rfl ?_); at_builtin; refine Kd.R_append (Kd.int .u8) (w0 := w) w.heap.size rfl (.tmp 13) (.tmp 17) 23 5 (.int .u8 0) 1 rfl Tryz.underlying23 info5 rfl (by decide) qW20x2 u5 x5_1 ((Int.tmod x0_1 256) % 256) [.int .u8 ((Int.tmod x0_1 256) % 256)] (fun _ => True) (fun _ => False) rfl rfl ?aP (fun _ hk => hk.elim) ?aF ?aO ?aB ?aS ?aL ?_; (case aP => exact rfl); (case aB => exact zB); (case aF => exact (fun _ _ => trivial)); (case aO => exact (zR HO_5.out)); (case aS => exact (below_size zB)); (case aL => have := LMc6.out; omega); intro v332 w7 ho hb hg hat; rw [← Ny331.out] at ho; replace HB := Aside0.mk (hb); have HO333 := Aside0.mk (ho); clear HO_5 ho hb hg hat))
      go_roundg k1
      case measure => have := HK1.out; omega
      case rel => exact ⟨(IntKind.u64.wrap (Int.tdiv x0_1 256)), (y331), (wrap64 (x6_1 + 1)), qW20x1, qW20x1, H', ⟨by have := HK1.out; omega⟩, ⟨by (with_reducible repeat (first | apply Kd.R_alloc | apply Kd.R_drewN | apply Kd.R_drew)); exact HO333.out⟩, ⟨zB⟩⟩

/-! ### pledgeref03_Int: function 79 -/
def pledgeref03_Int.f (k : Nat) (a0 : Int) : Option (List Int) := (pledgeref03_Num.f k (IntKind.u64.wrap (a0)) 8).bind fun t334 => (some t334)
theorem pledgeref03_Int.mono : ∀ a0 k, LeO (pledgeref03_Int.f k a0) (pledgeref03_Int.f (k + 1) a0) := by
  intro a0 k
  unfold pledgeref03_Int.f
  repeat' first
      | (with_reducible exact pledgeref03_Num.mono _ _ _)
      | (with_reducible exact LeO.refl _)
      | (with_reducible exact LeO.none _)
      | (with_reducible refine LeO.ite ?_ ?_)
      | (with_reducible refine LeO.bind ?_ (fun _ => ?_))
      | exact pledgeref03_Num.mono _ _ _
      | exact LeO.none _
      | refine LeO.ite ?_ ?_
      | refine LeO.bind ?_ (fun _ => ?_)
set_option maxHeartbeats 8000000 in
set_option maxRecDepth 100000 in
theorem pledgeref03_Int.calls (k : Nat) (a0 : Int) (r : List Int) (w : World) (h : pledgeref03_Int.f k a0 = some r) :
    Calls Tryz.prog 79 #[.int .i64 a0] w fun e w' => ∃ v0_ : Value, e = .returned (v0_) ∧ Kd.R (Kd.int .u8) 5 w' w.heap.size (fun _ => True) v0_ r ∧ Below w.heap.size w w' := by
  have HB := Aside0.mk (Below.refl w.heap.size w)
  have H : ((pledgeref03_Num.f k (IntKind.u64.wrap (a0)) 8).bind fun t334 => (some t334)) = some r := h
  clear h
  obtain ⟨t334, A2, H⟩ := zO H
  try dsimp only at H
  obtain rfl := Option.some.inj H
  go_enter Tryz.func79, Tryz.ntmps79
  go_wp2_with (first | ((with_reducible refine gate_callee (f := 77) rfl ?_); refine goesZ (some 5) Tryz.func77 (args := #[.int .u64 (IntKind.u64.wrap (a0)), .int .i64 8]) (h := ?_); (with_reducible refine (pledgeref03_Num.calls k (IntKind.u64.wrap (a0)) 8 t334 _ A2.out).mono ?_); rintro e w3 ⟨v335, rfl, ho0, hb⟩; refine ⟨_, rfl, ?_⟩; have HO336 := Aside0.mk (Kd.R_lower ho0 (below_size zB)); replace HB := zH hb; clear hb ho0))
  go_ret
  exact ⟨_, zer, by (with_reducible repeat (first | apply Kd.R_alloc | apply Kd.R_drewN | apply Kd.R_drew)); exact HO336.out, zB⟩

end Go.Proofs.YtpnehgajhpejjaaGreatDoor.W
