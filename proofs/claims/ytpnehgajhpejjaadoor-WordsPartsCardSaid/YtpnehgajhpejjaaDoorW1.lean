import Derived.Test.YtpnehgajhpejjaaDoorSq
import Derived.Test.YtpnehgajhpejjaaDoorW0
namespace Go.Proofs.YtpnehgajhpejjaaDoor.W
open Go.RowKit Go.Proofs.YtpnehgajhpejjaaDoorW.PrintWords Go.Proofs.YtpnehgajhpejjaaDoorW.PrintLast Go.Proofs.YtpnehgajhpejjaaDoorW.PrintMore
attribute [local go_sem] max2_int min2_int max_two min_two max_three min_three max_four min_four
set_option linter.unusedVariables false
set_option linter.unusedSimpArgs false
theorem qW1x1 {p : Prop} (h : p := by first | rfl | (simp; done) | (simp [*]; done)) : p := h
/-! ### strings_Split: function 29 (by hand) -/
def strings_Split.f (a0 : ByteArray) (a1 : ByteArray) : Option (List ByteArray) := if a0.size < 4294967281 ∧ 1 ≤ a1.size then some (Lib.splitB a1 0 (Lib.countB a0 a1) a0) else none
theorem strings_Split.calls (a0 : ByteArray) (a1 : ByteArray) (r : List ByteArray) (w : World) (hG0 : Gl w) (h : strings_Split.f a0 a1 = some r) :
    Calls Tryd.prog 29 #[.string a0, .string a1] w fun e w' => ∃ v0_ : Value, e = .returned (v0_) ∧ Kd.R Kd.string 9 w' w.heap.size (fun _ => True) v0_ r ∧ Below w.heap.size w w' := by
  unfold strings_Split.f at h
  split at h
  · rename_i hb
    obtain rfl := Option.some.inj h
    obtain ⟨m, hm⟩ := hG0.2.1
    have hle := Lib.countB_le a1 hb.2 a0.size a0 (Nat.le_refl _)
    have hlen := Lib.splitB_all a1 hb.2 0 _ a0 rfl
    refine (Tryd.strings_Split a0 a1 m w hb.1 hm hb.2).mono ?_
    rintro e w' ⟨rfl, rfl⟩
    refine ⟨_, rfl, ?_, (Below.refl _ _).alloc (Nat.le_refl _) _⟩
    rw [← hlen]
    exact own_strs w _ (by omega)
  · exact absurd h (by simp)
/-! ### script_named: function 73 -/
def script_named.f (a0 : Int) : Option (Bool) := if a0 = 2 then (some true) else (some (a0 == 3))
set_option maxHeartbeats 8000000 in
set_option maxRecDepth 100000 in
theorem script_named.calls (a0 : Int) (r : Bool) (w : World) (h : script_named.f a0 = some r) :
    Calls Tryd.prog 73 #[.int .u8 a0] w fun e w' => e = .returned (.bool r) ∧ Drawn0 w w' := by
  have H : (if a0 = 2 then (some true) else (some (a0 == 3))) = some r := h
  clear h
  by_cases c2 : a0 = 2
  focus
    rw [if_pos c2] at H
    obtain ⟨c2b0, c2b1⟩ := zeq c2
    clear c2
    obtain rfl := Option.some.inj H
  rotate_left
  rw [if_neg c2] at H
  obtain ⟨c2b0, c2b1⟩ := zne c2
  obtain rfl := Option.some.inj H
  all_goals go_enter Tryd.func73, Tryd.ntmps73
  all_goals go_wp2
  all_goals (go_ret; exact ⟨by first | rfl | (simp; done) | (simp [*]; done), by repeat (first | exact Drawn0.refl _ | apply Drawn0.step)⟩)
/-! ### script_Good: function 49 -/
def script_Good.j0 : Nat → Bool → Int → Int → Int → Int → List Int → Option (Bool)
  | 0, _, _, _, _, _, _ => none
  | k + 1, x38, x102000, x102001, x102002, x102003, x102004 => if x38 = true then (some false) else (if x102000 = 7 then (if x102002 ≥ 0 then (if x102002 ≤ 65535 then (if x102003 ≥ 0 then (some (decide (x102003 ≤ 65535))) else (some false)) else (some false)) else (some false)) else (if x102002 = 0 then (some (x102003 == 0)) else (some false)))
def script_Good.f (k : Nat) (a0_0 : Int) (a0_1 : Int) (a0_2 : Int) (a0_3 : Int) (l0_4 : List Int) : Option (Bool) := if a0_0 < 1 then (script_Good.j0 k true a0_0 a0_1 a0_2 a0_3 l0_4) else (if a0_0 > 8 then (script_Good.j0 k true a0_0 a0_1 a0_2 a0_3 l0_4) else (if a0_0 = 1 then (if (l0_4.length : Int) > 512 then (script_Good.j0 k true a0_0 a0_1 a0_2 a0_3 l0_4) else ((script_named.f a0_0).bind fun t102 => (if t102 = true then (script_Good.j0 k false a0_0 a0_1 a0_2 a0_3 l0_4) else (script_Good.j0 k (a0_1 != 0) a0_0 a0_1 a0_2 a0_3 l0_4)))) else (if (l0_4.length : Int) = 0 then (if (l0_4.length : Int) > 512 then (script_Good.j0 k true a0_0 a0_1 a0_2 a0_3 l0_4) else ((script_named.f a0_0).bind fun t103 => (if t103 = true then (script_Good.j0 k false a0_0 a0_1 a0_2 a0_3 l0_4) else (script_Good.j0 k (a0_1 != 0) a0_0 a0_1 a0_2 a0_3 l0_4)))) else (script_Good.j0 k true a0_0 a0_1 a0_2 a0_3 l0_4))))
theorem script_Good.mono_l : ∀ k, (∀ y0 y1 y2 y3 y4 y5, LeO (script_Good.j0 k y0 y1 y2 y3 y4 y5) (script_Good.j0 (k + 1) y0 y1 y2 y3 y4 y5))
  | 0 => fun _ _ _ _ _ _ r h => by simp [script_Good.j0] at h
  | k + 1 => by
    have ih0 := script_Good.mono_l k
    · intro y0 y1 y2 y3 y4 y5
      unfold script_Good.j0
      repeat' first
      | (with_reducible exact ih0 _ _ _ _ _ _)
      | (with_reducible exact LeO.refl _)
      | (with_reducible exact LeO.none _)
      | (with_reducible refine LeO.ite ?_ ?_)
      | (with_reducible refine LeO.bind ?_ (fun _ => ?_))
      | exact ih0 _ _ _ _ _ _
      | exact LeO.none _
      | refine LeO.ite ?_ ?_
      | refine LeO.bind ?_ (fun _ => ?_)
theorem script_Good.mono : ∀ a0 a1 a2 a3 a4 k, LeO (script_Good.f k a0 a1 a2 a3 a4) (script_Good.f (k + 1) a0 a1 a2 a3 a4) := by
  intro a0 a1 a2 a3 a4 k
  have ih0 := script_Good.mono_l k
  unfold script_Good.f
  repeat' first
      | (with_reducible exact ih0 _ _ _ _ _ _)
      | (with_reducible exact LeO.refl _)
      | (with_reducible exact LeO.none _)
      | (with_reducible refine LeO.ite ?_ ?_)
      | (with_reducible refine LeO.bind ?_ (fun _ => ?_))
      | exact ih0 _ _ _ _ _ _
      | exact LeO.none _
      | refine LeO.ite ?_ ?_
      | refine LeO.bind ?_ (fun _ => ?_)
set_option maxHeartbeats 8000000 in
set_option maxRecDepth 100000 in
theorem script_Good.calls (k : Nat) (a0_0 : Int) (a0_1 : Int) (a0_2 : Int) (a0_3 : Int) (A0_4 : Option Addr) (c0_4 : Nat) (l0_4 : List Int) (r : Bool) (w : World) (hr0_4 : Kd.C (Kd.int .u8) w A0_4 l0_4.length l0_4) (hc0_4 : l0_4.length ≤ c0_4) (h : script_Good.f k a0_0 a0_1 a0_2 a0_3 l0_4 = some r) :
    Calls Tryd.prog 49 #[.agg #[.int .u8 a0_0, .int .u32 a0_1, .int .i64 a0_2, .int .i64 a0_3, .slice A0_4 l0_4.length c0_4]] w fun e w' => e = .returned (.bool r) ∧ Below w.heap.size w w' := by
  have hu64 := Tryd.underlying64
  have HR0_4 := Aside0.mk hr0_4
  have HC0_4 := Aside0.mk hc0_4
  clear hr0_4 hc0_4
  have HB := Aside0.mk (Below.refl w.heap.size w)
  have H : (if a0_0 < 1 then (script_Good.j0 k true a0_0 a0_1 a0_2 a0_3 l0_4) else (if a0_0 > 8 then (script_Good.j0 k true a0_0 a0_1 a0_2 a0_3 l0_4) else (if a0_0 = 1 then (if (l0_4.length : Int) > 512 then (script_Good.j0 k true a0_0 a0_1 a0_2 a0_3 l0_4) else ((script_named.f a0_0).bind fun t102 => (if t102 = true then (script_Good.j0 k false a0_0 a0_1 a0_2 a0_3 l0_4) else (script_Good.j0 k (a0_1 != 0) a0_0 a0_1 a0_2 a0_3 l0_4)))) else (if (l0_4.length : Int) = 0 then (if (l0_4.length : Int) > 512 then (script_Good.j0 k true a0_0 a0_1 a0_2 a0_3 l0_4) else ((script_named.f a0_0).bind fun t103 => (if t103 = true then (script_Good.j0 k false a0_0 a0_1 a0_2 a0_3 l0_4) else (script_Good.j0 k (a0_1 != 0) a0_0 a0_1 a0_2 a0_3 l0_4)))) else (script_Good.j0 k true a0_0 a0_1 a0_2 a0_3 l0_4))))) = some r := h
  clear h
  have HC2 := Aside0.mk H
  clear H
  go_enter Tryd.func49, Tryd.ntmps49
  go_upto_region 1 with (first | ((with_reducible refine gate_dst (N := 1) rfl ?_); (try (refine gate_guard (by rfl) ?_; dsimp only)); refine zbox (N := 1) (cs := #[.int .u8 a0_0, .int .u32 a0_1, .int .i64 a0_2, .int .i64 a0_3, .slice A0_4 l0_4.length c0_4]) (t := 64) (h := ?_); intro gb101 hg w3 hbox hb; have BK101 := Aside0.mk (hbox); have GW101 := zG (p := w.heap.size ≤ gb101); have GE101 := GW101; replace HB := zH hb; clear hb hbox hg))
  (try simp only [Act.put, List.setIfInBounds_toArray, List.set_cons_zero, List.set_cons_succ])
  go_cut [38] (fun v38 wc => ∃ (kq : Nat) (x38_1 : Bool), v38 = .bool x38_1 ∧ Aside0 (script_Good.j0 kq x38_1 a0_0 a0_1 a0_2 a0_3 l0_4 = some r) ∧ Aside0 (kq ≤ k) ∧ Aside0 (wc.heap[gb101]? = some (.cells #[.int .u8 a0_0, .int .u32 a0_1, .int .i64 a0_2, .int .i64 a0_3, (.slice A0_4 l0_4.length c0_4)] 64 (0, 0))) ∧ Aside0 (Below w.heap.size w wc))
  case first =>
    have H := HC2.out
    clear HC2
    by_cases c4 : a0_0 < 1
    · rw [if_pos c4] at H
      have c4b0 := decide_eq_true c4
      clear c4
      (first | rw [c4b0] | (simp only [i64_w, i32_w]; rw [c4b0]) | skip)
      have H' := Aside0.mk H
      clear H
      have hcz5_0 := zcf5 BK101.out
      go_wp2
      go_meet
      case rel => exact ⟨_, (true), qW1x1, H', ⟨by first | omega | exact Nat.le_refl _⟩, ⟨by (with_reducible repeat (first | refine blk_drewN ?_ _ | refine blk_drew ?_ | refine blk_alloc ?_ _)); exact BK101.out⟩, ⟨zB⟩⟩
    rw [if_neg c4] at H
    have c4b0 : decide (a0_0 < 1) = false := decide_eq_false c4
    clear c4
    (first | rw [c4b0] | (simp only [i64_w, i32_w]; rw [c4b0]) | skip)
    by_cases c6 : a0_0 > 8
    · rw [if_pos c6] at H
      have c6b0 := decide_eq_true c6
      clear c6
      have H' := Aside0.mk H
      clear H
      have hcz7_0 := zcf5 BK101.out
      go_wp2
      go_meet
      case rel => exact ⟨_, (true), qW1x1, H', ⟨by first | omega | exact Nat.le_refl _⟩, ⟨by (with_reducible repeat (first | refine blk_drewN ?_ _ | refine blk_drew ?_ | refine blk_alloc ?_ _)); exact BK101.out⟩, ⟨zB⟩⟩
    rw [if_neg c6] at H
    have c6b0 : decide (8 < a0_0) = false := decide_eq_false c6
    clear c6
    by_cases c8 : a0_0 = 1
    · rw [if_pos c8] at H
      obtain ⟨c8b0, c8b1⟩ := zeq c8
      clear c8
      by_cases c9 : (l0_4.length : Int) > 512
      · rw [if_pos c9] at H
        have c9b0 := decide_eq_true c9
        have c9b1 : decide (512 < l0_4.length) = true := decide_eq_true (by omega)
        clear c9
        have H' := Aside0.mk H
        clear H
        have hcz10_0 := zcf5 BK101.out
        go_wp2
        go_meet
        case rel => exact ⟨_, (true), qW1x1, H', ⟨by first | omega | exact Nat.le_refl _⟩, ⟨by (with_reducible repeat (first | refine blk_drewN ?_ _ | refine blk_drew ?_ | refine blk_alloc ?_ _)); exact BK101.out⟩, ⟨zB⟩⟩
      rw [if_neg c9] at H
      have c9b0 : decide (512 < (l0_4.length : Int)) = false := decide_eq_false c9
      have c9b1 : decide (512 < l0_4.length) = false := decide_eq_false (by omega)
      clear c9
      obtain ⟨t102, A11, H⟩ := zO H
      try dsimp only at H
      by_cases c12 : t102 = true
      · subst c12
        have H1 : (script_Good.j0 k false a0_0 a0_1 a0_2 a0_3 l0_4) = some r := by rw [if_pos rfl] at H; exact H
        clear H
        have H := H1
        clear H1
        have H' := Aside0.mk H
        clear H
        have hcz13_0 := zcf5 BK101.out
        go_wp2_with (first | (go_at_call 73; (with_reducible refine (script_named.calls a0_0 true _ A11.out).mono ?_); rintro e w' ⟨rfl, ⟨nd, rfl⟩⟩))
        go_meet
        case rel => exact ⟨_, (false), qW1x1, H', ⟨by first | omega | exact Nat.le_refl _⟩, ⟨by (with_reducible repeat (first | refine blk_drewN ?_ _ | refine blk_drew ?_ | refine blk_alloc ?_ _)); exact BK101.out⟩, ⟨zB⟩⟩
      replace c12 := Bool.eq_false_iff.mpr c12
      subst c12
      have H1 : (script_Good.j0 k (a0_1 != 0) a0_0 a0_1 a0_2 a0_3 l0_4) = some r := by rw [if_neg (show ¬ (false = true) by decide)] at H; exact H
      clear H
      have H := H1
      clear H1
      have H' := Aside0.mk H
      clear H
      have hcz14_0 := zcf5 BK101.out
      go_wp2_with (first | (go_at_call 73; (with_reducible refine (script_named.calls a0_0 false _ A11.out).mono ?_); rintro e w' ⟨rfl, ⟨nd, rfl⟩⟩))
      go_meet
      case rel => exact ⟨_, ((a0_1 != 0)), qW1x1, H', ⟨by first | omega | exact Nat.le_refl _⟩, ⟨by (with_reducible repeat (first | refine blk_drewN ?_ _ | refine blk_drew ?_ | refine blk_alloc ?_ _)); exact BK101.out⟩, ⟨zB⟩⟩
    rw [if_neg c8] at H
    obtain ⟨c8b0, c8b1⟩ := zne c8
    by_cases c15 : (l0_4.length : Int) = 0
    rotate_left
    · rw [if_neg c15] at H
      obtain ⟨c15b0, c15b1⟩ := zne c15
      have c15b2 : ¬ (l0_4 = []) := fun h_ => c15 (by rw [h_]; rfl)
      have H' := Aside0.mk H
      clear H
      have hcz22_0 := zcf5 BK101.out
      go_wp2
      go_meet
      case rel => exact ⟨_, (true), qW1x1, H', ⟨by first | omega | exact Nat.le_refl _⟩, ⟨by (with_reducible repeat (first | refine blk_drewN ?_ _ | refine blk_drew ?_ | refine blk_alloc ?_ _)); exact BK101.out⟩, ⟨zB⟩⟩
    rw [if_pos c15] at H
    obtain ⟨c15b0, c15b1⟩ := zeq c15
    clear c15
    by_cases c16 : (l0_4.length : Int) > 512
    · rw [if_pos c16] at H
      have c16b0 := decide_eq_true c16
      have c16b1 : decide (512 < l0_4.length) = true := decide_eq_true (by omega)
      clear c16
      have H' := Aside0.mk H
      clear H
      have hcz17_0 := zcf5 BK101.out
      go_wp2
      go_meet
      case rel => exact ⟨_, (true), qW1x1, H', ⟨by first | omega | exact Nat.le_refl _⟩, ⟨by (with_reducible repeat (first | refine blk_drewN ?_ _ | refine blk_drew ?_ | refine blk_alloc ?_ _)); exact BK101.out⟩, ⟨zB⟩⟩
    rw [if_neg c16] at H
    have c16b0 : decide (512 < (l0_4.length : Int)) = false := decide_eq_false c16
    have c16b1 : decide (512 < l0_4.length) = false := decide_eq_false (by omega)
    clear c16
    obtain ⟨t103, A18, H⟩ := zO H
    try dsimp only at H
    by_cases c19 : t103 = true
    · subst c19
      have H1 : (script_Good.j0 k false a0_0 a0_1 a0_2 a0_3 l0_4) = some r := by rw [if_pos rfl] at H; exact H
      clear H
      have H := H1
      clear H1
      have H' := Aside0.mk H
      clear H
      have hcz20_0 := zcf5 BK101.out
      go_wp2_with (first | (go_at_call 73; (with_reducible refine (script_named.calls a0_0 true _ A18.out).mono ?_); rintro e w' ⟨rfl, ⟨nd, rfl⟩⟩))
      go_meet
      case rel => exact ⟨_, (false), qW1x1, H', ⟨by first | omega | exact Nat.le_refl _⟩, ⟨by (with_reducible repeat (first | refine blk_drewN ?_ _ | refine blk_drew ?_ | refine blk_alloc ?_ _)); exact BK101.out⟩, ⟨zB⟩⟩
    replace c19 := Bool.eq_false_iff.mpr c19
    subst c19
    have H1 : (script_Good.j0 k (a0_1 != 0) a0_0 a0_1 a0_2 a0_3 l0_4) = some r := by rw [if_neg (show ¬ (false = true) by decide)] at H; exact H
    clear H
    have H := H1
    clear H1
    have H' := Aside0.mk H
    clear H
    have hcz21_0 := zcf5 BK101.out
    go_wp2_with (first | (go_at_call 73; (with_reducible refine (script_named.calls a0_0 false _ A18.out).mono ?_); rintro e w' ⟨rfl, ⟨nd, rfl⟩⟩))
    go_meet
    case rel => exact ⟨_, ((a0_1 != 0)), qW1x1, H', ⟨by first | omega | exact Nat.le_refl _⟩, ⟨by (with_reducible repeat (first | refine blk_drewN ?_ _ | refine blk_drew ?_ | refine blk_alloc ?_ _)); exact BK101.out⟩, ⟨zB⟩⟩
  case rest =>
    clear HC2
    try clear c1
    try clear p2
    try clear c4
    try clear c4b0
    try clear c6
    try clear c6b0
    try clear c8
    try clear c8b0
    try clear c8b1
    try clear c9
    try clear c9b0
    try clear c9b1
    try clear c12
    try clear c15
    try clear c15b0
    try clear c15b1
    try clear c15b2
    try clear c16
    try clear c16b0
    try clear c16b1
    try clear c19
    try clear hcz10_0
    try clear hcz13_0
    try clear hcz14_0
    try clear hcz17_0
    try clear hcz20_0
    try clear hcz21_0
    try clear hcz22_0
    try clear hcz5_0
    try clear hcz7_0
    obtain ⟨kq, x38_1, rfl, HA, HJ1, BK101, HB⟩ := hcut
    cases kq with
    | zero => exact absurd HA.out (by simp [script_Good.j0])
    | succ kj1 =>
      have H := HA.out
      clear HA
      simp only [script_Good.j0] at H
      by_cases c23 : x38_1 = true
      · subst c23
        have H1 : (some false) = some r := by rw [if_pos rfl] at H; exact H
        clear H
        have H := H1
        clear H1
        obtain rfl := Option.some.inj H
        go_wp2
        go_ret
        exact ⟨zer, zB⟩
      replace c23 := Bool.eq_false_iff.mpr c23
      subst c23
      have H1 : (if a0_0 = 7 then (if a0_2 ≥ 0 then (if a0_2 ≤ 65535 then (if a0_3 ≥ 0 then (some (decide (a0_3 ≤ 65535))) else (some false)) else (some false)) else (some false)) else (if a0_2 = 0 then (some (a0_3 == 0)) else (some false))) = some r := by rw [if_neg (show ¬ (false = true) by decide)] at H; exact H
      clear H
      have H := H1
      clear H1
      by_cases c24 : a0_0 = 7
      rotate_left
      · rw [if_neg c24] at H
        obtain ⟨c24b0, c24b1⟩ := zne c24
        by_cases c32 : a0_2 = 0
        rotate_left
        · rw [if_neg c32] at H
          obtain ⟨c32b0, c32b1⟩ := zne c32
          obtain rfl := Option.some.inj H
          have hcz34_0 := zcf5 BK101.out
          go_wp2
          go_ret
          exact ⟨zer, zB⟩
        rw [if_pos c32] at H
        obtain ⟨c32b0, c32b1⟩ := zeq c32
        clear c32
        obtain rfl := Option.some.inj H
        have hcz33_0 := zcf5 BK101.out
        go_wp2
        go_ret
        exact ⟨zer, zB⟩
      rw [if_pos c24] at H
      obtain ⟨c24b0, c24b1⟩ := zeq c24
      clear c24
      by_cases c25 : a0_2 ≥ 0
      rotate_left
      · rw [if_neg c25] at H
        have c25b0 : decide (0 ≤ a0_2) = false := decide_eq_false c25
        clear c25
        obtain rfl := Option.some.inj H
        have hcz31_0 := zcf5 BK101.out
        go_wp2
        go_ret
        exact ⟨zer, zB⟩
      rw [if_pos c25] at H
      have c25b0 := decide_eq_true c25
      clear c25
      by_cases c26 : a0_2 ≤ 65535
      rotate_left
      · rw [if_neg c26] at H
        have c26b0 : decide (a0_2 ≤ 65535) = false := decide_eq_false c26
        clear c26
        obtain rfl := Option.some.inj H
        have hcz30_0 := zcf5 BK101.out
        go_wp2
        go_ret
        exact ⟨zer, zB⟩
      rw [if_pos c26] at H
      have c26b0 := decide_eq_true c26
      clear c26
      by_cases c27 : a0_3 ≥ 0
      · rw [if_pos c27] at H
        have c27b0 := decide_eq_true c27
        clear c27
        obtain rfl := Option.some.inj H
        have hcz28_0 := zcf5 BK101.out
        go_wp2
        go_ret
        exact ⟨zer, zB⟩
      rw [if_neg c27] at H
      have c27b0 : decide (0 ≤ a0_3) = false := decide_eq_false c27
      clear c27
      obtain rfl := Option.some.inj H
      have hcz29_0 := zcf5 BK101.out
      go_wp2
      go_ret
      exact ⟨zer, zB⟩
end Go.Proofs.YtpnehgajhpejjaaDoor.W
