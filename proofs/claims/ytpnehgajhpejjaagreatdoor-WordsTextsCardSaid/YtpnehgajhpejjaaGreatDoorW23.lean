import Derived.Test.YtpnehgajhpejjaaGreatDoorSq
import Derived.Test.YtpnehgajhpejjaaGreatDoorW0
import Derived.Test.YtpnehgajhpejjaaGreatDoorW11
import Derived.Test.YtpnehgajhpejjaaGreatDoorW12
import Derived.Test.YtpnehgajhpejjaaGreatDoorW16
namespace Go.Proofs.YtpnehgajhpejjaaGreatDoor.W
open Go.RowKit Go.Proofs.YtpnehgajhpejjaaGreatDoorW.PrintWords Go.Proofs.YtpnehgajhpejjaaGreatDoorW.PrintLast Go.Proofs.YtpnehgajhpejjaaGreatDoorW.PrintMore
attribute [local go_sem] max2_int min2_int max_two min_two max_three min_three max_four min_four
set_option linter.unusedVariables false
set_option linter.unusedSimpArgs false
theorem qW23x1 {p : Prop} (h : p := by first | rfl | (simp; done) | (simp [*]; done)) : p := h
theorem qW23x2 {p : Prop} (h : p := by kernel_rfl) : p := h

/-! ### pledgeref39_Print: function 16 -/
def pledgeref39_Print.l0 : Nat → List (S25) → ByteArray → Int → Option (ByteArray)
  | 0, _, _, _ => none
  | k + 1, x0, x3, x4 => if x4 < (x0.length : Int) then (if 0 ≤ x4 then ((pledgeref38_Good.f ((rd_T25 x0 x4).f0) ((rd_T25 x0 x4).f1) ((rd_T25 x0 x4).f2) ((rd_T25 x0 x4).f3) ((rd_T25 x0 x4).f4)).bind fun t454 => (if t454 = true then ((pledgeref39_Line.f k ((rd_T25 x0 x4).f0) ((rd_T25 x0 x4).f1) ((rd_T25 x0 x4).f2) ((rd_T25 x0 x4).f3) ((rd_T25 x0 x4).f4)).bind fun t456 => (if x3.size + t456.size ≤ 9223372036854775807 then (if x3.size + t456.size + 1 ≤ 9223372036854775807 then (pledgeref39_Print.l0 k x0 ((x3 ++ t456) ++ (⟨#[10]⟩ : ByteArray)) (wrap64 (x4 + 1))) else (none)) else (none))) else (pledgeref39_Print.l0 k x0 x3 (wrap64 (x4 + 1))))) else (none)) else (some x3)
def pledgeref39_Print.f (k : Nat) (l0 : List (S25)) : Option (ByteArray) := pledgeref39_Print.l0 k l0 (⟨#[]⟩ : ByteArray) 0
theorem pledgeref39_Print.mono_l : ∀ k, (∀ y0 y1 y2, LeO (pledgeref39_Print.l0 k y0 y1 y2) (pledgeref39_Print.l0 (k + 1) y0 y1 y2))
  | 0 => fun _ _ _ r h => by simp [pledgeref39_Print.l0] at h
  | k + 1 => by
    have ih0 := pledgeref39_Print.mono_l k
    · intro y0 y1 y2
      unfold pledgeref39_Print.l0
      repeat' first
      | (with_reducible exact ih0 _ _ _)
      | (with_reducible exact pledgeref39_Line.mono _ _ _ _ _ _)
      | (with_reducible exact LeO.refl _)
      | (with_reducible exact LeO.none _)
      | (with_reducible refine LeO.ite ?_ ?_)
      | (with_reducible refine LeO.bind ?_ (fun _ => ?_))
      | exact ih0 _ _ _
      | exact pledgeref39_Line.mono _ _ _ _ _ _
      | exact LeO.none _
      | refine LeO.ite ?_ ?_
      | refine LeO.bind ?_ (fun _ => ?_)
theorem pledgeref39_Print.mono : ∀ a0 k, LeO (pledgeref39_Print.f k a0) (pledgeref39_Print.f (k + 1) a0) := by
  intro a0 k
  have ih0 := pledgeref39_Print.mono_l k
  unfold pledgeref39_Print.f
  repeat' first
      | (with_reducible exact ih0 _ _ _)
      | (with_reducible exact pledgeref39_Line.mono _ _ _ _ _ _)
      | (with_reducible exact LeO.refl _)
      | (with_reducible exact LeO.none _)
      | (with_reducible refine LeO.ite ?_ ?_)
      | (with_reducible refine LeO.bind ?_ (fun _ => ?_))
      | exact ih0 _ _ _
      | exact pledgeref39_Line.mono _ _ _ _ _ _
      | exact LeO.none _
      | refine LeO.ite ?_ ?_
      | refine LeO.bind ?_ (fun _ => ?_)
set_option maxHeartbeats 8000000 in
set_option maxRecDepth 100000 in
theorem pledgeref39_Print.calls (k : Nat) (A0 : Option Addr) (c0 : Nat) (l0 : List (S25)) (r : ByteArray) (w : World) (hr0 : Kd.C k25 w A0 l0.length l0) (hc0 : l0.length ≤ c0) (h : pledgeref39_Print.f k l0 = some r) :
    Calls Tryz.prog 16 #[.slice A0 l0.length c0] w fun e w' => e = .returned (.string r) ∧ Below w.heap.size w w' := by
  have hu25 := Tryz.underlying25
  have HR0 := Aside0.mk hr0
  have HC0 := Aside0.mk hc0
  clear hr0 hc0
  have HB := Aside0.mk (Below.refl w.heap.size w)
  have H : (pledgeref39_Print.l0 k l0 (⟨#[]⟩ : ByteArray) 0) = some r := h
  clear h
  have H' := Aside0.mk H
  clear H
  go_enter Tryz.func16, Tryz.ntmps16
  go_wp2
  go_loopg [3, 4] k (fun kq v3 v4 w' => ∃ (x3_1 : ByteArray) (x4_1 : Int), v3 = .string x3_1 ∧ v4 = .int .i64 x4_1 ∧ Aside0 (pledgeref39_Print.l0 kq l0 x3_1 x4_1 = some r) ∧ Aside0 (kq ≤ k) ∧ Aside0 (Below w.heap.size w w'))
  case atStart => exact ⟨((⟨#[]⟩ : ByteArray)), (0), qW23x1, qW23x1, H', ⟨Nat.le_refl _⟩, ⟨zB⟩⟩
  case round =>
    clear H'
    try clear c1
    obtain ⟨x3_1, x4_1, rfl, rfl, HA, HK1, HB⟩ := hrel
    cases gk with
    | zero => exact absurd HA.out (by simp [pledgeref39_Print.l0])
    | succ k1 =>
      have H := HA.out
      clear HA
      simp only [pledgeref39_Print.l0] at H
      by_cases c2 : x4_1 < (l0.length : Int)
      rotate_left
      · rw [if_neg c2] at H
        have c2b0 : decide (x4_1 < (l0.length : Int)) = false := decide_eq_false c2
        clear c2
        obtain rfl := Option.some.inj H
        go_wp2
        go_ret
        exact ⟨zer, zB⟩
      rw [if_pos c2] at H
      have c2b0 := decide_eq_true c2
      clear c2
      by_cases c3 : 0 ≤ x4_1
      rotate_left
      · rw [if_neg c3] at H
        exact absurd H (by simp)
      rw [if_pos c3] at H
      have c3b0 := decide_eq_true c3
      clear c3
      obtain ⟨t454, A4, H⟩ := zO H
      try dsimp only at H
      by_cases c5 : t454 = true
      rotate_left
      · replace c5 := Bool.eq_false_iff.mpr c5
        subst c5
        have H1 : (pledgeref39_Print.l0 k1 l0 x3_1 (wrap64 (x4_1 + 1))) = some r := by rw [if_neg (show ¬ (false = true) by decide)] at H; exact H
        clear H
        have H := H1
        clear H1
        have H' := Aside0.mk H
        clear H
        have p453 : 0 ≤ (x4_1 : Int) := of_decide_eq_true zas
        have q453 : x4_1 < (l0.length : Int) := of_decide_eq_true zas
        obtain ⟨ad453, A453_4, c453_4, e453, hx453_0, hx453_1, hx453_2, hx453_3, hx453_4, hl453_4, hi453_4⟩ := at_T25 HR0.out x4_1 p453 q453
        cases e453
        replace hx453_0 := (HB.out.cell (World.block_lt_of_cell? w _ hx453_0)).trans hx453_0
        replace hx453_1 := (HB.out.cell (World.block_lt_of_cell? w _ hx453_1)).trans hx453_1
        replace hx453_2 := (HB.out.cell (World.block_lt_of_cell? w _ hx453_2)).trans hx453_2
        replace hx453_3 := (HB.out.cell (World.block_lt_of_cell? w _ hx453_3)).trans hx453_3
        replace hx453_4 := (HB.out.cell (World.block_lt_of_cell? w _ hx453_4)).trans hx453_4
        have HR453_4 := Aside0.mk hi453_4
        have HC453_4 := Aside0.mk hl453_4
        clear hi453_4 hl453_4
        replace p453 := eq_true p453
        replace q453 := eq_true q453
        go_wp2_with (first | ((with_reducible refine gate_callee (f := 18) rfl ?_); refine goesZ (some 15) Tryz.func18 (args := #[.agg #[.int .u8 ((rd_T25 l0 x4_1).f0), .int .u32 ((rd_T25 l0 x4_1).f1), .int .i64 ((rd_T25 l0 x4_1).f2), .int .i64 ((rd_T25 l0 x4_1).f3), .slice A453_4 ((rd_T25 l0 x4_1).f4).length c453_4]]) (h := ?_); (with_reducible refine (pledgeref38_Good.calls ((rd_T25 l0 x4_1).f0) ((rd_T25 l0 x4_1).f1) ((rd_T25 l0 x4_1).f2) ((rd_T25 l0 x4_1).f3) _ _ ((rd_T25 l0 x4_1).f4) false _ ?side1 ?side2 A4.out).mono ?_); (case side1 => exact zC (Kd.C_below HR453_4.out HB.out)); (case side2 => exact HC453_4.out); rintro e w11 ⟨rfl, hb⟩; refine ⟨_, rfl, ?_⟩; replace HB := zH hb; clear hb))
        go_roundg k1
        case measure => have := HK1.out; omega
        case rel => exact ⟨(x3_1), (wrap64 (x4_1 + 1)), qW23x1, qW23x1, H', ⟨by have := HK1.out; omega⟩, ⟨zB⟩⟩
      subst c5
      have H1 : ((pledgeref39_Line.f k1 ((rd_T25 l0 x4_1).f0) ((rd_T25 l0 x4_1).f1) ((rd_T25 l0 x4_1).f2) ((rd_T25 l0 x4_1).f3) ((rd_T25 l0 x4_1).f4)).bind fun t456 => (if x3_1.size + t456.size ≤ 9223372036854775807 then (if x3_1.size + t456.size + 1 ≤ 9223372036854775807 then (pledgeref39_Print.l0 k1 l0 ((x3_1 ++ t456) ++ (⟨#[10]⟩ : ByteArray)) (wrap64 (x4_1 + 1))) else (none)) else (none))) = some r := by rw [if_pos rfl] at H; exact H
      clear H
      have H := H1
      clear H1
      obtain ⟨t456, A6, H⟩ := zO H
      try dsimp only at H
      by_cases c7 : x3_1.size + t456.size ≤ 9223372036854775807
      rotate_left
      · rw [if_neg c7] at H
        exact absurd H (by simp)
      rw [if_pos c7] at H
      have c7b0 := eq_true c7
      have c7b1 := decide_eq_true c7
      try have c7b2 : (9223372036854775807 < x3_1.size + t456.size) = False := eq_false (Nat.not_lt.2 c7)
      by_cases c8 : x3_1.size + t456.size + 1 ≤ 9223372036854775807
      rotate_left
      · rw [if_neg c8] at H
        exact absurd H (by simp)
      rw [if_pos c8] at H
      have c8b0 := eq_true c8
      have c8b1 := decide_eq_true c8
      try have c8b2 : (9223372036854775807 < x3_1.size + t456.size + 1) = False := eq_false (Nat.not_lt.2 c8)
      have H' := Aside0.mk H
      clear H
      have p453 : 0 ≤ (x4_1 : Int) := of_decide_eq_true zas
      have q453 : x4_1 < (l0.length : Int) := of_decide_eq_true zas
      obtain ⟨ad453, A453_4, c453_4, e453, hx453_0, hx453_1, hx453_2, hx453_3, hx453_4, hl453_4, hi453_4⟩ := at_T25 HR0.out x4_1 p453 q453
      cases e453
      replace hx453_0 := (HB.out.cell (World.block_lt_of_cell? w _ hx453_0)).trans hx453_0
      replace hx453_1 := (HB.out.cell (World.block_lt_of_cell? w _ hx453_1)).trans hx453_1
      replace hx453_2 := (HB.out.cell (World.block_lt_of_cell? w _ hx453_2)).trans hx453_2
      replace hx453_3 := (HB.out.cell (World.block_lt_of_cell? w _ hx453_3)).trans hx453_3
      replace hx453_4 := (HB.out.cell (World.block_lt_of_cell? w _ hx453_4)).trans hx453_4
      have HR453_4 := Aside0.mk hi453_4
      have HC453_4 := Aside0.mk hl453_4
      clear hi453_4 hl453_4
      replace p453 := eq_true p453
      replace q453 := eq_true q453
      go_wp2_with (first | ((with_reducible refine gate_callee (f := 18) rfl ?_); refine goesZ (some 15) Tryz.func18 (args := #[.agg #[.int .u8 ((rd_T25 l0 x4_1).f0), .int .u32 ((rd_T25 l0 x4_1).f1), .int .i64 ((rd_T25 l0 x4_1).f2), .int .i64 ((rd_T25 l0 x4_1).f3), .slice A453_4 ((rd_T25 l0 x4_1).f4).length c453_4]]) (h := ?_); (with_reducible refine (pledgeref38_Good.calls ((rd_T25 l0 x4_1).f0) ((rd_T25 l0 x4_1).f1) ((rd_T25 l0 x4_1).f2) ((rd_T25 l0 x4_1).f3) _ _ ((rd_T25 l0 x4_1).f4) true _ ?side1 ?side2 A4.out).mono ?_); (case side1 => exact zC (Kd.C_below HR453_4.out HB.out)); (case side2 => exact HC453_4.out); rintro e w9 ⟨rfl, hb⟩; refine ⟨_, rfl, ?_⟩; replace HB := zH hb; clear hb; have p455 : 0 ≤ (x4_1 : Int) := of_decide_eq_true zas; have q455 : x4_1 < (l0.length : Int) := of_decide_eq_true zas; obtain ⟨ad455, A455_4, c455_4, e455, hx455_0, hx455_1, hx455_2, hx455_3, hx455_4, hl455_4, hi455_4⟩ := at_T25 HR0.out x4_1 p455 q455; obtain rfl : ad453 = ad455 := (by injection e455); replace hx455_0 := (HB.out.cell (World.block_lt_of_cell? w _ hx455_0)).trans hx455_0; replace hx455_1 := (HB.out.cell (World.block_lt_of_cell? w _ hx455_1)).trans hx455_1; replace hx455_2 := (HB.out.cell (World.block_lt_of_cell? w _ hx455_2)).trans hx455_2; replace hx455_3 := (HB.out.cell (World.block_lt_of_cell? w _ hx455_3)).trans hx455_3; replace hx455_4 := (HB.out.cell (World.block_lt_of_cell? w _ hx455_4)).trans hx455_4; have HR455_4 := Aside0.mk hi455_4; have HC455_4 := Aside0.mk hl455_4; clear hi455_4 hl455_4; replace p455 := eq_true p455; replace q455 := eq_true q455) | ((with_reducible refine gate_callee (f := 11) rfl ?_); refine goesZ (some 21) Tryz.func11 (args := #[.agg #[.int .u8 ((rd_T25 l0 x4_1).f0), .int .u32 ((rd_T25 l0 x4_1).f1), .int .i64 ((rd_T25 l0 x4_1).f2), .int .i64 ((rd_T25 l0 x4_1).f3), .slice A455_4 ((rd_T25 l0 x4_1).f4).length c455_4]]) (h := ?_); (with_reducible refine (pledgeref39_Line.calls k1 ((rd_T25 l0 x4_1).f0) ((rd_T25 l0 x4_1).f1) ((rd_T25 l0 x4_1).f2) ((rd_T25 l0 x4_1).f3) _ _ ((rd_T25 l0 x4_1).f4) t456 _ ?side1 ?side2 A6.out).mono ?_); (case side1 => exact zC (Kd.C_below HR455_4.out HB.out)); (case side2 => exact HC455_4.out); rintro e w10 ⟨rfl, hb⟩; refine ⟨_, rfl, ?_⟩; replace HB := zH hb; clear hb))
      go_roundg k1
      case measure => have := HK1.out; omega
      case rel => exact ⟨((x3_1 ++ t456) ++ (⟨#[10]⟩ : ByteArray)), (wrap64 (x4_1 + 1)), qW23x1, qW23x1, H', ⟨by have := HK1.out; omega⟩, ⟨zB⟩⟩

/-! ### pledgeref38_SameAll: function 17 -/
def pledgeref38_SameAll.l0 : Nat → List (S25) → List (S25) → Int → Option (Bool)
  | 0, _, _, _ => none
  | k + 1, x0, x1, x5 => if x5 < (x0.length : Int) then (if 0 ≤ x5 then (if x5 < (x1.length : Int) then ((pledgeref38_Same.f ((rd_T25 x0 x5).f0) ((rd_T25 x0 x5).f1) ((rd_T25 x0 x5).f2) ((rd_T25 x0 x5).f3) ((rd_T25 x0 x5).f4) ((rd_T25 x1 x5).f0) ((rd_T25 x1 x5).f1) ((rd_T25 x1 x5).f2) ((rd_T25 x1 x5).f3) ((rd_T25 x1 x5).f4)).bind fun t459 => (if t459 = true then (pledgeref38_SameAll.l0 k x0 x1 (wrap64 (x5 + 1))) else (some false))) else (none)) else (none)) else (some true)
def pledgeref38_SameAll.f (k : Nat) (l0 : List (S25)) (l1 : List (S25)) : Option (Bool) := if (l0.length : Int) = (l1.length : Int) then (pledgeref38_SameAll.l0 k l0 l1 0) else (some false)
theorem pledgeref38_SameAll.mono_l : ∀ k, (∀ y0 y1 y2, LeO (pledgeref38_SameAll.l0 k y0 y1 y2) (pledgeref38_SameAll.l0 (k + 1) y0 y1 y2))
  | 0 => fun _ _ _ r h => by simp [pledgeref38_SameAll.l0] at h
  | k + 1 => by
    have ih0 := pledgeref38_SameAll.mono_l k
    · intro y0 y1 y2
      unfold pledgeref38_SameAll.l0
      repeat' first
      | (with_reducible exact ih0 _ _ _)
      | (with_reducible exact LeO.refl _)
      | (with_reducible exact LeO.none _)
      | (with_reducible refine LeO.ite ?_ ?_)
      | (with_reducible refine LeO.bind ?_ (fun _ => ?_))
      | exact ih0 _ _ _
      | exact LeO.none _
      | refine LeO.ite ?_ ?_
      | refine LeO.bind ?_ (fun _ => ?_)
theorem pledgeref38_SameAll.mono : ∀ a0 a1 k, LeO (pledgeref38_SameAll.f k a0 a1) (pledgeref38_SameAll.f (k + 1) a0 a1) := by
  intro a0 a1 k
  have ih0 := pledgeref38_SameAll.mono_l k
  unfold pledgeref38_SameAll.f
  repeat' first
      | (with_reducible exact ih0 _ _ _)
      | (with_reducible exact LeO.refl _)
      | (with_reducible exact LeO.none _)
      | (with_reducible refine LeO.ite ?_ ?_)
      | (with_reducible refine LeO.bind ?_ (fun _ => ?_))
      | exact ih0 _ _ _
      | exact LeO.none _
      | refine LeO.ite ?_ ?_
      | refine LeO.bind ?_ (fun _ => ?_)
def pledgeref38_SameAll.T6 : Bool × List (List Nat × List Nat) := (true, [([], []), ([], []), ([0, 1], [0, 1]), ([2], [2]), ([], []), ([], []), ([4, 5], [4, 5]), ([6], [6]), ([3, 7], [3, 7]), ([8], [8])])
def pledgeref38_SameAll.B6 : List Nat := [0, 0, 3, 7, 0, 0, 48, 112, 255, 511]
theorem pledgeref38_SameAll.tab6 : rtab .any (opsOf Tryz.f17 6) = pledgeref38_SameAll.T6 := by kernel_rfl
theorem pledgeref38_SameAll.bits6 : waitsOk pledgeref38_SameAll.T6.2 pledgeref38_SameAll.B6 = true := by kernel_rfl
set_option maxHeartbeats 8000000 in
set_option maxRecDepth 100000 in
theorem pledgeref38_SameAll.calls (k : Nat) (A0 : Option Addr) (c0 : Nat) (l0 : List (S25)) (A1 : Option Addr) (c1 : Nat) (l1 : List (S25)) (r : Bool) (w : World) (hr0 : Kd.C k25 w A0 l0.length l0) (hc0 : l0.length ≤ c0) (hr1 : Kd.C k25 w A1 l1.length l1) (hc1 : l1.length ≤ c1) (h : pledgeref38_SameAll.f k l0 l1 = some r) :
    Calls Tryz.prog 17 #[.slice A0 l0.length c0, .slice A1 l1.length c1] w fun e w' => e = .returned (.bool r) ∧ Below w.heap.size w w' := by
  have hu25 := Tryz.underlying25
  have HR0 := Aside0.mk hr0
  have HC0 := Aside0.mk hc0
  clear hr0 hc0
  have HR1 := Aside0.mk hr1
  have HC1 := Aside0.mk hc1
  clear hr1 hc1
  have HB := Aside0.mk (Below.refl w.heap.size w)
  have H : (if (l0.length : Int) = (l1.length : Int) then (pledgeref38_SameAll.l0 k l0 l1 0) else (some false)) = some r := h
  clear h
  by_cases c3 : (l0.length : Int) = (l1.length : Int)
  rotate_left
  · rw [if_neg c3] at H
    obtain ⟨c3b0, c3b1⟩ := zne c3
    have c3b2 : (l0.length == l1.length) = false := by first | simpa using c3 | (simp at c3 ⊢; omega)
    obtain rfl := Option.some.inj H
    go_enter Tryz.func17, Tryz.ntmps17
    go_wp2
    go_ret
    exact ⟨zer, zB⟩
  rw [if_pos c3] at H
  obtain ⟨c3b0, c3b1⟩ := zeq c3
  have c3b2 : (l0.length == l1.length) = true := by first | simpa using c3 | (simp at c3 ⊢; omega)
  clear c3
  have H' := Aside0.mk H
  clear H
  go_enter Tryz.func17, Tryz.ntmps17
  go_wp2
  go_loopg [5] k (fun kq v5 w' => ∃ (x5_1 : Int), v5 = .int .i64 x5_1 ∧ Aside0 (pledgeref38_SameAll.l0 kq l0 l1 x5_1 = some r) ∧ Aside0 (kq ≤ k) ∧ Aside0 (Below w.heap.size w w'))
  case atStart => exact ⟨(0), qW23x1, H', ⟨Nat.le_refl _⟩, ⟨zB⟩⟩
  case round =>
    clear H'
    try clear c1
    try clear p2
    try clear c3
    try clear c3b0
    try clear c3b1
    try clear c3b2
    obtain ⟨x5_1, rfl, HA, HK1, HB⟩ := hrel
    cases gk with
    | zero => exact absurd HA.out (by simp [pledgeref38_SameAll.l0])
    | succ k1 =>
      have H := HA.out
      clear HA
      simp only [pledgeref38_SameAll.l0] at H
      by_cases c4 : x5_1 < (l0.length : Int)
      rotate_left
      · rw [if_neg c4] at H
        have c4b0 : decide (x5_1 < (l0.length : Int)) = false := decide_eq_false c4
        clear c4
        obtain rfl := Option.some.inj H
        go_wp2
        go_ret
        exact ⟨zer, zB⟩
      rw [if_pos c4] at H
      have c4b0 := decide_eq_true c4
      clear c4
      by_cases c5 : 0 ≤ x5_1
      rotate_left
      · rw [if_neg c5] at H
        exact absurd H (by simp)
      rw [if_pos c5] at H
      have c5b0 := decide_eq_true c5
      clear c5
      by_cases c6 : x5_1 < (l1.length : Int)
      rotate_left
      · rw [if_neg c6] at H
        exact absurd H (by simp)
      rw [if_pos c6] at H
      have c6b0 := decide_eq_true c6
      clear c6
      obtain ⟨t459, A7, H⟩ := zO H
      try dsimp only at H
      by_cases c8 : t459 = true
      rotate_left
      · replace c8 := Bool.eq_false_iff.mpr c8
        subst c8
        have H1 : (some false) = some r := by rw [if_neg (show ¬ (false = true) by decide)] at H; exact H
        clear H
        have H := H1
        clear H1
        obtain rfl := Option.some.inj H
        try go_wp2
        replace HB := Aside0.mk (below_drew1 HB.out)
        have p457 : 0 ≤ (x5_1 : Int) := of_decide_eq_true zas
        have q457 : x5_1 < (l0.length : Int) := of_decide_eq_true zas
        obtain ⟨ad457, A457_4, c457_4, e457, hx457_0, hx457_1, hx457_2, hx457_3, hx457_4, hl457_4, hi457_4⟩ := at_T25 HR0.out x5_1 p457 q457
        have hw457_4 := hx457_4
        have hw457_3 := hx457_3
        have hw457_2 := hx457_2
        have hw457_1 := hx457_1
        have hw457_0 := hx457_0
        cases e457
        replace hx457_0 := (HB.out.cell (World.block_lt_of_cell? w _ hx457_0)).trans hx457_0
        replace hx457_1 := (HB.out.cell (World.block_lt_of_cell? w _ hx457_1)).trans hx457_1
        replace hx457_2 := (HB.out.cell (World.block_lt_of_cell? w _ hx457_2)).trans hx457_2
        replace hx457_3 := (HB.out.cell (World.block_lt_of_cell? w _ hx457_3)).trans hx457_3
        replace hx457_4 := (HB.out.cell (World.block_lt_of_cell? w _ hx457_4)).trans hx457_4
        have HR457_4 := Aside0.mk hi457_4
        have HC457_4 := Aside0.mk hl457_4
        clear hi457_4 hl457_4
        replace p457 := eq_true p457
        replace q457 := eq_true q457
        have p458 : 0 ≤ (x5_1 : Int) := of_decide_eq_true zas
        have q458 : x5_1 < (l1.length : Int) := of_decide_eq_true zas
        obtain ⟨ad458, A458_4, c458_4, e458, hx458_0, hx458_1, hx458_2, hx458_3, hx458_4, hl458_4, hi458_4⟩ := at_T25 HR1.out x5_1 p458 q458
        have hw458_4 := hx458_4
        have hw458_3 := hx458_3
        have hw458_2 := hx458_2
        have hw458_1 := hx458_1
        have hw458_0 := hx458_0
        cases e458
        replace hx458_0 := (HB.out.cell (World.block_lt_of_cell? w _ hx458_0)).trans hx458_0
        replace hx458_1 := (HB.out.cell (World.block_lt_of_cell? w _ hx458_1)).trans hx458_1
        replace hx458_2 := (HB.out.cell (World.block_lt_of_cell? w _ hx458_2)).trans hx458_2
        replace hx458_3 := (HB.out.cell (World.block_lt_of_cell? w _ hx458_3)).trans hx458_3
        replace hx458_4 := (HB.out.cell (World.block_lt_of_cell? w _ hx458_4)).trans hx458_4
        have HR458_4 := Aside0.mk hi458_4
        have HC458_4 := Aside0.mk hl458_4
        clear hi458_4 hl458_4
        replace p458 := eq_true p458
        replace q458 := eq_true q458
        refine start_ (n := 10) (S := fun w' => w'.cell? (ad457.add ((x5_1).toNat * 5)) = some (.int .u8 ((rd_T25 l0 x5_1).f0)) ∧ w'.cell? ⟨(ad457.add ((x5_1).toNat * 5)).block, (ad457.add ((x5_1).toNat * 5)).off + 1, none⟩ = some (.int .u32 ((rd_T25 l0 x5_1).f1)) ∧ w'.cell? ⟨(ad457.add ((x5_1).toNat * 5)).block, (ad457.add ((x5_1).toNat * 5)).off + 2, none⟩ = some (.int .i64 ((rd_T25 l0 x5_1).f2)) ∧ w'.cell? ⟨(ad457.add ((x5_1).toNat * 5)).block, (ad457.add ((x5_1).toNat * 5)).off + 3, none⟩ = some (.int .i64 ((rd_T25 l0 x5_1).f3)) ∧ w'.cell? ⟨(ad457.add ((x5_1).toNat * 5)).block, (ad457.add ((x5_1).toNat * 5)).off + 4, none⟩ = some (.slice A457_4 ((rd_T25 l0 x5_1).f4).length c457_4) ∧ w'.cell? (ad458.add ((x5_1).toNat * 5)) = some (.int .u8 ((rd_T25 l1 x5_1).f0)) ∧ w'.cell? ⟨(ad458.add ((x5_1).toNat * 5)).block, (ad458.add ((x5_1).toNat * 5)).off + 1, none⟩ = some (.int .u32 ((rd_T25 l1 x5_1).f1)) ∧ w'.cell? ⟨(ad458.add ((x5_1).toNat * 5)).block, (ad458.add ((x5_1).toNat * 5)).off + 2, none⟩ = some (.int .i64 ((rd_T25 l1 x5_1).f2)) ∧ w'.cell? ⟨(ad458.add ((x5_1).toNat * 5)).block, (ad458.add ((x5_1).toNat * 5)).off + 3, none⟩ = some (.int .i64 ((rd_T25 l1 x5_1).f3)) ∧ w'.cell? ⟨(ad458.add ((x5_1).toNat * 5)).block, (ad458.add ((x5_1).toNat * 5)).off + 4, none⟩ = some (.slice A458_4 ((rd_T25 l1 x5_1).f4).length c458_4)) (ds := []) (bz 10 0) qW23x2 rfl qW23x2 ⟨((HB.out.cell (World.block_lt_of_cell? w _ hw457_0)).trans hw457_0), ((HB.out.cell (World.block_lt_of_cell? w _ hw457_1)).trans hw457_1), ((HB.out.cell (World.block_lt_of_cell? w _ hw457_2)).trans hw457_2), ((HB.out.cell (World.block_lt_of_cell? w _ hw457_3)).trans hw457_3), ((HB.out.cell (World.block_lt_of_cell? w _ hw457_4)).trans hw457_4), ((HB.out.cell (World.block_lt_of_cell? w _ hw458_0)).trans hw458_0), ((HB.out.cell (World.block_lt_of_cell? w _ hw458_1)).trans hw458_1), ((HB.out.cell (World.block_lt_of_cell? w _ hw458_2)).trans hw458_2), ((HB.out.cell (World.block_lt_of_cell? w _ hw458_3)).trans hw458_3), ((HB.out.cell (World.block_lt_of_cell? w _ hw458_4)).trans hw458_4)⟩ (fun hHeld => ?_); refine with_tabW pledgeref38_SameAll.tab6 pledgeref38_SameAll.bits6 (fun HT_ HW_ => ?_)
        generalize wr.drew = w11 at HB HR457_4 HR458_4 hx457_0 hx457_1 hx457_2 hx457_3 hx457_4 hx458_0 hx458_1 hx458_2 hx458_3 hx458_4 hHeld ⊢
        refine pureZ (some 17) (bz 10 1) (i := 0) (h := ?_); refine pureZ (some 18) (bz 10 3) (i := 1) (h := ?_); refine pureZ (some 19) (bz 10 7) (i := 2) (h := ?_); refine pureZ (some 21) (bz 10 23) (i := 4) (h := ?_); refine pureZ (some 22) (bz 10 55) (i := 5) (h := ?_); refine pureZ (some 23) (bz 10 119) (i := 6) (h := ?_); refine takeZ (some 20) (bz 10 127) (i := 3) (h := ?_); refine takeZ (some 24) (bz 10 255) (i := 7) (h := ?_)
        refine one_ (i := 8) (N := some 25) (bz 10 511) rfl rfl (one_of HT_.out qW23x2) (by decide) (fun K hK => ?_)
        refine goes_ Tryz.func12 qW23x2 rfl #[.agg #[.int .u8 ((rd_T25 l0 x5_1).f0), .int .u32 ((rd_T25 l0 x5_1).f1), .int .i64 ((rd_T25 l0 x5_1).f2), .int .i64 ((rd_T25 l0 x5_1).f3), .slice A457_4 ((rd_T25 l0 x5_1).f4).length c457_4], .agg #[.int .u8 ((rd_T25 l1 x5_1).f0), .int .u32 ((rd_T25 l1 x5_1).f1), .int .i64 ((rd_T25 l1 x5_1).f2), .int .i64 ((rd_T25 l1 x5_1).f3), .slice A458_4 ((rd_T25 l1 x5_1).f4).length c458_4]] (by rfl) rfl rfl zA ?_
        with_reducible refine (pledgeref38_Same.calls ((rd_T25 l0 x5_1).f0) ((rd_T25 l0 x5_1).f1) ((rd_T25 l0 x5_1).f2) ((rd_T25 l0 x5_1).f3) _ _ ((rd_T25 l0 x5_1).f4) ((rd_T25 l1 x5_1).f0) ((rd_T25 l1 x5_1).f1) ((rd_T25 l1 x5_1).f2) ((rd_T25 l1 x5_1).f3) _ _ ((rd_T25 l1 x5_1).f4) false _ ?side1 ?side2 ?side3 ?side4 A7.out).mono ?_
        (case side1 => exact zC (Kd.C_below HR457_4.out HB.out))
        (case side2 => exact HC457_4.out)
        (case side3 => exact zC (Kd.C_below HR458_4.out HB.out))
        (case side4 => exact HC458_4.out)
        rintro e w12 ⟨rfl, hb⟩
        refine ⟨_, rfl, ?_⟩
        replace HB := zH hb
        refine hK.out _ _ ⟨((HB.out.cell (World.block_lt_of_cell? w _ hw457_0)).trans hw457_0), ((HB.out.cell (World.block_lt_of_cell? w _ hw457_1)).trans hw457_1), ((HB.out.cell (World.block_lt_of_cell? w _ hw457_2)).trans hw457_2), ((HB.out.cell (World.block_lt_of_cell? w _ hw457_3)).trans hw457_3), ((HB.out.cell (World.block_lt_of_cell? w _ hw457_4)).trans hw457_4), ((HB.out.cell (World.block_lt_of_cell? w _ hw458_0)).trans hw458_0), ((HB.out.cell (World.block_lt_of_cell? w _ hw458_1)).trans hw458_1), ((HB.out.cell (World.block_lt_of_cell? w _ hw458_2)).trans hw458_2), ((HB.out.cell (World.block_lt_of_cell? w _ hw458_3)).trans hw458_3), ((HB.out.cell (World.block_lt_of_cell? w _ hw458_4)).trans hw458_4)⟩ (fun hHeld => ?_)
        clear hK K
        refine norm_ (a' := ?_) ?_ ?_
        rotate_left
        · show Act.put _ (some 25) _ = _
          simp only [Act.put, List.setIfInBounds_toArray, List.set_cons_zero, List.set_cons_succ, i64_w, i32_w]
          rfl
        refine pureZ (some 26) (bz 10 1023) (i := 9) (h := ?_)
        refine done_ (done_of HT_.out qW23x2) ?_
        try go_wp2
        go_ret
        exact ⟨zer, zB⟩
      subst c8
      have H1 : (pledgeref38_SameAll.l0 k1 l0 l1 (wrap64 (x5_1 + 1))) = some r := by rw [if_pos rfl] at H; exact H
      clear H
      have H := H1
      clear H1
      have H' := Aside0.mk H
      clear H
      try go_wp2
      replace HB := Aside0.mk (below_drew1 HB.out)
      have p457 : 0 ≤ (x5_1 : Int) := of_decide_eq_true zas
      have q457 : x5_1 < (l0.length : Int) := of_decide_eq_true zas
      obtain ⟨ad457, A457_4, c457_4, e457, hx457_0, hx457_1, hx457_2, hx457_3, hx457_4, hl457_4, hi457_4⟩ := at_T25 HR0.out x5_1 p457 q457
      have hw457_4 := hx457_4
      have hw457_3 := hx457_3
      have hw457_2 := hx457_2
      have hw457_1 := hx457_1
      have hw457_0 := hx457_0
      cases e457
      replace hx457_0 := (HB.out.cell (World.block_lt_of_cell? w _ hx457_0)).trans hx457_0
      replace hx457_1 := (HB.out.cell (World.block_lt_of_cell? w _ hx457_1)).trans hx457_1
      replace hx457_2 := (HB.out.cell (World.block_lt_of_cell? w _ hx457_2)).trans hx457_2
      replace hx457_3 := (HB.out.cell (World.block_lt_of_cell? w _ hx457_3)).trans hx457_3
      replace hx457_4 := (HB.out.cell (World.block_lt_of_cell? w _ hx457_4)).trans hx457_4
      have HR457_4 := Aside0.mk hi457_4
      have HC457_4 := Aside0.mk hl457_4
      clear hi457_4 hl457_4
      replace p457 := eq_true p457
      replace q457 := eq_true q457
      have p458 : 0 ≤ (x5_1 : Int) := of_decide_eq_true zas
      have q458 : x5_1 < (l1.length : Int) := of_decide_eq_true zas
      obtain ⟨ad458, A458_4, c458_4, e458, hx458_0, hx458_1, hx458_2, hx458_3, hx458_4, hl458_4, hi458_4⟩ := at_T25 HR1.out x5_1 p458 q458
      have hw458_4 := hx458_4
      have hw458_3 := hx458_3
      have hw458_2 := hx458_2
      have hw458_1 := hx458_1
      have hw458_0 := hx458_0
      cases e458
      replace hx458_0 := (HB.out.cell (World.block_lt_of_cell? w _ hx458_0)).trans hx458_0
      replace hx458_1 := (HB.out.cell (World.block_lt_of_cell? w _ hx458_1)).trans hx458_1
      replace hx458_2 := (HB.out.cell (World.block_lt_of_cell? w _ hx458_2)).trans hx458_2
      replace hx458_3 := (HB.out.cell (World.block_lt_of_cell? w _ hx458_3)).trans hx458_3
      replace hx458_4 := (HB.out.cell (World.block_lt_of_cell? w _ hx458_4)).trans hx458_4
      have HR458_4 := Aside0.mk hi458_4
      have HC458_4 := Aside0.mk hl458_4
      clear hi458_4 hl458_4
      replace p458 := eq_true p458
      replace q458 := eq_true q458
      refine start_ (n := 10) (S := fun w' => w'.cell? (ad457.add ((x5_1).toNat * 5)) = some (.int .u8 ((rd_T25 l0 x5_1).f0)) ∧ w'.cell? ⟨(ad457.add ((x5_1).toNat * 5)).block, (ad457.add ((x5_1).toNat * 5)).off + 1, none⟩ = some (.int .u32 ((rd_T25 l0 x5_1).f1)) ∧ w'.cell? ⟨(ad457.add ((x5_1).toNat * 5)).block, (ad457.add ((x5_1).toNat * 5)).off + 2, none⟩ = some (.int .i64 ((rd_T25 l0 x5_1).f2)) ∧ w'.cell? ⟨(ad457.add ((x5_1).toNat * 5)).block, (ad457.add ((x5_1).toNat * 5)).off + 3, none⟩ = some (.int .i64 ((rd_T25 l0 x5_1).f3)) ∧ w'.cell? ⟨(ad457.add ((x5_1).toNat * 5)).block, (ad457.add ((x5_1).toNat * 5)).off + 4, none⟩ = some (.slice A457_4 ((rd_T25 l0 x5_1).f4).length c457_4) ∧ w'.cell? (ad458.add ((x5_1).toNat * 5)) = some (.int .u8 ((rd_T25 l1 x5_1).f0)) ∧ w'.cell? ⟨(ad458.add ((x5_1).toNat * 5)).block, (ad458.add ((x5_1).toNat * 5)).off + 1, none⟩ = some (.int .u32 ((rd_T25 l1 x5_1).f1)) ∧ w'.cell? ⟨(ad458.add ((x5_1).toNat * 5)).block, (ad458.add ((x5_1).toNat * 5)).off + 2, none⟩ = some (.int .i64 ((rd_T25 l1 x5_1).f2)) ∧ w'.cell? ⟨(ad458.add ((x5_1).toNat * 5)).block, (ad458.add ((x5_1).toNat * 5)).off + 3, none⟩ = some (.int .i64 ((rd_T25 l1 x5_1).f3)) ∧ w'.cell? ⟨(ad458.add ((x5_1).toNat * 5)).block, (ad458.add ((x5_1).toNat * 5)).off + 4, none⟩ = some (.slice A458_4 ((rd_T25 l1 x5_1).f4).length c458_4)) (ds := []) (bz 10 0) qW23x2 rfl qW23x2 ⟨((HB.out.cell (World.block_lt_of_cell? w _ hw457_0)).trans hw457_0), ((HB.out.cell (World.block_lt_of_cell? w _ hw457_1)).trans hw457_1), ((HB.out.cell (World.block_lt_of_cell? w _ hw457_2)).trans hw457_2), ((HB.out.cell (World.block_lt_of_cell? w _ hw457_3)).trans hw457_3), ((HB.out.cell (World.block_lt_of_cell? w _ hw457_4)).trans hw457_4), ((HB.out.cell (World.block_lt_of_cell? w _ hw458_0)).trans hw458_0), ((HB.out.cell (World.block_lt_of_cell? w _ hw458_1)).trans hw458_1), ((HB.out.cell (World.block_lt_of_cell? w _ hw458_2)).trans hw458_2), ((HB.out.cell (World.block_lt_of_cell? w _ hw458_3)).trans hw458_3), ((HB.out.cell (World.block_lt_of_cell? w _ hw458_4)).trans hw458_4)⟩ (fun hHeld => ?_); refine with_tabW pledgeref38_SameAll.tab6 pledgeref38_SameAll.bits6 (fun HT_ HW_ => ?_)
      generalize wr.drew = w9 at HB HR457_4 HR458_4 hx457_0 hx457_1 hx457_2 hx457_3 hx457_4 hx458_0 hx458_1 hx458_2 hx458_3 hx458_4 hHeld ⊢
      refine pureZ (some 17) (bz 10 1) (i := 0) (h := ?_); refine pureZ (some 18) (bz 10 3) (i := 1) (h := ?_); refine pureZ (some 19) (bz 10 7) (i := 2) (h := ?_); refine pureZ (some 21) (bz 10 23) (i := 4) (h := ?_); refine pureZ (some 22) (bz 10 55) (i := 5) (h := ?_); refine pureZ (some 23) (bz 10 119) (i := 6) (h := ?_); refine takeZ (some 20) (bz 10 127) (i := 3) (h := ?_); refine takeZ (some 24) (bz 10 255) (i := 7) (h := ?_)
      refine one_ (i := 8) (N := some 25) (bz 10 511) rfl rfl (one_of HT_.out qW23x2) (by decide) (fun K hK => ?_)
      refine goes_ Tryz.func12 qW23x2 rfl #[.agg #[.int .u8 ((rd_T25 l0 x5_1).f0), .int .u32 ((rd_T25 l0 x5_1).f1), .int .i64 ((rd_T25 l0 x5_1).f2), .int .i64 ((rd_T25 l0 x5_1).f3), .slice A457_4 ((rd_T25 l0 x5_1).f4).length c457_4], .agg #[.int .u8 ((rd_T25 l1 x5_1).f0), .int .u32 ((rd_T25 l1 x5_1).f1), .int .i64 ((rd_T25 l1 x5_1).f2), .int .i64 ((rd_T25 l1 x5_1).f3), .slice A458_4 ((rd_T25 l1 x5_1).f4).length c458_4]] (by rfl) rfl rfl zA ?_
      with_reducible refine (pledgeref38_Same.calls ((rd_T25 l0 x5_1).f0) ((rd_T25 l0 x5_1).f1) ((rd_T25 l0 x5_1).f2) ((rd_T25 l0 x5_1).f3) _ _ ((rd_T25 l0 x5_1).f4) ((rd_T25 l1 x5_1).f0) ((rd_T25 l1 x5_1).f1) ((rd_T25 l1 x5_1).f2) ((rd_T25 l1 x5_1).f3) _ _ ((rd_T25 l1 x5_1).f4) true _ ?side1 ?side2 ?side3 ?side4 A7.out).mono ?_
      (case side1 => exact zC (Kd.C_below HR457_4.out HB.out))
      (case side2 => exact HC457_4.out)
      (case side3 => exact zC (Kd.C_below HR458_4.out HB.out))
      (case side4 => exact HC458_4.out)
      rintro e w10 ⟨rfl, hb⟩
      refine ⟨_, rfl, ?_⟩
      replace HB := zH hb
      refine hK.out _ _ ⟨((HB.out.cell (World.block_lt_of_cell? w _ hw457_0)).trans hw457_0), ((HB.out.cell (World.block_lt_of_cell? w _ hw457_1)).trans hw457_1), ((HB.out.cell (World.block_lt_of_cell? w _ hw457_2)).trans hw457_2), ((HB.out.cell (World.block_lt_of_cell? w _ hw457_3)).trans hw457_3), ((HB.out.cell (World.block_lt_of_cell? w _ hw457_4)).trans hw457_4), ((HB.out.cell (World.block_lt_of_cell? w _ hw458_0)).trans hw458_0), ((HB.out.cell (World.block_lt_of_cell? w _ hw458_1)).trans hw458_1), ((HB.out.cell (World.block_lt_of_cell? w _ hw458_2)).trans hw458_2), ((HB.out.cell (World.block_lt_of_cell? w _ hw458_3)).trans hw458_3), ((HB.out.cell (World.block_lt_of_cell? w _ hw458_4)).trans hw458_4)⟩ (fun hHeld => ?_)
      clear hK K
      refine norm_ (a' := ?_) ?_ ?_
      rotate_left
      · show Act.put _ (some 25) _ = _
        simp only [Act.put, List.setIfInBounds_toArray, List.set_cons_zero, List.set_cons_succ, i64_w, i32_w]
        rfl
      refine pureZ (some 26) (bz 10 1023) (i := 9) (h := ?_)
      refine done_ (done_of HT_.out qW23x2) ?_
      try go_wp2
      go_roundg k1
      case measure => have := HK1.out; omega
      case rel => exact ⟨(wrap64 (x5_1 + 1)), qW23x1, H', ⟨by have := HK1.out; omega⟩, ⟨zB⟩⟩

end Go.Proofs.YtpnehgajhpejjaaGreatDoor.W
