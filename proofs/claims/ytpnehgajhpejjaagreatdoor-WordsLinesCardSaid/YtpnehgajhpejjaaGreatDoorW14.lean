import Derived.Test.YtpnehgajhpejjaaGreatDoorSq
import Derived.Test.YtpnehgajhpejjaaGreatDoorW0
namespace Go.Proofs.YtpnehgajhpejjaaGreatDoor.W
open Go.RowKit Go.Proofs.YtpnehgajhpejjaaGreatDoorW.PrintWords Go.Proofs.YtpnehgajhpejjaaGreatDoorW.PrintLast Go.Proofs.YtpnehgajhpejjaaGreatDoorW.PrintMore
attribute [local go_sem] max2_int min2_int max_two min_two max_three min_three max_four min_four
set_option linter.unusedVariables false
set_option linter.unusedSimpArgs false
theorem qW14x1 {p : Prop} (h : p := by first | rfl | (simp; done) | (simp [*]; done)) : p := h

/-! ### pledgeref36_digits: function 87 -/
def pledgeref36_digits.l0 : Nat → Int → ByteArray → Option (ByteArray)
  | 0, _, _ => none
  | k + 1, x0, x3 => if x0 ≥ 10 then ((some (([(IntKind.u64.wrap (48 + (Int.tmod (IntKind.u64.wrap (Int.tdiv x0 10)) 10))) % 256] : List Int) : List Int)).bind fun y245 => (if (strOfNums y245).size + x3.size ≤ 9223372036854775807 then (pledgeref36_digits.l0 k (IntKind.u64.wrap (Int.tdiv x0 10)) ((strOfNums y245) ++ x3)) else (none))) else (some x3)
def pledgeref36_digits.f (k : Nat) (a0 : Int) : Option (ByteArray) := pledgeref36_digits.l0 k a0 (strOfNums (([(IntKind.u64.wrap (48 + (Int.tmod a0 10))) % 256] : List Int)))
theorem pledgeref36_digits.mono_l : ∀ k, (∀ y0 y1, LeO (pledgeref36_digits.l0 k y0 y1) (pledgeref36_digits.l0 (k + 1) y0 y1))
  | 0 => fun _ _ r h => by simp [pledgeref36_digits.l0] at h
  | k + 1 => by
    have ih0 := pledgeref36_digits.mono_l k
    · intro y0 y1
      unfold pledgeref36_digits.l0
      repeat' first
      | (with_reducible exact ih0 _ _)
      | (with_reducible exact LeO.refl _)
      | (with_reducible exact LeO.none _)
      | (with_reducible refine LeO.ite ?_ ?_)
      | (with_reducible refine LeO.bind ?_ (fun _ => ?_))
      | exact ih0 _ _
      | exact LeO.none _
      | refine LeO.ite ?_ ?_
      | refine LeO.bind ?_ (fun _ => ?_)
theorem pledgeref36_digits.mono : ∀ a0 k, LeO (pledgeref36_digits.f k a0) (pledgeref36_digits.f (k + 1) a0) := by
  intro a0 k
  have ih0 := pledgeref36_digits.mono_l k
  unfold pledgeref36_digits.f
  repeat' first
      | (with_reducible exact ih0 _ _)
      | (with_reducible exact LeO.refl _)
      | (with_reducible exact LeO.none _)
      | (with_reducible refine LeO.ite ?_ ?_)
      | (with_reducible refine LeO.bind ?_ (fun _ => ?_))
      | exact ih0 _ _
      | exact LeO.none _
      | refine LeO.ite ?_ ?_
      | refine LeO.bind ?_ (fun _ => ?_)
set_option maxHeartbeats 8000000 in
set_option maxRecDepth 100000 in
theorem pledgeref36_digits.calls (k : Nat) (a0 : Int) (r : ByteArray) (w : World) (h : pledgeref36_digits.f k a0 = some r) :
    Calls Tryz.prog 87 #[.int .u64 a0] w fun e w' => e = .returned (.string r) ∧ Below w.heap.size w w' := by
  have HB := Aside0.mk (Below.refl w.heap.size w)
  have H : (pledgeref36_digits.l0 k a0 (strOfNums (([(IntKind.u64.wrap (48 + (Int.tmod a0 10))) % 256] : List Int)))) = some r := h
  clear h
  obtain ⟨y242, hy242⟩ : ∃ y_ : List Int, y_ = (([(IntKind.u64.wrap (48 + (Int.tmod a0 10))) % 256] : List Int)) := ⟨_, rfl⟩
  replace H : (pledgeref36_digits.l0 k a0 (strOfNums y242)) = some r := by first | (rw [hy242]; with_reducible exact H) | (have H2_ := (Option.bind_some _ _).symm.trans H; rw [hy242]; with_reducible exact H2_) | (have H2_ := (Option.bind_some _ _).symm.trans H; with_reducible exact H2_) | with_reducible exact H | (rw [hy242]; exact H) | exact H
  have Ny242 := Aside0.mk hy242
  clear hy242
  have H' := Aside0.mk H
  clear H
  go_enter Tryz.func87, Tryz.ntmps87
  go_wp2_with (first | ((with_reducible refine gate_dst (N := 8) rfl ?_); refine Kd.R_lit (Kd.int .u8) _ 5 ?hg (N := 8) ?hd (xs := ([(IntKind.u64.wrap (48 + (Int.tmod a0 10))) % 256] : List Int)) (inner := [.int .u8 ((IntKind.u64.wrap (48 + (Int.tmod a0 10))) % 256)]) (ok := fun _ => True) (okp := fun _ => True) ?hr ?hp (fun _ hk => hk) trivial (Below.refl _ _) (Nat.le_refl _) (by simp) ?_; (case hd => rfl); (case hg => rfl); (case hr => first | (go_simp; done) | (go_simp; rfl)); (case hp => exact (Reps.one (show Kd.M (Kd.int .u8) _ _ _ ((IntKind.u64.wrap (48 + (Int.tmod a0 10))) % 256) [.int .u8 ((IntKind.u64.wrap (48 + (Int.tmod a0 10))) % 256)] from rfl) (Reps.none _ _))); intro v243 w2 ho3 hb hg_ hnew_; clear hg_ hnew_; (first | rw [← Ny242.out] at ho3 | (simp only [Int.reduceToNat] at ho3; rw [← Ny242.out] at ho3)); have HO244 := Aside0.mk (Kd.R_lower ho3 (below_size zB)); replace HB := zH hb; clear hb ho3; have hcv4 := own_string (P := Tryz.prog) Tryz.underlying23 Tryz.underlying5 Tryz.underlying9 (Kd.own_of_R HO244.out)))
  go_loopg [0, 3] k (fun kq v0 v3 w' => ∃ (x0_1 : Int) (x3_1 : ByteArray), v0 = .int .u64 x0_1 ∧ v3 = .string x3_1 ∧ Aside0 (pledgeref36_digits.l0 kq x0_1 x3_1 = some r) ∧ Aside0 (kq ≤ k) ∧ Aside0 (Below w.heap.size w w'))
  case atStart => exact ⟨(a0), (strOfNums y242), qW14x1, qW14x1, H', ⟨Nat.le_refl _⟩, ⟨zB⟩⟩
  case round =>
    clear H'
    try clear p2
    try clear hcv4
    obtain ⟨x0_1, x3_1, rfl, rfl, HA, HK1, HB⟩ := hrel
    cases gk with
    | zero => exact absurd HA.out (by simp [pledgeref36_digits.l0])
    | succ k1 =>
      have H := HA.out
      clear HA
      simp only [pledgeref36_digits.l0] at H
      by_cases c5 : x0_1 ≥ 10
      rotate_left
      · rw [if_neg c5] at H
        have c5b0 : decide (10 ≤ x0_1) = false := decide_eq_false c5
        clear c5
        obtain rfl := Option.some.inj H
        go_wp2
        go_ret
        exact ⟨zer, zB⟩
      rw [if_pos c5] at H
      have c5b0 := decide_eq_true c5
      clear c5
      obtain ⟨y245, hy245⟩ : ∃ y_ : List Int, y_ = (([(IntKind.u64.wrap (48 + (Int.tmod (IntKind.u64.wrap (Int.tdiv x0_1 10)) 10))) % 256] : List Int)) := ⟨_, rfl⟩
      replace H : (if (strOfNums y245).size + x3_1.size ≤ 9223372036854775807 then (pledgeref36_digits.l0 k1 (IntKind.u64.wrap (Int.tdiv x0_1 10)) ((strOfNums y245) ++ x3_1)) else (none)) = some r := by first | (rw [hy245]; with_reducible exact H) | (have H2_ := (Option.bind_some _ _).symm.trans H; rw [hy245]; with_reducible exact H2_) | (have H2_ := (Option.bind_some _ _).symm.trans H; with_reducible exact H2_) | with_reducible exact H | (rw [hy245]; exact H) | exact H
      have Ny245 := Aside0.mk hy245
      clear hy245
      by_cases c6 : (strOfNums y245).size + x3_1.size ≤ 9223372036854775807
      rotate_left
      · rw [if_neg c6] at H
        exact absurd H (by simp)
      rw [if_pos c6] at H
      have c6b0 := eq_true c6
      have c6b1 := decide_eq_true c6
      try have c6b2 : (9223372036854775807 < (strOfNums y245).size + x3_1.size) = False := eq_false (Nat.not_lt.2 c6)
      have H' := Aside0.mk H
      clear H
      go_wp2_with (first | ((with_reducible refine gate_dst (N := 18) rfl ?_); refine Kd.R_lit (Kd.int .u8) _ 5 ?hg (N := 18) ?hd (xs := ([(IntKind.u64.wrap (48 + (Int.tmod (IntKind.u64.wrap (Int.tdiv x0_1 10)) 10))) % 256] : List Int)) (inner := [.int .u8 ((IntKind.u64.wrap (48 + (Int.tmod (IntKind.u64.wrap (Int.tdiv x0_1 10)) 10))) % 256)]) (ok := fun _ => True) (okp := fun _ => True) ?hr ?hp (fun _ hk => hk) trivial (Below.refl _ _) (Nat.le_refl _) (by simp) ?_; (case hd => rfl); (case hg => rfl); (case hr => first | (go_simp; done) | (go_simp; rfl)); (case hp => exact (Reps.one (show Kd.M (Kd.int .u8) _ _ _ ((IntKind.u64.wrap (48 + (Int.tmod (IntKind.u64.wrap (Int.tdiv x0_1 10)) 10))) % 256) [.int .u8 ((IntKind.u64.wrap (48 + (Int.tmod (IntKind.u64.wrap (Int.tdiv x0_1 10)) 10))) % 256)] from rfl) (Reps.none _ _))); intro v246 w7 ho8 hb hg_ hnew_; clear hg_ hnew_; (first | rw [← Ny245.out] at ho8 | (simp only [Int.reduceToNat] at ho8; rw [← Ny245.out] at ho8)); have HO247 := Aside0.mk (Kd.R_lower ho8 (below_size zB)); replace HB := zH hb; clear hb ho8; have hcv9 := own_string (P := Tryz.prog) Tryz.underlying23 Tryz.underlying5 Tryz.underlying9 (Kd.own_of_R HO247.out)))
      go_roundg k1
      case measure => have := HK1.out; omega
      case rel => exact ⟨(IntKind.u64.wrap (Int.tdiv x0_1 10)), ((strOfNums y245) ++ x3_1), qW14x1, qW14x1, H', ⟨by have := HK1.out; omega⟩, ⟨zB⟩⟩

/-! ### pledgeref36_Digits: function 61 -/
def pledgeref36_Digits.f (k : Nat) (a0 : Int) : Option (ByteArray) := if a0 < 0 then ((pledgeref36_digits.f k (IntKind.u64.wrap ((IntKind.u64.wrap (wrap64 (-(wrap64 (a0 + 1))))) + 1))).bind fun t248 => (if 1 + t248.size ≤ 9223372036854775807 then (some ((⟨#[45]⟩ : ByteArray) ++ t248)) else (none))) else ((pledgeref36_digits.f k (IntKind.u64.wrap (a0))).bind fun t249 => (some t249))
theorem pledgeref36_Digits.mono : ∀ a0 k, LeO (pledgeref36_Digits.f k a0) (pledgeref36_Digits.f (k + 1) a0) := by
  intro a0 k
  unfold pledgeref36_Digits.f
  repeat' first
      | (with_reducible exact pledgeref36_digits.mono _ _)
      | (with_reducible exact LeO.refl _)
      | (with_reducible exact LeO.none _)
      | (with_reducible refine LeO.ite ?_ ?_)
      | (with_reducible refine LeO.bind ?_ (fun _ => ?_))
      | exact pledgeref36_digits.mono _ _
      | exact LeO.none _
      | refine LeO.ite ?_ ?_
      | refine LeO.bind ?_ (fun _ => ?_)
set_option maxHeartbeats 8000000 in
set_option maxRecDepth 100000 in
theorem pledgeref36_Digits.calls (k : Nat) (a0 : Int) (r : ByteArray) (w : World) (h : pledgeref36_Digits.f k a0 = some r) :
    Calls Tryz.prog 61 #[.int .i64 a0] w fun e w' => e = .returned (.string r) ∧ Below w.heap.size w w' := by
  have HB := Aside0.mk (Below.refl w.heap.size w)
  have H : (if a0 < 0 then ((pledgeref36_digits.f k (IntKind.u64.wrap ((IntKind.u64.wrap (wrap64 (-(wrap64 (a0 + 1))))) + 1))).bind fun t248 => (if 1 + t248.size ≤ 9223372036854775807 then (some ((⟨#[45]⟩ : ByteArray) ++ t248)) else (none))) else ((pledgeref36_digits.f k (IntKind.u64.wrap (a0))).bind fun t249 => (some t249))) = some r := h
  clear h
  by_cases c2 : a0 < 0
  focus
    rw [if_pos c2] at H
    have c2b0 := decide_eq_true c2
    clear c2
    obtain ⟨t248, A3, H⟩ := zO H
    try dsimp only at H
    by_cases c4 : 1 + t248.size ≤ 9223372036854775807
    focus
      rw [if_pos c4] at H
      have c4b0 := eq_true c4
      have c4b1 := decide_eq_true c4
      try have c4b2 : (9223372036854775807 < 1 + t248.size) = False := eq_false (Nat.not_lt.2 c4)
      obtain rfl := Option.some.inj H
    rotate_left
    · rw [if_neg c4] at H
      exact absurd H (by simp)
  rotate_left
  rw [if_neg c2] at H
  have c2b0 : decide (a0 < 0) = false := decide_eq_false c2
  clear c2
  obtain ⟨t249, A6, H⟩ := zO H
  try dsimp only at H
  obtain rfl := Option.some.inj H
  all_goals go_enter Tryz.func61, Tryz.ntmps61
  all_goals go_wp2_with (first | ((with_reducible refine gate_callee (f := 87) rfl ?_); refine goesZ (some 10) Tryz.func87 (args := #[.int .u64 (IntKind.u64.wrap ((IntKind.u64.wrap (wrap64 (-(wrap64 (a0 + 1))))) + 1))]) (h := ?_); (with_reducible refine (pledgeref36_digits.calls k (IntKind.u64.wrap ((IntKind.u64.wrap (wrap64 (-(wrap64 (a0 + 1))))) + 1)) t248 _ A3.out).mono ?_); rintro e wx1 ⟨rfl, hb⟩; refine ⟨_, rfl, ?_⟩; replace HB := zH hb; clear hb) | ((with_reducible refine gate_callee (f := 87) rfl ?_); refine goesZ (some 14) Tryz.func87 (args := #[.int .u64 (IntKind.u64.wrap (a0))]) (h := ?_); (with_reducible refine (pledgeref36_digits.calls k (IntKind.u64.wrap (a0)) t249 _ A6.out).mono ?_); rintro e wx1 ⟨rfl, hb⟩; refine ⟨_, rfl, ?_⟩; replace HB := zH hb; clear hb))
  all_goals (go_ret; exact ⟨zer, zB⟩)

/-! ### pledgeref39_num: function 31 -/
def pledgeref39_num.f (k : Nat) (a0 : Int) : Option (ByteArray) := (pledgeref36_Digits.f k a0).bind fun t250 => (if 1 + t250.size ≤ 9223372036854775807 then (some ((⟨#[32]⟩ : ByteArray) ++ t250)) else (none))
theorem pledgeref39_num.mono : ∀ a0 k, LeO (pledgeref39_num.f k a0) (pledgeref39_num.f (k + 1) a0) := by
  intro a0 k
  unfold pledgeref39_num.f
  repeat' first
      | (with_reducible exact pledgeref36_Digits.mono _ _)
      | (with_reducible exact LeO.refl _)
      | (with_reducible exact LeO.none _)
      | (with_reducible refine LeO.ite ?_ ?_)
      | (with_reducible refine LeO.bind ?_ (fun _ => ?_))
      | exact pledgeref36_Digits.mono _ _
      | exact LeO.none _
      | refine LeO.ite ?_ ?_
      | refine LeO.bind ?_ (fun _ => ?_)
set_option maxHeartbeats 8000000 in
set_option maxRecDepth 100000 in
theorem pledgeref39_num.calls (k : Nat) (a0 : Int) (r : ByteArray) (w : World) (h : pledgeref39_num.f k a0 = some r) :
    Calls Tryz.prog 31 #[.int .i64 a0] w fun e w' => e = .returned (.string r) ∧ Below w.heap.size w w' := by
  have HB := Aside0.mk (Below.refl w.heap.size w)
  have H : ((pledgeref36_Digits.f k a0).bind fun t250 => (if 1 + t250.size ≤ 9223372036854775807 then (some ((⟨#[32]⟩ : ByteArray) ++ t250)) else (none))) = some r := h
  clear h
  obtain ⟨t250, A2, H⟩ := zO H
  try dsimp only at H
  by_cases c3 : 1 + t250.size ≤ 9223372036854775807
  rotate_left
  · rw [if_neg c3] at H
    exact absurd H (by simp)
  rw [if_pos c3] at H
  have c3b0 := eq_true c3
  have c3b1 := decide_eq_true c3
  try have c3b2 : (9223372036854775807 < 1 + t250.size) = False := eq_false (Nat.not_lt.2 c3)
  obtain rfl := Option.some.inj H
  go_enter Tryz.func31, Tryz.ntmps31
  go_wp2_with (first | ((with_reducible refine gate_callee (f := 61) rfl ?_); refine goesZ (some 4) Tryz.func61 (args := #[.int .i64 a0]) (h := ?_); (with_reducible refine (pledgeref36_Digits.calls k a0 t250 _ A2.out).mono ?_); rintro e w4 ⟨rfl, hb⟩; refine ⟨_, rfl, ?_⟩; replace HB := zH hb; clear hb))
  go_ret
  exact ⟨zer, zB⟩

end Go.Proofs.YtpnehgajhpejjaaGreatDoor.W
