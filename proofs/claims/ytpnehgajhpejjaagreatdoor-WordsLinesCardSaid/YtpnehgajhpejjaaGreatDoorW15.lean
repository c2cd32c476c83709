import Derived.Test.YtpnehgajhpejjaaGreatDoorSq
import Derived.Test.YtpnehgajhpejjaaGreatDoorW0
import Derived.Test.YtpnehgajhpejjaaGreatDoorW14
namespace Go.Proofs.YtpnehgajhpejjaaGreatDoor.W
open Go.RowKit Go.Proofs.YtpnehgajhpejjaaGreatDoorW.PrintWords Go.Proofs.YtpnehgajhpejjaaGreatDoorW.PrintLast Go.Proofs.YtpnehgajhpejjaaGreatDoorW.PrintMore
attribute [local go_sem] max2_int min2_int max_two min_two max_three min_three max_four min_four
set_option linter.unusedVariables false
set_option linter.unusedSimpArgs false
theorem qW15x1 {p : Prop} (h : p := by kernel_rfl) : p := h
theorem qW15x2 {p : Prop} (h : p := by first | rfl | (simp; done) | (simp [*]; done)) : p := h

/-! ### pledgeref39_Ask: function 29 -/
def pledgeref39_Ask.l0 : Nat → ByteArray → Int → Int → Int → Int → List (S90) → Int → Int → Int → Int → Option (ByteArray)
  | 0, _, _, _, _, _, _, _, _, _, _ => none
  | k + 1, x5, x6, x252000, x252001, x252002, x252003, x252004, x252005, x252006, x252007 => if x6 < (x252003.length : Int) then (if 0 ≤ x6 then ((pledgeref39_num.f k (wrap64 ((rd_T90 x252003 x6).f0))).bind fun t256 => (if x5.size + t256.size ≤ 9223372036854775807 then (if x5.size + t256.size + 1 ≤ 9223372036854775807 then ((pledgeref36_Digits.f k ((rd_T90 x252003 x6).f1)).bind fun t258 => (if x5.size + t256.size + 1 + t258.size ≤ 9223372036854775807 then (pledgeref39_Ask.l0 k (((x5 ++ t256) ++ (⟨#[58]⟩ : ByteArray)) ++ t258) (wrap64 (x6 + 1)) x252000 x252001 x252002 x252003 x252004 x252005 x252006 x252007) else (none))) else (none)) else (none))) else (none)) else (some x5)
def pledgeref39_Ask.f (k : Nat) (a0_0 : Int) (a0_1 : Int) (a0_2 : Int) (l0_3 : List (S90)) (a0_4 : Int) (a0_5 : Int) (a0_6 : Int) (a0_7 : Int) : Option (ByteArray) := (pledgeref39_num.f k (wrap64 (a0_1))).bind fun t252 => ((pledgeref39_num.f k (wrap64 (a0_4))).bind fun t253 => (if a0_0 = 1 then (if 5 + t252.size ≤ 9223372036854775807 then ((pledgeref39_num.f k (wrap64 (a0_2))).bind fun t254 => (if 5 + t252.size + t254.size ≤ 9223372036854775807 then (pledgeref39_Ask.l0 k (((⟨#[112, 108, 97, 99, 101]⟩ : ByteArray) ++ t252) ++ t254) 0 a0_0 a0_1 a0_2 l0_3 a0_4 a0_5 a0_6 a0_7) else (none))) else (none)) else (if a0_0 = 2 then (if 6 + t252.size ≤ 9223372036854775807 then (some ((⟨#[99, 97, 110, 99, 101, 108]⟩ : ByteArray) ++ t252)) else (none)) else (if a0_0 = 3 then (if 4 + t252.size ≤ 9223372036854775807 then (some ((⟨#[115, 104, 105, 112]⟩ : ByteArray) ++ t252)) else (none)) else (if a0_0 = 4 then (if 6 + t252.size ≤ 9223372036854775807 then (some ((⟨#[114, 101, 116, 117, 114, 110]⟩ : ByteArray) ++ t252)) else (none)) else (if a0_0 = 5 then (if 7 + t253.size ≤ 9223372036854775807 then ((pledgeref39_num.f k (wrap64 (a0_6))).bind fun t259 => (if 7 + t253.size + t259.size ≤ 9223372036854775807 then ((pledgeref39_num.f k a0_7).bind fun t260 => (if 7 + t253.size + t259.size + t260.size ≤ 9223372036854775807 then (some ((((⟨#[114, 101, 115, 116, 111, 99, 107]⟩ : ByteArray) ++ t253) ++ t259) ++ t260)) else (none))) else (none))) else (none)) else (if a0_0 = 6 then (if 8 + t253.size ≤ 9223372036854775807 then ((pledgeref39_num.f k (wrap64 (a0_5))).bind fun t261 => (if 8 + t253.size + t261.size ≤ 9223372036854775807 then ((pledgeref39_num.f k (wrap64 (a0_6))).bind fun t262 => (if 8 + t253.size + t261.size + t262.size ≤ 9223372036854775807 then ((pledgeref39_num.f k a0_7).bind fun t263 => (if 8 + t253.size + t261.size + t262.size + t263.size ≤ 9223372036854775807 then (some (((((⟨#[116, 114, 97, 110, 115, 102, 101, 114]⟩ : ByteArray) ++ t253) ++ t261) ++ t262) ++ t263)) else (none))) else (none))) else (none))) else (none)) else (if 5 + t253.size ≤ 9223372036854775807 then (some ((⟨#[113, 117, 101, 114, 121]⟩ : ByteArray) ++ t253)) else (none)))))))))
theorem pledgeref39_Ask.mono_l : ∀ k, (∀ y0 y1 y2 y3 y4 y5 y6 y7 y8 y9, LeO (pledgeref39_Ask.l0 k y0 y1 y2 y3 y4 y5 y6 y7 y8 y9) (pledgeref39_Ask.l0 (k + 1) y0 y1 y2 y3 y4 y5 y6 y7 y8 y9))
  | 0 => fun _ _ _ _ _ _ _ _ _ _ r h => by simp [pledgeref39_Ask.l0] at h
  | k + 1 => by
    have ih0 := pledgeref39_Ask.mono_l k
    · intro y0 y1 y2 y3 y4 y5 y6 y7 y8 y9
      unfold pledgeref39_Ask.l0
      repeat' first
      | (with_reducible exact ih0 _ _ _ _ _ _ _ _ _ _)
      | (with_reducible exact pledgeref36_Digits.mono _ _)
      | (with_reducible exact pledgeref39_num.mono _ _)
      | (with_reducible exact LeO.refl _)
      | (with_reducible exact LeO.none _)
      | (with_reducible refine LeO.ite ?_ ?_)
      | (with_reducible refine LeO.bind ?_ (fun _ => ?_))
      | exact ih0 _ _ _ _ _ _ _ _ _ _
      | exact pledgeref36_Digits.mono _ _
      | exact pledgeref39_num.mono _ _
      | exact LeO.none _
      | refine LeO.ite ?_ ?_
      | refine LeO.bind ?_ (fun _ => ?_)
theorem pledgeref39_Ask.mono : ∀ a0 a1 a2 a3 a4 a5 a6 a7 k, LeO (pledgeref39_Ask.f k a0 a1 a2 a3 a4 a5 a6 a7) (pledgeref39_Ask.f (k + 1) a0 a1 a2 a3 a4 a5 a6 a7) := by
  intro a0 a1 a2 a3 a4 a5 a6 a7 k
  have ih0 := pledgeref39_Ask.mono_l k
  unfold pledgeref39_Ask.f
  repeat' first
      | (with_reducible exact ih0 _ _ _ _ _ _ _ _ _ _)
      | (with_reducible exact pledgeref36_Digits.mono _ _)
      | (with_reducible exact pledgeref39_num.mono _ _)
      | (with_reducible exact LeO.refl _)
      | (with_reducible exact LeO.none _)
      | (with_reducible refine LeO.ite ?_ ?_)
      | (with_reducible refine LeO.bind ?_ (fun _ => ?_))
      | exact ih0 _ _ _ _ _ _ _ _ _ _
      | exact pledgeref36_Digits.mono _ _
      | exact pledgeref39_num.mono _ _
      | exact LeO.none _
      | refine LeO.ite ?_ ?_
      | refine LeO.bind ?_ (fun _ => ?_)
def pledgeref39_Ask.T9 : Bool × List (List Nat × List Nat) := (true, [([], []), ([], []), ([1], [1]), ([], []), ([2, 3], [2, 3]), ([4], [4]), ([5], [5]), ([6], [6]), ([7], [7]), ([0, 8], [0, 8]), ([9], [9]), ([], []), ([11], [11]), ([], []), ([12, 13], [12, 13]), ([14], [14]), ([15], [15]), ([16, 8], [16]), ([10, 17], [10, 17]), ([18, 17, 0, 1, 2, 3, 4, 5, 6, 7, 8, 9, 10, 11, 12, 13, 14, 15, 16, 17, 18], [0, 18])])
def pledgeref39_Ask.B9 : List Nat := [0, 0, 2, 0, 14, 30, 62, 126, 254, 511, 1023, 0, 2048, 0, 14336, 30720, 63488, 129534, 262143, 524287]
theorem pledgeref39_Ask.tab9 : rtab .any (opsOf Tryz.f29 9) = pledgeref39_Ask.T9 := by kernel_rfl
theorem pledgeref39_Ask.bits9 : waitsOk pledgeref39_Ask.T9.2 pledgeref39_Ask.B9 = true := by kernel_rfl
def pledgeref39_Ask.T18 : Bool × List (List Nat × List Nat) := (true, [([], []), ([0], [0]), ([], []), ([2], [2]), ([3], [3]), ([4], [4]), ([1, 5], [1, 5]), ([], []), ([7], [7]), ([8, 5], [8]), ([6, 9], [6, 9]), ([10, 9, 0, 1, 2, 3, 4, 5, 6, 7, 8, 9, 10], [10])])
def pledgeref39_Ask.B18 : List Nat := [0, 1, 0, 4, 12, 28, 63, 0, 128, 444, 1023, 2047]
theorem pledgeref39_Ask.tab18 : rtab .any (opsOf Tryz.f29 18) = pledgeref39_Ask.T18 := by kernel_rfl
theorem pledgeref39_Ask.bits18 : waitsOk pledgeref39_Ask.T18.2 pledgeref39_Ask.B18 = true := by kernel_rfl
def pledgeref39_Ask.T20 : Bool × List (List Nat × List Nat) := (true, [([], []), ([0], [0]), ([], []), ([2], [2]), ([3], [3]), ([4], [4]), ([1, 5], [1, 5]), ([], []), ([7], [7]), ([8], [8]), ([9, 5], [9]), ([6, 10], [6, 10]), ([], []), ([12], [12]), ([13, 10], [13]), ([11, 14], [11, 14]), ([15, 14, 0, 1, 2, 3, 4, 5, 6, 7, 8, 9, 10, 11, 12, 13, 14, 15], [15])])
def pledgeref39_Ask.B20 : List Nat := [0, 1, 0, 4, 12, 28, 63, 0, 128, 384, 956, 2047, 0, 4096, 14268, 32767, 65535]
theorem pledgeref39_Ask.tab20 : rtab .any (opsOf Tryz.f29 20) = pledgeref39_Ask.T20 := by kernel_rfl
theorem pledgeref39_Ask.bits20 : waitsOk pledgeref39_Ask.T20.2 pledgeref39_Ask.B20 = true := by kernel_rfl
set_option maxHeartbeats 8000000 in
set_option maxRecDepth 100000 in
theorem pledgeref39_Ask.calls (k : Nat) (a0_0 : Int) (a0_1 : Int) (a0_2 : Int) (A0_3 : Option Addr) (c0_3 : Nat) (l0_3 : List (S90)) (a0_4 : Int) (a0_5 : Int) (a0_6 : Int) (a0_7 : Int) (r : ByteArray) (w : World) (hr0_3 : Kd.C k90 w A0_3 l0_3.length l0_3) (hc0_3 : l0_3.length ≤ c0_3) (h : pledgeref39_Ask.f k a0_0 a0_1 a0_2 l0_3 a0_4 a0_5 a0_6 a0_7 = some r) :
    Calls Tryz.prog 29 #[.agg #[.int .u8 a0_0, .int .u32 a0_1, .int .u8 a0_2, .slice A0_3 l0_3.length c0_3, .int .u8 a0_4, .int .u8 a0_5, .int .u8 a0_6, .int .i64 a0_7]] w fun e w' => e = .returned (.string r) ∧ Below w.heap.size w w' := by
  have hu51 := Tryz.underlying51
  have HR0_3 := Aside0.mk hr0_3
  have HC0_3 := Aside0.mk hc0_3
  clear hr0_3 hc0_3
  have HB := Aside0.mk (Below.refl w.heap.size w)
  have H : ((pledgeref39_num.f k (wrap64 (a0_1))).bind fun t252 => ((pledgeref39_num.f k (wrap64 (a0_4))).bind fun t253 => (if a0_0 = 1 then (if 5 + t252.size ≤ 9223372036854775807 then ((pledgeref39_num.f k (wrap64 (a0_2))).bind fun t254 => (if 5 + t252.size + t254.size ≤ 9223372036854775807 then (pledgeref39_Ask.l0 k (((⟨#[112, 108, 97, 99, 101]⟩ : ByteArray) ++ t252) ++ t254) 0 a0_0 a0_1 a0_2 l0_3 a0_4 a0_5 a0_6 a0_7) else (none))) else (none)) else (if a0_0 = 2 then (if 6 + t252.size ≤ 9223372036854775807 then (some ((⟨#[99, 97, 110, 99, 101, 108]⟩ : ByteArray) ++ t252)) else (none)) else (if a0_0 = 3 then (if 4 + t252.size ≤ 9223372036854775807 then (some ((⟨#[115, 104, 105, 112]⟩ : ByteArray) ++ t252)) else (none)) else (if a0_0 = 4 then (if 6 + t252.size ≤ 9223372036854775807 then (some ((⟨#[114, 101, 116, 117, 114, 110]⟩ : ByteArray) ++ t252)) else (none)) else (if a0_0 = 5 then (if 7 + t253.size ≤ 9223372036854775807 then ((pledgeref39_num.f k (wrap64 (a0_6))).bind fun t259 => (if 7 + t253.size + t259.size ≤ 9223372036854775807 then ((pledgeref39_num.f k a0_7).bind fun t260 => (if 7 + t253.size + t259.size + t260.size ≤ 9223372036854775807 then (some ((((⟨#[114, 101, 115, 116, 111, 99, 107]⟩ : ByteArray) ++ t253) ++ t259) ++ t260)) else (none))) else (none))) else (none)) else (if a0_0 = 6 then (if 8 + t253.size ≤ 9223372036854775807 then ((pledgeref39_num.f k (wrap64 (a0_5))).bind fun t261 => (if 8 + t253.size + t261.size ≤ 9223372036854775807 then ((pledgeref39_num.f k (wrap64 (a0_6))).bind fun t262 => (if 8 + t253.size + t261.size + t262.size ≤ 9223372036854775807 then ((pledgeref39_num.f k a0_7).bind fun t263 => (if 8 + t253.size + t261.size + t262.size + t263.size ≤ 9223372036854775807 then (some (((((⟨#[116, 114, 97, 110, 115, 102, 101, 114]⟩ : ByteArray) ++ t253) ++ t261) ++ t262) ++ t263)) else (none))) else (none))) else (none))) else (none)) else (if 5 + t253.size ≤ 9223372036854775807 then (some ((⟨#[113, 117, 101, 114, 121]⟩ : ByteArray) ++ t253)) else (none)))))))))) = some r := h
  clear h
  obtain ⟨t252, A2, H⟩ := zO H
  try dsimp only at H
  obtain ⟨t253, A3, H⟩ := zO H
  try dsimp only at H
  by_cases c4 : a0_0 = 1
  · rw [if_pos c4] at H
    obtain ⟨c4b0, c4b1⟩ := zeq c4
    clear c4
    by_cases c5 : 5 + t252.size ≤ 9223372036854775807
    rotate_left
    · rw [if_neg c5] at H
      exact absurd H (by simp)
    rw [if_pos c5] at H
    have c5b0 := eq_true c5
    have c5b1 := decide_eq_true c5
    try have c5b2 : (9223372036854775807 < 5 + t252.size) = False := eq_false (Nat.not_lt.2 c5)
    obtain ⟨t254, A6, H⟩ := zO H
    try dsimp only at H
    by_cases c7 : 5 + t252.size + t254.size ≤ 9223372036854775807
    rotate_left
    · rw [if_neg c7] at H
      exact absurd H (by simp)
    rw [if_pos c7] at H
    have c7b0 := eq_true c7
    have c7b1 := decide_eq_true c7
    try have c7b2 : (9223372036854775807 < 5 + t252.size + t254.size) = False := eq_false (Nat.not_lt.2 c7)
    have H' := Aside0.mk H
    clear H
    go_enter Tryz.func29, Tryz.ntmps29
    go_wp2_with (first | ((with_reducible refine gate_dst (N := 1) rfl ?_); refine zbox (N := 1) (cs := #[.int .u8 a0_0, .int .u32 a0_1, .int .u8 a0_2, .slice A0_3 l0_3.length c0_3, .int .u8 a0_4, .int .u8 a0_5, .int .u8 a0_6, .int .i64 a0_7]) (t := 51) (h := ?_); intro gb251 hg w8 hbox hb; have BK251 := Aside0.mk (hbox); have GW251 := zG (p := w.heap.size ≤ gb251); have GE251 := GW251; replace HB := zH hb; clear hb hbox hg; have hcz9_0 := zcf8 BK251.out) | ((with_reducible refine gate_callee (f := 31) rfl ?_); refine goesZ (some 10) Tryz.func31 (args := #[.int .i64 (wrap64 (a0_1))]) (h := ?_); (with_reducible refine (pledgeref39_num.calls k (wrap64 (a0_1)) t252 _ A2.out).mono ?_); rintro e w10 ⟨rfl, hb⟩; refine ⟨_, rfl, ?_⟩; replace BK251 := zJ BK251 hb; replace HB := zH hb; clear hb; have hcz11_0 := zcf8 BK251.out) | ((with_reducible refine gate_callee (f := 31) rfl ?_); refine goesZ (some 14) Tryz.func31 (args := #[.int .i64 (wrap64 (a0_4))]) (h := ?_); (with_reducible refine (pledgeref39_num.calls k (wrap64 (a0_4)) t253 _ A3.out).mono ?_); rintro e w12 ⟨rfl, hb⟩; refine ⟨_, rfl, ?_⟩; replace BK251 := zJ BK251 hb; replace HB := zH hb; clear hb; have hcz13_0 := zcf8 BK251.out) | ((with_reducible refine gate_callee (f := 31) rfl ?_); refine goesZ (some 24) Tryz.func31 (args := #[.int .i64 (wrap64 (a0_2))]) (h := ?_); (with_reducible refine (pledgeref39_num.calls k (wrap64 (a0_2)) t254 _ A6.out).mono ?_); rintro e w14 ⟨rfl, hb⟩; refine ⟨_, rfl, ?_⟩; replace BK251 := zJ BK251 hb; replace HB := zH hb; clear hb))
    go_loopg [5, 6] k (fun kq v5 v6 w' => ∃ (x5_1 : ByteArray) (x6_1 : Int), v5 = .string x5_1 ∧ v6 = .int .i64 x6_1 ∧ Aside0 (pledgeref39_Ask.l0 kq x5_1 x6_1 a0_0 a0_1 a0_2 l0_3 a0_4 a0_5 a0_6 a0_7 = some r) ∧ Aside0 (kq ≤ k) ∧ Aside0 (w'.heap[gb251]? = some (.cells #[.int .u8 a0_0, .int .u32 a0_1, .int .u8 a0_2, (.slice A0_3 l0_3.length c0_3), .int .u8 a0_4, .int .u8 a0_5, .int .u8 a0_6, .int .i64 a0_7] 51 (0, 0))) ∧ Aside0 (Below w.heap.size w w'))
    case atStart => exact ⟨(((⟨#[112, 108, 97, 99, 101]⟩ : ByteArray) ++ t252) ++ t254), (0), qW15x2, qW15x2, H', ⟨Nat.le_refl _⟩, ⟨by (with_reducible repeat (first | refine blk_drewN ?_ _ | refine blk_drew ?_ | refine blk_alloc ?_ _)); exact BK251.out⟩, ⟨zB⟩⟩
    case round =>
      clear H'
      try clear c2
      try clear p2
      try clear c3
      try clear c4
      try clear c4b0
      try clear c4b1
      try clear c5
      try clear c5b0
      try clear c5b1
      try clear c5b2
      try clear p6
      try clear c7
      try clear c7b0
      try clear c7b1
      try clear c7b2
      try clear hcz11_0
      try clear hcz13_0
      try clear hcz9_0
      obtain ⟨x5_1, x6_1, rfl, rfl, HA, HK1, BK251, HB⟩ := hrel
      cases gk with
      | zero => exact absurd HA.out (by simp [pledgeref39_Ask.l0])
      | succ k1 =>
        have H := HA.out
        clear HA
        simp only [pledgeref39_Ask.l0] at H
        by_cases c15 : x6_1 < (l0_3.length : Int)
        rotate_left
        · rw [if_neg c15] at H
          have c15b0 : decide (x6_1 < (l0_3.length : Int)) = false := decide_eq_false c15
          clear c15
          obtain rfl := Option.some.inj H
          have hcz26_0 := zcf8 BK251.out
          go_wp2
          go_ret
          exact ⟨zer, zB⟩
        rw [if_pos c15] at H
        have c15b0 := decide_eq_true c15
        clear c15
        by_cases c16 : 0 ≤ x6_1
        rotate_left
        · rw [if_neg c16] at H
          exact absurd H (by simp)
        rw [if_pos c16] at H
        have c16b0 := decide_eq_true c16
        clear c16
        obtain ⟨t256, A17, H⟩ := zO H
        try dsimp only at H
        by_cases c18 : x5_1.size + t256.size ≤ 9223372036854775807
        rotate_left
        · rw [if_neg c18] at H
          exact absurd H (by simp)
        rw [if_pos c18] at H
        have c18b0 := eq_true c18
        have c18b1 := decide_eq_true c18
        try have c18b2 : (9223372036854775807 < x5_1.size + t256.size) = False := eq_false (Nat.not_lt.2 c18)
        by_cases c19 : x5_1.size + t256.size + 1 ≤ 9223372036854775807
        rotate_left
        · rw [if_neg c19] at H
          exact absurd H (by simp)
        rw [if_pos c19] at H
        have c19b0 := eq_true c19
        have c19b1 := decide_eq_true c19
        try have c19b2 : (9223372036854775807 < x5_1.size + t256.size + 1) = False := eq_false (Nat.not_lt.2 c19)
        obtain ⟨t258, A20, H⟩ := zO H
        try dsimp only at H
        by_cases c21 : x5_1.size + t256.size + 1 + t258.size ≤ 9223372036854775807
        rotate_left
        · rw [if_neg c21] at H
          exact absurd H (by simp)
        rw [if_pos c21] at H
        have c21b0 := eq_true c21
        have c21b1 := decide_eq_true c21
        try have c21b2 : (9223372036854775807 < x5_1.size + t256.size + 1 + t258.size) = False := eq_false (Nat.not_lt.2 c21)
        have H' := Aside0.mk H
        clear H
        have hcz22_0 := zcf8 BK251.out
        try go_wp2
        replace BK251 := Aside0.mk (blk_drew BK251.out)
        replace HB := Aside0.mk (below_drew1 HB.out)
        have p255 : 0 ≤ (x6_1 : Int) := of_decide_eq_true zas
        have q255 : x6_1 < (l0_3.length : Int) := of_decide_eq_true zas
        obtain ⟨ad255, e255, hx255_0, hx255_1⟩ := at_T90 HR0_3.out x6_1 p255 q255
        have hw255_1 := hx255_1
        have hw255_0 := hx255_0
        cases e255
        replace hx255_0 := (HB.out.cell (World.block_lt_of_cell? w _ hx255_0)).trans hx255_0
        replace hx255_1 := (HB.out.cell (World.block_lt_of_cell? w _ hx255_1)).trans hx255_1
        replace p255 := eq_true p255
        replace q255 := eq_true q255
        have p257 : 0 ≤ (x6_1 : Int) := of_decide_eq_true zas
        have q257 : x6_1 < (l0_3.length : Int) := of_decide_eq_true zas
        obtain ⟨ad257, e257, hx257_0, hx257_1⟩ := at_T90 HR0_3.out x6_1 p257 q257
        have hw257_1 := hx257_1
        have hw257_0 := hx257_0
        obtain rfl : ad255 = ad257 := (by injection e257)
        replace hx257_0 := (HB.out.cell (World.block_lt_of_cell? w _ hx257_0)).trans hx257_0
        replace hx257_1 := (HB.out.cell (World.block_lt_of_cell? w _ hx257_1)).trans hx257_1
        replace p257 := eq_true p257
        replace q257 := eq_true q257
        refine start_ (n := 20) (S := fun w' => w'.cell? ⟨gb251, 0, none⟩ = some (.int .u8 a0_0) ∧ w'.cell? ⟨gb251, 1, none⟩ = some (.int .u32 a0_1) ∧ w'.cell? ⟨gb251, 2, none⟩ = some (.int .u8 a0_2) ∧ w'.cell? ⟨gb251, 3, none⟩ = some (.slice (some ad255) l0_3.length c0_3) ∧ w'.cell? ⟨gb251, 4, none⟩ = some (.int .u8 a0_4) ∧ w'.cell? ⟨gb251, 5, none⟩ = some (.int .u8 a0_5) ∧ w'.cell? ⟨gb251, 6, none⟩ = some (.int .u8 a0_6) ∧ w'.cell? ⟨gb251, 7, none⟩ = some (.int .i64 a0_7) ∧ w'.cell? (ad255.add ((x6_1).toNat * 2)) = some (.int .u8 ((rd_T90 l0_3 x6_1).f0)) ∧ w'.cell? ⟨(ad255.add ((x6_1).toNat * 2)).block, (ad255.add ((x6_1).toNat * 2)).off + 1, none⟩ = some (.int .i64 ((rd_T90 l0_3 x6_1).f1)) ∧ w'.cell? (ad255.add ((x6_1).toNat * 2)) = some (.int .u8 ((rd_T90 l0_3 x6_1).f0)) ∧ w'.cell? ⟨(ad255.add ((x6_1).toNat * 2)).block, (ad255.add ((x6_1).toNat * 2)).off + 1, none⟩ = some (.int .i64 ((rd_T90 l0_3 x6_1).f1))) (ds := []) (bz 20 0) qW15x1 rfl qW15x1 ⟨(blk_cell BK251.out 0).trans rfl, (blk_cell BK251.out 1).trans rfl, (blk_cell BK251.out 2).trans rfl, (blk_cell BK251.out 3).trans rfl, (blk_cell BK251.out 4).trans rfl, (blk_cell BK251.out 5).trans rfl, (blk_cell BK251.out 6).trans rfl, (blk_cell BK251.out 7).trans rfl, ((HB.out.cell (World.block_lt_of_cell? w _ hw255_0)).trans hw255_0), ((HB.out.cell (World.block_lt_of_cell? w _ hw255_1)).trans hw255_1), ((HB.out.cell (World.block_lt_of_cell? w _ hw257_0)).trans hw257_0), ((HB.out.cell (World.block_lt_of_cell? w _ hw257_1)).trans hw257_1)⟩ (fun hHeld => ?_); refine with_tabW pledgeref39_Ask.tab9 pledgeref39_Ask.bits9 (fun HT_ HW_ => ?_)
        generalize wr.drew = w23 at BK251 HB hx255_0 hx255_1 hx257_0 hx257_1 hHeld ⊢
        refine pureZ (some 33) (bz 20 1) (i := 0) (h := ?_); refine pureZ (some 34) (bz 20 3) (i := 1) (h := ?_); refine pureZ (some 36) (bz 20 11) (i := 3) (h := ?_); refine pureZ (some 44) (bz 20 2059) (i := 11) (h := ?_); refine pureZ (some 46) (bz 20 10251) (i := 13) (h := ?_); refine takeZ (some 35) (bz 20 10255) (i := 2) (h := ?_); refine pureZ (some 37) (bz 20 10271) (i := 4) (h := ?_); refine pureZ (some 38) (bz 20 10303) (i := 5) (h := ?_); refine takeZ (some 39) (bz 20 10367) (i := 6) (h := ?_); refine pureZ (some 40) (bz 20 10495) (i := 7) (h := ?_); refine takeZ (some 45) (bz 20 14591) (i := 12) (h := ?_); refine pureZ (some 47) (bz 20 30975) (i := 14) (h := ?_); refine pureZ (some 48) (bz 20 63743) (i := 15) (h := ?_); refine takeZ (some 49) (bz 20 129279) (i := 16) (h := ?_)
        refine one_ (i := 8) (N := some 41) (bz 20 129535) rfl rfl (one_of HT_.out qW15x1) (by decide) (fun K hK => ?_)
        refine goes_ Tryz.func31 qW15x1 rfl #[.int .i64 (wrap64 ((rd_T90 l0_3 x6_1).f0))] (by rfl) rfl rfl zA ?_
        with_reducible refine (pledgeref39_num.calls k1 (wrap64 ((rd_T90 l0_3 x6_1).f0)) t256 _ A17.out).mono ?_
        rintro e w24 ⟨rfl, hb⟩
        refine ⟨_, rfl, ?_⟩
        replace BK251 := zJ BK251 hb
        replace HB := zH hb
        refine hK.out _ _ ⟨(blk_cell BK251.out 0).trans rfl, (blk_cell BK251.out 1).trans rfl, (blk_cell BK251.out 2).trans rfl, (blk_cell BK251.out 3).trans rfl, (blk_cell BK251.out 4).trans rfl, (blk_cell BK251.out 5).trans rfl, (blk_cell BK251.out 6).trans rfl, (blk_cell BK251.out 7).trans rfl, ((HB.out.cell (World.block_lt_of_cell? w _ hw255_0)).trans hw255_0), ((HB.out.cell (World.block_lt_of_cell? w _ hw255_1)).trans hw255_1), ((HB.out.cell (World.block_lt_of_cell? w _ hw257_0)).trans hw257_0), ((HB.out.cell (World.block_lt_of_cell? w _ hw257_1)).trans hw257_1)⟩ (fun hHeld => ?_)
        clear hK K
        refine norm_ (a' := ?_) ?_ ?_
        rotate_left
        · show Act.put _ (some 41) _ = _
          simp only [Act.put, List.setIfInBounds_toArray, List.set_cons_zero, List.set_cons_succ, i64_w, i32_w]
          rfl
        refine pureZ (some 42) (bz 20 130047) (i := 9) (h := ?_); refine pureZ (some 43) (bz 20 131071) (i := 10) (h := ?_)
        refine one_ (i := 17) (N := some 50) (bz 20 262143) rfl rfl (one_of HT_.out qW15x1) (by decide) (fun K hK => ?_)
        refine goes_ Tryz.func61 qW15x1 rfl #[.int .i64 ((rd_T90 l0_3 x6_1).f1)] (by rfl) rfl rfl zA ?_
        with_reducible refine (pledgeref36_Digits.calls k1 ((rd_T90 l0_3 x6_1).f1) t258 _ A20.out).mono ?_
        rintro e w25 ⟨rfl, hb⟩
        refine ⟨_, rfl, ?_⟩
        replace BK251 := zJ BK251 hb
        replace HB := zH hb
        refine hK.out _ _ ⟨(blk_cell BK251.out 0).trans rfl, (blk_cell BK251.out 1).trans rfl, (blk_cell BK251.out 2).trans rfl, (blk_cell BK251.out 3).trans rfl, (blk_cell BK251.out 4).trans rfl, (blk_cell BK251.out 5).trans rfl, (blk_cell BK251.out 6).trans rfl, (blk_cell BK251.out 7).trans rfl, ((HB.out.cell (World.block_lt_of_cell? w _ hw255_0)).trans hw255_0), ((HB.out.cell (World.block_lt_of_cell? w _ hw255_1)).trans hw255_1), ((HB.out.cell (World.block_lt_of_cell? w _ hw257_0)).trans hw257_0), ((HB.out.cell (World.block_lt_of_cell? w _ hw257_1)).trans hw257_1)⟩ (fun hHeld => ?_)
        clear hK K
        refine norm_ (a' := ?_) ?_ ?_
        rotate_left
        · show Act.put _ (some 50) _ = _
          simp only [Act.put, List.setIfInBounds_toArray, List.set_cons_zero, List.set_cons_succ, i64_w, i32_w]
          rfl
        refine pureZ (some 51) (bz 20 524287) (i := 18) (h := ?_); refine pureZ (some 5) (bz 20 1048575) (i := 19) (h := ?_)
        refine done_ (done_of HT_.out qW15x1) ?_
        try go_wp2
        go_roundg k1
        case measure => have := HK1.out; omega
        case rel => exact ⟨(((x5_1 ++ t256) ++ (⟨#[58]⟩ : ByteArray)) ++ t258), (wrap64 (x6_1 + 1)), qW15x2, qW15x2, H', ⟨by have := HK1.out; omega⟩, ⟨by (with_reducible repeat (first | refine blk_drewN ?_ _ | refine blk_drew ?_ | refine blk_alloc ?_ _)); exact BK251.out⟩, ⟨zB⟩⟩
  rw [if_neg c4] at H
  obtain ⟨c4b0, c4b1⟩ := zne c4
  by_cases c27 : a0_0 = 2
  focus
    rw [if_pos c27] at H
    obtain ⟨c27b0, c27b1⟩ := zeq c27
    clear c27
    by_cases c28 : 6 + t252.size ≤ 9223372036854775807
    focus
      rw [if_pos c28] at H
      have c28b0 := eq_true c28
      have c28b1 := decide_eq_true c28
      try have c28b2 : (9223372036854775807 < 6 + t252.size) = False := eq_false (Nat.not_lt.2 c28)
      obtain rfl := Option.some.inj H
    rotate_left
    · rw [if_neg c28] at H
      exact absurd H (by simp)
  rotate_left
  rw [if_neg c27] at H
  obtain ⟨c27b0, c27b1⟩ := zne c27
  by_cases c35 : a0_0 = 3
  focus
    rw [if_pos c35] at H
    obtain ⟨c35b0, c35b1⟩ := zeq c35
    clear c35
    by_cases c36 : 4 + t252.size ≤ 9223372036854775807
    focus
      rw [if_pos c36] at H
      have c36b0 := eq_true c36
      have c36b1 := decide_eq_true c36
      try have c36b2 : (9223372036854775807 < 4 + t252.size) = False := eq_false (Nat.not_lt.2 c36)
      obtain rfl := Option.some.inj H
    rotate_left
    · rw [if_neg c36] at H
      exact absurd H (by simp)
  rotate_left
  rw [if_neg c35] at H
  obtain ⟨c35b0, c35b1⟩ := zne c35
  by_cases c43 : a0_0 = 4
  focus
    rw [if_pos c43] at H
    obtain ⟨c43b0, c43b1⟩ := zeq c43
    clear c43
    by_cases c44 : 6 + t252.size ≤ 9223372036854775807
    focus
      rw [if_pos c44] at H
      have c44b0 := eq_true c44
      have c44b1 := decide_eq_true c44
      try have c44b2 : (9223372036854775807 < 6 + t252.size) = False := eq_false (Nat.not_lt.2 c44)
      obtain rfl := Option.some.inj H
    rotate_left
    · rw [if_neg c44] at H
      exact absurd H (by simp)
  rotate_left
  rw [if_neg c43] at H
  obtain ⟨c43b0, c43b1⟩ := zne c43
  by_cases c51 : a0_0 = 5
  · rw [if_pos c51] at H
    obtain ⟨c51b0, c51b1⟩ := zeq c51
    clear c51
    by_cases c52 : 7 + t253.size ≤ 9223372036854775807
    rotate_left
    · rw [if_neg c52] at H
      exact absurd H (by simp)
    rw [if_pos c52] at H
    have c52b0 := eq_true c52
    have c52b1 := decide_eq_true c52
    try have c52b2 : (9223372036854775807 < 7 + t253.size) = False := eq_false (Nat.not_lt.2 c52)
    obtain ⟨t259, A53, H⟩ := zO H
    try dsimp only at H
    by_cases c54 : 7 + t253.size + t259.size ≤ 9223372036854775807
    rotate_left
    · rw [if_neg c54] at H
      exact absurd H (by simp)
    rw [if_pos c54] at H
    have c54b0 := eq_true c54
    have c54b1 := decide_eq_true c54
    try have c54b2 : (9223372036854775807 < 7 + t253.size + t259.size) = False := eq_false (Nat.not_lt.2 c54)
    obtain ⟨t260, A55, H⟩ := zO H
    try dsimp only at H
    by_cases c56 : 7 + t253.size + t259.size + t260.size ≤ 9223372036854775807
    rotate_left
    · rw [if_neg c56] at H
      exact absurd H (by simp)
    rw [if_pos c56] at H
    have c56b0 := eq_true c56
    have c56b1 := decide_eq_true c56
    try have c56b2 : (9223372036854775807 < 7 + t253.size + t259.size + t260.size) = False := eq_false (Nat.not_lt.2 c56)
    obtain rfl := Option.some.inj H
    go_enter Tryz.func29, Tryz.ntmps29
    try go_wp2_with (first | ((with_reducible refine gate_dst (N := 1) rfl ?_); refine zbox (N := 1) (cs := #[.int .u8 a0_0, .int .u32 a0_1, .int .u8 a0_2, .slice A0_3 l0_3.length c0_3, .int .u8 a0_4, .int .u8 a0_5, .int .u8 a0_6, .int .i64 a0_7]) (t := 51) (h := ?_); intro gb251 hg w57 hbox hb; have BK251 := Aside0.mk (hbox); have GW251 := zG (p := w.heap.size ≤ gb251); have GE251 := GW251; replace HB := zH hb; clear hb hbox hg; have hcz58_0 := zcf8 BK251.out) | ((with_reducible refine gate_callee (f := 31) rfl ?_); refine goesZ (some 10) Tryz.func31 (args := #[.int .i64 (wrap64 (a0_1))]) (h := ?_); (with_reducible refine (pledgeref39_num.calls k (wrap64 (a0_1)) t252 _ A2.out).mono ?_); rintro e w59 ⟨rfl, hb⟩; refine ⟨_, rfl, ?_⟩; replace BK251 := zJ BK251 hb; replace HB := zH hb; clear hb; have hcz60_0 := zcf8 BK251.out) | ((with_reducible refine gate_callee (f := 31) rfl ?_); refine goesZ (some 14) Tryz.func31 (args := #[.int .i64 (wrap64 (a0_4))]) (h := ?_); (with_reducible refine (pledgeref39_num.calls k (wrap64 (a0_4)) t253 _ A3.out).mono ?_); rintro e w61 ⟨rfl, hb⟩; refine ⟨_, rfl, ?_⟩; replace BK251 := zJ BK251 hb; replace HB := zH hb; clear hb; have hcz62_0 := zcf8 BK251.out))
    replace BK251 := Aside0.mk (blk_drew BK251.out)
    replace HB := Aside0.mk (below_drew1 HB.out)
    refine start_ (n := 12) (S := fun w' => w'.cell? ⟨gb251, 0, none⟩ = some (.int .u8 a0_0) ∧ w'.cell? ⟨gb251, 1, none⟩ = some (.int .u32 a0_1) ∧ w'.cell? ⟨gb251, 2, none⟩ = some (.int .u8 a0_2) ∧ w'.cell? ⟨gb251, 3, none⟩ = some (.slice A0_3 l0_3.length c0_3) ∧ w'.cell? ⟨gb251, 4, none⟩ = some (.int .u8 a0_4) ∧ w'.cell? ⟨gb251, 5, none⟩ = some (.int .u8 a0_5) ∧ w'.cell? ⟨gb251, 6, none⟩ = some (.int .u8 a0_6) ∧ w'.cell? ⟨gb251, 7, none⟩ = some (.int .i64 a0_7)) (ds := []) (bz 12 0) qW15x1 rfl qW15x1 ⟨(blk_cell BK251.out 0).trans rfl, (blk_cell BK251.out 1).trans rfl, (blk_cell BK251.out 2).trans rfl, (blk_cell BK251.out 3).trans rfl, (blk_cell BK251.out 4).trans rfl, (blk_cell BK251.out 5).trans rfl, (blk_cell BK251.out 6).trans rfl, (blk_cell BK251.out 7).trans rfl⟩ (fun hHeld => ?_); refine with_tabW pledgeref39_Ask.tab18 pledgeref39_Ask.bits18 (fun HT_ HW_ => ?_)
    generalize w61.drew = w63 at BK251 HB hHeld ⊢
    refine pureZ (some 67) (bz 12 1) (i := 0) (h := ?_); refine pureZ (some 68) (bz 12 3) (i := 1) (h := ?_); refine pureZ (some 69) (bz 12 7) (i := 2) (h := ?_); refine pureZ (some 74) (bz 12 135) (i := 7) (h := ?_); refine takeZ (some 70) (bz 12 143) (i := 3) (h := ?_); refine pureZ (some 71) (bz 12 159) (i := 4) (h := ?_); refine takeZ (some 75) (bz 12 415) (i := 8) (h := ?_)
    refine one_ (i := 5) (N := some 72) (bz 12 447) rfl rfl (one_of HT_.out qW15x1) (by decide) (fun K hK => ?_)
    refine goes_ Tryz.func31 qW15x1 rfl #[.int .i64 (wrap64 (a0_6))] (by rfl) rfl rfl zA ?_
    with_reducible refine (pledgeref39_num.calls k (wrap64 (a0_6)) t259 _ A53.out).mono ?_
    rintro e w64 ⟨rfl, hb⟩
    refine ⟨_, rfl, ?_⟩
    replace BK251 := zJ BK251 hb
    replace HB := zH hb
    refine hK.out _ _ ⟨(blk_cell BK251.out 0).trans rfl, (blk_cell BK251.out 1).trans rfl, (blk_cell BK251.out 2).trans rfl, (blk_cell BK251.out 3).trans rfl, (blk_cell BK251.out 4).trans rfl, (blk_cell BK251.out 5).trans rfl, (blk_cell BK251.out 6).trans rfl, (blk_cell BK251.out 7).trans rfl⟩ (fun hHeld => ?_)
    clear hK K
    refine norm_ (a' := ?_) ?_ ?_
    rotate_left
    · show Act.put _ (some 72) _ = _
      simp only [Act.put, List.setIfInBounds_toArray, List.set_cons_zero, List.set_cons_succ, i64_w, i32_w]
      rfl
    refine pureZ (some 73) (bz 12 511) (i := 6) (h := ?_)
    refine one_ (i := 9) (N := some 76) (bz 12 1023) rfl rfl (one_of HT_.out qW15x1) (by decide) (fun K hK => ?_)
    refine goes_ Tryz.func31 qW15x1 rfl #[.int .i64 a0_7] (by rfl) rfl rfl zA ?_
    with_reducible refine (pledgeref39_num.calls k a0_7 t260 _ A55.out).mono ?_
    rintro e w65 ⟨rfl, hb⟩
    refine ⟨_, rfl, ?_⟩
    replace BK251 := zJ BK251 hb
    replace HB := zH hb
    refine hK.out _ _ ⟨(blk_cell BK251.out 0).trans rfl, (blk_cell BK251.out 1).trans rfl, (blk_cell BK251.out 2).trans rfl, (blk_cell BK251.out 3).trans rfl, (blk_cell BK251.out 4).trans rfl, (blk_cell BK251.out 5).trans rfl, (blk_cell BK251.out 6).trans rfl, (blk_cell BK251.out 7).trans rfl⟩ (fun hHeld => ?_)
    clear hK K
    refine norm_ (a' := ?_) ?_ ?_
    rotate_left
    · show Act.put _ (some 76) _ = _
      simp only [Act.put, List.setIfInBounds_toArray, List.set_cons_zero, List.set_cons_succ, i64_w, i32_w]
      rfl
    refine pureZ (some 77) (bz 12 2047) (i := 10) (h := ?_); refine pureZ (some 2) (bz 12 4095) (i := 11) (h := ?_)
    refine done_ (done_of HT_.out qW15x1) ?_
    try go_wp2
    go_ret
    exact ⟨zer, zB⟩
  rw [if_neg c51] at H
  obtain ⟨c51b0, c51b1⟩ := zne c51
  by_cases c66 : a0_0 = 6
  · rw [if_pos c66] at H
    obtain ⟨c66b0, c66b1⟩ := zeq c66
    clear c66
    by_cases c67 : 8 + t253.size ≤ 9223372036854775807
    rotate_left
    · rw [if_neg c67] at H
      exact absurd H (by simp)
    rw [if_pos c67] at H
    have c67b0 := eq_true c67
    have c67b1 := decide_eq_true c67
    try have c67b2 : (9223372036854775807 < 8 + t253.size) = False := eq_false (Nat.not_lt.2 c67)
    obtain ⟨t261, A68, H⟩ := zO H
    try dsimp only at H
    by_cases c69 : 8 + t253.size + t261.size ≤ 9223372036854775807
    rotate_left
    · rw [if_neg c69] at H
      exact absurd H (by simp)
    rw [if_pos c69] at H
    have c69b0 := eq_true c69
    have c69b1 := decide_eq_true c69
    try have c69b2 : (9223372036854775807 < 8 + t253.size + t261.size) = False := eq_false (Nat.not_lt.2 c69)
    obtain ⟨t262, A70, H⟩ := zO H
    try dsimp only at H
    by_cases c71 : 8 + t253.size + t261.size + t262.size ≤ 9223372036854775807
    rotate_left
    · rw [if_neg c71] at H
      exact absurd H (by simp)
    rw [if_pos c71] at H
    have c71b0 := eq_true c71
    have c71b1 := decide_eq_true c71
    try have c71b2 : (9223372036854775807 < 8 + t253.size + t261.size + t262.size) = False := eq_false (Nat.not_lt.2 c71)
    obtain ⟨t263, A72, H⟩ := zO H
    try dsimp only at H
    by_cases c73 : 8 + t253.size + t261.size + t262.size + t263.size ≤ 9223372036854775807
    rotate_left
    · rw [if_neg c73] at H
      exact absurd H (by simp)
    rw [if_pos c73] at H
    have c73b0 := eq_true c73
    have c73b1 := decide_eq_true c73
    try have c73b2 : (9223372036854775807 < 8 + t253.size + t261.size + t262.size + t263.size) = False := eq_false (Nat.not_lt.2 c73)
    obtain rfl := Option.some.inj H
    go_enter Tryz.func29, Tryz.ntmps29
    try go_wp2_with (first | ((with_reducible refine gate_dst (N := 1) rfl ?_); refine zbox (N := 1) (cs := #[.int .u8 a0_0, .int .u32 a0_1, .int .u8 a0_2, .slice A0_3 l0_3.length c0_3, .int .u8 a0_4, .int .u8 a0_5, .int .u8 a0_6, .int .i64 a0_7]) (t := 51) (h := ?_); intro gb251 hg w74 hbox hb; have BK251 := Aside0.mk (hbox); have GW251 := zG (p := w.heap.size ≤ gb251); have GE251 := GW251; replace HB := zH hb; clear hb hbox hg; have hcz75_0 := zcf8 BK251.out) | ((with_reducible refine gate_callee (f := 31) rfl ?_); refine goesZ (some 10) Tryz.func31 (args := #[.int .i64 (wrap64 (a0_1))]) (h := ?_); (with_reducible refine (pledgeref39_num.calls k (wrap64 (a0_1)) t252 _ A2.out).mono ?_); rintro e w76 ⟨rfl, hb⟩; refine ⟨_, rfl, ?_⟩; replace BK251 := zJ BK251 hb; replace HB := zH hb; clear hb; have hcz77_0 := zcf8 BK251.out) | ((with_reducible refine gate_callee (f := 31) rfl ?_); refine goesZ (some 14) Tryz.func31 (args := #[.int .i64 (wrap64 (a0_4))]) (h := ?_); (with_reducible refine (pledgeref39_num.calls k (wrap64 (a0_4)) t253 _ A3.out).mono ?_); rintro e w78 ⟨rfl, hb⟩; refine ⟨_, rfl, ?_⟩; replace BK251 := zJ BK251 hb; replace HB := zH hb; clear hb; have hcz79_0 := zcf8 BK251.out))
    replace BK251 := Aside0.mk (blk_drew BK251.out)
    replace HB := Aside0.mk (below_drew1 HB.out)
    refine start_ (n := 17) (S := fun w' => w'.cell? ⟨gb251, 0, none⟩ = some (.int .u8 a0_0) ∧ w'.cell? ⟨gb251, 1, none⟩ = some (.int .u32 a0_1) ∧ w'.cell? ⟨gb251, 2, none⟩ = some (.int .u8 a0_2) ∧ w'.cell? ⟨gb251, 3, none⟩ = some (.slice A0_3 l0_3.length c0_3) ∧ w'.cell? ⟨gb251, 4, none⟩ = some (.int .u8 a0_4) ∧ w'.cell? ⟨gb251, 5, none⟩ = some (.int .u8 a0_5) ∧ w'.cell? ⟨gb251, 6, none⟩ = some (.int .u8 a0_6) ∧ w'.cell? ⟨gb251, 7, none⟩ = some (.int .i64 a0_7)) (ds := []) (bz 17 0) qW15x1 rfl qW15x1 ⟨(blk_cell BK251.out 0).trans rfl, (blk_cell BK251.out 1).trans rfl, (blk_cell BK251.out 2).trans rfl, (blk_cell BK251.out 3).trans rfl, (blk_cell BK251.out 4).trans rfl, (blk_cell BK251.out 5).trans rfl, (blk_cell BK251.out 6).trans rfl, (blk_cell BK251.out 7).trans rfl⟩ (fun hHeld => ?_); refine with_tabW pledgeref39_Ask.tab20 pledgeref39_Ask.bits20 (fun HT_ HW_ => ?_)
    generalize w78.drew = w80 at BK251 HB hHeld ⊢
    refine pureZ (some 80) (bz 17 1) (i := 0) (h := ?_); refine pureZ (some 81) (bz 17 3) (i := 1) (h := ?_); refine pureZ (some 82) (bz 17 7) (i := 2) (h := ?_); refine pureZ (some 87) (bz 17 135) (i := 7) (h := ?_); refine pureZ (some 92) (bz 17 4231) (i := 12) (h := ?_); refine takeZ (some 83) (bz 17 4239) (i := 3) (h := ?_); refine pureZ (some 84) (bz 17 4255) (i := 4) (h := ?_); refine takeZ (some 88) (bz 17 4511) (i := 8) (h := ?_); refine pureZ (some 89) (bz 17 5023) (i := 9) (h := ?_); refine takeZ (some 93) (bz 17 13215) (i := 13) (h := ?_)
    refine one_ (i := 5) (N := some 85) (bz 17 13247) rfl rfl (one_of HT_.out qW15x1) (by decide) (fun K hK => ?_)
    refine goes_ Tryz.func31 qW15x1 rfl #[.int .i64 (wrap64 (a0_5))] (by rfl) rfl rfl zA ?_
    with_reducible refine (pledgeref39_num.calls k (wrap64 (a0_5)) t261 _ A68.out).mono ?_
    rintro e w81 ⟨rfl, hb⟩
    refine ⟨_, rfl, ?_⟩
    replace BK251 := zJ BK251 hb
    replace HB := zH hb
    refine hK.out _ _ ⟨(blk_cell BK251.out 0).trans rfl, (blk_cell BK251.out 1).trans rfl, (blk_cell BK251.out 2).trans rfl, (blk_cell BK251.out 3).trans rfl, (blk_cell BK251.out 4).trans rfl, (blk_cell BK251.out 5).trans rfl, (blk_cell BK251.out 6).trans rfl, (blk_cell BK251.out 7).trans rfl⟩ (fun hHeld => ?_)
    clear hK K
    refine norm_ (a' := ?_) ?_ ?_
    rotate_left
    · show Act.put _ (some 85) _ = _
      simp only [Act.put, List.setIfInBounds_toArray, List.set_cons_zero, List.set_cons_succ, i64_w, i32_w]
      rfl
    refine pureZ (some 86) (bz 17 13311) (i := 6) (h := ?_)
    refine one_ (i := 10) (N := some 90) (bz 17 14335) rfl rfl (one_of HT_.out qW15x1) (by decide) (fun K hK => ?_)
    refine goes_ Tryz.func31 qW15x1 rfl #[.int .i64 (wrap64 (a0_6))] (by rfl) rfl rfl zA ?_
    with_reducible refine (pledgeref39_num.calls k (wrap64 (a0_6)) t262 _ A70.out).mono ?_
    rintro e w82 ⟨rfl, hb⟩
    refine ⟨_, rfl, ?_⟩
    replace BK251 := zJ BK251 hb
    replace HB := zH hb
    refine hK.out _ _ ⟨(blk_cell BK251.out 0).trans rfl, (blk_cell BK251.out 1).trans rfl, (blk_cell BK251.out 2).trans rfl, (blk_cell BK251.out 3).trans rfl, (blk_cell BK251.out 4).trans rfl, (blk_cell BK251.out 5).trans rfl, (blk_cell BK251.out 6).trans rfl, (blk_cell BK251.out 7).trans rfl⟩ (fun hHeld => ?_)
    clear hK K
    refine norm_ (a' := ?_) ?_ ?_
    rotate_left
    · show Act.put _ (some 90) _ = _
      simp only [Act.put, List.setIfInBounds_toArray, List.set_cons_zero, List.set_cons_succ, i64_w, i32_w]
      rfl
    refine pureZ (some 91) (bz 17 16383) (i := 11) (h := ?_)
    refine one_ (i := 14) (N := some 94) (bz 17 32767) rfl rfl (one_of HT_.out qW15x1) (by decide) (fun K hK => ?_)
    refine goes_ Tryz.func31 qW15x1 rfl #[.int .i64 a0_7] (by rfl) rfl rfl zA ?_
    with_reducible refine (pledgeref39_num.calls k a0_7 t263 _ A72.out).mono ?_
    rintro e w83 ⟨rfl, hb⟩
    refine ⟨_, rfl, ?_⟩
    replace BK251 := zJ BK251 hb
    replace HB := zH hb
    refine hK.out _ _ ⟨(blk_cell BK251.out 0).trans rfl, (blk_cell BK251.out 1).trans rfl, (blk_cell BK251.out 2).trans rfl, (blk_cell BK251.out 3).trans rfl, (blk_cell BK251.out 4).trans rfl, (blk_cell BK251.out 5).trans rfl, (blk_cell BK251.out 6).trans rfl, (blk_cell BK251.out 7).trans rfl⟩ (fun hHeld => ?_)
    clear hK K
    refine norm_ (a' := ?_) ?_ ?_
    rotate_left
    · show Act.put _ (some 94) _ = _
      simp only [Act.put, List.setIfInBounds_toArray, List.set_cons_zero, List.set_cons_succ, i64_w, i32_w]
      rfl
    refine pureZ (some 95) (bz 17 65535) (i := 15) (h := ?_); refine pureZ (some 2) (bz 17 131071) (i := 16) (h := ?_)
    refine done_ (done_of HT_.out qW15x1) ?_
    try go_wp2
    go_ret
    exact ⟨zer, zB⟩
  rw [if_neg c66] at H
  obtain ⟨c66b0, c66b1⟩ := zne c66
  by_cases c84 : 5 + t253.size ≤ 9223372036854775807
  focus
    rw [if_pos c84] at H
    have c84b0 := eq_true c84
    have c84b1 := decide_eq_true c84
    try have c84b2 : (9223372036854775807 < 5 + t253.size) = False := eq_false (Nat.not_lt.2 c84)
    obtain rfl := Option.some.inj H
  rotate_left
  · rw [if_neg c84] at H
    exact absurd H (by simp)
  all_goals go_enter Tryz.func29, Tryz.ntmps29
  all_goals go_wp2_with (first | ((with_reducible refine gate_dst (N := 1) rfl ?_); refine zbox (N := 1) (cs := #[.int .u8 a0_0, .int .u32 a0_1, .int .u8 a0_2, .slice A0_3 l0_3.length c0_3, .int .u8 a0_4, .int .u8 a0_5, .int .u8 a0_6, .int .i64 a0_7]) (t := 51) (h := ?_); intro gb251 hg wx1 hbox hb; have BK251 := Aside0.mk (hbox); have GW251 := zG (p := w.heap.size ≤ gb251); have GE251 := GW251; replace HB := zH hb; clear hb hbox hg; have hczx1 := zcf8 BK251.out) | ((with_reducible refine gate_callee (f := 31) rfl ?_); refine goesZ (some 10) Tryz.func31 (args := #[.int .i64 (wrap64 (a0_1))]) (h := ?_); (with_reducible refine (pledgeref39_num.calls k (wrap64 (a0_1)) t252 _ A2.out).mono ?_); rintro e wx2 ⟨rfl, hb⟩; refine ⟨_, rfl, ?_⟩; replace BK251 := zJ BK251 hb; replace HB := zH hb; clear hb; have hczx2 := zcf8 BK251.out) | ((with_reducible refine gate_callee (f := 31) rfl ?_); refine goesZ (some 14) Tryz.func31 (args := #[.int .i64 (wrap64 (a0_4))]) (h := ?_); (with_reducible refine (pledgeref39_num.calls k (wrap64 (a0_4)) t253 _ A3.out).mono ?_); rintro e wx3 ⟨rfl, hb⟩; refine ⟨_, rfl, ?_⟩; replace BK251 := zJ BK251 hb; replace HB := zH hb; clear hb; have hczx3 := zcf8 BK251.out))
  all_goals (go_ret; exact ⟨zer, zB⟩)

end Go.Proofs.YtpnehgajhpejjaaGreatDoor.W
