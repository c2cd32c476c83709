import Derived.Test.YtpnehgajhpejjaaGreatDoorSq
import Derived.Test.YtpnehgajhpejjaaGreatDoorW0
import Derived.Test.YtpnehgajhpejjaaGreatDoorW6
import Derived.Test.YtpnehgajhpejjaaGreatDoorW8
import Derived.Test.YtpnehgajhpejjaaGreatDoorW9
namespace Go.Proofs.YtpnehgajhpejjaaGreatDoor.W
open Go.RowKit Go.Proofs.YtpnehgajhpejjaaGreatDoorW.PrintWords Go.Proofs.YtpnehgajhpejjaaGreatDoorW.PrintLast Go.Proofs.YtpnehgajhpejjaaGreatDoorW.PrintMore
attribute [local go_sem] max2_int min2_int max_two min_two max_three min_three max_four min_four
set_option linter.unusedVariables false
set_option linter.unusedSimpArgs false
theorem qW10x1 {p : Prop} (h : p := by kernel_rfl) : p := h
theorem qW10x2 {p : Prop} (h : p := by omega) : p := h
/-! ### words_guess: function 19 -/
def words_guess.l0 : Nat → ByteArray → Int → Int → Int → Int → List Int → Option (Int × Int × Int × Int × List Int)
  | 0, _, _, _, _, _, _ => none
  | k + 1, x4, x194000, x194001, x194002, x194003, x194004 => if (x4.size : Int) ≥ 2 then (if 0 < (x4.size : Int) then ((words_nibble.f (bt x4 0)).bind fun t196 => (if 1 < (x4.size : Int) then ((words_nibble.f (bt x4 1)).bind fun t197 => (if x194004.length < 140737488355328 then (if 2 ≤ (x4.size : Int) then (words_guess.l0 k (x4.extract 2 x4.size) x194000 x194001 x194002 x194003 (x194004 ++ [Go.bits .or .u8 ((t196 * 16) % 256) t197])) else (none)) else (none))) else (none))) else (none)) else (some (x194000, x194001, x194002, x194003, x194004))
def words_guess.f (k : Nat) (l0 : List ByteArray) : Option (Int × Int × Int × Int × List Int) := if 0 < (l0.length : Int) then (if (rdOf ByteArray.empty l0 0).toList = ([112, 105, 99, 107] : List UInt8) then ((words_number.f l0 1).bind fun t189 => (some (2, (t189) % 4294967296, 0, 0, ([] : List Int)))) else (if (rdOf ByteArray.empty l0 0).toList = ([107, 105, 108, 108] : List UInt8) then ((words_number.f l0 1).bind fun t190 => (some (3, (t190) % 4294967296, 0, 0, ([] : List Int)))) else (if (rdOf ByteArray.empty l0 0).toList = ([119, 114, 105, 116, 101] : List UInt8) then (some (4, 0, 0, 0, ([] : List Int))) else (if (rdOf ByteArray.empty l0 0).toList = ([115, 121, 110, 99] : List UInt8) then (some (5, 0, 0, 0, ([] : List Int))) else (if (rdOf ByteArray.empty l0 0).toList = ([99, 107, 112, 116] : List UInt8) then (some (6, 0, 0, 0, ([] : List Int))) else (if (rdOf ByteArray.empty l0 0).toList = ([99, 114, 97, 115, 104] : List UInt8) then ((words_number.f l0 1).bind fun t191 => ((words_number.f l0 2).bind fun t192 => (some (7, 0, t191, t192, ([] : List Int))))) else (if (rdOf ByteArray.empty l0 0).toList = ([98, 111, 111, 116] : List UInt8) then (some (8, 0, 0, 0, ([] : List Int))) else (if (rdOf ByteArray.empty l0 0).toList = ([97, 115, 107] : List UInt8) then (if 1 ≤ (l0.length : Int) then ((strings_Join.f (l0.drop 1) (⟨#[32]⟩ : ByteArray)).bind fun t195 => (words_guess.l0 k t195 1 0 0 0 ([] : List Int))) else (none)) else ((words_asked.f k l0).bind fun bt201 => ((request_Encode.f bt201.1 bt201.2.1 bt201.2.2.1 bt201.2.2.2.1 bt201.2.2.2.2.1 bt201.2.2.2.2.2.1 bt201.2.2.2.2.2.2.1 bt201.2.2.2.2.2.2.2).bind fun bt211 => (some (1, 0, 0, 0, bt211.1)))))))))))) else (none)
def words_guess.T21 : Bool × List (List Nat × List Nat) := (true, [([], []), ([0], [0]), ([], []), ([2], [2]), ([3], [3]), ([4], [4]), ([], []), ([6], [6]), ([7, 4], [7]), ([5, 8], [5, 8]), ([9], [9]), ([1, 10, 8], [1, 10]), ([0, 1, 2, 3, 4, 5, 6, 7, 8, 9, 10, 11], []), ([12, 11, 11, 0, 1, 2, 3, 4, 5, 6, 7, 8, 9, 10, 11], [11, 12])])
def words_guess.B21 : List Nat := [0, 1, 0, 4, 12, 28, 0, 64, 220, 508, 1020, 2047, 4095, 8191]
theorem words_guess.tab21 : rtab .any (opsOf Tryz.f19 21) = words_guess.T21 := by kernel_rfl
theorem words_guess.bits21 : waitsOk words_guess.T21.2 words_guess.B21 = true := by kernel_rfl
set_option maxHeartbeats 8000000 in
set_option maxRecDepth 100000 in
theorem words_guess.calls (k : Nat) (A0 : Option Addr) (c0 : Nat) (l0 : List ByteArray) (r1 : Int) (r2 : Int) (r3 : Int) (r4 : Int) (r5 : List Int) (w : World) (hG0 : Gl w) (hr0 : Kd.C Kd.string w A0 l0.length l0) (hc0 : l0.length ≤ c0) (h : words_guess.f k l0 = some (r1, r2, r3, r4, r5)) :
    Calls Tryz.prog 19 #[.slice A0 l0.length c0] w fun e w' => ∃ v4_ : Value, e = .returned (.agg #[.int .u8 r1, .int .u32 r2, .int .i64 r3, .int .i64 r4, v4_]) ∧ Kd.R (Kd.int .u8) 5 w' w.heap.size (fun _ => True) v4_ r5 ∧ Below w.heap.size w w' := by
  have hu25 := Tryz.underlying25
  have hG := Aside0.mk hG0
  clear hG0
  have HR0 := Aside0.mk hr0
  have HC0 := Aside0.mk hc0
  clear hr0 hc0
  have HB := Aside0.mk (Below.refl w.heap.size w)
  have H : (if 0 < (l0.length : Int) then (if (rdOf ByteArray.empty l0 0).toList = ([112, 105, 99, 107] : List UInt8) then ((words_number.f l0 1).bind fun t189 => (some (2, (t189) % 4294967296, 0, 0, ([] : List Int)))) else (if (rdOf ByteArray.empty l0 0).toList = ([107, 105, 108, 108] : List UInt8) then ((words_number.f l0 1).bind fun t190 => (some (3, (t190) % 4294967296, 0, 0, ([] : List Int)))) else (if (rdOf ByteArray.empty l0 0).toList = ([119, 114, 105, 116, 101] : List UInt8) then (some (4, 0, 0, 0, ([] : List Int))) else (if (rdOf ByteArray.empty l0 0).toList = ([115, 121, 110, 99] : List UInt8) then (some (5, 0, 0, 0, ([] : List Int))) else (if (rdOf ByteArray.empty l0 0).toList = ([99, 107, 112, 116] : List UInt8) then (some (6, 0, 0, 0, ([] : List Int))) else (if (rdOf ByteArray.empty l0 0).toList = ([99, 114, 97, 115, 104] : List UInt8) then ((words_number.f l0 1).bind fun t191 => ((words_number.f l0 2).bind fun t192 => (some (7, 0, t191, t192, ([] : List Int))))) else (if (rdOf ByteArray.empty l0 0).toList = ([98, 111, 111, 116] : List UInt8) then (some (8, 0, 0, 0, ([] : List Int))) else (if (rdOf ByteArray.empty l0 0).toList = ([97, 115, 107] : List UInt8) then (if 1 ≤ (l0.length : Int) then ((strings_Join.f (l0.drop 1) (⟨#[32]⟩ : ByteArray)).bind fun t195 => (words_guess.l0 k t195 1 0 0 0 ([] : List Int))) else (none)) else ((words_asked.f k l0).bind fun bt201 => ((request_Encode.f bt201.1 bt201.2.1 bt201.2.2.1 bt201.2.2.2.1 bt201.2.2.2.2.1 bt201.2.2.2.2.2.1 bt201.2.2.2.2.2.2.1 bt201.2.2.2.2.2.2.2).bind fun bt211 => (some (1, 0, 0, 0, bt211.1)))))))))))) else (none)) = some (r1, r2, r3, r4, r5) := h
  clear h
  by_cases c2 : 0 < (l0.length : Int)
  focus
    rw [if_pos c2] at H
    have c2b0 := decide_eq_true c2
    have c2b1 : decide (0 < l0.length) = true := decide_eq_true qW10x2
    clear c2
    by_cases c3 : (rdOf ByteArray.empty l0 0).toList = ([112, 105, 99, 107] : List UInt8)
    focus
      rw [if_pos c3] at H
      obtain ⟨c3b0, c3b1⟩ := zeq c3
      clear c3
      obtain ⟨t189, A4, H⟩ := zO H
      try dsimp only at H
      simp only [Option.some.injEq, Prod.mk.injEq] at H
      obtain ⟨rfl, rfl, rfl, rfl, rfl⟩ := H
    rotate_left
    rw [if_neg c3] at H
    obtain ⟨c3b0, c3b1⟩ := zne c3
    by_cases c8 : (rdOf ByteArray.empty l0 0).toList = ([107, 105, 108, 108] : List UInt8)
    focus
      rw [if_pos c8] at H
      obtain ⟨c8b0, c8b1⟩ := zeq c8
      clear c8
      obtain ⟨t190, A9, H⟩ := zO H
      try dsimp only at H
      simp only [Option.some.injEq, Prod.mk.injEq] at H
      obtain ⟨rfl, rfl, rfl, rfl, rfl⟩ := H
    rotate_left
    rw [if_neg c8] at H
    obtain ⟨c8b0, c8b1⟩ := zne c8
    by_cases c13 : (rdOf ByteArray.empty l0 0).toList = ([119, 114, 105, 116, 101] : List UInt8)
    focus
      rw [if_pos c13] at H
      obtain ⟨c13b0, c13b1⟩ := zeq c13
      clear c13
      simp only [Option.some.injEq, Prod.mk.injEq] at H
      obtain ⟨rfl, rfl, rfl, rfl, rfl⟩ := H
    rotate_left
    rw [if_neg c13] at H
    obtain ⟨c13b0, c13b1⟩ := zne c13
    by_cases c16 : (rdOf ByteArray.empty l0 0).toList = ([115, 121, 110, 99] : List UInt8)
    focus
      rw [if_pos c16] at H
      obtain ⟨c16b0, c16b1⟩ := zeq c16
      clear c16
      simp only [Option.some.injEq, Prod.mk.injEq] at H
      obtain ⟨rfl, rfl, rfl, rfl, rfl⟩ := H
    rotate_left
    rw [if_neg c16] at H
    obtain ⟨c16b0, c16b1⟩ := zne c16
    by_cases c19 : (rdOf ByteArray.empty l0 0).toList = ([99, 107, 112, 116] : List UInt8)
    focus
      rw [if_pos c19] at H
      obtain ⟨c19b0, c19b1⟩ := zeq c19
      clear c19
      simp only [Option.some.injEq, Prod.mk.injEq] at H
      obtain ⟨rfl, rfl, rfl, rfl, rfl⟩ := H
    rotate_left
    rw [if_neg c19] at H
    obtain ⟨c19b0, c19b1⟩ := zne c19
    by_cases c22 : (rdOf ByteArray.empty l0 0).toList = ([99, 114, 97, 115, 104] : List UInt8)
    focus
      rw [if_pos c22] at H
      obtain ⟨c22b0, c22b1⟩ := zeq c22
      clear c22
      obtain ⟨t191, A23, H⟩ := zO H
      try dsimp only at H
      obtain ⟨t192, A24, H⟩ := zO H
      try dsimp only at H
      simp only [Option.some.injEq, Prod.mk.injEq] at H
      obtain ⟨rfl, rfl, rfl, rfl, rfl⟩ := H
    rotate_left
    rw [if_neg c22] at H
    obtain ⟨c22b0, c22b1⟩ := zne c22
    by_cases c29 : (rdOf ByteArray.empty l0 0).toList = ([98, 111, 111, 116] : List UInt8)
    focus
      rw [if_pos c29] at H
      obtain ⟨c29b0, c29b1⟩ := zeq c29
      clear c29
      simp only [Option.some.injEq, Prod.mk.injEq] at H
      obtain ⟨rfl, rfl, rfl, rfl, rfl⟩ := H
    rotate_left
    rw [if_neg c29] at H
    obtain ⟨c29b0, c29b1⟩ := zne c29
    by_cases c32 : (rdOf ByteArray.empty l0 0).toList = ([97, 115, 107] : List UInt8)
    · rw [if_pos c32] at H
      obtain ⟨c32b0, c32b1⟩ := zeq c32
      clear c32
      by_cases c33 : 1 ≤ (l0.length : Int)
      rotate_left
      · rw [if_neg c33] at H
        exact absurd H (by simp)
      rw [if_pos c33] at H
      have c33b0 := eq_true c33
      have c33b1 := decide_eq_true c33
      clear c33
      obtain ⟨t195, A34, H⟩ := zO H
      try dsimp only at H
      have H' := Aside0.mk H
      clear H
      go_enter Tryz.func19, Tryz.ntmps19
      go_wp2_with (first | ((with_reducible refine gate_dst (N := 2) rfl ?_); refine zbox (N := 2) (cs := #[.int .u8 0, .int .u32 0, .int .i64 0, .int .i64 0, .slice none 0 0]) (t := 25) (h := ?_); intro gb187 hg w35 hbox hb; have BK187 := Aside0.mk (hbox); have GW187 := zG (p := w.heap.size ≤ gb187); have GE187 := GW187; replace HB := zH hb; clear hb hbox hg; have p188 : 0 ≤ (0 : Int) := qW10x2; have q188 : 0 < (l0.length : Int) := of_decide_eq_true zas; obtain ⟨ad188, e188, hx188_0⟩ := Kd.at_string HR0.out 0 p188 q188; cases e188; have qi188 : (0 < l0.length) = True := eq_true qW10x2; (try rw [show ((0 : Int)).toNat = 0 from rfl] at hx188_0); (try rw [Addr.add_zero'] at hx188_0); replace hx188_0 := (HB.out.cell (World.block_lt_of_cell? w _ hx188_0)).trans hx188_0; replace p188 := eq_true p188; replace q188 := eq_true q188) | ((with_reducible refine gate_dst (N := 3) rfl ?_); refine zbox (N := 3) (cs := #[.int .u8 0, .int .u32 0, .int .i64 0, .int .i64 0, .slice none 0 0]) (t := 25) (h := ?_); intro gb193 hg w36 hbox hb; have BK193 := Aside0.mk (hbox); have GW193 := zG (p := w.heap.size ≤ gb193); have GE193 := GW193; have NB187_193 := zNlt BK187.out (p := gb187 ≠ gb193); have NB193_187 := zNgt BK187.out (p := gb193 ≠ gb187); replace BK187 := zJ BK187 hb; replace HB := zH hb; clear hb hbox hg; have hnb37 := NB193_187.out; have hnc37 := NB187_193.out; have hcz38_0 := zcf5 BK193.out; obtain ⟨i039, hi039, _, hsz39, _⟩ := info_parts info9; obtain ⟨A39, hcut39, hA39, hC39⟩ := print_drop_of (P := Tryz.prog) Value.string (⟨#[]⟩ : ByteArray) 46 9 .i64 Tryz.underlying46 hi039 hsz39 (some ad188) c0 l0 1 qW10x2 (of_decide_eq_true zas) HC0.out; have HR194 := Aside0.mk (Kd.C_of_reads (h1 := fun _ => rfl) (hA39 _ (Kd.reads_of_C HR0.out))); have HC194 := Aside0.mk hC39; clear hA39 hC39 hi039 hsz39) | ((with_reducible refine gate_callee (f := 36) rfl ?_); refine goesZ (some 46) Tryz.func36 (args := #[.slice A39 (l0.drop 1).length (c0 - 1), .string (⟨#[32]⟩ : ByteArray)]) (hargs := (by (try simp only [List.map_toArray, List.map_cons, List.map_nil]); first | done | (rw [show (l0.drop 1).length = (l0.length - 1) from List.length_drop] <;> rfl) | rfl | (simp only [List.length_drop, List.length_take]; rfl))) (h := ?_); (with_reducible refine (strings_Join.calls _ _ (l0.drop 1) (⟨#[32]⟩ : ByteArray) t195 _ ?side1 ?side2 A34.out).mono ?_); (case side1 => exact Kd.C_below HR194.out zB); (case side2 => exact HC194.out); rintro e w40 ⟨rfl, hb⟩; refine ⟨_, rfl, ?_⟩; replace BK187 := Aside0.mk (blk_below (g := gb187) (o := .cells #[.int .u8 0, .int .u32 0, .int .i64 0, .int .i64 0, .slice none 0 0] 25 (0, 0)) (by (with_reducible repeat (first | refine blk_drewN ?_ _ | refine blk_drew ?_ | refine blk_alloc ?_ _)); refine blk_far ?_ NB187_193.out _; (with_reducible repeat (first | refine blk_drewN ?_ _ | refine blk_drew ?_ | refine blk_alloc ?_ _)); refine blk_far ?_ NB187_193.out _; (with_reducible repeat (first | refine blk_drewN ?_ _ | refine blk_drew ?_ | refine blk_alloc ?_ _)); refine blk_far ?_ NB187_193.out _; (with_reducible repeat (first | refine blk_drewN ?_ _ | refine blk_drew ?_ | refine blk_alloc ?_ _)); refine blk_far ?_ NB187_193.out _; (with_reducible repeat (first | refine blk_drewN ?_ _ | refine blk_drew ?_ | refine blk_alloc ?_ _)); refine blk_far ?_ NB187_193.out _; (with_reducible repeat (first | refine blk_drewN ?_ _ | refine blk_drew ?_ | refine blk_alloc ?_ _)); exact BK187.out) hb); replace BK193 := Aside0.mk (blk_below (g := gb193) (o := .cells #[.int .u8 1, .int .u32 0, .int .i64 0, .int .i64 0, .slice none 0 0] 25 (0, 0)) (zQ BK193.out) hb); replace HB := zH hb; clear hb))
      go_loopg [4] k (fun kq v4 w' => ∃ (x4_1 : ByteArray) (x194004_1 : List Int) (u194004 : Value), v4 = .string x4_1 ∧ Aside0 (words_guess.l0 kq x4_1 1 0 0 0 x194004_1 = some (r1, r2, r3, r4, r5)) ∧ Aside0 (kq ≤ k) ∧ Aside0 (Kd.R (Kd.int .u8) 5 w' w.heap.size (fun _ => True) u194004 x194004_1) ∧ Aside0 (w'.heap[gb187]? = some (.cells #[.int .u8 0, .int .u32 0, .int .i64 0, .int .i64 0, (.slice none 0 0)] 25 (0, 0))) ∧ Aside0 (w'.heap[gb193]? = some (.cells #[.int .u8 1, .int .u32 0, .int .i64 0, .int .i64 0, u194004] 25 (0, 0))) ∧ Aside0 (Below w.heap.size w w'))
      case atStart => exact ⟨(t195), (([] : List Int)), (.slice none 0 0), (by first | rfl | (simp; done) | (simp [*]; done)), H', ⟨Nat.le_refl _⟩, ⟨znil⟩, ⟨by (with_reducible repeat (first | refine blk_drewN ?_ _ | refine blk_drew ?_ | refine blk_alloc ?_ _)); exact BK187.out⟩, ⟨by (with_reducible repeat (first | refine blk_drewN ?_ _ | refine blk_drew ?_ | refine blk_alloc ?_ _)); exact BK193.out⟩, ⟨zB⟩⟩
      case round =>
        clear H'
        try clear c1
        try clear p1
        try clear q1
        try clear hx1
        try clear qi1
        try clear c2
        try clear c2b0
        try clear c2b1
        try clear p2
        try clear c3
        try clear c3b0
        try clear c3b1
        try clear c8
        try clear c8b0
        try clear c8b1
        try clear c13
        try clear c13b0
        try clear c13b1
        try clear c16
        try clear c16b0
        try clear c16b1
        try clear p18
        try clear q18
        try clear hx18
        try clear qi18
        try clear c19
        try clear c19b0
        try clear c19b1
        try clear c22
        try clear c22b0
        try clear c22b1
        try clear c29
        try clear c29b0
        try clear c29b1
        try clear c32
        try clear c32b0
        try clear c32b1
        try clear c33
        try clear c33b0
        try clear c33b1
        try clear c35
        try clear c36
        try clear c37
        try clear hcz12_0
        try clear hcz15_0
        try clear hcz18_0
        try clear hcz21_0
        try clear hcz28_0
        try clear hcz31_0
        try clear hcz38_0
        try clear hcz7_0
        try clear hx188_0
        try clear p188
        try clear q188
        obtain ⟨x4_1, x194004_1, u194004, rfl, HA, HK1, HO_194004, BK187, BK193, HB⟩ := hrel
        cases gk with
        | zero => exact absurd HA.out (by simp [words_guess.l0])
        | succ k1 =>
          have H := HA.out
          clear HA
          simp only [words_guess.l0] at H
          by_cases c41 : (x4_1.size : Int) ≥ 2
          rotate_left
          · rw [if_neg c41] at H
            have c41b0 : decide (2 ≤ (x4_1.size : Int)) = false := decide_eq_false c41
            have c41b1 : decide (2 ≤ x4_1.size) = false := decide_eq_false qW10x2
            clear c41
            simp only [Option.some.injEq, Prod.mk.injEq] at H
            obtain ⟨rfl, rfl, rfl, rfl, rfl⟩ := H
            have hnb56 := NB193_187.out
            have hnc56 := NB187_193.out
            have hcz57_0 := zcf5 BK193.out
            have hcz58_0 := zcf5 BK187.out
            obtain ⟨Ao59, co59, eo59⟩ := Kd.R_slice HO_194004.out
            subst eo59
            go_wp2
            refine bodyPost_ret (results_cell_row rfl _ _ gb187 25 #[.int .u8 1, .int .u32 0, .int .i64 0, .int .i64 0, .slice Ao59 x194004_1.length co59] (0, 0) _ rfl (zQ BK187.out) Tryz.underlying25 rfl qW10x1) rfl ?_
            exact ⟨_, zer, by (with_reducible repeat (first | apply Kd.R_alloc | apply Kd.R_drewN | apply Kd.R_drew)); exact Kd.R_mono (Kd.R_far (p := ⟨gb187, 4, none⟩) (Kd.R_far (p := ⟨gb187, 3, none⟩) (Kd.R_far (p := ⟨gb187, 2, none⟩) (Kd.R_far (p := ⟨gb187, 1, none⟩) (Kd.R_far (p := ⟨gb187, 0, none⟩) (Kd.R_types HO_194004.out BK187.out (by decide)) (fun _ hk => hk.2) (.int .u8 1)) (fun _ hk => hk.2) (.int .u32 0)) (fun _ hk => hk.2) (.int .i64 0)) (fun _ hk => hk.2) (.int .i64 0)) (fun _ hk => hk.2) (.slice Ao59 x194004_1.length co59)) (fun _ hk => trivial), zB⟩
          rw [if_pos c41] at H
          have c41b0 := decide_eq_true c41
          have c41b1 : decide (2 ≤ x4_1.size) = true := decide_eq_true qW10x2
          clear c41
          by_cases c42 : 0 < (x4_1.size : Int)
          rotate_left
          · rw [if_neg c42] at H
            exact absurd H (by simp)
          rw [if_pos c42] at H
          have c42b0 := decide_eq_true c42
          have c42b1 : decide (0 < x4_1.size) = true := decide_eq_true qW10x2
          clear c42
          obtain ⟨t196, A44, H⟩ := zO H
          try dsimp only at H
          by_cases c45 : 1 < (x4_1.size : Int)
          rotate_left
          · rw [if_neg c45] at H
            exact absurd H (by simp)
          rw [if_pos c45] at H
          have c45b0 := decide_eq_true c45
          have c45b1 : decide (1 < x4_1.size) = true := decide_eq_true qW10x2
          clear c45
          obtain ⟨t197, A47, H⟩ := zO H
          try dsimp only at H
          by_cases c48 : x194004_1.length < 140737488355328
          rotate_left
          · rw [if_neg c48] at H
            exact absurd H (by simp)
          rw [if_pos c48] at H
          have LMc48 := Aside0.mk c48
          clear c48
          obtain ⟨y198, hy198⟩ : ∃ y_ : List Int, y_ = (x194004_1 ++ [Go.bits .or .u8 ((t196 * 16) % 256) t197]) := ⟨_, rfl⟩
          replace H : (if 2 ≤ (x4_1.size : Int) then (words_guess.l0 k1 (x4_1.extract 2 x4_1.size) 1 0 0 0 y198) else (none)) = some (r1, r2, r3, r4, r5) := by first | (rw [hy198]; with_reducible exact H) | (have H2_ := (Option.bind_some _ _).symm.trans H; rw [hy198]; with_reducible exact H2_) | (have H2_ := (Option.bind_some _ _).symm.trans H; with_reducible exact H2_) | with_reducible exact H | (rw [hy198]; exact H) | exact H
          have Ny198 := Aside0.mk hy198
          clear hy198
          by_cases c49 : 2 ≤ (x4_1.size : Int)
          rotate_left
          · rw [if_neg c49] at H
            exact absurd H (by simp)
          rw [if_pos c49] at H
          have c49b0 := eq_true c49
          have c49b1 := decide_eq_true c49
          clear c49
          have H' := Aside0.mk H
          clear H
          try go_wp2
          replace HO_194004 := Aside0.mk (Kd.R_drew HO_194004.out)
          replace BK187 := Aside0.mk (blk_drew BK187.out)
          replace BK193 := Aside0.mk (blk_drew BK193.out)
          replace HB := Aside0.mk (below_drew1 HB.out)
          have p43 : 0 ≤ (0 : Int) := qW10x2
          have q43 : 0 < x4_1.size := (by have : (0 : Int) < (x4_1.size : Int) := of_decide_eq_true zas; omega)
          have hx43 : ∀ h : 0 < x4_1.size, ((x4_1[0]'h).toNat : Int) = bt x4_1 0 := bt_at x4_1 0
          clear p43
          have qi43 : (0 < (x4_1.size : Int)) = True := eq_true (of_decide_eq_true zas)
          replace q43 := eq_true q43
          have p46 : 0 ≤ (1 : Int) := qW10x2
          have q46 : 1 < x4_1.size := (by have : (1 : Int) < (x4_1.size : Int) := of_decide_eq_true zas; omega)
          have hx46 : ∀ h : 1 < x4_1.size, ((x4_1[1]'h).toNat : Int) = bt x4_1 1 := bt_at x4_1 1
          clear p46
          have qi46 : (1 < (x4_1.size : Int)) = True := eq_true (of_decide_eq_true zas)
          replace q46 := eq_true q46
          refine start_ (n := 14) (S := fun w' => w'.cell? ⟨gb193, 0, none⟩ = some (.int .u8 1) ∧ w'.cell? ⟨gb193, 1, none⟩ = some (.int .u32 0) ∧ w'.cell? ⟨gb193, 2, none⟩ = some (.int .i64 0) ∧ w'.cell? ⟨gb193, 3, none⟩ = some (.int .i64 0) ∧ w'.cell? ⟨gb193, 4, none⟩ = some (u194004)) (ds := [13]) (bz 14 0) qW10x1 rfl qW10x1 ⟨(blk_cell BK193.out 0).trans rfl, (blk_cell BK193.out 1).trans rfl, (blk_cell BK193.out 2).trans rfl, (blk_cell BK193.out 3).trans rfl, (blk_cell BK193.out 4).trans rfl⟩ (fun hHeld => ?_); refine with_tabW words_guess.tab21 words_guess.bits21 (fun HT_ HW_ => ?_)
          generalize wr.drew = w50 at HO_194004 BK187 BK193 HB hHeld ⊢
          refine pureZ (some 52) (bz 14 1) (i := 0) (h := ?_); refine pureZ (some 54) (bz 14 5) (i := 2) (h := ?_); refine pureZ (some 58) (bz 14 69) (i := 6) (h := ?_); refine takeZ (some 53) (bz 14 71) (i := 1) (h := ?_); refine takeZ (some 55) (bz 14 79) (i := 3) (h := ?_); refine takeZ (some 59) (bz 14 207) (i := 7) (h := ?_)
          refine one_ (i := 4) (N := some 56) (bz 14 223) rfl rfl (one_of HT_.out qW10x1) (by decide) (fun K hK => ?_)
          refine goes_ Tryz.func37 qW10x1 rfl #[.int .u8 (bt x4_1 0)] (by rfl) rfl rfl zA ?_
          with_reducible refine (words_nibble.calls (bt x4_1 0) t196 _ A44.out).mono ?_
          rintro e w51 ⟨rfl, hb⟩
          refine ⟨_, rfl, ?_⟩
          replace HO_194004 := zP HO_194004 hb
          replace BK187 := zJ BK187 hb
          replace BK193 := zJ BK193 hb
          replace HB := zH hb
          refine hK.out _ _ ⟨(blk_cell BK193.out 0).trans rfl, (blk_cell BK193.out 1).trans rfl, (blk_cell BK193.out 2).trans rfl, (blk_cell BK193.out 3).trans rfl, (blk_cell BK193.out 4).trans rfl⟩ (fun hHeld => ?_)
          clear hK K
          refine norm_ (a' := ?_) ?_ ?_
          rotate_left
          · show Act.put _ (some 56) _ = _
            simp only [Act.put, List.setIfInBounds_toArray, List.set_cons_zero, List.set_cons_succ, i64_w, i32_w]
            rfl
          refine pureZ (some 57) (bz 14 255) (i := 5) (h := ?_)
          refine one_ (i := 8) (N := some 60) (bz 14 511) rfl rfl (one_of HT_.out qW10x1) (by decide) (fun K hK => ?_)
          refine goes_ Tryz.func37 qW10x1 rfl #[.int .u8 (bt x4_1 1)] (by rfl) rfl rfl zA ?_
          with_reducible refine (words_nibble.calls (bt x4_1 1) t197 _ A47.out).mono ?_
          rintro e w52 ⟨rfl, hb⟩
          refine ⟨_, rfl, ?_⟩
          replace HO_194004 := zP HO_194004 hb
          replace BK187 := zJ BK187 hb
          replace BK193 := zJ BK193 hb
          replace HB := zH hb
          refine hK.out _ _ ⟨(blk_cell BK193.out 0).trans rfl, (blk_cell BK193.out 1).trans rfl, (blk_cell BK193.out 2).trans rfl, (blk_cell BK193.out 3).trans rfl, (blk_cell BK193.out 4).trans rfl⟩ (fun hHeld => ?_)
          clear hK K
          refine norm_ (a' := ?_) ?_ ?_
          rotate_left
          · show Act.put _ (some 60) _ = _
            simp only [Act.put, List.setIfInBounds_toArray, List.set_cons_zero, List.set_cons_succ, i64_w, i32_w]
            rfl
          refine pureZ (some 61) (bz 14 1023) (i := 9) (h := ?_)
          refine one_ (i := 10) (N := some 62) (bz 14 2047) rfl rfl (one_of HT_.out qW10x1) (by decide) (fun K hK => ?_)
          refine value_ (w1 := ?_) (v := ?_) (by rfl) rfl ?_ ?_
          rotate_left 2
          · go_simp
            constructor
            · rfl
            · rfl
          refine hK.out _ _ ⟨(blk_cell (blk_alloc BK193.out _) 0).trans rfl, (blk_cell (blk_alloc BK193.out _) 1).trans rfl, (blk_cell (blk_alloc BK193.out _) 2).trans rfl, (blk_cell (blk_alloc BK193.out _) 3).trans rfl, (blk_cell (blk_alloc BK193.out _) 4).trans rfl⟩ (fun hHeld => ?_)
          clear hK K
          refine norm_ (a' := ?_) ?_ ?_
          rotate_left
          · show Act.put _ (some 62) _ = _
            simp only [Act.put, List.setIfInBounds_toArray, List.set_cons_zero, List.set_cons_succ, i64_w, i32_w]
            rfl
          refine one_ (i := 11) (N := some 63) (bz 14 4095) rfl rfl (one_of HT_.out qW10x1) (by decide) (fun K hK => ?_)
          refine Kd.R_append_step (Kd.int .u8) (w0 := w) w.heap.size (by rfl) (.tmp 53) (.tmp 62) 23 5 (.int .u8 0) 1 rfl Tryz.underlying23 info5 rfl (by decide) qW10x2 u194004 x194004_1 (Go.bits .or .u8 ((t196 * 16) % 256) t197) [.int .u8 (Go.bits .or .u8 ((t196 * 16) % 256) t197)] (fun _ => True) (fun _ => False) rfl rfl ?aP (fun _ hk => hk.elim) ?aF ?aO ?aB ?aS ?aL ?_
          (case aP => exact rfl)
          (case aB => exact zB)
          (case aF => exact (fun _ _ => trivial))
          (case aO => exact (zR HO_194004.out))
          (case aS => exact (below_size zB))
          (case aL => have := LMc48.out; omega)
          intro v199 w53 ho hb hg hat
          rw [← Ny198.out] at ho
          replace BK187 := Aside0.mk (blk_grown (g := gb187) (o := .cells #[.int .u8 0, .int .u32 0, .int .i64 0, .int .i64 0, .slice none 0 0] 25 (0, 0)) (zK BK187.out) hg (Kd.R_ne HO_194004.out BK187.out (by decide)))
          replace BK193 := Aside0.mk (blk_grown (g := gb193) (o := .cells #[.int .u8 1, .int .u32 0, .int .i64 0, .int .i64 0, u194004] 25 (0, 0)) (zK BK193.out) hg (Kd.R_ne HO_194004.out BK193.out (by decide)))
          replace HB := Aside0.mk (hb)
          have HO200 := Aside0.mk (ho)
          clear HO_194004 ho hb hg hat
          obtain ⟨Ao54, co54, eo54⟩ := Kd.R_slice HO200.out
          (first | subst eo54 | (injection eo54 with f1_ f2_ f3_; have f4_ := f1_.symm; have f5_ := f3_.symm; clear f1_ f2_ f3_; subst f4_; subst f5_))
          refine hK.out _ _ ⟨(blk_cell BK193.out 0).trans rfl, (blk_cell BK193.out 1).trans rfl, (blk_cell BK193.out 2).trans rfl, (blk_cell BK193.out 3).trans rfl, (blk_cell BK193.out 4).trans rfl⟩ (fun hHeld => ?_)
          clear hK K
          refine norm_ (a' := ?_) ?_ ?_
          rotate_left
          · show Act.put _ (some 63) _ = _
            simp only [Act.put, List.setIfInBounds_toArray, List.set_cons_zero, List.set_cons_succ, i64_w, i32_w]
            rfl
          refine pureZ (some 64) (bz 14 8191) (i := 12) (h := ?_)
          refine last_ (i := 13) (N := none) (bz 14 16383) rfl rfl (one_of HT_.out qW10x1) (by decide) (fun K hK => ?_)
          have hs55 : w53.cell? ⟨gb193, 4, none⟩ = some (u194004) := (blk_cell BK193.out 4).trans rfl
          have hfs55 := blk_frozen BK193.out 4
          have hns55_0 := NB187_193.out
          have hms55_0 := NB193_187.out
          refine skip_ (w1 := ?_) (by rfl) rfl ?_ ?_
          rotate_left
          · go_simp
            rfl
          refine hK.out _ _ ?_
          clear hK K
          refine done_ (done_of HT_.out qW10x1) ?_
          try go_wp2
          go_roundg k1
          case measure => have := HK1.out; omega
          case rel => exact ⟨(x4_1.extract 2 x4_1.size), (y198), (.slice Ao54 y198.length co54), (by first | rfl | (simp; done) | (simp [*]; done)), H', ⟨by have := HK1.out; omega⟩, ⟨by (with_reducible repeat (first | apply Kd.R_alloc | apply Kd.R_drewN | apply Kd.R_drew)); exact Kd.R_mono (Kd.R_far (p := ⟨gb193, 4, none⟩) (Kd.R_types HO200.out BK193.out (by decide)) (fun _ hk => hk.2) (.slice Ao54 y198.length co54)) (fun _ hk => trivial)⟩, ⟨by (with_reducible repeat (first | refine blk_drewN ?_ _ | refine blk_drew ?_ | refine blk_alloc ?_ _)); refine blk_far ?_ NB187_193.out _; (with_reducible repeat (first | refine blk_drewN ?_ _ | refine blk_drew ?_ | refine blk_alloc ?_ _)); exact BK187.out⟩, ⟨by (with_reducible repeat (first | refine blk_drewN ?_ _ | refine blk_drew ?_ | refine blk_alloc ?_ _)); refine blk_put (cs := #[.int .u8 1, .int .u32 0, .int .i64 0, .int .i64 0, u194004]) ?_ 4 _ rfl; (with_reducible repeat (first | refine blk_drewN ?_ _ | refine blk_drew ?_ | refine blk_alloc ?_ _)); exact BK193.out⟩, ⟨zB⟩⟩
    rw [if_neg c32] at H
    obtain ⟨c32b0, c32b1⟩ := zne c32
    obtain ⟨⟨t201, t202, t203, t204, t207, t208, t209, t210⟩, A60, H⟩ := zO H
    try dsimp only at H
    obtain ⟨⟨t211, t214⟩, A61, H⟩ := zO H
    try dsimp only at H
    simp only [Option.some.injEq, Prod.mk.injEq] at H
    obtain ⟨rfl, rfl, rfl, rfl, rfl⟩ := H
  rotate_left 8
  · rw [if_neg c2] at H
    exact absurd H (by simp)
  all_goals go_enter Tryz.func19, Tryz.ntmps19
  all_goals go_wp2_with (first | ((with_reducible refine gate_dst (N := 2) rfl ?_); refine zbox (N := 2) (cs := #[.int .u8 0, .int .u32 0, .int .i64 0, .int .i64 0, .slice none 0 0]) (t := 25) (h := ?_); intro gb187 hg wx1 hbox hb; have BK187 := Aside0.mk (hbox); have GW187 := zG (p := w.heap.size ≤ gb187); have GE187 := GW187; replace HB := zH hb; clear hb hbox hg; have p188 : 0 ≤ (0 : Int) := qW10x2; have q188 : 0 < (l0.length : Int) := of_decide_eq_true zas; obtain ⟨ad188, e188, hx188_0⟩ := Kd.at_string HR0.out 0 p188 q188; cases e188; have qi188 : (0 < l0.length) = True := eq_true qW10x2; (try rw [show ((0 : Int)).toNat = 0 from rfl] at hx188_0); (try rw [Addr.add_zero'] at hx188_0); replace hx188_0 := (HB.out.cell (World.block_lt_of_cell? w _ hx188_0)).trans hx188_0; replace p188 := eq_true p188; replace q188 := eq_true q188; have hcz15_0 := zcf5 BK187.out) | ((with_reducible refine gate_dst (N := 2) rfl ?_); refine zbox (N := 2) (cs := #[.int .u8 0, .int .u32 0, .int .i64 0, .int .i64 0, .slice none 0 0]) (t := 25) (h := ?_); intro gb187 hg wx1 hbox hb; have BK187 := Aside0.mk (hbox); have GW187 := zG (p := w.heap.size ≤ gb187); have GE187 := GW187; replace HB := zH hb; clear hb hbox hg; have p188 : 0 ≤ (0 : Int) := qW10x2; have q188 : 0 < (l0.length : Int) := of_decide_eq_true zas; obtain ⟨ad188, e188, hx188_0⟩ := Kd.at_string HR0.out 0 p188 q188; cases e188; have qi188 : (0 < l0.length) = True := eq_true qW10x2; (try rw [show ((0 : Int)).toNat = 0 from rfl] at hx188_0); (try rw [Addr.add_zero'] at hx188_0); replace hx188_0 := (HB.out.cell (World.block_lt_of_cell? w _ hx188_0)).trans hx188_0; replace p188 := eq_true p188; replace q188 := eq_true q188; have hcz18_0 := zcf5 BK187.out) | ((with_reducible refine gate_dst (N := 2) rfl ?_); refine zbox (N := 2) (cs := #[.int .u8 0, .int .u32 0, .int .i64 0, .int .i64 0, .slice none 0 0]) (t := 25) (h := ?_); intro gb187 hg wx1 hbox hb; have BK187 := Aside0.mk (hbox); have GW187 := zG (p := w.heap.size ≤ gb187); have GE187 := GW187; replace HB := zH hb; clear hb hbox hg; have p188 : 0 ≤ (0 : Int) := qW10x2; have q188 : 0 < (l0.length : Int) := of_decide_eq_true zas; obtain ⟨ad188, e188, hx188_0⟩ := Kd.at_string HR0.out 0 p188 q188; cases e188; have qi188 : (0 < l0.length) = True := eq_true qW10x2; (try rw [show ((0 : Int)).toNat = 0 from rfl] at hx188_0); (try rw [Addr.add_zero'] at hx188_0); replace hx188_0 := (HB.out.cell (World.block_lt_of_cell? w _ hx188_0)).trans hx188_0; replace p188 := eq_true p188; replace q188 := eq_true q188; have hcz21_0 := zcf5 BK187.out) | ((with_reducible refine gate_dst (N := 2) rfl ?_); refine zbox (N := 2) (cs := #[.int .u8 0, .int .u32 0, .int .i64 0, .int .i64 0, .slice none 0 0]) (t := 25) (h := ?_); intro gb187 hg wx1 hbox hb; have BK187 := Aside0.mk (hbox); have GW187 := zG (p := w.heap.size ≤ gb187); have GE187 := GW187; replace HB := zH hb; clear hb hbox hg; have p188 : 0 ≤ (0 : Int) := qW10x2; have q188 : 0 < (l0.length : Int) := of_decide_eq_true zas; obtain ⟨ad188, e188, hx188_0⟩ := Kd.at_string HR0.out 0 p188 q188; cases e188; have qi188 : (0 < l0.length) = True := eq_true qW10x2; (try rw [show ((0 : Int)).toNat = 0 from rfl] at hx188_0); (try rw [Addr.add_zero'] at hx188_0); replace hx188_0 := (HB.out.cell (World.block_lt_of_cell? w _ hx188_0)).trans hx188_0; replace p188 := eq_true p188; replace q188 := eq_true q188; have hcz31_0 := zcf5 BK187.out) | ((with_reducible refine gate_dst (N := 2) rfl ?_); refine zbox (N := 2) (cs := #[.int .u8 0, .int .u32 0, .int .i64 0, .int .i64 0, .slice none 0 0]) (t := 25) (h := ?_); intro gb187 hg wx1 hbox hb; have BK187 := Aside0.mk (hbox); have GW187 := zG (p := w.heap.size ≤ gb187); have GE187 := GW187; replace HB := zH hb; clear hb hbox hg; have p188 : 0 ≤ (0 : Int) := qW10x2; have q188 : 0 < (l0.length : Int) := of_decide_eq_true zas; obtain ⟨ad188, e188, hx188_0⟩ := Kd.at_string HR0.out 0 p188 q188; cases e188; have qi188 : (0 < l0.length) = True := eq_true qW10x2; (try rw [show ((0 : Int)).toNat = 0 from rfl] at hx188_0); (try rw [Addr.add_zero'] at hx188_0); replace hx188_0 := (HB.out.cell (World.block_lt_of_cell? w _ hx188_0)).trans hx188_0; replace p188 := eq_true p188; replace q188 := eq_true q188) | ((with_reducible refine gate_callee (f := 35) rfl ?_); refine goesZ (some 36) Tryz.func35 (args := #[.slice (some ad188) l0.length c0, .int .i64 2]) (h := ?_); (with_reducible refine (words_number.calls _ _ l0 2 t192 _ ?side1 ?side2 ?side3 A24.out).mono ?_); (case side1 => exact Gl.below hG.out zB); (case side2 => exact zC (Kd.C_below HR0.out HB.out)); (case side3 => exact HC0.out); rintro e wx3 ⟨rfl, hb⟩; refine ⟨_, rfl, ?_⟩; replace BK187 := zJ BK187 hb; replace HB := zH hb; clear hb; have hcz28_0 := zcf5 BK187.out) | ((with_reducible refine gate_callee (f := 35) rfl ?_); refine goesZ (some 19) Tryz.func35 (args := #[.slice (some ad188) l0.length c0, .int .i64 1]) (h := ?_); (with_reducible refine (words_number.calls _ _ l0 1 t190 _ ?side1 ?side2 ?side3 A9.out).mono ?_); (case side1 => exact Gl.below hG.out zB); (case side2 => exact zC (Kd.C_below HR0.out HB.out)); (case side3 => exact HC0.out); rintro e wx2 ⟨rfl, hb⟩; refine ⟨_, rfl, ?_⟩; replace BK187 := zJ BK187 hb; replace HB := zH hb; clear hb; have hcz12_0 := zcf5 BK187.out) | ((with_reducible refine gate_callee (f := 35) rfl ?_); refine goesZ (some 13) Tryz.func35 (args := #[.slice (some ad188) l0.length c0, .int .i64 1]) (h := ?_); (with_reducible refine (words_number.calls _ _ l0 1 t189 _ ?side1 ?side2 ?side3 A4.out).mono ?_); (case side1 => exact Gl.below hG.out zB); (case side2 => exact zC (Kd.C_below HR0.out HB.out)); (case side3 => exact HC0.out); rintro e wx2 ⟨rfl, hb⟩; refine ⟨_, rfl, ?_⟩; replace BK187 := zJ BK187 hb; replace HB := zH hb; clear hb; have hcz7_0 := zcf5 BK187.out) | ((with_reducible refine gate_callee (f := 35) rfl ?_); refine goesZ (some 34) Tryz.func35 (args := #[.slice (some ad188) l0.length c0, .int .i64 1]) (h := ?_); (with_reducible refine (words_number.calls _ _ l0 1 t191 _ ?side1 ?side2 ?side3 A23.out).mono ?_); (case side1 => exact Gl.below hG.out zB); (case side2 => exact zC (Kd.C_below HR0.out HB.out)); (case side3 => exact HC0.out); rintro e wx2 ⟨rfl, hb⟩; refine ⟨_, rfl, ?_⟩; replace BK187 := zJ BK187 hb; replace HB := zH hb; clear hb) | ((with_reducible refine gate_callee (f := 39) rfl ?_); refine goesZ (some 68) Tryz.func39 (args := #[.slice (some ad188) l0.length c0]) (h := ?_); (with_reducible refine (words_asked.calls k _ _ l0 t201 t202 t203 t204 t207 t208 t209 t210 _ ?side1 ?side2 ?side3 A60.out).mono ?_); (case side1 => exact Gl.below hG.out zB); (case side2 => exact zC (Kd.C_below HR0.out HB.out)); (case side3 => exact HC0.out); rintro e wx2 ⟨vx1, rfl, hox1, hb⟩; refine ⟨_, rfl, ?_⟩; have HOx1 := Aside0.mk (Kd.R_lower hox1 (below_size zB)); replace BK187 := zJ BK187 hb; replace HB := zH hb; clear hb hox1; obtain ⟨Aox1, cox1, eox1⟩ := Kd.R_slice HOx1.out; subst eox1) | ((with_reducible refine gate_callee (f := 38) rfl ?_); refine goesZ (some 69) Tryz.func38 (args := #[.agg #[.int .u8 t201, .int .u32 t202, .int .u8 t203, .slice Aox1 t204.length cox1, .int .u8 t207, .int .u8 t208, .int .u8 t209, .int .i64 t210]]) (h := ?_); (with_reducible refine (request_Encode.calls t201 t202 t203 _ _ t204 t207 t208 t209 t210 t211 t214 _ ?side1 ?side2 A61.out).mono ?_); (case side1 => exact zC ((Kd.R_reads' HOx1.out).2.2)); (case side2 => exact (Kd.R_reads' HOx1.out).2.1); rintro e wx3 ⟨vx2, rfl, hox1, hb⟩; refine ⟨_, rfl, ?_⟩; replace HOx1 := zP HOx1 hb; have HOx2 := Aside0.mk (Kd.R_lower hox1 (below_size zB)); replace BK187 := zJ BK187 hb; replace HB := zH hb; clear hb hox1; obtain ⟨Aox2, cox2, eox2⟩ := Kd.R_slice HOx2.out; subst eox2; have hczx1 := zcf5 BK187.out))
  all_goals first | (refine bodyPost_ret (results_cell_row rfl _ _ gb187 25 #[.int .u8 1, .int .u32 0, .int .i64 0, .int .i64 0, .slice Aox2 t211.length cox2] (0, 0) _ rfl (zQ BK187.out) Tryz.underlying25 rfl qW10x1) rfl ?_; exact ⟨_, zer, by (with_reducible repeat (first | apply Kd.R_alloc | apply Kd.R_drewN | apply Kd.R_drew)); exact Kd.R_mono (Kd.R_far (p := ⟨gb187, 4, none⟩) (Kd.R_far (p := ⟨gb187, 3, none⟩) (Kd.R_far (p := ⟨gb187, 2, none⟩) (Kd.R_far (p := ⟨gb187, 1, none⟩) (Kd.R_far (p := ⟨gb187, 0, none⟩) (Kd.R_types HOx2.out BK187.out (by decide)) (fun _ hk => hk.2) (.int .u8 1)) (fun _ hk => hk.2) (.int .u32 0)) (fun _ hk => hk.2) (.int .i64 0)) (fun _ hk => hk.2) (.int .i64 0)) (fun _ hk => hk.2) (.slice Aox2 t211.length cox2)) (fun _ hk => trivial), zB⟩) | (refine bodyPost_ret (results_cell_row rfl _ _ gb187 25 #[.int .u8 2, .int .u32 ((t189) % 4294967296), .int .i64 0, .int .i64 0, .slice none 0 0] (0, 0) _ rfl (zQ BK187.out) Tryz.underlying25 rfl qW10x1) rfl ?_; exact ⟨_, zer, znil, zB⟩) | (refine bodyPost_ret (results_cell_row rfl _ _ gb187 25 #[.int .u8 3, .int .u32 ((t190) % 4294967296), .int .i64 0, .int .i64 0, .slice none 0 0] (0, 0) _ rfl (zQ BK187.out) Tryz.underlying25 rfl qW10x1) rfl ?_; exact ⟨_, zer, znil, zB⟩) | (refine bodyPost_ret (results_cell_row rfl _ _ gb187 25 #[.int .u8 7, .int .u32 0, .int .i64 t191, .int .i64 t192, .slice none 0 0] (0, 0) _ rfl (zQ BK187.out) Tryz.underlying25 rfl qW10x1) rfl ?_; exact ⟨_, zer, znil, zB⟩) | (refine bodyPost_ret (results_cell_row rfl _ _ gb187 25 #[.int .u8 4, .int .u32 0, .int .i64 0, .int .i64 0, .slice none 0 0] (0, 0) _ rfl (zQ BK187.out) Tryz.underlying25 rfl qW10x1) rfl ?_; exact ⟨_, zer, znil, zB⟩) | (refine bodyPost_ret (results_cell_row rfl _ _ gb187 25 #[.int .u8 5, .int .u32 0, .int .i64 0, .int .i64 0, .slice none 0 0] (0, 0) _ rfl (zQ BK187.out) Tryz.underlying25 rfl qW10x1) rfl ?_; exact ⟨_, zer, znil, zB⟩) | (refine bodyPost_ret (results_cell_row rfl _ _ gb187 25 #[.int .u8 6, .int .u32 0, .int .i64 0, .int .i64 0, .slice none 0 0] (0, 0) _ rfl (zQ BK187.out) Tryz.underlying25 rfl qW10x1) rfl ?_; exact ⟨_, zer, znil, zB⟩) | (refine bodyPost_ret (results_cell_row rfl _ _ gb187 25 #[.int .u8 8, .int .u32 0, .int .i64 0, .int .i64 0, .slice none 0 0] (0, 0) _ rfl (zQ BK187.out) Tryz.underlying25 rfl qW10x1) rfl ?_; exact ⟨_, zer, znil, zB⟩)
end Go.Proofs.YtpnehgajhpejjaaGreatDoor.W
