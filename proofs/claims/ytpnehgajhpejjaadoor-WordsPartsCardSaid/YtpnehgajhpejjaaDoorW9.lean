import Derived.Test.YtpnehgajhpejjaaDoorSq
import Derived.Test.YtpnehgajhpejjaaDoorW0
import Derived.Test.YtpnehgajhpejjaaDoorW5
import Derived.Test.YtpnehgajhpejjaaDoorW7
import Derived.Test.YtpnehgajhpejjaaDoorW8
namespace Go.Proofs.YtpnehgajhpejjaaDoor.W
open Go.RowKit Go.Proofs.YtpnehgajhpejjaaDoorW.PrintWords Go.Proofs.YtpnehgajhpejjaaDoorW.PrintLast Go.Proofs.YtpnehgajhpejjaaDoorW.PrintMore
attribute [local go_sem] max2_int min2_int max_two min_two max_three min_three max_four min_four
set_option linter.unusedVariables false
set_option linter.unusedSimpArgs false
theorem qW9x1 {p : Prop} (h : p := by kernel_rfl) : p := h
theorem qW9x2 {p : Prop} (h : p := by omega) : p := h
/-! ### words_guess: function 48 -/
def words_guess.l0 : Nat → ByteArray → Int → Int → Int → Int → List Int → Option (Int × Int × Int × Int × List Int)
  | 0, _, _, _, _, _, _ => none
  | k + 1, x4, x193000, x193001, x193002, x193003, x193004 => if (x4.size : Int) ≥ 2 then (if 0 < (x4.size : Int) then ((words_nibble.f (bt x4 0)).bind fun t195 => (if 1 < (x4.size : Int) then ((words_nibble.f (bt x4 1)).bind fun t196 => (if x193004.length < 140737488355328 then (if 2 ≤ (x4.size : Int) then (words_guess.l0 k (x4.extract 2 x4.size) x193000 x193001 x193002 x193003 (x193004 ++ [Go.bits .or .u8 ((t195 * 16) % 256) t196])) else (none)) else (none))) else (none))) else (none)) else (some (x193000, x193001, x193002, x193003, x193004))
def words_guess.f (k : Nat) (l0 : List ByteArray) : Option (Int × Int × Int × Int × List Int) := if 0 < (l0.length : Int) then (if (rdOf ByteArray.empty l0 0).toList = ([112, 105, 99, 107] : List UInt8) then ((words_number.f l0 1).bind fun t188 => (some (2, (t188) % 4294967296, 0, 0, ([] : List Int)))) else (if (rdOf ByteArray.empty l0 0).toList = ([107, 105, 108, 108] : List UInt8) then ((words_number.f l0 1).bind fun t189 => (some (3, (t189) % 4294967296, 0, 0, ([] : List Int)))) else (if (rdOf ByteArray.empty l0 0).toList = ([119, 114, 105, 116, 101] : List UInt8) then (some (4, 0, 0, 0, ([] : List Int))) else (if (rdOf ByteArray.empty l0 0).toList = ([115, 121, 110, 99] : List UInt8) then (some (5, 0, 0, 0, ([] : List Int))) else (if (rdOf ByteArray.empty l0 0).toList = ([99, 107, 112, 116] : List UInt8) then (some (6, 0, 0, 0, ([] : List Int))) else (if (rdOf ByteArray.empty l0 0).toList = ([99, 114, 97, 115, 104] : List UInt8) then ((words_number.f l0 1).bind fun t190 => ((words_number.f l0 2).bind fun t191 => (some (7, 0, t190, t191, ([] : List Int))))) else (if (rdOf ByteArray.empty l0 0).toList = ([98, 111, 111, 116] : List UInt8) then (some (8, 0, 0, 0, ([] : List Int))) else (if (rdOf ByteArray.empty l0 0).toList = ([97, 115, 107] : List UInt8) then (if 1 ≤ (l0.length : Int) then ((strings_Join.f (l0.drop 1) (⟨#[32]⟩ : ByteArray)).bind fun t194 => (words_guess.l0 k t194 1 0 0 0 ([] : List Int))) else (none)) else ((words_asked.f k l0).bind fun bt200 => ((request_Encode.f bt200.1 bt200.2.1 bt200.2.2.1 bt200.2.2.2.1 bt200.2.2.2.2.1 bt200.2.2.2.2.2.1 bt200.2.2.2.2.2.2.1 bt200.2.2.2.2.2.2.2).bind fun bt210 => (some (1, 0, 0, 0, bt210.1)))))))))))) else (none)
def words_guess.T21 : Bool × List (List Nat × List Nat) := (true, [([], []), ([0], [0]), ([], []), ([2], [2]), ([3], [3]), ([4], [4]), ([], []), ([6], [6]), ([7, 4], [7]), ([5, 8], [5, 8]), ([9], [9]), ([1, 10, 8], [1, 10]), ([0, 1, 2, 3, 4, 5, 6, 7, 8, 9, 10, 11], []), ([12, 11, 11, 0, 1, 2, 3, 4, 5, 6, 7, 8, 9, 10, 11], [11, 12])])
def words_guess.B21 : List Nat := [0, 1, 0, 4, 12, 28, 0, 64, 220, 508, 1020, 2047, 4095, 8191]
theorem words_guess.tab21 : rtab .any (opsOf Tryd.f48 21) = words_guess.T21 := by kernel_rfl
theorem words_guess.bits21 : waitsOk words_guess.T21.2 words_guess.B21 = true := by kernel_rfl
set_option maxHeartbeats 8000000 in
set_option maxRecDepth 100000 in
theorem words_guess.calls (k : Nat) (A0 : Option Addr) (c0 : Nat) (l0 : List ByteArray) (r1 : Int) (r2 : Int) (r3 : Int) (r4 : Int) (r5 : List Int) (w : World) (hG0 : Gl w) (hr0 : Kd.C Kd.string w A0 l0.length l0) (hc0 : l0.length ≤ c0) (h : words_guess.f k l0 = some (r1, r2, r3, r4, r5)) :
    Calls Tryd.prog 48 #[.slice A0 l0.length c0] w fun e w' => ∃ v4_ : Value, e = .returned (.agg #[.int .u8 r1, .int .u32 r2, .int .i64 r3, .int .i64 r4, v4_]) ∧ Kd.R (Kd.int .u8) 5 w' w.heap.size (fun _ => True) v4_ r5 ∧ Below w.heap.size w w' := by
  have hu64 := Tryd.underlying64
  have hG := Aside0.mk hG0
  clear hG0
  have HR0 := Aside0.mk hr0
  have HC0 := Aside0.mk hc0
  clear hr0 hc0
  have HB := Aside0.mk (Below.refl w.heap.size w)
  have H : (if 0 < (l0.length : Int) then (if (rdOf ByteArray.empty l0 0).toList = ([112, 105, 99, 107] : List UInt8) then ((words_number.f l0 1).bind fun t188 => (some (2, (t188) % 4294967296, 0, 0, ([] : List Int)))) else (if (rdOf ByteArray.empty l0 0).toList = ([107, 105, 108, 108] : List UInt8) then ((words_number.f l0 1).bind fun t189 => (some (3, (t189) % 4294967296, 0, 0, ([] : List Int)))) else (if (rdOf ByteArray.empty l0 0).toList = ([119, 114, 105, 116, 101] : List UInt8) then (some (4, 0, 0, 0, ([] : List Int))) else (if (rdOf ByteArray.empty l0 0).toList = ([115, 121, 110, 99] : List UInt8) then (some (5, 0, 0, 0, ([] : List Int))) else (if (rdOf ByteArray.empty l0 0).toList = ([99, 107, 112, 116] : List UInt8) then (some (6, 0, 0, 0, ([] : List Int))) else (if (rdOf ByteArray.empty l0 0).toList = ([99, 114, 97, 115, 104] : List UInt8) then ((words_number.f l0 1).bind fun t190 => ((words_number.f l0 2).bind fun t191 => (some (7, 0, t190, t191, ([] : List Int))))) else (if (rdOf ByteArray.empty l0 0).toList = ([98, 111, 111, 116] : List UInt8) then (some (8, 0, 0, 0, ([] : List Int))) else (if (rdOf ByteArray.empty l0 0).toList = ([97, 115, 107] : List UInt8) then (if 1 ≤ (l0.length : Int) then ((strings_Join.f (l0.drop 1) (⟨#[32]⟩ : ByteArray)).bind fun t194 => (words_guess.l0 k t194 1 0 0 0 ([] : List Int))) else (none)) else ((words_asked.f k l0).bind fun bt200 => ((request_Encode.f bt200.1 bt200.2.1 bt200.2.2.1 bt200.2.2.2.1 bt200.2.2.2.2.1 bt200.2.2.2.2.2.1 bt200.2.2.2.2.2.2.1 bt200.2.2.2.2.2.2.2).bind fun bt210 => (some (1, 0, 0, 0, bt210.1)))))))))))) else (none)) = some (r1, r2, r3, r4, r5) := h
  clear h
  by_cases c2 : 0 < (l0.length : Int)
  focus
    rw [if_pos c2] at H
    have c2b0 := decide_eq_true c2
    have c2b1 : decide (0 < l0.length) = true := decide_eq_true qW9x2
    clear c2
    by_cases c3 : (rdOf ByteArray.empty l0 0).toList = ([112, 105, 99, 107] : List UInt8)
    focus
      rw [if_pos c3] at H
      obtain ⟨c3b0, c3b1⟩ := zeq c3
      clear c3
      obtain ⟨t188, A4, H⟩ := zO H
      try dsimp only at H
      simp only [Option.some.injEq, Prod.mk.injEq] at H
      obtain ⟨rfl, rfl, rfl, rfl, rfl⟩ := H
    rotate_left
    rw [if_neg c3] at H
    obtain ⟨c3b0, c3b1⟩ := zne c3
    by_cases c8 : (rdOf ByteArray.empty l0 0).toList = ([107, 105, 108, 108] : List UInt8)
    focus
      rw [if_pos c8] at H
      obtain ⟨c8b0, c8b1⟩ := zeq c8
      clear c8
      obtain ⟨t189, A9, H⟩ := zO H
      try dsimp only at H
      simp only [Option.some.injEq, Prod.mk.injEq] at H
      obtain ⟨rfl, rfl, rfl, rfl, rfl⟩ := H
    rotate_left
    rw [if_neg c8] at H
    obtain ⟨c8b0, c8b1⟩ := zne c8
    by_cases c13 : (rdOf ByteArray.empty l0 0).toList = ([119, 114, 105, 116, 101] : List UInt8)
    focus
      rw [if_pos c13] at H
      obtain ⟨c13b0, c13b1⟩ := zeq c13
      clear c13
      simp only [Option.some.injEq, Prod.mk.injEq] at H
      obtain ⟨rfl, rfl, rfl, rfl, rfl⟩ := H
    rotate_left
    rw [if_neg c13] at H
    obtain ⟨c13b0, c13b1⟩ := zne c13
    by_cases c16 : (rdOf ByteArray.empty l0 0).toList = ([115, 121, 110, 99] : List UInt8)
    focus
      rw [if_pos c16] at H
      obtain ⟨c16b0, c16b1⟩ := zeq c16
      clear c16
      simp only [Option.some.injEq, Prod.mk.injEq] at H
      obtain ⟨rfl, rfl, rfl, rfl, rfl⟩ := H
    rotate_left
    rw [if_neg c16] at H
    obtain ⟨c16b0, c16b1⟩ := zne c16
    by_cases c19 : (rdOf ByteArray.empty l0 0).toList = ([99, 107, 112, 116] : List UInt8)
    focus
      rw [if_pos c19] at H
      obtain ⟨c19b0, c19b1⟩ := zeq c19
      clear c19
      simp only [Option.some.injEq, Prod.mk.injEq] at H
      obtain ⟨rfl, rfl, rfl, rfl, rfl⟩ := H
    rotate_left
    rw [if_neg c19] at H
    obtain ⟨c19b0, c19b1⟩ := zne c19
    by_cases c22 : (rdOf ByteArray.empty l0 0).toList = ([99, 114, 97, 115, 104] : List UInt8)
    focus
      rw [if_pos c22] at H
      obtain ⟨c22b0, c22b1⟩ := zeq c22
      clear c22
      obtain ⟨t190, A23, H⟩ := zO H
      try dsimp only at H
      obtain ⟨t191, A24, H⟩ := zO H
      try dsimp only at H
      simp only [Option.some.injEq, Prod.mk.injEq] at H
      obtain ⟨rfl, rfl, rfl, rfl, rfl⟩ := H
    rotate_left
    rw [if_neg c22] at H
    obtain ⟨c22b0, c22b1⟩ := zne c22
    by_cases c29 : (rdOf ByteArray.empty l0 0).toList = ([98, 111, 111, 116] : List UInt8)
    focus
      rw [if_pos c29] at H
      obtain ⟨c29b0, c29b1⟩ := zeq c29
      clear c29
      simp only [Option.some.injEq, Prod.mk.injEq] at H
      obtain ⟨rfl, rfl, rfl, rfl, rfl⟩ := H
    rotate_left
    rw [if_neg c29] at H
    obtain ⟨c29b0, c29b1⟩ := zne c29
    by_cases c32 : (rdOf ByteArray.empty l0 0).toList = ([97, 115, 107] : List UInt8)
    · rw [if_pos c32] at H
      obtain ⟨c32b0, c32b1⟩ := zeq c32
      clear c32
      by_cases c33 : 1 ≤ (l0.length : Int)
      rotate_left
      · rw [if_neg c33] at H
        exact absurd H (by simp)
      rw [if_pos c33] at H
      have c33b0 := eq_true c33
      have c33b1 := decide_eq_true c33
      clear c33
      obtain ⟨t194, A34, H⟩ := zO H
      try dsimp only at H
      have H' := Aside0.mk H
      clear H
      go_enter Tryd.func48, Tryd.ntmps48
      go_wp2_with (first | ((with_reducible refine gate_dst (N := 2) rfl ?_); refine zbox (N := 2) (cs := #[.int .u8 0, .int .u32 0, .int .i64 0, .int .i64 0, .slice none 0 0]) (t := 64) (h := ?_); intro gb186 hg w35 hbox hb; have BK186 := Aside0.mk (hbox); have GW186 := zG (p := w.heap.size ≤ gb186); have GE186 := GW186; replace HB := zH hb; clear hb hbox hg; have p187 : 0 ≤ (0 : Int) := qW9x2; have q187 : 0 < (l0.length : Int) := of_decide_eq_true zas; obtain ⟨ad187, e187, hx187_0⟩ := Kd.at_string HR0.out 0 p187 q187; cases e187; have qi187 : (0 < l0.length) = True := eq_true qW9x2; (try rw [show ((0 : Int)).toNat = 0 from rfl] at hx187_0); (try rw [Addr.add_zero'] at hx187_0); replace hx187_0 := (HB.out.cell (World.block_lt_of_cell? w _ hx187_0)).trans hx187_0; replace p187 := eq_true p187; replace q187 := eq_true q187) | ((with_reducible refine gate_dst (N := 3) rfl ?_); refine zbox (N := 3) (cs := #[.int .u8 0, .int .u32 0, .int .i64 0, .int .i64 0, .slice none 0 0]) (t := 64) (h := ?_); intro gb192 hg w36 hbox hb; have BK192 := Aside0.mk (hbox); have GW192 := zG (p := w.heap.size ≤ gb192); have GE192 := GW192; have NB186_192 := zNlt BK186.out (p := gb186 ≠ gb192); have NB192_186 := zNgt BK186.out (p := gb192 ≠ gb186); replace BK186 := zJ BK186 hb; replace HB := zH hb; clear hb hbox hg; have hnb37 := NB192_186.out; have hnc37 := NB186_192.out; have hcz38_0 := zcf5 BK192.out; obtain ⟨i039, hi039, _, hsz39, _⟩ := info_parts info9; obtain ⟨A39, hcut39, hA39, hC39⟩ := print_drop_of (P := Tryd.prog) Value.string (⟨#[]⟩ : ByteArray) 50 9 .i64 Tryd.underlying50 hi039 hsz39 (some ad187) c0 l0 1 qW9x2 (of_decide_eq_true zas) HC0.out; have HR193 := Aside0.mk (Kd.C_of_reads (h1 := fun _ => rfl) (hA39 _ (Kd.reads_of_C HR0.out))); have HC193 := Aside0.mk hC39; clear hA39 hC39 hi039 hsz39) | ((with_reducible refine gate_callee (f := 69) rfl ?_); refine goesZ (some 46) Tryd.func69 (args := #[.slice A39 (l0.drop 1).length (c0 - 1), .string (⟨#[32]⟩ : ByteArray)]) (hargs := (by (try simp only [List.map_toArray, List.map_cons, List.map_nil]); first | done | (rw [show (l0.drop 1).length = (l0.length - 1) from List.length_drop] <;> rfl) | rfl | (simp only [List.length_drop, List.length_take]; rfl))) (h := ?_); (with_reducible refine (strings_Join.calls _ _ (l0.drop 1) (⟨#[32]⟩ : ByteArray) t194 _ ?side1 ?side2 A34.out).mono ?_); (case side1 => exact Kd.C_below HR193.out zB); (case side2 => exact HC193.out); rintro e w40 ⟨rfl, hb⟩; refine ⟨_, rfl, ?_⟩; replace BK186 := Aside0.mk (blk_below (g := gb186) (o := .cells #[.int .u8 0, .int .u32 0, .int .i64 0, .int .i64 0, .slice none 0 0] 64 (0, 0)) (by (with_reducible repeat (first | refine blk_drewN ?_ _ | refine blk_drew ?_ | refine blk_alloc ?_ _)); refine blk_far ?_ NB186_192.out _; (with_reducible repeat (first | refine blk_drewN ?_ _ | refine blk_drew ?_ | refine blk_alloc ?_ _)); refine blk_far ?_ NB186_192.out _; (with_reducible repeat (first | refine blk_drewN ?_ _ | refine blk_drew ?_ | refine blk_alloc ?_ _)); refine blk_far ?_ NB186_192.out _; (with_reducible repeat (first | refine blk_drewN ?_ _ | refine blk_drew ?_ | refine blk_alloc ?_ _)); refine blk_far ?_ NB186_192.out _; (with_reducible repeat (first | refine blk_drewN ?_ _ | refine blk_drew ?_ | refine blk_alloc ?_ _)); refine blk_far ?_ NB186_192.out _; (with_reducible repeat (first | refine blk_drewN ?_ _ | refine blk_drew ?_ | refine blk_alloc ?_ _)); exact BK186.out) hb); replace BK192 := Aside0.mk (blk_below (g := gb192) (o := .cells #[.int .u8 1, .int .u32 0, .int .i64 0, .int .i64 0, .slice none 0 0] 64 (0, 0)) (zQ BK192.out) hb); replace HB := zH hb; clear hb))
      go_loopg [4] k (fun kq v4 w' => ∃ (x4_1 : ByteArray) (x193004_1 : List Int) (u193004 : Value), v4 = .string x4_1 ∧ Aside0 (words_guess.l0 kq x4_1 1 0 0 0 x193004_1 = some (r1, r2, r3, r4, r5)) ∧ Aside0 (kq ≤ k) ∧ Aside0 (Kd.R (Kd.int .u8) 5 w' w.heap.size (fun _ => True) u193004 x193004_1) ∧ Aside0 (w'.heap[gb186]? = some (.cells #[.int .u8 0, .int .u32 0, .int .i64 0, .int .i64 0, (.slice none 0 0)] 64 (0, 0))) ∧ Aside0 (w'.heap[gb192]? = some (.cells #[.int .u8 1, .int .u32 0, .int .i64 0, .int .i64 0, u193004] 64 (0, 0))) ∧ Aside0 (Below w.heap.size w w'))
      case atStart => exact ⟨(t194), (([] : List Int)), (.slice none 0 0), (by first | rfl | (simp; done) | (simp [*]; done)), H', ⟨Nat.le_refl _⟩, ⟨znil⟩, ⟨by (with_reducible repeat (first | refine blk_drewN ?_ _ | refine blk_drew ?_ | refine blk_alloc ?_ _)); exact BK186.out⟩, ⟨by (with_reducible repeat (first | refine blk_drewN ?_ _ | refine blk_drew ?_ | refine blk_alloc ?_ _)); exact BK192.out⟩, ⟨zB⟩⟩
      case round =>
        clear H'
        try clear c1
        try clear p1
        try clear q1
        try clear hx1
        try clear qi1
        try clear c2
        try clear c2b0
        try clear c2b1
        try clear p2
        try clear c3
        try clear c3b0
        try clear c3b1
        try clear c4
        try clear c6
        try clear c8
        try clear c8b0
        try clear c8b1
        try clear c13
        try clear c13b0
        try clear c13b1
        try clear c16
        try clear c16b0
        try clear c16b1
        try clear p18
        try clear q18
        try clear hx18
        try clear qi18
        try clear c19
        try clear c19b0
        try clear c19b1
        try clear c22
        try clear c22b0
        try clear c22b1
        try clear c29
        try clear c29b0
        try clear c29b1
        try clear c32
        try clear c32b0
        try clear c32b1
        try clear c33
        try clear c33b0
        try clear c33b1
        try clear c37
        try clear hcz12_0
        try clear hcz15_0
        try clear hcz18_0
        try clear hcz21_0
        try clear hcz28_0
        try clear hcz31_0
        try clear hcz38_0
        try clear hcz7_0
        try clear hx187_0
        try clear p187
        try clear q187
        obtain ⟨x4_1, x193004_1, u193004, rfl, HA, HK1, HO_193004, BK186, BK192, HB⟩ := hrel
        cases gk with
        | zero => exact absurd HA.out (by simp [words_guess.l0])
        | succ k1 =>
          have H := HA.out
          clear HA
          simp only [words_guess.l0] at H
          by_cases c41 : (x4_1.size : Int) ≥ 2
          rotate_left
          · rw [if_neg c41] at H
            have c41b0 : decide (2 ≤ (x4_1.size : Int)) = false := decide_eq_false c41
            have c41b1 : decide (2 ≤ x4_1.size) = false := decide_eq_false qW9x2
            clear c41
            simp only [Option.some.injEq, Prod.mk.injEq] at H
            obtain ⟨rfl, rfl, rfl, rfl, rfl⟩ := H
            have hnb56 := NB192_186.out
            have hnc56 := NB186_192.out
            have hcz57_0 := zcf5 BK192.out
            have hcz58_0 := zcf5 BK186.out
            obtain ⟨Ao59, co59, eo59⟩ := Kd.R_slice HO_193004.out
            subst eo59
            go_wp2
            refine bodyPost_ret (results_cell_row rfl _ _ gb186 64 #[.int .u8 1, .int .u32 0, .int .i64 0, .int .i64 0, .slice Ao59 x193004_1.length co59] (0, 0) _ rfl (zQ BK186.out) Tryd.underlying64 rfl qW9x1) rfl ?_
            exact ⟨_, zer, by (with_reducible repeat (first | apply Kd.R_alloc | apply Kd.R_drewN | apply Kd.R_drew)); exact Kd.R_mono (Kd.R_far (p := ⟨gb186, 4, none⟩) (Kd.R_far (p := ⟨gb186, 3, none⟩) (Kd.R_far (p := ⟨gb186, 2, none⟩) (Kd.R_far (p := ⟨gb186, 1, none⟩) (Kd.R_far (p := ⟨gb186, 0, none⟩) (Kd.R_types HO_193004.out BK186.out (by decide)) (fun _ hk => hk.2) (.int .u8 1)) (fun _ hk => hk.2) (.int .u32 0)) (fun _ hk => hk.2) (.int .i64 0)) (fun _ hk => hk.2) (.int .i64 0)) (fun _ hk => hk.2) (.slice Ao59 x193004_1.length co59)) (fun _ hk => trivial), zB⟩
          rw [if_pos c41] at H
          have c41b0 := decide_eq_true c41
          have c41b1 : decide (2 ≤ x4_1.size) = true := decide_eq_true qW9x2
          clear c41
          by_cases c42 : 0 < (x4_1.size : Int)
          rotate_left
          · rw [if_neg c42] at H
            exact absurd H (by simp)
          rw [if_pos c42] at H
          have c42b0 := decide_eq_true c42
          have c42b1 : decide (0 < x4_1.size) = true := decide_eq_true qW9x2
          clear c42
          obtain ⟨t195, A44, H⟩ := zO H
          try dsimp only at H
          by_cases c45 : 1 < (x4_1.size : Int)
          rotate_left
          · rw [if_neg c45] at H
            exact absurd H (by simp)
          rw [if_pos c45] at H
          have c45b0 := decide_eq_true c45
          have c45b1 : decide (1 < x4_1.size) = true := decide_eq_true qW9x2
          clear c45
          obtain ⟨t196, A47, H⟩ := zO H
          try dsimp only at H
          by_cases c48 : x193004_1.length < 140737488355328
          rotate_left
          · rw [if_neg c48] at H
            exact absurd H (by simp)
          rw [if_pos c48] at H
          have LMc48 := Aside0.mk c48
          clear c48
          obtain ⟨y197, hy197⟩ : ∃ y_ : List Int, y_ = (x193004_1 ++ [Go.bits .or .u8 ((t195 * 16) % 256) t196]) := ⟨_, rfl⟩
          replace H : (if 2 ≤ (x4_1.size : Int) then (words_guess.l0 k1 (x4_1.extract 2 x4_1.size) 1 0 0 0 y197) else (none)) = some (r1, r2, r3, r4, r5) := by first | (rw [hy197]; with_reducible exact H) | (have H2_ := (Option.bind_some _ _).symm.trans H; rw [hy197]; with_reducible exact H2_) | (have H2_ := (Option.bind_some _ _).symm.trans H; with_reducible exact H2_) | with_reducible exact H | (rw [hy197]; exact H) | exact H
          have Ny197 := Aside0.mk hy197
          clear hy197
          by_cases c49 : 2 ≤ (x4_1.size : Int)
          rotate_left
          · rw [if_neg c49] at H
            exact absurd H (by simp)
          rw [if_pos c49] at H
          have c49b0 := eq_true c49
          have c49b1 := decide_eq_true c49
          clear c49
          have H' := Aside0.mk H
          clear H
          try go_wp2
          replace HO_193004 := Aside0.mk (Kd.R_drew HO_193004.out)
          replace BK186 := Aside0.mk (blk_drew BK186.out)
          replace BK192 := Aside0.mk (blk_drew BK192.out)
          replace HB := Aside0.mk (below_drew1 HB.out)
          have p43 : 0 ≤ (0 : Int) := qW9x2
          have q43 : 0 < x4_1.size := (by have : (0 : Int) < (x4_1.size : Int) := of_decide_eq_true zas; omega)
          have hx43 : ∀ h : 0 < x4_1.size, ((x4_1[0]'h).toNat : Int) = bt x4_1 0 := bt_at x4_1 0
          clear p43
          have qi43 : (0 < (x4_1.size : Int)) = True := eq_true (of_decide_eq_true zas)
          replace q43 := eq_true q43
          have p46 : 0 ≤ (1 : Int) := qW9x2
          have q46 : 1 < x4_1.size := (by have : (1 : Int) < (x4_1.size : Int) := of_decide_eq_true zas; omega)
          have hx46 : ∀ h : 1 < x4_1.size, ((x4_1[1]'h).toNat : Int) = bt x4_1 1 := bt_at x4_1 1
          clear p46
          have qi46 : (1 < (x4_1.size : Int)) = True := eq_true (of_decide_eq_true zas)
          replace q46 := eq_true q46
          refine start_ (n := 14) (S := fun w' => w'.cell? ⟨gb192, 0, none⟩ = some (.int .u8 1) ∧ w'.cell? ⟨gb192, 1, none⟩ = some (.int .u32 0) ∧ w'.cell? ⟨gb192, 2, none⟩ = some (.int .i64 0) ∧ w'.cell? ⟨gb192, 3, none⟩ = some (.int .i64 0) ∧ w'.cell? ⟨gb192, 4, none⟩ = some (u193004)) (ds := [13]) (bz 14 0) qW9x1 rfl qW9x1 ⟨(blk_cell BK192.out 0).trans rfl, (blk_cell BK192.out 1).trans rfl, (blk_cell BK192.out 2).trans rfl, (blk_cell BK192.out 3).trans rfl, (blk_cell BK192.out 4).trans rfl⟩ (fun hHeld => ?_); refine with_tabW words_guess.tab21 words_guess.bits21 (fun HT_ HW_ => ?_)
          generalize wr.drew = w50 at HO_193004 BK186 BK192 HB hHeld ⊢
          refine pureZ (some 52) (bz 14 1) (i := 0) (h := ?_); refine pureZ (some 54) (bz 14 5) (i := 2) (h := ?_); refine pureZ (some 58) (bz 14 69) (i := 6) (h := ?_); refine takeZ (some 53) (bz 14 71) (i := 1) (h := ?_); refine takeZ (some 55) (bz 14 79) (i := 3) (h := ?_); refine takeZ (some 59) (bz 14 207) (i := 7) (h := ?_)
          refine one_ (i := 4) (N := some 56) (bz 14 223) rfl rfl (one_of HT_.out qW9x1) (by decide) (fun K hK => ?_)
          refine goes_ Tryd.func70 qW9x1 rfl #[.int .u8 (bt x4_1 0)] (by rfl) rfl rfl zA ?_
          with_reducible refine (words_nibble.calls (bt x4_1 0) t195 _ A44.out).mono ?_
          rintro e w51 ⟨rfl, hb⟩
          refine ⟨_, rfl, ?_⟩
          replace HO_193004 := zP HO_193004 hb
          replace BK186 := zJ BK186 hb
          replace BK192 := zJ BK192 hb
          replace HB := zH hb
          refine hK.out _ _ ⟨(blk_cell BK192.out 0).trans rfl, (blk_cell BK192.out 1).trans rfl, (blk_cell BK192.out 2).trans rfl, (blk_cell BK192.out 3).trans rfl, (blk_cell BK192.out 4).trans rfl⟩ (fun hHeld => ?_)
          clear hK K
          refine norm_ (a' := ?_) ?_ ?_
          rotate_left
          · show Act.put _ (some 56) _ = _
            simp only [Act.put, List.setIfInBounds_toArray, List.set_cons_zero, List.set_cons_succ, i64_w, i32_w]
            rfl
          refine pureZ (some 57) (bz 14 255) (i := 5) (h := ?_)
          refine one_ (i := 8) (N := some 60) (bz 14 511) rfl rfl (one_of HT_.out qW9x1) (by decide) (fun K hK => ?_)
          refine goes_ Tryd.func70 qW9x1 rfl #[.int .u8 (bt x4_1 1)] (by rfl) rfl rfl zA ?_
          with_reducible refine (words_nibble.calls (bt x4_1 1) t196 _ A47.out).mono ?_
          rintro e w52 ⟨rfl, hb⟩
          refine ⟨_, rfl, ?_⟩
          replace HO_193004 := zP HO_193004 hb
          replace BK186 := zJ BK186 hb
          replace BK192 := zJ BK192 hb
          replace HB := zH hb
          refine hK.out _ _ ⟨(blk_cell BK192.out 0).trans rfl, (blk_cell BK192.out 1).trans rfl, (blk_cell BK192.out 2).trans rfl, (blk_cell BK192.out 3).trans rfl, (blk_cell BK192.out 4).trans rfl⟩ (fun hHeld => ?_)
          clear hK K
          refine norm_ (a' := ?_) ?_ ?_
          rotate_left
          · show Act.put _ (some 60) _ = _
            simp only [Act.put, List.setIfInBounds_toArray, List.set_cons_zero, List.set_cons_succ, i64_w, i32_w]
            rfl
          refine pureZ (some 61) (bz 14 1023) (i := 9) (h := ?_)
          refine one_ (i := 10) (N := some 62) (bz 14 2047) rfl rfl (one_of HT_.out qW9x1) (by decide) (fun K hK => ?_)
          refine value_ (w1 := ?_) (v := ?_) (by rfl) rfl ?_ ?_
          rotate_left 2
          · go_simp
            constructor
            · rfl
            · rfl
          refine hK.out _ _ ⟨(blk_cell (blk_alloc BK192.out _) 0).trans rfl, (blk_cell (blk_alloc BK192.out _) 1).trans rfl, (blk_cell (blk_alloc BK192.out _) 2).trans rfl, (blk_cell (blk_alloc BK192.out _) 3).trans rfl, (blk_cell (blk_alloc BK192.out _) 4).trans rfl⟩ (fun hHeld => ?_)
          clear hK K
          refine norm_ (a' := ?_) ?_ ?_
          rotate_left
          · show Act.put _ (some 62) _ = _
            simp only [Act.put, List.setIfInBounds_toArray, List.set_cons_zero, List.set_cons_succ, i64_w, i32_w]
            rfl
          refine one_ (i := 11) (N := some 63) (bz 14 4095) rfl rfl (one_of HT_.out qW9x1) (by decide) (fun K hK => ?_)
          refine Kd.R_append_step (Kd.int .u8) (w0 := w) w.heap.size (by rfl) (.tmp 53) (.tmp 62) 62 5 (.int .u8 0) 1 rfl Tryd.underlying62 info5 rfl (by decide) qW9x2 u193004 x193004_1 (Go.bits .or .u8 ((t195 * 16) % 256) t196) [.int .u8 (Go.bits .or .u8 ((t195 * 16) % 256) t196)] (fun _ => True) (fun _ => False) rfl rfl ?aP (fun _ hk => hk.elim) ?aF ?aO ?aB ?aS ?aL ?_
          (case aP => exact rfl)
          (case aB => exact zB)
          (case aF => exact (fun _ _ => trivial))
          (case aO => exact (zR HO_193004.out))
          (case aS => exact (below_size zB))
          (case aL => have := LMc48.out; omega)
          intro v198 w53 ho hb hg hat
          rw [← Ny197.out] at ho
          replace BK186 := Aside0.mk (blk_grown (g := gb186) (o := .cells #[.int .u8 0, .int .u32 0, .int .i64 0, .int .i64 0, .slice none 0 0] 64 (0, 0)) (zK BK186.out) hg (Kd.R_ne HO_193004.out BK186.out (by decide)))
          replace BK192 := Aside0.mk (blk_grown (g := gb192) (o := .cells #[.int .u8 1, .int .u32 0, .int .i64 0, .int .i64 0, u193004] 64 (0, 0)) (zK BK192.out) hg (Kd.R_ne HO_193004.out BK192.out (by decide)))
          replace HB := Aside0.mk (hb)
          have HO199 := Aside0.mk (ho)
          clear HO_193004 ho hb hg hat
          obtain ⟨Ao54, co54, eo54⟩ := Kd.R_slice HO199.out
          (first | subst eo54 | (injection eo54 with f1_ f2_ f3_; have f4_ := f1_.symm; have f5_ := f3_.symm; clear f1_ f2_ f3_; subst f4_; subst f5_))
          refine hK.out _ _ ⟨(blk_cell BK192.out 0).trans rfl, (blk_cell BK192.out 1).trans rfl, (blk_cell BK192.out 2).trans rfl, (blk_cell BK192.out 3).trans rfl, (blk_cell BK192.out 4).trans rfl⟩ (fun hHeld => ?_)
          clear hK K
          refine norm_ (a' := ?_) ?_ ?_
          rotate_left
          · show Act.put _ (some 63) _ = _
            simp only [Act.put, List.setIfInBounds_toArray, List.set_cons_zero, List.set_cons_succ, i64_w, i32_w]
            rfl
          refine pureZ (some 64) (bz 14 8191) (i := 12) (h := ?_)
          refine last_ (i := 13) (N := none) (bz 14 16383) rfl rfl (one_of HT_.out qW9x1) (by decide) (fun K hK => ?_)
          have hs55 : w53.cell? ⟨gb192, 4, none⟩ = some (u193004) := (blk_cell BK192.out 4).trans rfl
          have hfs55 := blk_frozen BK192.out 4
          have hns55_0 := NB186_192.out
          have hms55_0 := NB192_186.out
          refine skip_ (w1 := ?_) (by rfl) rfl ?_ ?_
          rotate_left
          · go_simp
            rfl
          refine hK.out _ _ ?_
          clear hK K
          refine done_ (done_of HT_.out qW9x1) ?_
          try go_wp2
          go_roundg k1
          case measure => have := HK1.out; omega
          case rel => exact ⟨(x4_1.extract 2 x4_1.size), (y197), (.slice Ao54 y197.length co54), (by first | rfl | (simp; done) | (simp [*]; done)), H', ⟨by have := HK1.out; omega⟩, ⟨by (with_reducible repeat (first | apply Kd.R_alloc | apply Kd.R_drewN | apply Kd.R_drew)); exact Kd.R_mono (Kd.R_far (p := ⟨gb192, 4, none⟩) (Kd.R_types HO199.out BK192.out (by decide)) (fun _ hk => hk.2) (.slice Ao54 y197.length co54)) (fun _ hk => trivial)⟩, ⟨by (with_reducible repeat (first | refine blk_drewN ?_ _ | refine blk_drew ?_ | refine blk_alloc ?_ _)); refine blk_far ?_ NB186_192.out _; (with_reducible repeat (first | refine blk_drewN ?_ _ | refine blk_drew ?_ | refine blk_alloc ?_ _)); exact BK186.out⟩, ⟨by (with_reducible repeat (first | refine blk_drewN ?_ _ | refine blk_drew ?_ | refine blk_alloc ?_ _)); refine blk_put (cs := #[.int .u8 1, .int .u32 0, .int .i64 0, .int .i64 0, u193004]) ?_ 4 _ rfl; (with_reducible repeat (first | refine blk_drewN ?_ _ | refine blk_drew ?_ | refine blk_alloc ?_ _)); exact BK192.out⟩, ⟨zB⟩⟩
    rw [if_neg c32] at H
    obtain ⟨c32b0, c32b1⟩ := zne c32
    obtain ⟨⟨t200, t201, t202, t203, t206, t207, t208, t209⟩, A60, H⟩ := zO H
    try dsimp only at H
    obtain ⟨⟨t210, t213⟩, A61, H⟩ := zO H
    try dsimp only at H
    simp only [Option.some.injEq, Prod.mk.injEq] at H
    obtain ⟨rfl, rfl, rfl, rfl, rfl⟩ := H
  rotate_left 8
  · rw [if_neg c2] at H
    exact absurd H (by simp)
  all_goals go_enter Tryd.func48, Tryd.ntmps48
  all_goals go_wp2_with (first | ((with_reducible refine gate_dst (N := 2) rfl ?_); refine zbox (N := 2) (cs := #[.int .u8 0, .int .u32 0, .int .i64 0, .int .i64 0, .slice none 0 0]) (t := 64) (h := ?_); intro gb186 hg wx1 hbox hb; have BK186 := Aside0.mk (hbox); have GW186 := zG (p := w.heap.size ≤ gb186); have GE186 := GW186; replace HB := zH hb; clear hb hbox hg; have p187 : 0 ≤ (0 : Int) := qW9x2; have q187 : 0 < (l0.length : Int) := of_decide_eq_true zas; obtain ⟨ad187, e187, hx187_0⟩ := Kd.at_string HR0.out 0 p187 q187; cases e187; have qi187 : (0 < l0.length) = True := eq_true qW9x2; (try rw [show ((0 : Int)).toNat = 0 from rfl] at hx187_0); (try rw [Addr.add_zero'] at hx187_0); replace hx187_0 := (HB.out.cell (World.block_lt_of_cell? w _ hx187_0)).trans hx187_0; replace p187 := eq_true p187; replace q187 := eq_true q187; have hcz15_0 := zcf5 BK186.out) | ((with_reducible refine gate_dst (N := 2) rfl ?_); refine zbox (N := 2) (cs := #[.int .u8 0, .int .u32 0, .int .i64 0, .int .i64 0, .slice none 0 0]) (t := 64) (h := ?_); intro gb186 hg wx1 hbox hb; have BK186 := Aside0.mk (hbox); have GW186 := zG (p := w.heap.size ≤ gb186); have GE186 := GW186; replace HB := zH hb; clear hb hbox hg; have p187 : 0 ≤ (0 : Int) := qW9x2; have q187 : 0 < (l0.length : Int) := of_decide_eq_true zas; obtain ⟨ad187, e187, hx187_0⟩ := Kd.at_string HR0.out 0 p187 q187; cases e187; have qi187 : (0 < l0.length) = True := eq_true qW9x2; (try rw [show ((0 : Int)).toNat = 0 from rfl] at hx187_0); (try rw [Addr.add_zero'] at hx187_0); replace hx187_0 := (HB.out.cell (World.block_lt_of_cell? w _ hx187_0)).trans hx187_0; replace p187 := eq_true p187; replace q187 := eq_true q187; have hcz18_0 := zcf5 BK186.out) | ((with_reducible refine gate_dst (N := 2) rfl ?_); refine zbox (N := 2) (cs := #[.int .u8 0, .int .u32 0, .int .i64 0, .int .i64 0, .slice none 0 0]) (t := 64) (h := ?_); intro gb186 hg wx1 hbox hb; have BK186 := Aside0.mk (hbox); have GW186 := zG (p := w.heap.size ≤ gb186); have GE186 := GW186; replace HB := zH hb; clear hb hbox hg; have p187 : 0 ≤ (0 : Int) := qW9x2; have q187 : 0 < (l0.length : Int) := of_decide_eq_true zas; obtain ⟨ad187, e187, hx187_0⟩ := Kd.at_string HR0.out 0 p187 q187; cases e187; have qi187 : (0 < l0.length) = True := eq_true qW9x2; (try rw [show ((0 : Int)).toNat = 0 from rfl] at hx187_0); (try rw [Addr.add_zero'] at hx187_0); replace hx187_0 := (HB.out.cell (World.block_lt_of_cell? w _ hx187_0)).trans hx187_0; replace p187 := eq_true p187; replace q187 := eq_true q187; have hcz21_0 := zcf5 BK186.out) | ((with_reducible refine gate_dst (N := 2) rfl ?_); refine zbox (N := 2) (cs := #[.int .u8 0, .int .u32 0, .int .i64 0, .int .i64 0, .slice none 0 0]) (t := 64) (h := ?_); intro gb186 hg wx1 hbox hb; have BK186 := Aside0.mk (hbox); have GW186 := zG (p := w.heap.size ≤ gb186); have GE186 := GW186; replace HB := zH hb; clear hb hbox hg; have p187 : 0 ≤ (0 : Int) := qW9x2; have q187 : 0 < (l0.length : Int) := of_decide_eq_true zas; obtain ⟨ad187, e187, hx187_0⟩ := Kd.at_string HR0.out 0 p187 q187; cases e187; have qi187 : (0 < l0.length) = True := eq_true qW9x2; (try rw [show ((0 : Int)).toNat = 0 from rfl] at hx187_0); (try rw [Addr.add_zero'] at hx187_0); replace hx187_0 := (HB.out.cell (World.block_lt_of_cell? w _ hx187_0)).trans hx187_0; replace p187 := eq_true p187; replace q187 := eq_true q187; have hcz31_0 := zcf5 BK186.out) | ((with_reducible refine gate_dst (N := 2) rfl ?_); refine zbox (N := 2) (cs := #[.int .u8 0, .int .u32 0, .int .i64 0, .int .i64 0, .slice none 0 0]) (t := 64) (h := ?_); intro gb186 hg wx1 hbox hb; have BK186 := Aside0.mk (hbox); have GW186 := zG (p := w.heap.size ≤ gb186); have GE186 := GW186; replace HB := zH hb; clear hb hbox hg; have p187 : 0 ≤ (0 : Int) := qW9x2; have q187 : 0 < (l0.length : Int) := of_decide_eq_true zas; obtain ⟨ad187, e187, hx187_0⟩ := Kd.at_string HR0.out 0 p187 q187; cases e187; have qi187 : (0 < l0.length) = True := eq_true qW9x2; (try rw [show ((0 : Int)).toNat = 0 from rfl] at hx187_0); (try rw [Addr.add_zero'] at hx187_0); replace hx187_0 := (HB.out.cell (World.block_lt_of_cell? w _ hx187_0)).trans hx187_0; replace p187 := eq_true p187; replace q187 := eq_true q187) | ((with_reducible refine gate_callee (f := 68) rfl ?_); refine goesZ (some 36) Tryd.func68 (args := #[.slice (some ad187) l0.length c0, .int .i64 2]) (h := ?_); (with_reducible refine (words_number.calls _ _ l0 2 t191 _ ?side1 ?side2 ?side3 A24.out).mono ?_); (case side1 => exact Gl.below hG.out zB); (case side2 => exact zC (Kd.C_below HR0.out HB.out)); (case side3 => exact HC0.out); rintro e wx3 ⟨rfl, hb⟩; refine ⟨_, rfl, ?_⟩; replace BK186 := zJ BK186 hb; replace HB := zH hb; clear hb; have hcz28_0 := zcf5 BK186.out) | ((with_reducible refine gate_callee (f := 68) rfl ?_); refine goesZ (some 19) Tryd.func68 (args := #[.slice (some ad187) l0.length c0, .int .i64 1]) (h := ?_); (with_reducible refine (words_number.calls _ _ l0 1 t189 _ ?side1 ?side2 ?side3 A9.out).mono ?_); (case side1 => exact Gl.below hG.out zB); (case side2 => exact zC (Kd.C_below HR0.out HB.out)); (case side3 => exact HC0.out); rintro e wx2 ⟨rfl, hb⟩; refine ⟨_, rfl, ?_⟩; replace BK186 := zJ BK186 hb; replace HB := zH hb; clear hb; have hcz12_0 := zcf5 BK186.out) | ((with_reducible refine gate_callee (f := 68) rfl ?_); refine goesZ (some 13) Tryd.func68 (args := #[.slice (some ad187) l0.length c0, .int .i64 1]) (h := ?_); (with_reducible refine (words_number.calls _ _ l0 1 t188 _ ?side1 ?side2 ?side3 A4.out).mono ?_); (case side1 => exact Gl.below hG.out zB); (case side2 => exact zC (Kd.C_below HR0.out HB.out)); (case side3 => exact HC0.out); rintro e wx2 ⟨rfl, hb⟩; refine ⟨_, rfl, ?_⟩; replace BK186 := zJ BK186 hb; replace HB := zH hb; clear hb; have hcz7_0 := zcf5 BK186.out) | ((with_reducible refine gate_callee (f := 68) rfl ?_); refine goesZ (some 34) Tryd.func68 (args := #[.slice (some ad187) l0.length c0, .int .i64 1]) (h := ?_); (with_reducible refine (words_number.calls _ _ l0 1 t190 _ ?side1 ?side2 ?side3 A23.out).mono ?_); (case side1 => exact Gl.below hG.out zB); (case side2 => exact zC (Kd.C_below HR0.out HB.out)); (case side3 => exact HC0.out); rintro e wx2 ⟨rfl, hb⟩; refine ⟨_, rfl, ?_⟩; replace BK186 := zJ BK186 hb; replace HB := zH hb; clear hb) | ((with_reducible refine gate_callee (f := 72) rfl ?_); refine goesZ (some 68) Tryd.func72 (args := #[.slice (some ad187) l0.length c0]) (h := ?_); (with_reducible refine (words_asked.calls k _ _ l0 t200 t201 t202 t203 t206 t207 t208 t209 _ ?side1 ?side2 ?side3 A60.out).mono ?_); (case side1 => exact Gl.below hG.out zB); (case side2 => exact zC (Kd.C_below HR0.out HB.out)); (case side3 => exact HC0.out); rintro e wx2 ⟨vx1, rfl, hox1, hb⟩; refine ⟨_, rfl, ?_⟩; have HOx1 := Aside0.mk (Kd.R_lower hox1 (below_size zB)); replace BK186 := zJ BK186 hb; replace HB := zH hb; clear hb hox1; obtain ⟨Aox1, cox1, eox1⟩ := Kd.R_slice HOx1.out; subst eox1) | ((with_reducible refine gate_callee (f := 71) rfl ?_); refine goesZ (some 69) Tryd.func71 (args := #[.agg #[.int .u8 t200, .int .u32 t201, .int .u8 t202, .slice Aox1 t203.length cox1, .int .u8 t206, .int .u8 t207, .int .u8 t208, .int .i64 t209]]) (h := ?_); (with_reducible refine (request_Encode.calls t200 t201 t202 _ _ t203 t206 t207 t208 t209 t210 t213 _ ?side1 ?side2 A61.out).mono ?_); (case side1 => exact zC ((Kd.R_reads' HOx1.out).2.2)); (case side2 => exact (Kd.R_reads' HOx1.out).2.1); rintro e wx3 ⟨vx2, rfl, hox1, hb⟩; refine ⟨_, rfl, ?_⟩; replace HOx1 := zP HOx1 hb; have HOx2 := Aside0.mk (Kd.R_lower hox1 (below_size zB)); replace BK186 := zJ BK186 hb; replace HB := zH hb; clear hb hox1; obtain ⟨Aox2, cox2, eox2⟩ := Kd.R_slice HOx2.out; subst eox2; have hczx1 := zcf5 BK186.out))
  all_goals first | (refine bodyPost_ret (results_cell_row rfl _ _ gb186 64 #[.int .u8 1, .int .u32 0, .int .i64 0, .int .i64 0, .slice Aox2 t210.length cox2] (0, 0) _ rfl (zQ BK186.out) Tryd.underlying64 rfl qW9x1) rfl ?_; exact ⟨_, zer, by (with_reducible repeat (first | apply Kd.R_alloc | apply Kd.R_drewN | apply Kd.R_drew)); exact Kd.R_mono (Kd.R_far (p := ⟨gb186, 4, none⟩) (Kd.R_far (p := ⟨gb186, 3, none⟩) (Kd.R_far (p := ⟨gb186, 2, none⟩) (Kd.R_far (p := ⟨gb186, 1, none⟩) (Kd.R_far (p := ⟨gb186, 0, none⟩) (Kd.R_types HOx2.out BK186.out (by decide)) (fun _ hk => hk.2) (.int .u8 1)) (fun _ hk => hk.2) (.int .u32 0)) (fun _ hk => hk.2) (.int .i64 0)) (fun _ hk => hk.2) (.int .i64 0)) (fun _ hk => hk.2) (.slice Aox2 t210.length cox2)) (fun _ hk => trivial), zB⟩) | (refine bodyPost_ret (results_cell_row rfl _ _ gb186 64 #[.int .u8 2, .int .u32 ((t188) % 4294967296), .int .i64 0, .int .i64 0, .slice none 0 0] (0, 0) _ rfl (zQ BK186.out) Tryd.underlying64 rfl qW9x1) rfl ?_; exact ⟨_, zer, znil, zB⟩) | (refine bodyPost_ret (results_cell_row rfl _ _ gb186 64 #[.int .u8 3, .int .u32 ((t189) % 4294967296), .int .i64 0, .int .i64 0, .slice none 0 0] (0, 0) _ rfl (zQ BK186.out) Tryd.underlying64 rfl qW9x1) rfl ?_; exact ⟨_, zer, znil, zB⟩) | (refine bodyPost_ret (results_cell_row rfl _ _ gb186 64 #[.int .u8 7, .int .u32 0, .int .i64 t190, .int .i64 t191, .slice none 0 0] (0, 0) _ rfl (zQ BK186.out) Tryd.underlying64 rfl qW9x1) rfl ?_; exact ⟨_, zer, znil, zB⟩) | (refine bodyPost_ret (results_cell_row rfl _ _ gb186 64 #[.int .u8 4, .int .u32 0, .int .i64 0, .int .i64 0, .slice none 0 0] (0, 0) _ rfl (zQ BK186.out) Tryd.underlying64 rfl qW9x1) rfl ?_; exact ⟨_, zer, znil, zB⟩) | (refine bodyPost_ret (results_cell_row rfl _ _ gb186 64 #[.int .u8 5, .int .u32 0, .int .i64 0, .int .i64 0, .slice none 0 0] (0, 0) _ rfl (zQ BK186.out) Tryd.underlying64 rfl qW9x1) rfl ?_; exact ⟨_, zer, znil, zB⟩) | (refine bodyPost_ret (results_cell_row rfl _ _ gb186 64 #[.int .u8 6, .int .u32 0, .int .i64 0, .int .i64 0, .slice none 0 0] (0, 0) _ rfl (zQ BK186.out) Tryd.underlying64 rfl qW9x1) rfl ?_; exact ⟨_, zer, znil, zB⟩) | (refine bodyPost_ret (results_cell_row rfl _ _ gb186 64 #[.int .u8 8, .int .u32 0, .int .i64 0, .int .i64 0, .slice none 0 0] (0, 0) _ rfl (zQ BK186.out) Tryd.underlying64 rfl qW9x1) rfl ?_; exact ⟨_, zer, znil, zB⟩)
end Go.Proofs.YtpnehgajhpejjaaDoor.W
