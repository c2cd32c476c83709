import Derived.Test.YtpnehgajhpejjaaGreatDoorSq
import Derived.Test.YtpnehgajhpejjaaGreatDoorW0
import Derived.Test.YtpnehgajhpejjaaGreatDoorW4
namespace Go.Proofs.YtpnehgajhpejjaaGreatDoor.W
open Go.RowKit Go.Proofs.YtpnehgajhpejjaaGreatDoorW.PrintWords Go.Proofs.YtpnehgajhpejjaaGreatDoorW.PrintLast Go.Proofs.YtpnehgajhpejjaaGreatDoorW.PrintMore
attribute [local go_sem] max2_int min2_int max_two min_two max_three min_three max_four min_four
set_option linter.unusedVariables false
set_option linter.unusedSimpArgs false
theorem qW5x1 {p : Prop} (h : p := by kernel_rfl) : p := h
theorem qW5x2 {p : Prop} (h : p := by first | rfl | (simp; done) | (simp [*]; done)) : p := h
/-! ### words_ask: function 26 -/
def words_ask.l0 : Nat → ByteArray → List (S90) → Int → Int → Option (ByteArray)
  | 0, _, _, _, _ => none
  | k + 1, x3, x19, x20, x21 => if x21 < x20 then (if 0 ≤ x21 then (if x21 < (x19.length : Int) then ((words_put.f (⟨#[]⟩ : ByteArray) (([wrap64 ((rd_T90 x19 x21).f0)] : List Int))).bind fun t115 => (if t115.size + 1 ≤ 9223372036854775807 then ((strconv_FormatInt.f ((rd_T90 x19 x21).f1) 10).bind fun t116 => (if t115.size + 1 + t116.size ≤ 9223372036854775807 then (if x3.size + (t115.size + 1 + t116.size) ≤ 9223372036854775807 then (words_ask.l0 k (x3 ++ ((t115 ++ (⟨#[58]⟩ : ByteArray)) ++ t116)) x19 x20 (wrap64 (x21 + 1))) else (none)) else (none))) else (none))) else (none)) else (none)) else (some x3)
def words_ask.f (k : Nat) (a0_0 : Int) (a0_1 : Int) (a0_2 : Int) (l0_3 : List (S90)) (a0_4 : Int) (a0_5 : Int) (a0_6 : Int) (a0_7 : Int) : Option (ByteArray) := if a0_0 = 1 then ((words_put.f (⟨#[112, 108, 97, 99, 101]⟩ : ByteArray) (([wrap64 (a0_1), wrap64 (a0_2)] : List Int))).bind fun t109 => (words_ask.l0 k t109 l0_3 (l0_3.length : Int) 0)) else (if a0_0 = 5 then ((words_put.f (⟨#[114, 101, 115, 116, 111, 99, 107]⟩ : ByteArray) (([wrap64 (a0_4), wrap64 (a0_6), a0_7] : List Int))).bind fun t120 => (some t120)) else (if a0_0 = 6 then ((words_put.f (⟨#[116, 114, 97, 110, 115, 102, 101, 114]⟩ : ByteArray) (([wrap64 (a0_4), wrap64 (a0_5), wrap64 (a0_6), a0_7] : List Int))).bind fun t124 => (some t124)) else (if a0_0 = 7 then ((words_put.f (⟨#[113, 117, 101, 114, 121]⟩ : ByteArray) (([wrap64 (a0_4)] : List Int))).bind fun t128 => (some t128)) else ((words_about.f a0_0).bind fun t129 => ((words_put.f t129 (([wrap64 (a0_1)] : List Int))).bind fun t133 => (some t133))))))
def words_ask.T7 : Bool × List (List Nat × List Nat) := (true, [([], []), ([], []), ([1], [1]), ([2], [2]), ([3], [3]), ([4], [4]), ([5], [5]), ([], []), ([7], [7]), ([8, 5], [8]), ([6, 9], [6, 9]), ([0, 10], [0, 10]), ([11, 9, 0, 1, 2, 3, 4, 5, 6, 7, 8, 9, 10, 11], [0, 11])])
def words_ask.B7 : List Nat := [0, 0, 2, 6, 14, 30, 62, 0, 128, 446, 1022, 2047, 4095]
theorem words_ask.tab7 : rtab .any (opsOf Tryz.f26 7) = words_ask.T7 := by kernel_rfl
theorem words_ask.bits7 : waitsOk words_ask.T7.2 words_ask.B7 = true := by kernel_rfl
def words_ask.T16 : Bool × List (List Nat × List Nat) := (true, [([], []), ([0], [0]), ([1], [1]), ([], []), ([3], [3]), ([4], [4]), ([5], [5]), ([2, 6, 2], [2, 6]), ([7, 7, 0, 1, 2, 3, 4, 5, 6, 7], [7])])
def words_ask.B16 : List Nat := [0, 1, 3, 0, 8, 24, 56, 127, 255]
theorem words_ask.tab16 : rtab .any (opsOf Tryz.f26 16) = words_ask.T16 := by kernel_rfl
theorem words_ask.bits16 : waitsOk words_ask.T16.2 words_ask.B16 = true := by kernel_rfl
set_option maxHeartbeats 8000000 in
set_option maxRecDepth 100000 in
theorem words_ask.calls (k : Nat) (a0_0 : Int) (a0_1 : Int) (a0_2 : Int) (A0_3 : Option Addr) (c0_3 : Nat) (l0_3 : List (S90)) (a0_4 : Int) (a0_5 : Int) (a0_6 : Int) (a0_7 : Int) (r : ByteArray) (w : World) (hG0 : Gl w) (hr0_3 : Kd.C k90 w A0_3 l0_3.length l0_3) (hc0_3 : l0_3.length ≤ c0_3) (h : words_ask.f k a0_0 a0_1 a0_2 l0_3 a0_4 a0_5 a0_6 a0_7 = some r) :
    Calls Tryz.prog 26 #[.agg #[.int .u8 a0_0, .int .u32 a0_1, .int .u8 a0_2, .slice A0_3 l0_3.length c0_3, .int .u8 a0_4, .int .u8 a0_5, .int .u8 a0_6, .int .i64 a0_7]] w fun e w' => e = .returned (.string r) ∧ Below w.heap.size w w' := by
  have hu51 := Tryz.underlying51
  have hu90 := Tryz.underlying90
  have hG := Aside0.mk hG0
  clear hG0
  have HR0_3 := Aside0.mk hr0_3
  have HC0_3 := Aside0.mk hc0_3
  clear hr0_3 hc0_3
  have HB := Aside0.mk (Below.refl w.heap.size w)
  have H : (if a0_0 = 1 then ((words_put.f (⟨#[112, 108, 97, 99, 101]⟩ : ByteArray) (([wrap64 (a0_1), wrap64 (a0_2)] : List Int))).bind fun t109 => (words_ask.l0 k t109 l0_3 (l0_3.length : Int) 0)) else (if a0_0 = 5 then ((words_put.f (⟨#[114, 101, 115, 116, 111, 99, 107]⟩ : ByteArray) (([wrap64 (a0_4), wrap64 (a0_6), a0_7] : List Int))).bind fun t120 => (some t120)) else (if a0_0 = 6 then ((words_put.f (⟨#[116, 114, 97, 110, 115, 102, 101, 114]⟩ : ByteArray) (([wrap64 (a0_4), wrap64 (a0_5), wrap64 (a0_6), a0_7] : List Int))).bind fun t124 => (some t124)) else (if a0_0 = 7 then ((words_put.f (⟨#[113, 117, 101, 114, 121]⟩ : ByteArray) (([wrap64 (a0_4)] : List Int))).bind fun t128 => (some t128)) else ((words_about.f a0_0).bind fun t129 => ((words_put.f t129 (([wrap64 (a0_1)] : List Int))).bind fun t133 => (some t133))))))) = some r := h
  clear h
  by_cases c2 : a0_0 = 1
  · rw [if_pos c2] at H
    obtain ⟨c2b0, c2b1⟩ := zeq c2
    clear c2
    obtain ⟨y106, hy106⟩ : ∃ y_ : List Int, y_ = (([wrap64 (a0_1), wrap64 (a0_2)] : List Int)) := ⟨_, rfl⟩
    replace H : ((words_put.f (⟨#[112, 108, 97, 99, 101]⟩ : ByteArray) y106).bind fun t109 => (words_ask.l0 k t109 l0_3 (l0_3.length : Int) 0)) = some r := by first | (rw [hy106]; with_reducible exact H) | (have H2_ := (Option.bind_some _ _).symm.trans H; rw [hy106]; with_reducible exact H2_) | (have H2_ := (Option.bind_some _ _).symm.trans H; with_reducible exact H2_) | with_reducible exact H | (rw [hy106]; exact H) | exact H
    have Ny106 := Aside0.mk hy106
    clear hy106
    obtain ⟨t109, A3, H⟩ := zO H
    try dsimp only at H
    have H' := Aside0.mk H
    clear H
    go_enter Tryz.func26, Tryz.ntmps26
    go_wp2_with (first | ((with_reducible refine gate_dst (N := 1) rfl ?_); refine zbox (N := 1) (cs := #[.int .u8 a0_0, .int .u32 a0_1, .int .u8 a0_2, .slice A0_3 l0_3.length c0_3, .int .u8 a0_4, .int .u8 a0_5, .int .u8 a0_6, .int .i64 a0_7]) (t := 51) (h := ?_); intro gb105 hg w4 hbox hb; have BK105 := Aside0.mk (hbox); have GW105 := zG (p := w.heap.size ≤ gb105); have GE105 := GW105; replace HB := zH hb; clear hb hbox hg; have hcz5_0 := zcf8 BK105.out) | ((with_reducible refine gate_dst (N := 16) rfl ?_); refine Kd.R_lit (Kd.int .i64) _ 2 ?hg (N := 16) ?hd (xs := ([wrap64 (a0_1), wrap64 (a0_2)] : List Int)) (inner := [.int .i64 (wrap64 (a0_1)), .int .i64 (wrap64 (a0_2))]) (ok := fun _ => True) (okp := fun _ => True) ?hr ?hp (fun _ hk => hk) trivial (Below.refl _ _) (Nat.le_refl _) (by simp) ?_; (case hd => rfl); (case hg => rfl); (case hr => first | (go_simp; done) | (go_simp; rfl)); (case hp => exact (Reps.one (show Kd.M (Kd.int .i64) _ _ _ (wrap64 (a0_1)) [.int .i64 (wrap64 (a0_1))] from rfl) (Reps.one (show Kd.M (Kd.int .i64) _ _ _ (wrap64 (a0_2)) [.int .i64 (wrap64 (a0_2))] from rfl) (Reps.none _ _)))); intro v107 w6 ho7 hb hg_ hnew_; clear hg_ hnew_; (first | rw [← Ny106.out] at ho7 | (simp only [Int.reduceToNat] at ho7; rw [← Ny106.out] at ho7)); have HO108 := Aside0.mk (Kd.R_lower ho7 (below_size zB)); replace BK105 := zJ BK105 hb; replace HB := zH hb; clear hb ho7; obtain ⟨Ao8, co8, eo8⟩ := Kd.R_slice HO108.out; subst eo8) | ((with_reducible refine gate_callee (f := 27) rfl ?_); refine goesZ (some 17) Tryz.func27 (args := #[.string (⟨#[112, 108, 97, 99, 101]⟩ : ByteArray), .slice Ao8 y106.length co8]) (h := ?_); (with_reducible refine (words_put.calls (⟨#[112, 108, 97, 99, 101]⟩ : ByteArray) _ _ y106 t109 _ ?side1 ?side2 ?side3 A3.out).mono ?_); (case side1 => exact Gl.below hG.out zB); (case side2 => exact zC ((Kd.R_reads' HO108.out).2.2)); (case side3 => exact (Kd.R_reads' HO108.out).2.1); rintro e w9 ⟨rfl, hb⟩; refine ⟨_, rfl, ?_⟩; replace HO108 := zP HO108 hb; replace BK105 := zJ BK105 hb; replace HB := zH hb; clear hb; have hcz10_0 := zcf8 BK105.out))
    go_loopg [3, 21] k (fun kq v3 v21 w' => ∃ (x3_1 : ByteArray) (x21_1 : Int), v3 = .string x3_1 ∧ v21 = .int .i64 x21_1 ∧ Aside0 (words_ask.l0 kq x3_1 l0_3 (l0_3.length : Int) x21_1 = some r) ∧ Aside0 (kq ≤ k) ∧ Aside0 (w'.heap[gb105]? = some (.cells #[.int .u8 a0_0, .int .u32 a0_1, .int .u8 a0_2, (.slice A0_3 l0_3.length c0_3), .int .u8 a0_4, .int .u8 a0_5, .int .u8 a0_6, .int .i64 a0_7] 51 (0, 0))) ∧ Aside0 (Below w.heap.size w w'))
    case atStart => exact ⟨(t109), (0), qW5x2, qW5x2, H', ⟨Nat.le_refl _⟩, ⟨by (with_reducible repeat (first | refine blk_drewN ?_ _ | refine blk_drew ?_ | refine blk_alloc ?_ _)); exact BK105.out⟩, ⟨zB⟩⟩
    case round =>
      clear H'
      try clear c2
      try clear c2b0
      try clear c2b1
      try clear p2
      try clear p6
      try clear hcz10_0
      try clear hcz5_0
      obtain ⟨x3_1, x21_1, rfl, rfl, HA, HK1, BK105, HB⟩ := hrel
      cases gk with
      | zero => exact absurd HA.out (by simp [words_ask.l0])
      | succ k1 =>
        have H := HA.out
        clear HA
        simp only [words_ask.l0] at H
        by_cases c11 : x21_1 < (l0_3.length : Int)
        rotate_left
        · rw [if_neg c11] at H
          have c11b0 : decide (x21_1 < (l0_3.length : Int)) = false := decide_eq_false c11
          clear c11
          obtain rfl := Option.some.inj H
          go_wp2
          go_ret
          exact ⟨zer, zB⟩
        rw [if_pos c11] at H
        have c11b0 := decide_eq_true c11
        clear c11
        by_cases c12 : 0 ≤ x21_1
        rotate_left
        · rw [if_neg c12] at H
          exact absurd H (by simp)
        rw [if_pos c12] at H
        have c12b0 := decide_eq_true c12
        clear c12
        by_cases c13 : x21_1 < (l0_3.length : Int)
        rotate_left
        · rw [if_neg c13] at H
          exact absurd H (by simp)
        rw [if_pos c13] at H
        have c13b0 := decide_eq_true c13
        clear c13
        obtain ⟨y112, hy112⟩ : ∃ y_ : List Int, y_ = (([wrap64 ((rd_T90 l0_3 x21_1).f0)] : List Int)) := ⟨_, rfl⟩
        replace H : ((words_put.f (⟨#[]⟩ : ByteArray) y112).bind fun t115 => (if t115.size + 1 ≤ 9223372036854775807 then ((strconv_FormatInt.f ((rd_T90 l0_3 x21_1).f1) 10).bind fun t116 => (if t115.size + 1 + t116.size ≤ 9223372036854775807 then (if x3_1.size + (t115.size + 1 + t116.size) ≤ 9223372036854775807 then (words_ask.l0 k1 (x3_1 ++ ((t115 ++ (⟨#[58]⟩ : ByteArray)) ++ t116)) l0_3 (l0_3.length : Int) (wrap64 (x21_1 + 1))) else (none)) else (none))) else (none))) = some r := by first | (rw [hy112]; with_reducible exact H) | (have H2_ := (Option.bind_some _ _).symm.trans H; rw [hy112]; with_reducible exact H2_) | (have H2_ := (Option.bind_some _ _).symm.trans H; with_reducible exact H2_) | with_reducible exact H | (rw [hy112]; exact H) | exact H
        have Ny112 := Aside0.mk hy112
        clear hy112
        obtain ⟨t115, A14, H⟩ := zO H
        try dsimp only at H
        by_cases c15 : t115.size + 1 ≤ 9223372036854775807
        rotate_left
        · rw [if_neg c15] at H
          exact absurd H (by simp)
        rw [if_pos c15] at H
        have c15b0 := eq_true c15
        have c15b1 := decide_eq_true c15
        try have c15b2 : (9223372036854775807 < t115.size + 1) = False := eq_false (Nat.not_lt.2 c15)
        obtain ⟨t116, A16, H⟩ := zO H
        try dsimp only at H
        by_cases c17 : t115.size + 1 + t116.size ≤ 9223372036854775807
        rotate_left
        · rw [if_neg c17] at H
          exact absurd H (by simp)
        rw [if_pos c17] at H
        have c17b0 := eq_true c17
        have c17b1 := decide_eq_true c17
        try have c17b2 : (9223372036854775807 < t115.size + 1 + t116.size) = False := eq_false (Nat.not_lt.2 c17)
        by_cases c18 : x3_1.size + (t115.size + 1 + t116.size) ≤ 9223372036854775807
        rotate_left
        · rw [if_neg c18] at H
          exact absurd H (by simp)
        rw [if_pos c18] at H
        have c18b0 := eq_true c18
        have c18b1 := decide_eq_true c18
        try have c18b2 : (9223372036854775807 < x3_1.size + (t115.size + 1 + t116.size)) = False := eq_false (Nat.not_lt.2 c18)
        have H' := Aside0.mk H
        clear H
        have p110 : 0 ≤ (x21_1 : Int) := of_decide_eq_true zas
        have q110 : x21_1 < (l0_3.length : Int) := of_decide_eq_true zas
        obtain ⟨ad110, e110, hx110_0, hx110_1⟩ := at_T90 HR0_3.out x21_1 p110 q110
        cases e110
        replace hx110_0 := (HB.out.cell (World.block_lt_of_cell? w _ hx110_0)).trans hx110_0
        replace hx110_1 := (HB.out.cell (World.block_lt_of_cell? w _ hx110_1)).trans hx110_1
        replace p110 := eq_true p110
        replace q110 := eq_true q110
        try go_wp2_with (first | ((with_reducible refine gate_dst (N := 5) rfl ?_); refine zbox (N := 5) (cs := #[.int .u8 0, .int .i64 0]) (t := 90) (h := ?_); intro gb111 hg w19 hbox hb; have BK111 := Aside0.mk (hbox); have GW111 := zG (p := w.heap.size ≤ gb111); have GE111 := GW111; have NB105_111 := zNlt BK105.out (p := gb105 ≠ gb111); have NB111_105 := zNgt BK105.out (p := gb111 ≠ gb105); replace BK105 := zJ BK105 hb; replace HB := zH hb; clear hb hbox hg; have hnb20 := NB111_105.out; have hnc20 := NB105_111.out; have hcz21_0 := zcf2 BK111.out))
        have n0_ : Aside0 (((w19.setCell ⟨gb111, 0, none⟩ (.int .u8 ((rd_T90 l0_3 x21_1).f0))).setCell ⟨gb111, 1, none⟩ (.int .i64 ((rd_T90 l0_3 x21_1).f1))).heap[gb105]? = some (.cells #[.int .u8 a0_0, .int .u32 a0_1, .int .u8 a0_2, .slice (some ad110) l0_3.length c0_3, .int .u8 a0_4, .int .u8 a0_5, .int .u8 a0_6, .int .i64 a0_7] 51 (0, 0))) := ⟨by (with_reducible repeat (first | refine blk_drewN ?_ _ | refine blk_drew ?_ | refine blk_alloc ?_ _)); refine blk_far ?_ NB105_111.out _; (with_reducible repeat (first | refine blk_drewN ?_ _ | refine blk_drew ?_ | refine blk_alloc ?_ _)); refine blk_far ?_ NB105_111.out _; (with_reducible repeat (first | refine blk_drewN ?_ _ | refine blk_drew ?_ | refine blk_alloc ?_ _)); exact BK105.out⟩
        have n1_ : Aside0 (((w19.setCell ⟨gb111, 0, none⟩ (.int .u8 ((rd_T90 l0_3 x21_1).f0))).setCell ⟨gb111, 1, none⟩ (.int .i64 ((rd_T90 l0_3 x21_1).f1))).heap[gb111]? = some (.cells #[.int .u8 ((rd_T90 l0_3 x21_1).f0), .int .i64 ((rd_T90 l0_3 x21_1).f1)] 90 (0, 0))) := ⟨by (with_reducible repeat (first | refine blk_drewN ?_ _ | refine blk_drew ?_ | refine blk_alloc ?_ _)); refine blk_put (cs := #[.int .u8 ((rd_T90 l0_3 x21_1).f0), .int .i64 0]) ?_ 1 _ rfl; (with_reducible repeat (first | refine blk_drewN ?_ _ | refine blk_drew ?_ | refine blk_alloc ?_ _)); refine blk_put (cs := #[.int .u8 0, .int .i64 0]) ?_ 0 _ rfl; (with_reducible repeat (first | refine blk_drewN ?_ _ | refine blk_drew ?_ | refine blk_alloc ?_ _)); exact BK111.out⟩
        have n2_ : Aside0 (Below w.heap.size w ((w19.setCell ⟨gb111, 0, none⟩ (.int .u8 ((rd_T90 l0_3 x21_1).f0))).setCell ⟨gb111, 1, none⟩ (.int .i64 ((rd_T90 l0_3 x21_1).f1)))) := ⟨zB⟩
        (try clear BK105)
        (try clear BK111)
        (try clear HB)
        generalize ((w19.setCell ⟨gb111, 0, none⟩ (.int .u8 ((rd_T90 l0_3 x21_1).f0))).setCell ⟨gb111, 1, none⟩ (.int .i64 ((rd_T90 l0_3 x21_1).f1))) = w22 at n0_ n1_ n2_ ⊢
        have BK105 := n0_
        have BK111 := n1_
        have HB := n2_
        clear n0_ n1_ n2_
        replace BK105 := Aside0.mk (blk_drew BK105.out)
        replace BK111 := Aside0.mk (blk_drew BK111.out)
        replace HB := Aside0.mk (below_drew1 HB.out)
        refine start_ (n := 13) (S := fun w' => w'.cell? ⟨gb111, 0, none⟩ = some (.int .u8 ((rd_T90 l0_3 x21_1).f0)) ∧ w'.cell? ⟨gb111, 1, none⟩ = some (.int .i64 ((rd_T90 l0_3 x21_1).f1))) (ds := []) (bz 13 0) qW5x1 rfl qW5x1 ⟨(blk_cell BK111.out 0).trans rfl, (blk_cell BK111.out 1).trans rfl⟩ (fun hHeld => ?_); refine with_tabW words_ask.tab7 words_ask.bits7 (fun HT_ HW_ => ?_)
        generalize w22.drew = w23 at BK105 BK111 HB hHeld ⊢
        refine pureZ (some 25) (bz 13 1) (i := 0) (h := ?_); refine pureZ (some 26) (bz 13 3) (i := 1) (h := ?_); refine pureZ (some 32) (bz 13 131) (i := 7) (h := ?_); refine takeZ (some 27) (bz 13 135) (i := 2) (h := ?_); refine pureZ (some 28) (bz 13 143) (i := 3) (h := ?_); refine takeZ (some 33) (bz 13 399) (i := 8) (h := ?_)
        refine one_ (i := 4) (N := some 29) (bz 13 415) rfl rfl (one_of HT_.out qW5x1) (by decide) (fun K hK => ?_)
        refine Kd.R_lit_step (Kd.int .i64) _ 2 ?hg (N := 29) ?hd (xs := ([wrap64 ((rd_T90 l0_3 x21_1).f0)] : List Int)) (inner := [.int .i64 (wrap64 ((rd_T90 l0_3 x21_1).f0))]) (ok := fun _ => True) (okp := fun _ => True) ?hr ?hp (fun _ hk => hk) trivial (Below.refl _ _) (Nat.le_refl _) (by simp) ?_; (case hd => rfl); (case hg => rfl); (case hr => first | (go_simp; done) | (go_simp; rfl)); (case hp => exact (Reps.one (show Kd.M (Kd.int .i64) _ _ _ (wrap64 ((rd_T90 l0_3 x21_1).f0)) [.int .i64 (wrap64 ((rd_T90 l0_3 x21_1).f0))] from rfl) (Reps.none _ _)))
        intro v113 w24 ho25 hb hg_ hnew_
        clear hg_ hnew_
        (first | rw [← Ny112.out] at ho25 | (simp only [Int.reduceToNat] at ho25; rw [← Ny112.out] at ho25))
        have HO114 := Aside0.mk (Kd.R_lower ho25 (below_size zB))
        replace BK105 := zJ BK105 hb
        replace BK111 := zJ BK111 hb
        replace HB := zH hb
        clear hb ho25
        obtain ⟨Ao26, co26, eo26⟩ := Kd.R_slice HO114.out
        (first | subst eo26 | (injection eo26 with f1_ f2_ f3_; have f4_ := f1_.symm; have f5_ := f3_.symm; clear f1_ f2_ f3_; subst f4_; subst f5_))
        refine hK.out _ _ ⟨(blk_cell BK111.out 0).trans rfl, (blk_cell BK111.out 1).trans rfl⟩ (fun hHeld => ?_)
        clear hK K
        refine norm_ (a' := ?_) ?_ ?_
        rotate_left
        · show Act.put _ (some 29) _ = _
          simp only [Act.put, List.setIfInBounds_toArray, List.set_cons_zero, List.set_cons_succ, i64_w, i32_w]
          rfl
        refine one_ (i := 5) (N := some 30) (bz 13 447) rfl rfl (one_of HT_.out qW5x1) (by decide) (fun K hK => ?_)
        refine goes_ Tryz.func27 qW5x1 rfl #[.string (⟨#[]⟩ : ByteArray), .slice Ao26 y112.length co26] (by rfl) rfl rfl zA ?_
        with_reducible refine (words_put.calls (⟨#[]⟩ : ByteArray) _ _ y112 t115 _ ?side1 ?side2 ?side3 A14.out).mono ?_
        (case side1 => exact Gl.below hG.out zB)
        (case side2 => exact zC ((Kd.R_reads' HO114.out).2.2))
        (case side3 => exact (Kd.R_reads' HO114.out).2.1)
        rintro e w27 ⟨rfl, hb⟩
        refine ⟨_, rfl, ?_⟩
        replace HO114 := zP HO114 hb
        replace BK105 := zJ BK105 hb
        replace BK111 := zJ BK111 hb
        replace HB := zH hb
        refine hK.out _ _ ⟨(blk_cell BK111.out 0).trans rfl, (blk_cell BK111.out 1).trans rfl⟩ (fun hHeld => ?_)
        clear hK K
        refine norm_ (a' := ?_) ?_ ?_
        rotate_left
        · show Act.put _ (some 30) _ = _
          simp only [Act.put, List.setIfInBounds_toArray, List.set_cons_zero, List.set_cons_succ, i64_w, i32_w]
          rfl
        refine pureZ (some 31) (bz 13 511) (i := 6) (h := ?_)
        refine one_ (i := 9) (N := some 34) (bz 13 1023) rfl rfl (one_of HT_.out qW5x1) (by decide) (fun K hK => ?_)
        refine goes_ Tryz.func55 qW5x1 rfl #[.int .i64 ((rd_T90 l0_3 x21_1).f1), .int .i64 10] (by rfl) rfl rfl zA ?_
        with_reducible refine (strconv_FormatInt.calls ((rd_T90 l0_3 x21_1).f1) 10 t116 _ ?side1 A16.out).mono ?_
        (case side1 => exact Gl.below hG.out zB)
        rintro e w28 ⟨rfl, hb⟩
        refine ⟨_, rfl, ?_⟩
        replace HO114 := zP HO114 hb
        replace BK105 := zJ BK105 hb
        replace BK111 := zJ BK111 hb
        replace HB := zH hb
        refine hK.out _ _ ⟨(blk_cell BK111.out 0).trans rfl, (blk_cell BK111.out 1).trans rfl⟩ (fun hHeld => ?_)
        clear hK K
        refine norm_ (a' := ?_) ?_ ?_
        rotate_left
        · show Act.put _ (some 34) _ = _
          simp only [Act.put, List.setIfInBounds_toArray, List.set_cons_zero, List.set_cons_succ, i64_w, i32_w]
          rfl
        refine pureZ (some 35) (bz 13 2047) (i := 10) (h := ?_); refine pureZ (some 36) (bz 13 4095) (i := 11) (h := ?_); refine pureZ (some 3) (bz 13 8191) (i := 12) (h := ?_)
        refine done_ (done_of HT_.out qW5x1) ?_
        try go_wp2
        go_roundg k1
        case measure => have := HK1.out; omega
        case rel => exact ⟨(x3_1 ++ ((t115 ++ (⟨#[58]⟩ : ByteArray)) ++ t116)), (wrap64 (x21_1 + 1)), qW5x2, qW5x2, H', ⟨by have := HK1.out; omega⟩, ⟨by (with_reducible repeat (first | refine blk_drewN ?_ _ | refine blk_drew ?_ | refine blk_alloc ?_ _)); exact BK105.out⟩, ⟨zB⟩⟩
  rw [if_neg c2] at H
  obtain ⟨c2b0, c2b1⟩ := zne c2
  by_cases c29 : a0_0 = 5
  focus
    rw [if_pos c29] at H
    obtain ⟨c29b0, c29b1⟩ := zeq c29
    clear c29
    obtain ⟨y117, hy117⟩ : ∃ y_ : List Int, y_ = (([wrap64 (a0_4), wrap64 (a0_6), a0_7] : List Int)) := ⟨_, rfl⟩
    replace H : ((words_put.f (⟨#[114, 101, 115, 116, 111, 99, 107]⟩ : ByteArray) y117).bind fun t120 => (some t120)) = some r := by first | (rw [hy117]; with_reducible exact H) | (have H2_ := (Option.bind_some _ _).symm.trans H; rw [hy117]; with_reducible exact H2_) | (have H2_ := (Option.bind_some _ _).symm.trans H; with_reducible exact H2_) | with_reducible exact H | (rw [hy117]; exact H) | exact H
    have Ny117 := Aside0.mk hy117
    clear hy117
    obtain ⟨t120, A30, H⟩ := zO H
    try dsimp only at H
    obtain rfl := Option.some.inj H
  rotate_left
  rw [if_neg c29] at H
  obtain ⟨c29b0, c29b1⟩ := zne c29
  by_cases c37 : a0_0 = 6
  focus
    rw [if_pos c37] at H
    obtain ⟨c37b0, c37b1⟩ := zeq c37
    clear c37
    obtain ⟨y121, hy121⟩ : ∃ y_ : List Int, y_ = (([wrap64 (a0_4), wrap64 (a0_5), wrap64 (a0_6), a0_7] : List Int)) := ⟨_, rfl⟩
    replace H : ((words_put.f (⟨#[116, 114, 97, 110, 115, 102, 101, 114]⟩ : ByteArray) y121).bind fun t124 => (some t124)) = some r := by first | (rw [hy121]; with_reducible exact H) | (have H2_ := (Option.bind_some _ _).symm.trans H; rw [hy121]; with_reducible exact H2_) | (have H2_ := (Option.bind_some _ _).symm.trans H; with_reducible exact H2_) | with_reducible exact H | (rw [hy121]; exact H) | exact H
    have Ny121 := Aside0.mk hy121
    clear hy121
    obtain ⟨t124, A38, H⟩ := zO H
    try dsimp only at H
    obtain rfl := Option.some.inj H
  rotate_left
  rw [if_neg c37] at H
  obtain ⟨c37b0, c37b1⟩ := zne c37
  by_cases c45 : a0_0 = 7
  focus
    rw [if_pos c45] at H
    obtain ⟨c45b0, c45b1⟩ := zeq c45
    clear c45
    obtain ⟨y125, hy125⟩ : ∃ y_ : List Int, y_ = (([wrap64 (a0_4)] : List Int)) := ⟨_, rfl⟩
    replace H : ((words_put.f (⟨#[113, 117, 101, 114, 121]⟩ : ByteArray) y125).bind fun t128 => (some t128)) = some r := by first | (rw [hy125]; with_reducible exact H) | (have H2_ := (Option.bind_some _ _).symm.trans H; rw [hy125]; with_reducible exact H2_) | (have H2_ := (Option.bind_some _ _).symm.trans H; with_reducible exact H2_) | with_reducible exact H | (rw [hy125]; exact H) | exact H
    have Ny125 := Aside0.mk hy125
    clear hy125
    obtain ⟨t128, A46, H⟩ := zO H
    try dsimp only at H
    obtain rfl := Option.some.inj H
  rotate_left
  · rw [if_neg c45] at H
    obtain ⟨c45b0, c45b1⟩ := zne c45
    obtain ⟨t129, A53, H⟩ := zO H
    try dsimp only at H
    obtain ⟨y130, hy130⟩ : ∃ y_ : List Int, y_ = (([wrap64 (a0_1)] : List Int)) := ⟨_, rfl⟩
    replace H : ((words_put.f t129 y130).bind fun t133 => (some t133)) = some r := by first | (rw [hy130]; with_reducible exact H) | (have H2_ := (Option.bind_some _ _).symm.trans H; rw [hy130]; with_reducible exact H2_) | (have H2_ := (Option.bind_some _ _).symm.trans H; with_reducible exact H2_) | with_reducible exact H | (rw [hy130]; exact H) | exact H
    have Ny130 := Aside0.mk hy130
    clear hy130
    obtain ⟨t133, A54, H⟩ := zO H
    try dsimp only at H
    obtain rfl := Option.some.inj H
    go_enter Tryz.func26, Tryz.ntmps26
    try go_wp2_with (first | ((with_reducible refine gate_dst (N := 1) rfl ?_); refine zbox (N := 1) (cs := #[.int .u8 a0_0, .int .u32 a0_1, .int .u8 a0_2, .slice A0_3 l0_3.length c0_3, .int .u8 a0_4, .int .u8 a0_5, .int .u8 a0_6, .int .i64 a0_7]) (t := 51) (h := ?_); intro gb105 hg w55 hbox hb; have BK105 := Aside0.mk (hbox); have GW105 := zG (p := w.heap.size ≤ gb105); have GE105 := GW105; replace HB := zH hb; clear hb hbox hg; have hcz56_0 := zcf8 BK105.out))
    replace BK105 := Aside0.mk (blk_drew BK105.out)
    replace HB := Aside0.mk (below_drew1 HB.out)
    refine start_ (n := 9) (S := fun w' => w'.cell? ⟨gb105, 0, none⟩ = some (.int .u8 a0_0) ∧ w'.cell? ⟨gb105, 1, none⟩ = some (.int .u32 a0_1) ∧ w'.cell? ⟨gb105, 2, none⟩ = some (.int .u8 a0_2) ∧ w'.cell? ⟨gb105, 3, none⟩ = some (.slice A0_3 l0_3.length c0_3) ∧ w'.cell? ⟨gb105, 4, none⟩ = some (.int .u8 a0_4) ∧ w'.cell? ⟨gb105, 5, none⟩ = some (.int .u8 a0_5) ∧ w'.cell? ⟨gb105, 6, none⟩ = some (.int .u8 a0_6) ∧ w'.cell? ⟨gb105, 7, none⟩ = some (.int .i64 a0_7)) (ds := []) (bz 9 0) qW5x1 rfl qW5x1 ⟨(blk_cell BK105.out 0).trans rfl, (blk_cell BK105.out 1).trans rfl, (blk_cell BK105.out 2).trans rfl, (blk_cell BK105.out 3).trans rfl, (blk_cell BK105.out 4).trans rfl, (blk_cell BK105.out 5).trans rfl, (blk_cell BK105.out 6).trans rfl, (blk_cell BK105.out 7).trans rfl⟩ (fun hHeld => ?_); refine with_tabW words_ask.tab16 words_ask.bits16 (fun HT_ HW_ => ?_)
    generalize w55.drew = w57 at BK105 HB hHeld ⊢
    refine pureZ (some 73) (bz 9 1) (i := 0) (h := ?_); refine pureZ (some 76) (bz 9 9) (i := 3) (h := ?_); refine takeZ (some 74) (bz 9 11) (i := 1) (h := ?_); refine takeZ (some 77) (bz 9 27) (i := 4) (h := ?_); refine pureZ (some 78) (bz 9 59) (i := 5) (h := ?_)
    refine join_ (σ := Value) 2 (bz 9 127) (fun s_ => [(75, .string t129), (79, s_)]) (fun s_ w' => (w'.cell? ⟨gb105, 0, none⟩ = some (.int .u8 a0_0) ∧ w'.cell? ⟨gb105, 1, none⟩ = some (.int .u32 a0_1) ∧ w'.cell? ⟨gb105, 2, none⟩ = some (.int .u8 a0_2) ∧ w'.cell? ⟨gb105, 3, none⟩ = some (.slice A0_3 l0_3.length c0_3) ∧ w'.cell? ⟨gb105, 4, none⟩ = some (.int .u8 a0_4) ∧ w'.cell? ⟨gb105, 5, none⟩ = some (.int .u8 a0_5) ∧ w'.cell? ⟨gb105, 6, none⟩ = some (.int .u8 a0_6) ∧ w'.cell? ⟨gb105, 7, none⟩ = some (.int .i64 a0_7)) ∧ (Kd.R (Kd.int .i64) 2 w' w.heap.size (fun _ => True) s_ y130) ∧ (w'.heap[gb105]? = some (.cells #[.int .u8 a0_0, .int .u32 a0_1, .int .u8 a0_2, .slice A0_3 l0_3.length c0_3, .int .u8 a0_4, .int .u8 a0_5, .int .u8 a0_6, .int .i64 a0_7] 51 (0, 0))) ∧ (Below w.heap.size w w')) ?_ ?_
    rotate_left
    · intro hCont
      refine two_ (i := 2) (j := 6) (Ni := some 75) (Nj := some 79) (bz 9 63) (bz 9 123) rfl rfl rfl rfl (two_of HT_.out qW5x1) (by decide) (by decide) (fun K hK => ?_) (fun K hK => ?_)
      · skip
        refine goes_ Tryz.func56 qW5x1 rfl #[.int .u8 a0_0] (by rfl) rfl rfl zA ?_
        with_reducible refine (words_about.calls a0_0 t129 _ A53.out).mono ?_
        rintro e w' ⟨rfl, ⟨nd, rfl⟩⟩
        refine ⟨_, rfl, ?_⟩
        refine hK.out _ _ ⟨(blk_cell BK105.out 0).trans rfl, (blk_cell BK105.out 1).trans rfl, (blk_cell BK105.out 2).trans rfl, (blk_cell BK105.out 3).trans rfl, (blk_cell BK105.out 4).trans rfl, (blk_cell BK105.out 5).trans rfl, (blk_cell BK105.out 6).trans rfl, (blk_cell BK105.out 7).trans rfl⟩ (fun hHeld => ?_)
        clear hK K
        refine norm_ (a' := ?_) ?_ ?_
        rotate_left
        · show Act.put _ (some 75) _ = _
          simp only [Act.put, List.setIfInBounds_toArray, List.set_cons_zero, List.set_cons_succ, i64_w, i32_w]
          rfl
        refine one_ (i := 6) (N := some 79) (bz 9 127) rfl rfl (one_of HT_.out qW5x1) (by decide) (fun K hK => ?_)
        refine Kd.R_lit_step (Kd.int .i64) _ 2 ?hg (N := 79) ?hd (xs := ([wrap64 (a0_1)] : List Int)) (inner := [.int .i64 (wrap64 (a0_1))]) (ok := fun _ => True) (okp := fun _ => True) ?hr ?hp (fun _ hk => hk) trivial (Below.refl _ _) (Nat.le_refl _) (by simp) ?_; (case hd => rfl); (case hg => rfl); (case hr => first | (go_simp; done) | (go_simp; rfl)); (case hp => exact (Reps.one (show Kd.M (Kd.int .i64) _ _ _ (wrap64 (a0_1)) [.int .i64 (wrap64 (a0_1))] from rfl) (Reps.none _ _)))
        intro v131 w58 ho59 hb hg_ hnew_
        clear hg_ hnew_
        (first | rw [← Ny130.out] at ho59 | (simp only [Int.reduceToNat] at ho59; rw [← Ny130.out] at ho59))
        have HO132 := Aside0.mk (Kd.R_lower ho59 (below_size zB))
        replace BK105 := zJ BK105 hb
        replace HB := zH hb
        clear hb ho59
        refine hK.out _ _ ⟨(blk_cell BK105.out 0).trans rfl, (blk_cell BK105.out 1).trans rfl, (blk_cell BK105.out 2).trans rfl, (blk_cell BK105.out 3).trans rfl, (blk_cell BK105.out 4).trans rfl, (blk_cell BK105.out 5).trans rfl, (blk_cell BK105.out 6).trans rfl, (blk_cell BK105.out 7).trans rfl⟩ (fun hHeld => ?_)
        clear hK K
        refine norm_ (a' := ?_) ?_ ?_
        rotate_left
        · show Act.put _ (some 79) _ = _
          simp only [Act.put, List.setIfInBounds_toArray, List.set_cons_zero, List.set_cons_succ, i64_w, i32_w]
          rfl
        exact norm_ (by simp only [putAll, Act.put, List.setIfInBounds_toArray, List.set_cons_zero, List.set_cons_succ]) (hCont (v131) _ ⟨hHeld, (zR HO132.out), (zK BK105.out), zB⟩)
      · skip
        refine Kd.R_lit_step (Kd.int .i64) _ 2 ?hg (N := 79) ?hd (xs := ([wrap64 (a0_1)] : List Int)) (inner := [.int .i64 (wrap64 (a0_1))]) (ok := fun _ => True) (okp := fun _ => True) ?hr ?hp (fun _ hk => hk) trivial (Below.refl _ _) (Nat.le_refl _) (by simp) ?_; (case hd => rfl); (case hg => rfl); (case hr => first | (go_simp; done) | (go_simp; rfl)); (case hp => exact (Reps.one (show Kd.M (Kd.int .i64) _ _ _ (wrap64 (a0_1)) [.int .i64 (wrap64 (a0_1))] from rfl) (Reps.none _ _)))
        intro v131 w58 ho59 hb hg_ hnew_
        clear hg_ hnew_
        (first | rw [← Ny130.out] at ho59 | (simp only [Int.reduceToNat] at ho59; rw [← Ny130.out] at ho59))
        have HO132 := Aside0.mk (Kd.R_lower ho59 (below_size zB))
        replace BK105 := zJ BK105 hb
        replace HB := zH hb
        clear hb ho59
        refine hK.out _ _ ⟨(blk_cell BK105.out 0).trans rfl, (blk_cell BK105.out 1).trans rfl, (blk_cell BK105.out 2).trans rfl, (blk_cell BK105.out 3).trans rfl, (blk_cell BK105.out 4).trans rfl, (blk_cell BK105.out 5).trans rfl, (blk_cell BK105.out 6).trans rfl, (blk_cell BK105.out 7).trans rfl⟩ (fun hHeld => ?_)
        clear hK K
        refine norm_ (a' := ?_) ?_ ?_
        rotate_left
        · show Act.put _ (some 79) _ = _
          simp only [Act.put, List.setIfInBounds_toArray, List.set_cons_zero, List.set_cons_succ, i64_w, i32_w]
          rfl
        refine one_ (i := 2) (N := some 75) (bz 9 127) rfl rfl (one_of HT_.out qW5x1) (by decide) (fun K hK => ?_)
        refine goes_ Tryz.func56 qW5x1 rfl #[.int .u8 a0_0] (by rfl) rfl rfl zA ?_
        with_reducible refine (words_about.calls a0_0 t129 _ A53.out).mono ?_
        rintro e w' ⟨rfl, ⟨nd, rfl⟩⟩
        refine ⟨_, rfl, ?_⟩
        refine hK.out _ _ ⟨(blk_cell BK105.out 0).trans rfl, (blk_cell BK105.out 1).trans rfl, (blk_cell BK105.out 2).trans rfl, (blk_cell BK105.out 3).trans rfl, (blk_cell BK105.out 4).trans rfl, (blk_cell BK105.out 5).trans rfl, (blk_cell BK105.out 6).trans rfl, (blk_cell BK105.out 7).trans rfl⟩ (fun hHeld => ?_)
        clear hK K
        refine norm_ (a' := ?_) ?_ ?_
        rotate_left
        · show Act.put _ (some 75) _ = _
          simp only [Act.put, List.setIfInBounds_toArray, List.set_cons_zero, List.set_cons_succ, i64_w, i32_w]
          rfl
        exact norm_ (by simp only [putAll, Act.put, List.setIfInBounds_toArray, List.set_cons_zero, List.set_cons_succ]) (hCont (v131) _ ⟨hHeld, (zR HO132.out), (zK BK105.out), zB⟩)
    rintro v131 w60 ⟨hS_, h0_, h1_, h2_⟩
    have HO132 : Aside0 (Kd.R (Kd.int .i64) 2 w60 w.heap.size (fun _ => True) v131 y130) := ⟨h0_⟩
    replace BK105 : Aside0 (w60.heap[gb105]? = some (.cells #[.int .u8 a0_0, .int .u32 a0_1, .int .u8 a0_2, .slice A0_3 l0_3.length c0_3, .int .u8 a0_4, .int .u8 a0_5, .int .u8 a0_6, .int .i64 a0_7] 51 (0, 0))) := ⟨h1_⟩
    replace HB : Aside0 (Below w.heap.size w w60) := ⟨h2_⟩
    clear h0_ h1_ h2_
    have hHeld : w60.cell? ⟨gb105, 0, none⟩ = some (.int .u8 a0_0) ∧ w60.cell? ⟨gb105, 1, none⟩ = some (.int .u32 a0_1) ∧ w60.cell? ⟨gb105, 2, none⟩ = some (.int .u8 a0_2) ∧ w60.cell? ⟨gb105, 3, none⟩ = some (.slice A0_3 l0_3.length c0_3) ∧ w60.cell? ⟨gb105, 4, none⟩ = some (.int .u8 a0_4) ∧ w60.cell? ⟨gb105, 5, none⟩ = some (.int .u8 a0_5) ∧ w60.cell? ⟨gb105, 6, none⟩ = some (.int .u8 a0_6) ∧ w60.cell? ⟨gb105, 7, none⟩ = some (.int .i64 a0_7) := hS_
    obtain ⟨Ao61, co61, eo61⟩ := Kd.R_slice HO132.out
    (first | subst eo61 | (injection eo61 with f1_ f2_ f3_; have f4_ := f1_.symm; have f5_ := f3_.symm; clear f1_ f2_ f3_; subst f4_; subst f5_))
    refine norm_ (a' := ?_) ?_ ?_
    rotate_left
    · simp only [putAll, Act.put, List.setIfInBounds_toArray, List.set_cons_zero, List.set_cons_succ]
      rfl
    refine one_ (i := 7) (N := some 80) (bz 9 255) rfl rfl (one_of HT_.out qW5x1) (by decide) (fun K hK => ?_)
    refine goes_ Tryz.func27 qW5x1 rfl #[.string t129, .slice Ao61 y130.length co61] (by rfl) rfl rfl zA ?_
    with_reducible refine (words_put.calls t129 _ _ y130 t133 _ ?side1 ?side2 ?side3 A54.out).mono ?_
    (case side1 => exact Gl.below hG.out zB)
    (case side2 => exact zC ((Kd.R_reads' HO132.out).2.2))
    (case side3 => exact (Kd.R_reads' HO132.out).2.1)
    rintro e w62 ⟨rfl, hb⟩
    refine ⟨_, rfl, ?_⟩
    replace HO132 := zP HO132 hb
    replace BK105 := zJ BK105 hb
    replace HB := zH hb
    refine hK.out _ _ ⟨(blk_cell BK105.out 0).trans rfl, (blk_cell BK105.out 1).trans rfl, (blk_cell BK105.out 2).trans rfl, (blk_cell BK105.out 3).trans rfl, (blk_cell BK105.out 4).trans rfl, (blk_cell BK105.out 5).trans rfl, (blk_cell BK105.out 6).trans rfl, (blk_cell BK105.out 7).trans rfl⟩ (fun hHeld => ?_)
    clear hK K
    refine norm_ (a' := ?_) ?_ ?_
    rotate_left
    · show Act.put _ (some 80) _ = _
      simp only [Act.put, List.setIfInBounds_toArray, List.set_cons_zero, List.set_cons_succ, i64_w, i32_w]
      rfl
    refine pureZ (some 2) (bz 9 511) (i := 8) (h := ?_)
    refine done_ (done_of HT_.out qW5x1) ?_
    try go_wp2
    go_ret
    exact ⟨zer, zB⟩
  all_goals go_enter Tryz.func26, Tryz.ntmps26
  all_goals go_wp2_with (first | ((with_reducible refine gate_dst (N := 1) rfl ?_); refine zbox (N := 1) (cs := #[.int .u8 a0_0, .int .u32 a0_1, .int .u8 a0_2, .slice A0_3 l0_3.length c0_3, .int .u8 a0_4, .int .u8 a0_5, .int .u8 a0_6, .int .i64 a0_7]) (t := 51) (h := ?_); intro gb105 hg wx1 hbox hb; have BK105 := Aside0.mk (hbox); have GW105 := zG (p := w.heap.size ≤ gb105); have GE105 := GW105; replace HB := zH hb; clear hb hbox hg; have hczx1 := zcf8 BK105.out) | ((with_reducible refine gate_dst (N := 49) rfl ?_); refine Kd.R_lit (Kd.int .i64) _ 2 ?hg (N := 49) ?hd (xs := ([wrap64 (a0_4), wrap64 (a0_6), a0_7] : List Int)) (inner := [.int .i64 (wrap64 (a0_4)), .int .i64 (wrap64 (a0_6)), .int .i64 a0_7]) (ok := fun _ => True) (okp := fun _ => True) ?hr ?hp (fun _ hk => hk) trivial (Below.refl _ _) (Nat.le_refl _) (by simp) ?_; (case hd => rfl); (case hg => rfl); (case hr => first | (go_simp; done) | (go_simp; rfl)); (case hp => exact (Reps.one (show Kd.M (Kd.int .i64) _ _ _ (wrap64 (a0_4)) [.int .i64 (wrap64 (a0_4))] from rfl) (Reps.one (show Kd.M (Kd.int .i64) _ _ _ (wrap64 (a0_6)) [.int .i64 (wrap64 (a0_6))] from rfl) (Reps.one (show Kd.M (Kd.int .i64) _ _ _ a0_7 [.int .i64 a0_7] from rfl) (Reps.none _ _))))); intro vx1 wx2 hox1 hb hg_ hnew_; clear hg_ hnew_; (first | rw [← Ny117.out] at hox1 | (simp only [Int.reduceToNat] at hox1; rw [← Ny117.out] at hox1)); have HOx1 := Aside0.mk (Kd.R_lower hox1 (below_size zB)); replace BK105 := zJ BK105 hb; replace HB := zH hb; clear hb hox1; obtain ⟨Aox1, cox1, eox1⟩ := Kd.R_slice HOx1.out; subst eox1) | ((with_reducible refine gate_callee (f := 27) rfl ?_); refine goesZ (some 65) Tryz.func27 (args := #[.string (⟨#[116, 114, 97, 110, 115, 102, 101, 114]⟩ : ByteArray), .slice Aox1 y121.length cox1]) (h := ?_); (with_reducible refine (words_put.calls (⟨#[116, 114, 97, 110, 115, 102, 101, 114]⟩ : ByteArray) _ _ y121 t124 _ ?side1 ?side2 ?side3 A38.out).mono ?_); (case side1 => exact Gl.below hG.out zB); (case side2 => exact zC ((Kd.R_reads' HOx1.out).2.2)); (case side3 => exact (Kd.R_reads' HOx1.out).2.1); rintro e wx3 ⟨rfl, hb⟩; refine ⟨_, rfl, ?_⟩; replace HOx1 := zP HOx1 hb; replace BK105 := zJ BK105 hb; replace HB := zH hb; clear hb) | ((with_reducible refine gate_callee (f := 27) rfl ?_); refine goesZ (some 50) Tryz.func27 (args := #[.string (⟨#[114, 101, 115, 116, 111, 99, 107]⟩ : ByteArray), .slice Aox1 y117.length cox1]) (h := ?_); (with_reducible refine (words_put.calls (⟨#[114, 101, 115, 116, 111, 99, 107]⟩ : ByteArray) _ _ y117 t120 _ ?side1 ?side2 ?side3 A30.out).mono ?_); (case side1 => exact Gl.below hG.out zB); (case side2 => exact zC ((Kd.R_reads' HOx1.out).2.2)); (case side3 => exact (Kd.R_reads' HOx1.out).2.1); rintro e wx3 ⟨rfl, hb⟩; refine ⟨_, rfl, ?_⟩; replace HOx1 := zP HOx1 hb; replace BK105 := zJ BK105 hb; replace HB := zH hb; clear hb) | ((with_reducible refine gate_callee (f := 27) rfl ?_); refine goesZ (some 72) Tryz.func27 (args := #[.string (⟨#[113, 117, 101, 114, 121]⟩ : ByteArray), .slice Aox1 y125.length cox1]) (h := ?_); (with_reducible refine (words_put.calls (⟨#[113, 117, 101, 114, 121]⟩ : ByteArray) _ _ y125 t128 _ ?side1 ?side2 ?side3 A46.out).mono ?_); (case side1 => exact Gl.below hG.out zB); (case side2 => exact zC ((Kd.R_reads' HOx1.out).2.2)); (case side3 => exact (Kd.R_reads' HOx1.out).2.1); rintro e wx3 ⟨rfl, hb⟩; refine ⟨_, rfl, ?_⟩; replace HOx1 := zP HOx1 hb; replace BK105 := zJ BK105 hb; replace HB := zH hb; clear hb) | ((with_reducible refine gate_dst (N := 64) rfl ?_); refine Kd.R_lit (Kd.int .i64) _ 2 ?hg (N := 64) ?hd (xs := ([wrap64 (a0_4), wrap64 (a0_5), wrap64 (a0_6), a0_7] : List Int)) (inner := [.int .i64 (wrap64 (a0_4)), .int .i64 (wrap64 (a0_5)), .int .i64 (wrap64 (a0_6)), .int .i64 a0_7]) (ok := fun _ => True) (okp := fun _ => True) ?hr ?hp (fun _ hk => hk) trivial (Below.refl _ _) (Nat.le_refl _) (by simp) ?_; (case hd => rfl); (case hg => rfl); (case hr => first | (go_simp; done) | (go_simp; rfl)); (case hp => exact (Reps.one (show Kd.M (Kd.int .i64) _ _ _ (wrap64 (a0_4)) [.int .i64 (wrap64 (a0_4))] from rfl) (Reps.one (show Kd.M (Kd.int .i64) _ _ _ (wrap64 (a0_5)) [.int .i64 (wrap64 (a0_5))] from rfl) (Reps.one (show Kd.M (Kd.int .i64) _ _ _ (wrap64 (a0_6)) [.int .i64 (wrap64 (a0_6))] from rfl) (Reps.one (show Kd.M (Kd.int .i64) _ _ _ a0_7 [.int .i64 a0_7] from rfl) (Reps.none _ _)))))); intro vx1 wx2 hox1 hb hg_ hnew_; clear hg_ hnew_; (first | rw [← Ny121.out] at hox1 | (simp only [Int.reduceToNat] at hox1; rw [← Ny121.out] at hox1)); have HOx1 := Aside0.mk (Kd.R_lower hox1 (below_size zB)); replace BK105 := zJ BK105 hb; replace HB := zH hb; clear hb hox1; obtain ⟨Aox1, cox1, eox1⟩ := Kd.R_slice HOx1.out; subst eox1) | ((with_reducible refine gate_dst (N := 71) rfl ?_); refine Kd.R_lit (Kd.int .i64) _ 2 ?hg (N := 71) ?hd (xs := ([wrap64 (a0_4)] : List Int)) (inner := [.int .i64 (wrap64 (a0_4))]) (ok := fun _ => True) (okp := fun _ => True) ?hr ?hp (fun _ hk => hk) trivial (Below.refl _ _) (Nat.le_refl _) (by simp) ?_; (case hd => rfl); (case hg => rfl); (case hr => first | (go_simp; done) | (go_simp; rfl)); (case hp => exact (Reps.one (show Kd.M (Kd.int .i64) _ _ _ (wrap64 (a0_4)) [.int .i64 (wrap64 (a0_4))] from rfl) (Reps.none _ _))); intro vx1 wx2 hox1 hb hg_ hnew_; clear hg_ hnew_; (first | rw [← Ny125.out] at hox1 | (simp only [Int.reduceToNat] at hox1; rw [← Ny125.out] at hox1)); have HOx1 := Aside0.mk (Kd.R_lower hox1 (below_size zB)); replace BK105 := zJ BK105 hb; replace HB := zH hb; clear hb hox1; obtain ⟨Aox1, cox1, eox1⟩ := Kd.R_slice HOx1.out; subst eox1))
  all_goals (go_ret; exact ⟨zer, zB⟩)
end Go.Proofs.YtpnehgajhpejjaaGreatDoor.W
