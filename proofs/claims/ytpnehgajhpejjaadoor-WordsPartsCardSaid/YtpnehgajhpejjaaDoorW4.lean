import Derived.Test.YtpnehgajhpejjaaDoorSq
import Derived.Test.YtpnehgajhpejjaaDoorW0
import Derived.Test.YtpnehgajhpejjaaDoorW3
namespace Go.Proofs.YtpnehgajhpejjaaDoor.W
open Go.RowKit Go.Proofs.YtpnehgajhpejjaaDoorW.PrintWords Go.Proofs.YtpnehgajhpejjaaDoorW.PrintLast Go.Proofs.YtpnehgajhpejjaaDoorW.PrintMore
attribute [local go_sem] max2_int min2_int max_two min_two max_three min_three max_four min_four
set_option linter.unusedVariables false
set_option linter.unusedSimpArgs false
theorem qW4x1 {p : Prop} (h : p := by kernel_rfl) : p := h
theorem qW4x2 {p : Prop} (h : p := by first | rfl | (simp; done) | (simp [*]; done)) : p := h
/-! ### words_ask: function 52 -/
def words_ask.l0 : Nat → ByteArray → List (S109) → Int → Int → Option (ByteArray)
  | 0, _, _, _, _ => none
  | k + 1, x3, x19, x20, x21 => if x21 < x20 then (if 0 ≤ x21 then (if x21 < (x19.length : Int) then ((words_put.f (⟨#[]⟩ : ByteArray) (([wrap64 ((rd_T109 x19 x21).f0)] : List Int))).bind fun t114 => (if t114.size + 1 ≤ 9223372036854775807 then ((strconv_FormatInt.f ((rd_T109 x19 x21).f1) 10).bind fun t115 => (if t114.size + 1 + t115.size ≤ 9223372036854775807 then (if x3.size + (t114.size + 1 + t115.size) ≤ 9223372036854775807 then (words_ask.l0 k (x3 ++ ((t114 ++ (⟨#[58]⟩ : ByteArray)) ++ t115)) x19 x20 (wrap64 (x21 + 1))) else (none)) else (none))) else (none))) else (none)) else (none)) else (some x3)
def words_ask.f (k : Nat) (a0_0 : Int) (a0_1 : Int) (a0_2 : Int) (l0_3 : List (S109)) (a0_4 : Int) (a0_5 : Int) (a0_6 : Int) (a0_7 : Int) : Option (ByteArray) := if a0_0 = 1 then ((words_put.f (⟨#[112, 108, 97, 99, 101]⟩ : ByteArray) (([wrap64 (a0_1), wrap64 (a0_2)] : List Int))).bind fun t108 => (words_ask.l0 k t108 l0_3 (l0_3.length : Int) 0)) else (if a0_0 = 5 then ((words_put.f (⟨#[114, 101, 115, 116, 111, 99, 107]⟩ : ByteArray) (([wrap64 (a0_4), wrap64 (a0_6), a0_7] : List Int))).bind fun t119 => (some t119)) else (if a0_0 = 6 then ((words_put.f (⟨#[116, 114, 97, 110, 115, 102, 101, 114]⟩ : ByteArray) (([wrap64 (a0_4), wrap64 (a0_5), wrap64 (a0_6), a0_7] : List Int))).bind fun t123 => (some t123)) else (if a0_0 = 7 then ((words_put.f (⟨#[113, 117, 101, 114, 121]⟩ : ByteArray) (([wrap64 (a0_4)] : List Int))).bind fun t127 => (some t127)) else ((words_about.f a0_0).bind fun t128 => ((words_put.f t128 (([wrap64 (a0_1)] : List Int))).bind fun t132 => (some t132))))))
def words_ask.T7 : Bool × List (List Nat × List Nat) := (true, [([], []), ([], []), ([1], [1]), ([2], [2]), ([3], [3]), ([4], [4]), ([5], [5]), ([], []), ([7], [7]), ([8, 5], [8]), ([6, 9], [6, 9]), ([0, 10], [0, 10]), ([11, 9, 0, 1, 2, 3, 4, 5, 6, 7, 8, 9, 10, 11], [0, 11])])
def words_ask.B7 : List Nat := [0, 0, 2, 6, 14, 30, 62, 0, 128, 446, 1022, 2047, 4095]
theorem words_ask.tab7 : rtab .any (opsOf Tryd.f52 7) = words_ask.T7 := by kernel_rfl
theorem words_ask.bits7 : waitsOk words_ask.T7.2 words_ask.B7 = true := by kernel_rfl
def words_ask.T16 : Bool × List (List Nat × List Nat) := (true, [([], []), ([0], [0]), ([1], [1]), ([], []), ([3], [3]), ([4], [4]), ([5], [5]), ([2, 6, 2], [2, 6]), ([7, 7, 0, 1, 2, 3, 4, 5, 6, 7], [7])])
def words_ask.B16 : List Nat := [0, 1, 3, 0, 8, 24, 56, 127, 255]
theorem words_ask.tab16 : rtab .any (opsOf Tryd.f52 16) = words_ask.T16 := by kernel_rfl
theorem words_ask.bits16 : waitsOk words_ask.T16.2 words_ask.B16 = true := by kernel_rfl
set_option maxHeartbeats 8000000 in
set_option maxRecDepth 100000 in
theorem words_ask.calls (k : Nat) (a0_0 : Int) (a0_1 : Int) (a0_2 : Int) (A0_3 : Option Addr) (c0_3 : Nat) (l0_3 : List (S109)) (a0_4 : Int) (a0_5 : Int) (a0_6 : Int) (a0_7 : Int) (r : ByteArray) (w : World) (hG0 : Gl w) (hr0_3 : Kd.C k109 w A0_3 l0_3.length l0_3) (hc0_3 : l0_3.length ≤ c0_3) (h : words_ask.f k a0_0 a0_1 a0_2 l0_3 a0_4 a0_5 a0_6 a0_7 = some r) :
    Calls Tryd.prog 52 #[.agg #[.int .u8 a0_0, .int .u32 a0_1, .int .u8 a0_2, .slice A0_3 l0_3.length c0_3, .int .u8 a0_4, .int .u8 a0_5, .int .u8 a0_6, .int .i64 a0_7]] w fun e w' => e = .returned (.string r) ∧ Below w.heap.size w w' := by
  have hu78 := Tryd.underlying78
  have hu109 := Tryd.underlying109
  have hG := Aside0.mk hG0
  clear hG0
  have HR0_3 := Aside0.mk hr0_3
  have HC0_3 := Aside0.mk hc0_3
  clear hr0_3 hc0_3
  have HB := Aside0.mk (Below.refl w.heap.size w)
  have H : (if a0_0 = 1 then ((words_put.f (⟨#[112, 108, 97, 99, 101]⟩ : ByteArray) (([wrap64 (a0_1), wrap64 (a0_2)] : List Int))).bind fun t108 => (words_ask.l0 k t108 l0_3 (l0_3.length : Int) 0)) else (if a0_0 = 5 then ((words_put.f (⟨#[114, 101, 115, 116, 111, 99, 107]⟩ : ByteArray) (([wrap64 (a0_4), wrap64 (a0_6), a0_7] : List Int))).bind fun t119 => (some t119)) else (if a0_0 = 6 then ((words_put.f (⟨#[116, 114, 97, 110, 115, 102, 101, 114]⟩ : ByteArray) (([wrap64 (a0_4), wrap64 (a0_5), wrap64 (a0_6), a0_7] : List Int))).bind fun t123 => (some t123)) else (if a0_0 = 7 then ((words_put.f (⟨#[113, 117, 101, 114, 121]⟩ : ByteArray) (([wrap64 (a0_4)] : List Int))).bind fun t127 => (some t127)) else ((words_about.f a0_0).bind fun t128 => ((words_put.f t128 (([wrap64 (a0_1)] : List Int))).bind fun t132 => (some t132))))))) = some r := h
  clear h
  by_cases c2 : a0_0 = 1
  · rw [if_pos c2] at H
    obtain ⟨c2b0, c2b1⟩ := zeq c2
    clear c2
    obtain ⟨y105, hy105⟩ : ∃ y_ : List Int, y_ = (([wrap64 (a0_1), wrap64 (a0_2)] : List Int)) := ⟨_, rfl⟩
    replace H : ((words_put.f (⟨#[112, 108, 97, 99, 101]⟩ : ByteArray) y105).bind fun t108 => (words_ask.l0 k t108 l0_3 (l0_3.length : Int) 0)) = some r := by first | (rw [hy105]; with_reducible exact H) | (have H2_ := (Option.bind_some _ _).symm.trans H; rw [hy105]; with_reducible exact H2_) | (have H2_ := (Option.bind_some _ _).symm.trans H; with_reducible exact H2_) | with_reducible exact H | (rw [hy105]; exact H) | exact H
    have Ny105 := Aside0.mk hy105
    clear hy105
    obtain ⟨t108, A3, H⟩ := zO H
    try dsimp only at H
    have H' := Aside0.mk H
    clear H
    go_enter Tryd.func52, Tryd.ntmps52
    go_wp2_with (first | ((with_reducible refine gate_dst (N := 1) rfl ?_); refine zbox (N := 1) (cs := #[.int .u8 a0_0, .int .u32 a0_1, .int .u8 a0_2, .slice A0_3 l0_3.length c0_3, .int .u8 a0_4, .int .u8 a0_5, .int .u8 a0_6, .int .i64 a0_7]) (t := 78) (h := ?_); intro gb104 hg w4 hbox hb; have BK104 := Aside0.mk (hbox); have GW104 := zG (p := w.heap.size ≤ gb104); have GE104 := GW104; replace HB := zH hb; clear hb hbox hg; have hcz5_0 := zcf8 BK104.out) | ((with_reducible refine gate_dst (N := 16) rfl ?_); refine Kd.R_lit (Kd.int .i64) _ 2 ?hg (N := 16) ?hd (xs := ([wrap64 (a0_1), wrap64 (a0_2)] : List Int)) (inner := [.int .i64 (wrap64 (a0_1)), .int .i64 (wrap64 (a0_2))]) (ok := fun _ => True) (okp := fun _ => True) ?hr ?hp (fun _ hk => hk) trivial (Below.refl _ _) (Nat.le_refl _) (by simp) ?_; (case hd => rfl); (case hg => rfl); (case hr => first | (go_simp; done) | (go_simp; rfl)); (case hp => exact (Reps.one (show Kd.M (Kd.int .i64) _ _ _ (wrap64 (a0_1)) [.int .i64 (wrap64 (a0_1))] from rfl) (Reps.one (show Kd.M (Kd.int .i64) _ _ _ (wrap64 (a0_2)) [.int .i64 (wrap64 (a0_2))] from rfl) (Reps.none _ _)))); intro v106 w6 ho7 hb hg_ hnew_; clear hg_ hnew_; (first | rw [← Ny105.out] at ho7 | (simp only [Int.reduceToNat] at ho7; rw [← Ny105.out] at ho7)); have HO107 := Aside0.mk (Kd.R_lower ho7 (below_size zB)); replace BK104 := zJ BK104 hb; replace HB := zH hb; clear hb ho7; obtain ⟨Ao8, co8, eo8⟩ := Kd.R_slice HO107.out; subst eo8) | ((with_reducible refine gate_callee (f := 53) rfl ?_); refine goesZ (some 17) Tryd.func53 (args := #[.string (⟨#[112, 108, 97, 99, 101]⟩ : ByteArray), .slice Ao8 y105.length co8]) (h := ?_); (with_reducible refine (words_put.calls (⟨#[112, 108, 97, 99, 101]⟩ : ByteArray) _ _ y105 t108 _ ?side1 ?side2 ?side3 A3.out).mono ?_); (case side1 => exact Gl.below hG.out zB); (case side2 => exact zC ((Kd.R_reads' HO107.out).2.2)); (case side3 => exact (Kd.R_reads' HO107.out).2.1); rintro e w9 ⟨rfl, hb⟩; refine ⟨_, rfl, ?_⟩; replace HO107 := zP HO107 hb; replace BK104 := zJ BK104 hb; replace HB := zH hb; clear hb; have hcz10_0 := zcf8 BK104.out))
    go_loopg [3, 21] k (fun kq v3 v21 w' => ∃ (x3_1 : ByteArray) (x21_1 : Int), v3 = .string x3_1 ∧ v21 = .int .i64 x21_1 ∧ Aside0 (words_ask.l0 kq x3_1 l0_3 (l0_3.length : Int) x21_1 = some r) ∧ Aside0 (kq ≤ k) ∧ Aside0 (w'.heap[gb104]? = some (.cells #[.int .u8 a0_0, .int .u32 a0_1, .int .u8 a0_2, (.slice A0_3 l0_3.length c0_3), .int .u8 a0_4, .int .u8 a0_5, .int .u8 a0_6, .int .i64 a0_7] 78 (0, 0))) ∧ Aside0 (Below w.heap.size w w'))
    case atStart => exact ⟨(t108), (0), qW4x2, qW4x2, H', ⟨Nat.le_refl _⟩, ⟨by (with_reducible repeat (first | refine blk_drewN ?_ _ | refine blk_drew ?_ | refine blk_alloc ?_ _)); exact BK104.out⟩, ⟨zB⟩⟩
    case round =>
      clear H'
      try clear c2
      try clear c2b0
      try clear c2b1
      try clear p2
      try clear c5
      try clear p6
      try clear hcz10_0
      try clear hcz5_0
      obtain ⟨x3_1, x21_1, rfl, rfl, HA, HK1, BK104, HB⟩ := hrel
      cases gk with
      | zero => exact absurd HA.out (by simp [words_ask.l0])
      | succ k1 =>
        have H := HA.out
        clear HA
        simp only [words_ask.l0] at H
        by_cases c11 : x21_1 < (l0_3.length : Int)
        rotate_left
        · rw [if_neg c11] at H
          have c11b0 : decide (x21_1 < (l0_3.length : Int)) = false := decide_eq_false c11
          clear c11
          obtain rfl := Option.some.inj H
          go_wp2
          go_ret
          exact ⟨zer, zB⟩
        rw [if_pos c11] at H
        have c11b0 := decide_eq_true c11
        clear c11
        by_cases c12 : 0 ≤ x21_1
        rotate_left
        · rw [if_neg c12] at H
          exact absurd H (by simp)
        rw [if_pos c12] at H
        have c12b0 := decide_eq_true c12
        clear c12
        by_cases c13 : x21_1 < (l0_3.length : Int)
        rotate_left
        · rw [if_neg c13] at H
          exact absurd H (by simp)
        rw [if_pos c13] at H
        have c13b0 := decide_eq_true c13
        clear c13
        obtain ⟨y111, hy111⟩ : ∃ y_ : List Int, y_ = (([wrap64 ((rd_T109 l0_3 x21_1).f0)] : List Int)) := ⟨_, rfl⟩
        replace H : ((words_put.f (⟨#[]⟩ : ByteArray) y111).bind fun t114 => (if t114.size + 1 ≤ 9223372036854775807 then ((strconv_FormatInt.f ((rd_T109 l0_3 x21_1).f1) 10).bind fun t115 => (if t114.size + 1 + t115.size ≤ 9223372036854775807 then (if x3_1.size + (t114.size + 1 + t115.size) ≤ 9223372036854775807 then (words_ask.l0 k1 (x3_1 ++ ((t114 ++ (⟨#[58]⟩ : ByteArray)) ++ t115)) l0_3 (l0_3.length : Int) (wrap64 (x21_1 + 1))) else (none)) else (none))) else (none))) = some r := by first | (rw [hy111]; with_reducible exact H) | (have H2_ := (Option.bind_some _ _).symm.trans H; rw [hy111]; with_reducible exact H2_) | (have H2_ := (Option.bind_some _ _).symm.trans H; with_reducible exact H2_) | with_reducible exact H | (rw [hy111]; exact H) | exact H
        have Ny111 := Aside0.mk hy111
        clear hy111
        obtain ⟨t114, A14, H⟩ := zO H
        try dsimp only at H
        by_cases c15 : t114.size + 1 ≤ 9223372036854775807
        rotate_left
        · rw [if_neg c15] at H
          exact absurd H (by simp)
        rw [if_pos c15] at H
        have c15b0 := eq_true c15
        have c15b1 := decide_eq_true c15
        try have c15b2 : (9223372036854775807 < t114.size + 1) = False := eq_false (Nat.not_lt.2 c15)
        obtain ⟨t115, A16, H⟩ := zO H
        try dsimp only at H
        by_cases c17 : t114.size + 1 + t115.size ≤ 9223372036854775807
        rotate_left
        · rw [if_neg c17] at H
          exact absurd H (by simp)
        rw [if_pos c17] at H
        have c17b0 := eq_true c17
        have c17b1 := decide_eq_true c17
        try have c17b2 : (9223372036854775807 < t114.size + 1 + t115.size) = False := eq_false (Nat.not_lt.2 c17)
        by_cases c18 : x3_1.size + (t114.size + 1 + t115.size) ≤ 9223372036854775807
        rotate_left
        · rw [if_neg c18] at H
          exact absurd H (by simp)
        rw [if_pos c18] at H
        have c18b0 := eq_true c18
        have c18b1 := decide_eq_true c18
        try have c18b2 : (9223372036854775807 < x3_1.size + (t114.size + 1 + t115.size)) = False := eq_false (Nat.not_lt.2 c18)
        have H' := Aside0.mk H
        clear H
        have p109 : 0 ≤ (x21_1 : Int) := of_decide_eq_true zas
        have q109 : x21_1 < (l0_3.length : Int) := of_decide_eq_true zas
        obtain ⟨ad109, e109, hx109_0, hx109_1⟩ := at_T109 HR0_3.out x21_1 p109 q109
        cases e109
        replace hx109_0 := (HB.out.cell (World.block_lt_of_cell? w _ hx109_0)).trans hx109_0
        replace hx109_1 := (HB.out.cell (World.block_lt_of_cell? w _ hx109_1)).trans hx109_1
        replace p109 := eq_true p109
        replace q109 := eq_true q109
        try go_wp2_with (first | ((with_reducible refine gate_dst (N := 5) rfl ?_); refine zbox (N := 5) (cs := #[.int .u8 0, .int .i64 0]) (t := 109) (h := ?_); intro gb110 hg w19 hbox hb; have BK110 := Aside0.mk (hbox); have GW110 := zG (p := w.heap.size ≤ gb110); have GE110 := GW110; have NB104_110 := zNlt BK104.out (p := gb104 ≠ gb110); have NB110_104 := zNgt BK104.out (p := gb110 ≠ gb104); replace BK104 := zJ BK104 hb; replace HB := zH hb; clear hb hbox hg; have hnb20 := NB110_104.out; have hnc20 := NB104_110.out; have hcz21_0 := zcf2 BK110.out))
        have n0_ : Aside0 (((w19.setCell ⟨gb110, 0, none⟩ (.int .u8 ((rd_T109 l0_3 x21_1).f0))).setCell ⟨gb110, 1, none⟩ (.int .i64 ((rd_T109 l0_3 x21_1).f1))).heap[gb104]? = some (.cells #[.int .u8 a0_0, .int .u32 a0_1, .int .u8 a0_2, .slice (some ad109) l0_3.length c0_3, .int .u8 a0_4, .int .u8 a0_5, .int .u8 a0_6, .int .i64 a0_7] 78 (0, 0))) := ⟨by (with_reducible repeat (first | refine blk_drewN ?_ _ | refine blk_drew ?_ | refine blk_alloc ?_ _)); refine blk_far ?_ NB104_110.out _; (with_reducible repeat (first | refine blk_drewN ?_ _ | refine blk_drew ?_ | refine blk_alloc ?_ _)); refine blk_far ?_ NB104_110.out _; (with_reducible repeat (first | refine blk_drewN ?_ _ | refine blk_drew ?_ | refine blk_alloc ?_ _)); exact BK104.out⟩
        have n1_ : Aside0 (((w19.setCell ⟨gb110, 0, none⟩ (.int .u8 ((rd_T109 l0_3 x21_1).f0))).setCell ⟨gb110, 1, none⟩ (.int .i64 ((rd_T109 l0_3 x21_1).f1))).heap[gb110]? = some (.cells #[.int .u8 ((rd_T109 l0_3 x21_1).f0), .int .i64 ((rd_T109 l0_3 x21_1).f1)] 109 (0, 0))) := ⟨by (with_reducible repeat (first | refine blk_drewN ?_ _ | refine blk_drew ?_ | refine blk_alloc ?_ _)); refine blk_put (cs := #[.int .u8 ((rd_T109 l0_3 x21_1).f0), .int .i64 0]) ?_ 1 _ rfl; (with_reducible repeat (first | refine blk_drewN ?_ _ | refine blk_drew ?_ | refine blk_alloc ?_ _)); refine blk_put (cs := #[.int .u8 0, .int .i64 0]) ?_ 0 _ rfl; (with_reducible repeat (first | refine blk_drewN ?_ _ | refine blk_drew ?_ | refine blk_alloc ?_ _)); exact BK110.out⟩
        have n2_ : Aside0 (Below w.heap.size w ((w19.setCell ⟨gb110, 0, none⟩ (.int .u8 ((rd_T109 l0_3 x21_1).f0))).setCell ⟨gb110, 1, none⟩ (.int .i64 ((rd_T109 l0_3 x21_1).f1)))) := ⟨zB⟩
        (try clear BK104)
        (try clear BK110)
        (try clear HB)
        generalize ((w19.setCell ⟨gb110, 0, none⟩ (.int .u8 ((rd_T109 l0_3 x21_1).f0))).setCell ⟨gb110, 1, none⟩ (.int .i64 ((rd_T109 l0_3 x21_1).f1))) = w22 at n0_ n1_ n2_ ⊢
        have BK104 := n0_
        have BK110 := n1_
        have HB := n2_
        clear n0_ n1_ n2_
        replace BK104 := Aside0.mk (blk_drew BK104.out)
        replace BK110 := Aside0.mk (blk_drew BK110.out)
        replace HB := Aside0.mk (below_drew1 HB.out)
        refine start_ (n := 13) (S := fun w' => w'.cell? ⟨gb110, 0, none⟩ = some (.int .u8 ((rd_T109 l0_3 x21_1).f0)) ∧ w'.cell? ⟨gb110, 1, none⟩ = some (.int .i64 ((rd_T109 l0_3 x21_1).f1))) (ds := []) (bz 13 0) qW4x1 rfl qW4x1 ⟨(blk_cell BK110.out 0).trans rfl, (blk_cell BK110.out 1).trans rfl⟩ (fun hHeld => ?_); refine with_tabW words_ask.tab7 words_ask.bits7 (fun HT_ HW_ => ?_)
        generalize w22.drew = w23 at BK104 BK110 HB hHeld ⊢
        refine pureZ (some 25) (bz 13 1) (i := 0) (h := ?_); refine pureZ (some 26) (bz 13 3) (i := 1) (h := ?_); refine pureZ (some 32) (bz 13 131) (i := 7) (h := ?_); refine takeZ (some 27) (bz 13 135) (i := 2) (h := ?_); refine pureZ (some 28) (bz 13 143) (i := 3) (h := ?_); refine takeZ (some 33) (bz 13 399) (i := 8) (h := ?_)
        refine one_ (i := 4) (N := some 29) (bz 13 415) rfl rfl (one_of HT_.out qW4x1) (by decide) (fun K hK => ?_)
        refine Kd.R_lit_step (Kd.int .i64) _ 2 ?hg (N := 29) ?hd (xs := ([wrap64 ((rd_T109 l0_3 x21_1).f0)] : List Int)) (inner := [.int .i64 (wrap64 ((rd_T109 l0_3 x21_1).f0))]) (ok := fun _ => True) (okp := fun _ => True) ?hr ?hp (fun _ hk => hk) trivial (Below.refl _ _) (Nat.le_refl _) (by simp) ?_; (case hd => rfl); (case hg => rfl); (case hr => first | (go_simp; done) | (go_simp; rfl)); (case hp => exact (Reps.one (show Kd.M (Kd.int .i64) _ _ _ (wrap64 ((rd_T109 l0_3 x21_1).f0)) [.int .i64 (wrap64 ((rd_T109 l0_3 x21_1).f0))] from rfl) (Reps.none _ _)))
        intro v112 w24 ho25 hb hg_ hnew_
        clear hg_ hnew_
        (first | rw [← Ny111.out] at ho25 | (simp only [Int.reduceToNat] at ho25; rw [← Ny111.out] at ho25))
        have HO113 := Aside0.mk (Kd.R_lower ho25 (below_size zB))
        replace BK104 := zJ BK104 hb
        replace BK110 := zJ BK110 hb
        replace HB := zH hb
        clear hb ho25
        obtain ⟨Ao26, co26, eo26⟩ := Kd.R_slice HO113.out
        (first | subst eo26 | (injection eo26 with f1_ f2_ f3_; have f4_ := f1_.symm; have f5_ := f3_.symm; clear f1_ f2_ f3_; subst f4_; subst f5_))
        refine hK.out _ _ ⟨(blk_cell BK110.out 0).trans rfl, (blk_cell BK110.out 1).trans rfl⟩ (fun hHeld => ?_)
        clear hK K
        refine norm_ (a' := ?_) ?_ ?_
        rotate_left
        · show Act.put _ (some 29) _ = _
          simp only [Act.put, List.setIfInBounds_toArray, List.set_cons_zero, List.set_cons_succ, i64_w, i32_w]
          rfl
        refine one_ (i := 5) (N := some 30) (bz 13 447) rfl rfl (one_of HT_.out qW4x1) (by decide) (fun K hK => ?_)
        refine goes_ Tryd.func53 qW4x1 rfl #[.string (⟨#[]⟩ : ByteArray), .slice Ao26 y111.length co26] (by rfl) rfl rfl zA ?_
        with_reducible refine (words_put.calls (⟨#[]⟩ : ByteArray) _ _ y111 t114 _ ?side1 ?side2 ?side3 A14.out).mono ?_
        (case side1 => exact Gl.below hG.out zB)
        (case side2 => exact zC ((Kd.R_reads' HO113.out).2.2))
        (case side3 => exact (Kd.R_reads' HO113.out).2.1)
        rintro e w27 ⟨rfl, hb⟩
        refine ⟨_, rfl, ?_⟩
        replace HO113 := zP HO113 hb
        replace BK104 := zJ BK104 hb
        replace BK110 := zJ BK110 hb
        replace HB := zH hb
        refine hK.out _ _ ⟨(blk_cell BK110.out 0).trans rfl, (blk_cell BK110.out 1).trans rfl⟩ (fun hHeld => ?_)
        clear hK K
        refine norm_ (a' := ?_) ?_ ?_
        rotate_left
        · show Act.put _ (some 30) _ = _
          simp only [Act.put, List.setIfInBounds_toArray, List.set_cons_zero, List.set_cons_succ, i64_w, i32_w]
          rfl
        refine pureZ (some 31) (bz 13 511) (i := 6) (h := ?_)
        refine one_ (i := 9) (N := some 34) (bz 13 1023) rfl rfl (one_of HT_.out qW4x1) (by decide) (fun K hK => ?_)
        refine goes_ Tryd.func81 qW4x1 rfl #[.int .i64 ((rd_T109 l0_3 x21_1).f1), .int .i64 10] (by rfl) rfl rfl zA ?_
        with_reducible refine (strconv_FormatInt.calls ((rd_T109 l0_3 x21_1).f1) 10 t115 _ ?side1 A16.out).mono ?_
        (case side1 => exact Gl.below hG.out zB)
        rintro e w28 ⟨rfl, hb⟩
        refine ⟨_, rfl, ?_⟩
        replace HO113 := zP HO113 hb
        replace BK104 := zJ BK104 hb
        replace BK110 := zJ BK110 hb
        replace HB := zH hb
        refine hK.out _ _ ⟨(blk_cell BK110.out 0).trans rfl, (blk_cell BK110.out 1).trans rfl⟩ (fun hHeld => ?_)
        clear hK K
        refine norm_ (a' := ?_) ?_ ?_
        rotate_left
        · show Act.put _ (some 34) _ = _
          simp only [Act.put, List.setIfInBounds_toArray, List.set_cons_zero, List.set_cons_succ, i64_w, i32_w]
          rfl
        refine pureZ (some 35) (bz 13 2047) (i := 10) (h := ?_); refine pureZ (some 36) (bz 13 4095) (i := 11) (h := ?_); refine pureZ (some 3) (bz 13 8191) (i := 12) (h := ?_)
        refine done_ (done_of HT_.out qW4x1) ?_
        try go_wp2
        go_roundg k1
        case measure => have := HK1.out; omega
        case rel => exact ⟨(x3_1 ++ ((t114 ++ (⟨#[58]⟩ : ByteArray)) ++ t115)), (wrap64 (x21_1 + 1)), qW4x2, qW4x2, H', ⟨by have := HK1.out; omega⟩, ⟨by (with_reducible repeat (first | refine blk_drewN ?_ _ | refine blk_drew ?_ | refine blk_alloc ?_ _)); exact BK104.out⟩, ⟨zB⟩⟩
  rw [if_neg c2] at H
  obtain ⟨c2b0, c2b1⟩ := zne c2
  by_cases c29 : a0_0 = 5
  focus
    rw [if_pos c29] at H
    obtain ⟨c29b0, c29b1⟩ := zeq c29
    clear c29
    obtain ⟨y116, hy116⟩ : ∃ y_ : List Int, y_ = (([wrap64 (a0_4), wrap64 (a0_6), a0_7] : List Int)) := ⟨_, rfl⟩
    replace H : ((words_put.f (⟨#[114, 101, 115, 116, 111, 99, 107]⟩ : ByteArray) y116).bind fun t119 => (some t119)) = some r := by first | (rw [hy116]; with_reducible exact H) | (have H2_ := (Option.bind_some _ _).symm.trans H; rw [hy116]; with_reducible exact H2_) | (have H2_ := (Option.bind_some _ _).symm.trans H; with_reducible exact H2_) | with_reducible exact H | (rw [hy116]; exact H) | exact H
    have Ny116 := Aside0.mk hy116
    clear hy116
    obtain ⟨t119, A30, H⟩ := zO H
    try dsimp only at H
    obtain rfl := Option.some.inj H
  rotate_left
  rw [if_neg c29] at H
  obtain ⟨c29b0, c29b1⟩ := zne c29
  by_cases c37 : a0_0 = 6
  focus
    rw [if_pos c37] at H
    obtain ⟨c37b0, c37b1⟩ := zeq c37
    clear c37
    obtain ⟨y120, hy120⟩ : ∃ y_ : List Int, y_ = (([wrap64 (a0_4), wrap64 (a0_5), wrap64 (a0_6), a0_7] : List Int)) := ⟨_, rfl⟩
    replace H : ((words_put.f (⟨#[116, 114, 97, 110, 115, 102, 101, 114]⟩ : ByteArray) y120).bind fun t123 => (some t123)) = some r := by first | (rw [hy120]; with_reducible exact H) | (have H2_ := (Option.bind_some _ _).symm.trans H; rw [hy120]; with_reducible exact H2_) | (have H2_ := (Option.bind_some _ _).symm.trans H; with_reducible exact H2_) | with_reducible exact H | (rw [hy120]; exact H) | exact H
    have Ny120 := Aside0.mk hy120
    clear hy120
    obtain ⟨t123, A38, H⟩ := zO H
    try dsimp only at H
    obtain rfl := Option.some.inj H
  rotate_left
  rw [if_neg c37] at H
  obtain ⟨c37b0, c37b1⟩ := zne c37
  by_cases c45 : a0_0 = 7
  focus
    rw [if_pos c45] at H
    obtain ⟨c45b0, c45b1⟩ := zeq c45
    clear c45
    obtain ⟨y124, hy124⟩ : ∃ y_ : List Int, y_ = (([wrap64 (a0_4)] : List Int)) := ⟨_, rfl⟩
    replace H : ((words_put.f (⟨#[113, 117, 101, 114, 121]⟩ : ByteArray) y124).bind fun t127 => (some t127)) = some r := by first | (rw [hy124]; with_reducible exact H) | (have H2_ := (Option.bind_some _ _).symm.trans H; rw [hy124]; with_reducible exact H2_) | (have H2_ := (Option.bind_some _ _).symm.trans H; with_reducible exact H2_) | with_reducible exact H | (rw [hy124]; exact H) | exact H
    have Ny124 := Aside0.mk hy124
    clear hy124
    obtain ⟨t127, A46, H⟩ := zO H
    try dsimp only at H
    obtain rfl := Option.some.inj H
  rotate_left
  · rw [if_neg c45] at H
    obtain ⟨c45b0, c45b1⟩ := zne c45
    obtain ⟨t128, A53, H⟩ := zO H
    try dsimp only at H
    obtain ⟨y129, hy129⟩ : ∃ y_ : List Int, y_ = (([wrap64 (a0_1)] : List Int)) := ⟨_, rfl⟩
    replace H : ((words_put.f t128 y129).bind fun t132 => (some t132)) = some r := by first | (rw [hy129]; with_reducible exact H) | (have H2_ := (Option.bind_some _ _).symm.trans H; rw [hy129]; with_reducible exact H2_) | (have H2_ := (Option.bind_some _ _).symm.trans H; with_reducible exact H2_) | with_reducible exact H | (rw [hy129]; exact H) | exact H
    have Ny129 := Aside0.mk hy129
    clear hy129
    obtain ⟨t132, A54, H⟩ := zO H
    try dsimp only at H
    obtain rfl := Option.some.inj H
    go_enter Tryd.func52, Tryd.ntmps52
    try go_wp2_with (first | ((with_reducible refine gate_dst (N := 1) rfl ?_); refine zbox (N := 1) (cs := #[.int .u8 a0_0, .int .u32 a0_1, .int .u8 a0_2, .slice A0_3 l0_3.length c0_3, .int .u8 a0_4, .int .u8 a0_5, .int .u8 a0_6, .int .i64 a0_7]) (t := 78) (h := ?_); intro gb104 hg w55 hbox hb; have BK104 := Aside0.mk (hbox); have GW104 := zG (p := w.heap.size ≤ gb104); have GE104 := GW104; replace HB := zH hb; clear hb hbox hg; have hcz56_0 := zcf8 BK104.out))
    replace BK104 := Aside0.mk (blk_drew BK104.out)
    replace HB := Aside0.mk (below_drew1 HB.out)
    refine start_ (n := 9) (S := fun w' => w'.cell? ⟨gb104, 0, none⟩ = some (.int .u8 a0_0) ∧ w'.cell? ⟨gb104, 1, none⟩ = some (.int .u32 a0_1) ∧ w'.cell? ⟨gb104, 2, none⟩ = some (.int .u8 a0_2) ∧ w'.cell? ⟨gb104, 3, none⟩ = some (.slice A0_3 l0_3.length c0_3) ∧ w'.cell? ⟨gb104, 4, none⟩ = some (.int .u8 a0_4) ∧ w'.cell? ⟨gb104, 5, none⟩ = some (.int .u8 a0_5) ∧ w'.cell? ⟨gb104, 6, none⟩ = some (.int .u8 a0_6) ∧ w'.cell? ⟨gb104, 7, none⟩ = some (.int .i64 a0_7)) (ds := []) (bz 9 0) qW4x1 rfl qW4x1 ⟨(blk_cell BK104.out 0).trans rfl, (blk_cell BK104.out 1).trans rfl, (blk_cell BK104.out 2).trans rfl, (blk_cell BK104.out 3).trans rfl, (blk_cell BK104.out 4).trans rfl, (blk_cell BK104.out 5).trans rfl, (blk_cell BK104.out 6).trans rfl, (blk_cell BK104.out 7).trans rfl⟩ (fun hHeld => ?_); refine with_tabW words_ask.tab16 words_ask.bits16 (fun HT_ HW_ => ?_)
    generalize w55.drew = w57 at BK104 HB hHeld ⊢
    refine pureZ (some 73) (bz 9 1) (i := 0) (h := ?_); refine pureZ (some 76) (bz 9 9) (i := 3) (h := ?_); refine takeZ (some 74) (bz 9 11) (i := 1) (h := ?_); refine takeZ (some 77) (bz 9 27) (i := 4) (h := ?_); refine pureZ (some 78) (bz 9 59) (i := 5) (h := ?_)
    refine join_ (σ := Value) 2 (bz 9 127) (fun s_ => [(75, .string t128), (79, s_)]) (fun s_ w' => (w'.cell? ⟨gb104, 0, none⟩ = some (.int .u8 a0_0) ∧ w'.cell? ⟨gb104, 1, none⟩ = some (.int .u32 a0_1) ∧ w'.cell? ⟨gb104, 2, none⟩ = some (.int .u8 a0_2) ∧ w'.cell? ⟨gb104, 3, none⟩ = some (.slice A0_3 l0_3.length c0_3) ∧ w'.cell? ⟨gb104, 4, none⟩ = some (.int .u8 a0_4) ∧ w'.cell? ⟨gb104, 5, none⟩ = some (.int .u8 a0_5) ∧ w'.cell? ⟨gb104, 6, none⟩ = some (.int .u8 a0_6) ∧ w'.cell? ⟨gb104, 7, none⟩ = some (.int .i64 a0_7)) ∧ (Kd.R (Kd.int .i64) 2 w' w.heap.size (fun _ => True) s_ y129) ∧ (w'.heap[gb104]? = some (.cells #[.int .u8 a0_0, .int .u32 a0_1, .int .u8 a0_2, .slice A0_3 l0_3.length c0_3, .int .u8 a0_4, .int .u8 a0_5, .int .u8 a0_6, .int .i64 a0_7] 78 (0, 0))) ∧ (Below w.heap.size w w')) ?_ ?_
    rotate_left
    · intro hCont
      refine two_ (i := 2) (j := 6) (Ni := some 75) (Nj := some 79) (bz 9 63) (bz 9 123) rfl rfl rfl rfl (two_of HT_.out qW4x1) (by decide) (by decide) (fun K hK => ?_) (fun K hK => ?_)
      · skip
        refine goes_ Tryd.func82 qW4x1 rfl #[.int .u8 a0_0] (by rfl) rfl rfl zA ?_
        with_reducible refine (words_about.calls a0_0 t128 _ A53.out).mono ?_
        rintro e w' ⟨rfl, ⟨nd, rfl⟩⟩
        refine ⟨_, rfl, ?_⟩
        refine hK.out _ _ ⟨(blk_cell BK104.out 0).trans rfl, (blk_cell BK104.out 1).trans rfl, (blk_cell BK104.out 2).trans rfl, (blk_cell BK104.out 3).trans rfl, (blk_cell BK104.out 4).trans rfl, (blk_cell BK104.out 5).trans rfl, (blk_cell BK104.out 6).trans rfl, (blk_cell BK104.out 7).trans rfl⟩ (fun hHeld => ?_)
        clear hK K
        refine norm_ (a' := ?_) ?_ ?_
        rotate_left
        · show Act.put _ (some 75) _ = _
          simp only [Act.put, List.setIfInBounds_toArray, List.set_cons_zero, List.set_cons_succ, i64_w, i32_w]
          rfl
        refine one_ (i := 6) (N := some 79) (bz 9 127) rfl rfl (one_of HT_.out qW4x1) (by decide) (fun K hK => ?_)
        refine Kd.R_lit_step (Kd.int .i64) _ 2 ?hg (N := 79) ?hd (xs := ([wrap64 (a0_1)] : List Int)) (inner := [.int .i64 (wrap64 (a0_1))]) (ok := fun _ => True) (okp := fun _ => True) ?hr ?hp (fun _ hk => hk) trivial (Below.refl _ _) (Nat.le_refl _) (by simp) ?_; (case hd => rfl); (case hg => rfl); (case hr => first | (go_simp; done) | (go_simp; rfl)); (case hp => exact (Reps.one (show Kd.M (Kd.int .i64) _ _ _ (wrap64 (a0_1)) [.int .i64 (wrap64 (a0_1))] from rfl) (Reps.none _ _)))
        intro v130 w58 ho59 hb hg_ hnew_
        clear hg_ hnew_
        (first | rw [← Ny129.out] at ho59 | (simp only [Int.reduceToNat] at ho59; rw [← Ny129.out] at ho59))
        have HO131 := Aside0.mk (Kd.R_lower ho59 (below_size zB))
        replace BK104 := zJ BK104 hb
        replace HB := zH hb
        clear hb ho59
        refine hK.out _ _ ⟨(blk_cell BK104.out 0).trans rfl, (blk_cell BK104.out 1).trans rfl, (blk_cell BK104.out 2).trans rfl, (blk_cell BK104.out 3).trans rfl, (blk_cell BK104.out 4).trans rfl, (blk_cell BK104.out 5).trans rfl, (blk_cell BK104.out 6).trans rfl, (blk_cell BK104.out 7).trans rfl⟩ (fun hHeld => ?_)
        clear hK K
        refine norm_ (a' := ?_) ?_ ?_
        rotate_left
        · show Act.put _ (some 79) _ = _
          simp only [Act.put, List.setIfInBounds_toArray, List.set_cons_zero, List.set_cons_succ, i64_w, i32_w]
          rfl
        exact norm_ (by simp only [putAll, Act.put, List.setIfInBounds_toArray, List.set_cons_zero, List.set_cons_succ]) (hCont (v130) _ ⟨hHeld, (zR HO131.out), (zK BK104.out), zB⟩)
      · skip
        refine Kd.R_lit_step (Kd.int .i64) _ 2 ?hg (N := 79) ?hd (xs := ([wrap64 (a0_1)] : List Int)) (inner := [.int .i64 (wrap64 (a0_1))]) (ok := fun _ => True) (okp := fun _ => True) ?hr ?hp (fun _ hk => hk) trivial (Below.refl _ _) (Nat.le_refl _) (by simp) ?_; (case hd => rfl); (case hg => rfl); (case hr => first | (go_simp; done) | (go_simp; rfl)); (case hp => exact (Reps.one (show Kd.M (Kd.int .i64) _ _ _ (wrap64 (a0_1)) [.int .i64 (wrap64 (a0_1))] from rfl) (Reps.none _ _)))
        intro v130 w58 ho59 hb hg_ hnew_
        clear hg_ hnew_
        (first | rw [← Ny129.out] at ho59 | (simp only [Int.reduceToNat] at ho59; rw [← Ny129.out] at ho59))
        have HO131 := Aside0.mk (Kd.R_lower ho59 (below_size zB))
        replace BK104 := zJ BK104 hb
        replace HB := zH hb
        clear hb ho59
        refine hK.out _ _ ⟨(blk_cell BK104.out 0).trans rfl, (blk_cell BK104.out 1).trans rfl, (blk_cell BK104.out 2).trans rfl, (blk_cell BK104.out 3).trans rfl, (blk_cell BK104.out 4).trans rfl, (blk_cell BK104.out 5).trans rfl, (blk_cell BK104.out 6).trans rfl, (blk_cell BK104.out 7).trans rfl⟩ (fun hHeld => ?_)
        clear hK K
        refine norm_ (a' := ?_) ?_ ?_
        rotate_left
        · show Act.put _ (some 79) _ = _
          simp only [Act.put, List.setIfInBounds_toArray, List.set_cons_zero, List.set_cons_succ, i64_w, i32_w]
          rfl
        refine one_ (i := 2) (N := some 75) (bz 9 127) rfl rfl (one_of HT_.out qW4x1) (by decide) (fun K hK => ?_)
        refine goes_ Tryd.func82 qW4x1 rfl #[.int .u8 a0_0] (by rfl) rfl rfl zA ?_
        with_reducible refine (words_about.calls a0_0 t128 _ A53.out).mono ?_
        rintro e w' ⟨rfl, ⟨nd, rfl⟩⟩
        refine ⟨_, rfl, ?_⟩
        refine hK.out _ _ ⟨(blk_cell BK104.out 0).trans rfl, (blk_cell BK104.out 1).trans rfl, (blk_cell BK104.out 2).trans rfl, (blk_cell BK104.out 3).trans rfl, (blk_cell BK104.out 4).trans rfl, (blk_cell BK104.out 5).trans rfl, (blk_cell BK104.out 6).trans rfl, (blk_cell BK104.out 7).trans rfl⟩ (fun hHeld => ?_)
        clear hK K
        refine norm_ (a' := ?_) ?_ ?_
        rotate_left
        · show Act.put _ (some 75) _ = _
          simp only [Act.put, List.setIfInBounds_toArray, List.set_cons_zero, List.set_cons_succ, i64_w, i32_w]
          rfl
        exact norm_ (by simp only [putAll, Act.put, List.setIfInBounds_toArray, List.set_cons_zero, List.set_cons_succ]) (hCont (v130) _ ⟨hHeld, (zR HO131.out), (zK BK104.out), zB⟩)
    rintro v130 w60 ⟨hS_, h0_, h1_, h2_⟩
    have HO131 : Aside0 (Kd.R (Kd.int .i64) 2 w60 w.heap.size (fun _ => True) v130 y129) := ⟨h0_⟩
    replace BK104 : Aside0 (w60.heap[gb104]? = some (.cells #[.int .u8 a0_0, .int .u32 a0_1, .int .u8 a0_2, .slice A0_3 l0_3.length c0_3, .int .u8 a0_4, .int .u8 a0_5, .int .u8 a0_6, .int .i64 a0_7] 78 (0, 0))) := ⟨h1_⟩
    replace HB : Aside0 (Below w.heap.size w w60) := ⟨h2_⟩
    clear h0_ h1_ h2_
    have hHeld : w60.cell? ⟨gb104, 0, none⟩ = some (.int .u8 a0_0) ∧ w60.cell? ⟨gb104, 1, none⟩ = some (.int .u32 a0_1) ∧ w60.cell? ⟨gb104, 2, none⟩ = some (.int .u8 a0_2) ∧ w60.cell? ⟨gb104, 3, none⟩ = some (.slice A0_3 l0_3.length c0_3) ∧ w60.cell? ⟨gb104, 4, none⟩ = some (.int .u8 a0_4) ∧ w60.cell? ⟨gb104, 5, none⟩ = some (.int .u8 a0_5) ∧ w60.cell? ⟨gb104, 6, none⟩ = some (.int .u8 a0_6) ∧ w60.cell? ⟨gb104, 7, none⟩ = some (.int .i64 a0_7) := hS_
    obtain ⟨Ao61, co61, eo61⟩ := Kd.R_slice HO131.out
    (first | subst eo61 | (injection eo61 with f1_ f2_ f3_; have f4_ := f1_.symm; have f5_ := f3_.symm; clear f1_ f2_ f3_; subst f4_; subst f5_))
    refine norm_ (a' := ?_) ?_ ?_
    rotate_left
    · simp only [putAll, Act.put, List.setIfInBounds_toArray, List.set_cons_zero, List.set_cons_succ]
      rfl
    refine one_ (i := 7) (N := some 80) (bz 9 255) rfl rfl (one_of HT_.out qW4x1) (by decide) (fun K hK => ?_)
    refine goes_ Tryd.func53 qW4x1 rfl #[.string t128, .slice Ao61 y129.length co61] (by rfl) rfl rfl zA ?_
    with_reducible refine (words_put.calls t128 _ _ y129 t132 _ ?side1 ?side2 ?side3 A54.out).mono ?_
    (case side1 => exact Gl.below hG.out zB)
    (case side2 => exact zC ((Kd.R_reads' HO131.out).2.2))
    (case side3 => exact (Kd.R_reads' HO131.out).2.1)
    rintro e w62 ⟨rfl, hb⟩
    refine ⟨_, rfl, ?_⟩
    replace HO131 := zP HO131 hb
    replace BK104 := zJ BK104 hb
    replace HB := zH hb
    refine hK.out _ _ ⟨(blk_cell BK104.out 0).trans rfl, (blk_cell BK104.out 1).trans rfl, (blk_cell BK104.out 2).trans rfl, (blk_cell BK104.out 3).trans rfl, (blk_cell BK104.out 4).trans rfl, (blk_cell BK104.out 5).trans rfl, (blk_cell BK104.out 6).trans rfl, (blk_cell BK104.out 7).trans rfl⟩ (fun hHeld => ?_)
    clear hK K
    refine norm_ (a' := ?_) ?_ ?_
    rotate_left
    · show Act.put _ (some 80) _ = _
      simp only [Act.put, List.setIfInBounds_toArray, List.set_cons_zero, List.set_cons_succ, i64_w, i32_w]
      rfl
    refine pureZ (some 2) (bz 9 511) (i := 8) (h := ?_)
    refine done_ (done_of HT_.out qW4x1) ?_
    try go_wp2
    go_ret
    exact ⟨zer, zB⟩
  all_goals go_enter Tryd.func52, Tryd.ntmps52
  all_goals go_wp2_with (first | ((with_reducible refine gate_dst (N := 1) rfl ?_); refine zbox (N := 1) (cs := #[.int .u8 a0_0, .int .u32 a0_1, .int .u8 a0_2, .slice A0_3 l0_3.length c0_3, .int .u8 a0_4, .int .u8 a0_5, .int .u8 a0_6, .int .i64 a0_7]) (t := 78) (h := ?_); intro gb104 hg wx1 hbox hb; have BK104 := Aside0.mk (hbox); have GW104 := zG (p := w.heap.size ≤ gb104); have GE104 := GW104; replace HB := zH hb; clear hb hbox hg; have hczx1 := zcf8 BK104.out) | ((with_reducible refine gate_dst (N := 49) rfl ?_); refine Kd.R_lit (Kd.int .i64) _ 2 ?hg (N := 49) ?hd (xs := ([wrap64 (a0_4), wrap64 (a0_6), a0_7] : List Int)) (inner := [.int .i64 (wrap64 (a0_4)), .int .i64 (wrap64 (a0_6)), .int .i64 a0_7]) (ok := fun _ => True) (okp := fun _ => True) ?hr ?hp (fun _ hk => hk) trivial (Below.refl _ _) (Nat.le_refl _) (by simp) ?_; (case hd => rfl); (case hg => rfl); (case hr => first | (go_simp; done) | (go_simp; rfl)); (case hp => exact (Reps.one (show Kd.M (Kd.int .i64) _ _ _ (wrap64 (a0_4)) [.int .i64 (wrap64 (a0_4))] from rfl) (Reps.one (show Kd.M (Kd.int .i64) _ _ _ (wrap64 (a0_6)) [.int .i64 (wrap64 (a0_6))] from rfl) (Reps.one (show Kd.M (Kd.int .i64) _ _ _ a0_7 [.int .i64 a0_7] from rfl) (Reps.none _ _))))); intro vx1 wx2 hox1 hb hg_ hnew_; clear hg_ hnew_; (first | rw [← Ny116.out] at hox1 | (simp only [Int.reduceToNat] at hox1; rw [← Ny116.out] at hox1)); have HOx1 := Aside0.mk (Kd.R_lower hox1 (below_size zB)); replace BK104 := zJ BK104 hb; replace HB := zH hb; clear hb hox1; obtain ⟨Aox1, cox1, eox1⟩ := Kd.R_slice HOx1.out; subst eox1) | ((with_reducible refine gate_callee (f := 53) rfl ?_); refine goesZ (some 65) Tryd.func53 (args := #[.string (⟨#[116, 114, 97, 110, 115, 102, 101, 114]⟩ : ByteArray), .slice Aox1 y120.length cox1]) (h := ?_); (with_reducible refine (words_put.calls (⟨#[116, 114, 97, 110, 115, 102, 101, 114]⟩ : ByteArray) _ _ y120 t123 _ ?side1 ?side2 ?side3 A38.out).mono ?_); (case side1 => exact Gl.below hG.out zB); (case side2 => exact zC ((Kd.R_reads' HOx1.out).2.2)); (case side3 => exact (Kd.R_reads' HOx1.out).2.1); rintro e wx3 ⟨rfl, hb⟩; refine ⟨_, rfl, ?_⟩; replace HOx1 := zP HOx1 hb; replace BK104 := zJ BK104 hb; replace HB := zH hb; clear hb) | ((with_reducible refine gate_callee (f := 53) rfl ?_); refine goesZ (some 50) Tryd.func53 (args := #[.string (⟨#[114, 101, 115, 116, 111, 99, 107]⟩ : ByteArray), .slice Aox1 y116.length cox1]) (h := ?_); (with_reducible refine (words_put.calls (⟨#[114, 101, 115, 116, 111, 99, 107]⟩ : ByteArray) _ _ y116 t119 _ ?side1 ?side2 ?side3 A30.out).mono ?_); (case side1 => exact Gl.below hG.out zB); (case side2 => exact zC ((Kd.R_reads' HOx1.out).2.2)); (case side3 => exact (Kd.R_reads' HOx1.out).2.1); rintro e wx3 ⟨rfl, hb⟩; refine ⟨_, rfl, ?_⟩; replace HOx1 := zP HOx1 hb; replace BK104 := zJ BK104 hb; replace HB := zH hb; clear hb) | ((with_reducible refine gate_callee (f := 53) rfl ?_); refine goesZ (some 72) Tryd.func53 (args := #[.string (⟨#[113, 117, 101, 114, 121]⟩ : ByteArray), .slice Aox1 y124.length cox1]) (h := ?_); (with_reducible refine (words_put.calls (⟨#[113, 117, 101, 114, 121]⟩ : ByteArray) _ _ y124 t127 _ ?side1 ?side2 ?side3 A46.out).mono ?_); (case side1 => exact Gl.below hG.out zB); (case side2 => exact zC ((Kd.R_reads' HOx1.out).2.2)); (case side3 => exact (Kd.R_reads' HOx1.out).2.1); rintro e wx3 ⟨rfl, hb⟩; refine ⟨_, rfl, ?_⟩; replace HOx1 := zP HOx1 hb; replace BK104 := zJ BK104 hb; replace HB := zH hb; clear hb) | ((with_reducible refine gate_dst (N := 64) rfl ?_); refine Kd.R_lit (Kd.int .i64) _ 2 ?hg (N := 64) ?hd (xs := ([wrap64 (a0_4), wrap64 (a0_5), wrap64 (a0_6), a0_7] : List Int)) (inner := [.int .i64 (wrap64 (a0_4)), .int .i64 (wrap64 (a0_5)), .int .i64 (wrap64 (a0_6)), .int .i64 a0_7]) (ok := fun _ => True) (okp := fun _ => True) ?hr ?hp (fun _ hk => hk) trivial (Below.refl _ _) (Nat.le_refl _) (by simp) ?_; (case hd => rfl); (case hg => rfl); (case hr => first | (go_simp; done) | (go_simp; rfl)); (case hp => exact (Reps.one (show Kd.M (Kd.int .i64) _ _ _ (wrap64 (a0_4)) [.int .i64 (wrap64 (a0_4))] from rfl) (Reps.one (show Kd.M (Kd.int .i64) _ _ _ (wrap64 (a0_5)) [.int .i64 (wrap64 (a0_5))] from rfl) (Reps.one (show Kd.M (Kd.int .i64) _ _ _ (wrap64 (a0_6)) [.int .i64 (wrap64 (a0_6))] from rfl) (Reps.one (show Kd.M (Kd.int .i64) _ _ _ a0_7 [.int .i64 a0_7] from rfl) (Reps.none _ _)))))); intro vx1 wx2 hox1 hb hg_ hnew_; clear hg_ hnew_; (first | rw [← Ny120.out] at hox1 | (simp only [Int.reduceToNat] at hox1; rw [← Ny120.out] at hox1)); have HOx1 := Aside0.mk (Kd.R_lower hox1 (below_size zB)); replace BK104 := zJ BK104 hb; replace HB := zH hb; clear hb hox1; obtain ⟨Aox1, cox1, eox1⟩ := Kd.R_slice HOx1.out; subst eox1) | ((with_reducible refine gate_dst (N := 71) rfl ?_); refine Kd.R_lit (Kd.int .i64) _ 2 ?hg (N := 71) ?hd (xs := ([wrap64 (a0_4)] : List Int)) (inner := [.int .i64 (wrap64 (a0_4))]) (ok := fun _ => True) (okp := fun _ => True) ?hr ?hp (fun _ hk => hk) trivial (Below.refl _ _) (Nat.le_refl _) (by simp) ?_; (case hd => rfl); (case hg => rfl); (case hr => first | (go_simp; done) | (go_simp; rfl)); (case hp => exact (Reps.one (show Kd.M (Kd.int .i64) _ _ _ (wrap64 (a0_4)) [.int .i64 (wrap64 (a0_4))] from rfl) (Reps.none _ _))); intro vx1 wx2 hox1 hb hg_ hnew_; clear hg_ hnew_; (first | rw [← Ny124.out] at hox1 | (simp only [Int.reduceToNat] at hox1; rw [← Ny124.out] at hox1)); have HOx1 := Aside0.mk (Kd.R_lower hox1 (below_size zB)); replace BK104 := zJ BK104 hb; replace HB := zH hb; clear hb hox1; obtain ⟨Aox1, cox1, eox1⟩ := Kd.R_slice HOx1.out; subst eox1))
  all_goals (go_ret; exact ⟨zer, zB⟩)
end Go.Proofs.YtpnehgajhpejjaaDoor.W
