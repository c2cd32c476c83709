import Derived.Test.YtpnehgajhpejjaaDoorSq
import Derived.Test.YtpnehgajhpejjaaDoorW0
import Derived.Test.YtpnehgajhpejjaaDoorW1
import Derived.Test.YtpnehgajhpejjaaDoorW2
import Derived.Test.YtpnehgajhpejjaaDoorW3
import Derived.Test.YtpnehgajhpejjaaDoorW4
namespace Go.Proofs.YtpnehgajhpejjaaDoor.W
open Go.RowKit Go.Proofs.YtpnehgajhpejjaaDoorW.PrintWords Go.Proofs.YtpnehgajhpejjaaDoorW.PrintLast Go.Proofs.YtpnehgajhpejjaaDoorW.PrintMore
attribute [local go_sem] max2_int min2_int max_two min_two max_three min_three max_four min_four
set_option linter.unusedVariables false
set_option linter.unusedSimpArgs false
theorem qW5x1 {p : Prop} (h : p := by (with_reducible repeat (first | apply Kd.R_alloc | apply Kd.R_drewN | apply Kd.R_drew)); exact (Kd.R_mono (Kd.R_far (p := ⟨gbx2, 7, none⟩) (Kd.R_far (p := ⟨gbx2, 6, none⟩) (Kd.R_far (p := ⟨gbx2, 5, none⟩) (Kd.R_far (p := ⟨gbx2, 4, none⟩) (Kd.R_far (p := ⟨gbx2, 3, none⟩) (Kd.R_far (p := ⟨gbx2, 2, none⟩) (Kd.R_far (p := ⟨gbx2, 1, none⟩) (Kd.R_far (p := ⟨gbx2, 0, none⟩) (Kd.R_types HOx1.out BKx2.out (by decide)) (fun _ hk => hk.2) (.int .u8 t135)) (fun _ hk => hk.2) (.int .u32 t136)) (fun _ hk => hk.2) (.int .u8 t137)) (fun _ hk => hk.2) (.slice Aox1 t138.length cox1)) (fun _ hk => hk.2) (.int .u8 t141)) (fun _ hk => hk.2) (.int .u8 t142)) (fun _ hk => hk.2) (.int .u8 t143)) (fun _ hk => hk.2) (.int .i64 t144)) (fun _ h_ => h_.1))) : p := h
theorem qW5x2 {p : Prop} (h : p := by exact Aside0.mk (Kd.R_lower hox1 (below_size zB))) : p := h
/-! ### words_Line: function 41 -/
def words_Line.f (k : Nat) (a0_0 : Int) (a0_1 : Int) (a0_2 : Int) (a0_3 : Int) (l0_4 : List Int) : Option (ByteArray) := (script_Good.f k a0_0 a0_1 a0_2 a0_3 l0_4).bind fun t134 => (if t134 = true then (if a0_0 = 1 then ((request_Decode.f l0_4).bind fun bt135 => (if bt135.2.2.2.2.2.2.2.2 = 0 then ((words_ask.f k bt135.1 bt135.2.1 bt135.2.2.1 bt135.2.2.2.1 bt135.2.2.2.2.1 bt135.2.2.2.2.2.1 bt135.2.2.2.2.2.2.1 bt135.2.2.2.2.2.2.2.1).bind fun t147 => (some t147)) else ((words_raw.f l0_4).bind fun t148 => (some t148)))) else (if a0_0 = 2 then ((words_put.f (⟨#[112, 105, 99, 107]⟩ : ByteArray) (([wrap64 (a0_1)] : List Int))).bind fun t152 => (some t152)) else (if a0_0 = 3 then ((words_put.f (⟨#[107, 105, 108, 108]⟩ : ByteArray) (([wrap64 (a0_1)] : List Int))).bind fun t156 => (some t156)) else (if a0_0 = 4 then (some (⟨#[119, 114, 105, 116, 101]⟩ : ByteArray)) else (if a0_0 = 5 then (some (⟨#[115, 121, 110, 99]⟩ : ByteArray)) else (if a0_0 = 6 then (some (⟨#[99, 107, 112, 116]⟩ : ByteArray)) else (if a0_0 = 7 then ((words_put.f (⟨#[99, 114, 97, 115, 104]⟩ : ByteArray) (([a0_2, a0_3] : List Int))).bind fun t160 => (some t160)) else (some (⟨#[98, 111, 111, 116]⟩ : ByteArray))))))))) else (some (⟨#[]⟩ : ByteArray)))
set_option maxHeartbeats 8000000 in
set_option maxRecDepth 100000 in
theorem words_Line.calls (k : Nat) (a0_0 : Int) (a0_1 : Int) (a0_2 : Int) (a0_3 : Int) (A0_4 : Option Addr) (c0_4 : Nat) (l0_4 : List Int) (r : ByteArray) (w : World) (hG0 : Gl w) (hr0_4 : Kd.C (Kd.int .u8) w A0_4 l0_4.length l0_4) (hc0_4 : l0_4.length ≤ c0_4) (h : words_Line.f k a0_0 a0_1 a0_2 a0_3 l0_4 = some r) :
    Calls Tryd.prog 41 #[.agg #[.int .u8 a0_0, .int .u32 a0_1, .int .i64 a0_2, .int .i64 a0_3, .slice A0_4 l0_4.length c0_4]] w fun e w' => e = .returned (.string r) ∧ Below w.heap.size w w' := by
  have hu64 := Tryd.underlying64
  have hu78 := Tryd.underlying78
  have hG := Aside0.mk hG0
  clear hG0
  have HR0_4 := Aside0.mk hr0_4
  have HC0_4 := Aside0.mk hc0_4
  clear hr0_4 hc0_4
  have HB := Aside0.mk (Below.refl w.heap.size w)
  have H : ((script_Good.f k a0_0 a0_1 a0_2 a0_3 l0_4).bind fun t134 => (if t134 = true then (if a0_0 = 1 then ((request_Decode.f l0_4).bind fun bt135 => (if bt135.2.2.2.2.2.2.2.2 = 0 then ((words_ask.f k bt135.1 bt135.2.1 bt135.2.2.1 bt135.2.2.2.1 bt135.2.2.2.2.1 bt135.2.2.2.2.2.1 bt135.2.2.2.2.2.2.1 bt135.2.2.2.2.2.2.2.1).bind fun t147 => (some t147)) else ((words_raw.f l0_4).bind fun t148 => (some t148)))) else (if a0_0 = 2 then ((words_put.f (⟨#[112, 105, 99, 107]⟩ : ByteArray) (([wrap64 (a0_1)] : List Int))).bind fun t152 => (some t152)) else (if a0_0 = 3 then ((words_put.f (⟨#[107, 105, 108, 108]⟩ : ByteArray) (([wrap64 (a0_1)] : List Int))).bind fun t156 => (some t156)) else (if a0_0 = 4 then (some (⟨#[119, 114, 105, 116, 101]⟩ : ByteArray)) else (if a0_0 = 5 then (some (⟨#[115, 121, 110, 99]⟩ : ByteArray)) else (if a0_0 = 6 then (some (⟨#[99, 107, 112, 116]⟩ : ByteArray)) else (if a0_0 = 7 then ((words_put.f (⟨#[99, 114, 97, 115, 104]⟩ : ByteArray) (([a0_2, a0_3] : List Int))).bind fun t160 => (some t160)) else (some (⟨#[98, 111, 111, 116]⟩ : ByteArray))))))))) else (some (⟨#[]⟩ : ByteArray)))) = some r := h
  clear h
  obtain ⟨t134, A2, H⟩ := zO H
  try dsimp only at H
  by_cases c3 : t134 = true
  focus
    subst c3
    have H1 : (if a0_0 = 1 then ((request_Decode.f l0_4).bind fun bt135 => (if bt135.2.2.2.2.2.2.2.2 = 0 then ((words_ask.f k bt135.1 bt135.2.1 bt135.2.2.1 bt135.2.2.2.1 bt135.2.2.2.2.1 bt135.2.2.2.2.2.1 bt135.2.2.2.2.2.2.1 bt135.2.2.2.2.2.2.2.1).bind fun t147 => (some t147)) else ((words_raw.f l0_4).bind fun t148 => (some t148)))) else (if a0_0 = 2 then ((words_put.f (⟨#[112, 105, 99, 107]⟩ : ByteArray) (([wrap64 (a0_1)] : List Int))).bind fun t152 => (some t152)) else (if a0_0 = 3 then ((words_put.f (⟨#[107, 105, 108, 108]⟩ : ByteArray) (([wrap64 (a0_1)] : List Int))).bind fun t156 => (some t156)) else (if a0_0 = 4 then (some (⟨#[119, 114, 105, 116, 101]⟩ : ByteArray)) else (if a0_0 = 5 then (some (⟨#[115, 121, 110, 99]⟩ : ByteArray)) else (if a0_0 = 6 then (some (⟨#[99, 107, 112, 116]⟩ : ByteArray)) else (if a0_0 = 7 then ((words_put.f (⟨#[99, 114, 97, 115, 104]⟩ : ByteArray) (([a0_2, a0_3] : List Int))).bind fun t160 => (some t160)) else (some (⟨#[98, 111, 111, 116]⟩ : ByteArray))))))))) = some r := by rw [if_pos rfl] at H; exact H
    clear H
    have H := H1
    clear H1
    by_cases c4 : a0_0 = 1
    focus
      rw [if_pos c4] at H
      obtain ⟨c4b0, c4b1⟩ := zeq c4
      clear c4
      obtain ⟨⟨t135, t136, t137, t138, t141, t142, t143, t144, t145⟩, A5, H⟩ := zO H
      try dsimp only at H
      by_cases c6 : t145 = 0
      focus
        rw [if_pos c6] at H
        obtain ⟨c6b0, c6b1⟩ := zeq c6
        clear c6
        obtain ⟨t147, A7, H⟩ := zO H
        try dsimp only at H
        obtain rfl := Option.some.inj H
      rotate_left
      rw [if_neg c6] at H
      obtain ⟨c6b0, c6b1⟩ := zne c6
      obtain ⟨t148, A18, H⟩ := zO H
      try dsimp only at H
      obtain rfl := Option.some.inj H
    rotate_left 2
    rw [if_neg c4] at H
    obtain ⟨c4b0, c4b1⟩ := zne c4
    by_cases c30 : a0_0 = 2
    focus
      rw [if_pos c30] at H
      obtain ⟨c30b0, c30b1⟩ := zeq c30
      clear c30
      obtain ⟨y149, hy149⟩ : ∃ y_ : List Int, y_ = (([wrap64 (a0_1)] : List Int)) := ⟨_, rfl⟩
      replace H : ((words_put.f (⟨#[112, 105, 99, 107]⟩ : ByteArray) y149).bind fun t152 => (some t152)) = some r := by first | (rw [hy149]; with_reducible exact H) | (have H2_ := (Option.bind_some _ _).symm.trans H; rw [hy149]; with_reducible exact H2_) | (have H2_ := (Option.bind_some _ _).symm.trans H; with_reducible exact H2_) | with_reducible exact H | (rw [hy149]; exact H) | exact H
      have Ny149 := Aside0.mk hy149
      clear hy149
      obtain ⟨t152, A31, H⟩ := zO H
      try dsimp only at H
      obtain rfl := Option.some.inj H
    rotate_left
    rw [if_neg c30] at H
    obtain ⟨c30b0, c30b1⟩ := zne c30
    by_cases c40 : a0_0 = 3
    focus
      rw [if_pos c40] at H
      obtain ⟨c40b0, c40b1⟩ := zeq c40
      clear c40
      obtain ⟨y153, hy153⟩ : ∃ y_ : List Int, y_ = (([wrap64 (a0_1)] : List Int)) := ⟨_, rfl⟩
      replace H : ((words_put.f (⟨#[107, 105, 108, 108]⟩ : ByteArray) y153).bind fun t156 => (some t156)) = some r := by first | (rw [hy153]; with_reducible exact H) | (have H2_ := (Option.bind_some _ _).symm.trans H; rw [hy153]; with_reducible exact H2_) | (have H2_ := (Option.bind_some _ _).symm.trans H; with_reducible exact H2_) | with_reducible exact H | (rw [hy153]; exact H) | exact H
      have Ny153 := Aside0.mk hy153
      clear hy153
      obtain ⟨t156, A41, H⟩ := zO H
      try dsimp only at H
      obtain rfl := Option.some.inj H
    rotate_left
    rw [if_neg c40] at H
    obtain ⟨c40b0, c40b1⟩ := zne c40
    by_cases c50 : a0_0 = 4
    focus
      rw [if_pos c50] at H
      obtain ⟨c50b0, c50b1⟩ := zeq c50
      clear c50
      obtain rfl := Option.some.inj H
    rotate_left
    rw [if_neg c50] at H
    obtain ⟨c50b0, c50b1⟩ := zne c50
    by_cases c55 : a0_0 = 5
    focus
      rw [if_pos c55] at H
      obtain ⟨c55b0, c55b1⟩ := zeq c55
      clear c55
      obtain rfl := Option.some.inj H
    rotate_left
    rw [if_neg c55] at H
    obtain ⟨c55b0, c55b1⟩ := zne c55
    by_cases c60 : a0_0 = 6
    focus
      rw [if_pos c60] at H
      obtain ⟨c60b0, c60b1⟩ := zeq c60
      clear c60
      obtain rfl := Option.some.inj H
    rotate_left
    rw [if_neg c60] at H
    obtain ⟨c60b0, c60b1⟩ := zne c60
    by_cases c65 : a0_0 = 7
    focus
      rw [if_pos c65] at H
      obtain ⟨c65b0, c65b1⟩ := zeq c65
      clear c65
      obtain ⟨y157, hy157⟩ : ∃ y_ : List Int, y_ = (([a0_2, a0_3] : List Int)) := ⟨_, rfl⟩
      replace H : ((words_put.f (⟨#[99, 114, 97, 115, 104]⟩ : ByteArray) y157).bind fun t160 => (some t160)) = some r := by first | (rw [hy157]; with_reducible exact H) | (have H2_ := (Option.bind_some _ _).symm.trans H; rw [hy157]; with_reducible exact H2_) | (have H2_ := (Option.bind_some _ _).symm.trans H; with_reducible exact H2_) | with_reducible exact H | (rw [hy157]; exact H) | exact H
      have Ny157 := Aside0.mk hy157
      clear hy157
      obtain ⟨t160, A66, H⟩ := zO H
      try dsimp only at H
      obtain rfl := Option.some.inj H
    rotate_left
    rw [if_neg c65] at H
    obtain ⟨c65b0, c65b1⟩ := zne c65
    obtain rfl := Option.some.inj H
  rotate_left 9
  replace c3 := Bool.eq_false_iff.mpr c3
  subst c3
  have H1 : (some (⟨#[]⟩ : ByteArray)) = some r := by rw [if_neg (show ¬ (false = true) by decide)] at H; exact H
  clear H
  have H := H1
  clear H1
  obtain rfl := Option.some.inj H
  all_goals go_enter Tryd.func41, Tryd.ntmps41
  all_goals go_wp2_with (first | ((with_reducible refine gate_dst (N := 1) rfl ?_); refine zbox (N := 1) (cs := #[.int .u8 a0_0, .int .u32 a0_1, .int .i64 a0_2, .int .i64 a0_3, .slice A0_4 l0_4.length c0_4]) (t := 64) (h := ?_); intro gbx1 hg wx1 hbox hb; have BKx1 := Aside0.mk (hbox); have GWx1 := zG (p := w.heap.size ≤ gbx1); have GEx1 := GWx1; replace HB := zH hb; clear hb hbox hg; have hczx1 := zcf5 BKx1.out) | ((with_reducible refine gate_callee (f := 49) rfl ?_); refine goesZ (some 6) Tryd.func49 (args := #[.agg #[.int .u8 a0_0, .int .u32 a0_1, .int .i64 a0_2, .int .i64 a0_3, .slice A0_4 l0_4.length c0_4]]) (h := ?_); (with_reducible refine (script_Good.calls k a0_0 a0_1 a0_2 a0_3 _ _ l0_4 true _ ?side1 ?side2 A2.out).mono ?_); (case side1 => exact zC (Kd.C_below HR0_4.out HB.out)); (case side2 => exact HC0_4.out); rintro e wx2 ⟨rfl, hb⟩; refine ⟨_, rfl, ?_⟩; replace BKx1 := zJ BKx1 hb; replace HB := zH hb; clear hb; have hczx2 := zcf5 BKx1.out) | ((with_reducible refine gate_callee (f := 49) rfl ?_); refine goesZ (some 6) Tryd.func49 (args := #[.agg #[.int .u8 a0_0, .int .u32 a0_1, .int .i64 a0_2, .int .i64 a0_3, .slice A0_4 l0_4.length c0_4]]) (h := ?_); (with_reducible refine (script_Good.calls k a0_0 a0_1 a0_2 a0_3 _ _ l0_4 false _ ?side1 ?side2 A2.out).mono ?_); (case side1 => exact zC (Kd.C_below HR0_4.out HB.out)); (case side2 => exact HC0_4.out); rintro e wx2 ⟨rfl, hb⟩; refine ⟨_, rfl, ?_⟩; replace BKx1 := zJ BKx1 hb; replace HB := zH hb; clear hb) | ((with_reducible refine gate_callee (f := 50) rfl ?_); refine goesZ (some 15) Tryd.func50 (args := #[.slice A0_4 l0_4.length c0_4]) (h := ?_); (with_reducible refine (request_Decode.calls _ _ l0_4 t135 t136 t137 t138 t141 t142 t143 t144 t145 _ ?side1 ?side2 A5.out).mono ?_); (case side1 => exact zC (Kd.C_below HR0_4.out HB.out)); (case side2 => exact HC0_4.out); rintro e wx3 ⟨vx1, rfl, hox1, hb⟩; refine ⟨_, rfl, ?_⟩; have HOx1 := qW5x2; replace BKx1 := zJ BKx1 hb; replace HB := zH hb; clear hb hox1) | ((with_reducible refine gate_dst (N := 3) rfl ?_); refine zbox (N := 3) (cs := #[.int .u8 0, .int .u32 0, .int .u8 0, .slice none 0 0, .int .u8 0, .int .u8 0, .int .u8 0, .int .i64 0]) (t := 78) (h := ?_); intro gbx2 hg wx4 hbox hb; replace HOx1 := zP HOx1 hb; have BKx2 := Aside0.mk (hbox); have GWx2 := zG (p := w.heap.size ≤ gbx2); have GEx2 := GWx2; have NBx1 := zNlt BKx1.out (p := gbx1 ≠ gbx2); have NBx2 := zNgt BKx1.out (p := gbx2 ≠ gbx1); replace BKx1 := zJ BKx1 hb; replace HB := zH hb; clear hb hbox hg; have hnbx1 := NBx2.out; have hncx1 := NBx1.out; have hczx3 := zcf8 BKx2.out; obtain ⟨Aox1, cox1, eox1⟩ := Kd.R_slice HOx1.out; subst eox1; have hczx4 := zcf5 BKx1.out) | ((with_reducible refine gate_dst (N := 3) rfl ?_); refine zbox (N := 3) (cs := #[.int .u8 0, .int .u32 0, .int .u8 0, .slice none 0 0, .int .u8 0, .int .u8 0, .int .u8 0, .int .i64 0]) (t := 78) (h := ?_); intro gbx2 hg wx4 hbox hb; replace HOx1 := zP HOx1 hb; have BKx2 := Aside0.mk (hbox); have GWx2 := zG (p := w.heap.size ≤ gbx2); have GEx2 := GWx2; have NBx1 := zNlt BKx1.out (p := gbx1 ≠ gbx2); have NBx2 := zNgt BKx1.out (p := gbx2 ≠ gbx1); replace BKx1 := zJ BKx1 hb; replace HB := zH hb; clear hb hbox hg; have hnbx1 := NBx2.out; have hncx1 := NBx1.out; have hczx3 := zcf8 BKx2.out; obtain ⟨Aox1, cox1, eox1⟩ := Kd.R_slice HOx1.out; subst eox1) | ((with_reducible refine gate_callee (f := 52) rfl ?_); refine goesZ (some 24) Tryd.func52 (args := #[.agg #[.int .u8 t135, .int .u32 t136, .int .u8 t137, .slice Aox1 t138.length cox1, .int .u8 t141, .int .u8 t142, .int .u8 t143, .int .i64 t144]]) (h := ?_); (with_reducible refine (words_ask.calls k t135 t136 t137 _ _ t138 t141 t142 t143 t144 t147 _ ?side1 ?side2 ?side3 A7.out).mono ?_); (case side1 => exact Gl.below hG.out zB); (case side2 => refine (Kd.R_reads' (e := 109) (base := w.heap.size) (ok := fun k_ => True) (n := t138.length) (c := cox1) ?_).2.2; exact qW5x1); (case side3 => exact (Kd.R_reads' HOx1.out).2.1); rintro e wx5 ⟨rfl, hb⟩; refine ⟨_, rfl, ?_⟩; replace HOx1 := Aside0.mk (Kd.R_below qW5x1 hb); replace BKx1 := Aside0.mk (blk_below (g := gbx1) (o := .cells #[.int .u8 a0_0, .int .u32 a0_1, .int .i64 a0_2, .int .i64 a0_3, .slice A0_4 l0_4.length c0_4] 64 (0, 0)) (by (with_reducible repeat (first | refine blk_drewN ?_ _ | refine blk_drew ?_ | refine blk_alloc ?_ _)); refine blk_far ?_ NBx1.out _; (with_reducible repeat (first | refine blk_drewN ?_ _ | refine blk_drew ?_ | refine blk_alloc ?_ _)); refine blk_far ?_ NBx1.out _; (with_reducible repeat (first | refine blk_drewN ?_ _ | refine blk_drew ?_ | refine blk_alloc ?_ _)); refine blk_far ?_ NBx1.out _; (with_reducible repeat (first | refine blk_drewN ?_ _ | refine blk_drew ?_ | refine blk_alloc ?_ _)); refine blk_far ?_ NBx1.out _; (with_reducible repeat (first | refine blk_drewN ?_ _ | refine blk_drew ?_ | refine blk_alloc ?_ _)); refine blk_far ?_ NBx1.out _; (with_reducible repeat (first | refine blk_drewN ?_ _ | refine blk_drew ?_ | refine blk_alloc ?_ _)); refine blk_far ?_ NBx1.out _; (with_reducible repeat (first | refine blk_drewN ?_ _ | refine blk_drew ?_ | refine blk_alloc ?_ _)); refine blk_far ?_ NBx1.out _; (with_reducible repeat (first | refine blk_drewN ?_ _ | refine blk_drew ?_ | refine blk_alloc ?_ _)); refine blk_far ?_ NBx1.out _; (with_reducible repeat (first | refine blk_drewN ?_ _ | refine blk_drew ?_ | refine blk_alloc ?_ _)); exact BKx1.out) hb); replace HB := zH hb; replace BKx2 := Aside0.mk (blk_below (g := gbx2) (o := .cells #[.int .u8 t135, .int .u32 t136, .int .u8 t137, .slice Aox1 t138.length cox1, .int .u8 t141, .int .u8 t142, .int .u8 t143, .int .i64 t144] 78 (0, 0)) (zQ BKx2.out) hb); clear hb) | ((with_reducible refine gate_callee (f := 51) rfl ?_); refine goesZ (some 22) Tryd.func51 (args := #[.slice A0_4 l0_4.length c0_4]) (h := ?_); (with_reducible refine (words_raw.calls _ _ l0_4 t148 _ ?side1 ?side2 A18.out).mono ?_); (case side1 => exact Kd.C_below HR0_4.out zB); (case side2 => exact HC0_4.out); rintro e wx5 ⟨rfl, hb⟩; refine ⟨_, rfl, ?_⟩; replace HOx1 := Aside0.mk (Kd.R_below qW5x1 hb); replace BKx1 := Aside0.mk (blk_below (g := gbx1) (o := .cells #[.int .u8 a0_0, .int .u32 a0_1, .int .i64 a0_2, .int .i64 a0_3, .slice A0_4 l0_4.length c0_4] 64 (0, 0)) (by (with_reducible repeat (first | refine blk_drewN ?_ _ | refine blk_drew ?_ | refine blk_alloc ?_ _)); refine blk_far ?_ NBx1.out _; (with_reducible repeat (first | refine blk_drewN ?_ _ | refine blk_drew ?_ | refine blk_alloc ?_ _)); refine blk_far ?_ NBx1.out _; (with_reducible repeat (first | refine blk_drewN ?_ _ | refine blk_drew ?_ | refine blk_alloc ?_ _)); refine blk_far ?_ NBx1.out _; (with_reducible repeat (first | refine blk_drewN ?_ _ | refine blk_drew ?_ | refine blk_alloc ?_ _)); refine blk_far ?_ NBx1.out _; (with_reducible repeat (first | refine blk_drewN ?_ _ | refine blk_drew ?_ | refine blk_alloc ?_ _)); refine blk_far ?_ NBx1.out _; (with_reducible repeat (first | refine blk_drewN ?_ _ | refine blk_drew ?_ | refine blk_alloc ?_ _)); refine blk_far ?_ NBx1.out _; (with_reducible repeat (first | refine blk_drewN ?_ _ | refine blk_drew ?_ | refine blk_alloc ?_ _)); refine blk_far ?_ NBx1.out _; (with_reducible repeat (first | refine blk_drewN ?_ _ | refine blk_drew ?_ | refine blk_alloc ?_ _)); refine blk_far ?_ NBx1.out _; (with_reducible repeat (first | refine blk_drewN ?_ _ | refine blk_drew ?_ | refine blk_alloc ?_ _)); exact BKx1.out) hb); replace HB := zH hb; replace BKx2 := Aside0.mk (blk_below (g := gbx2) (o := .cells #[.int .u8 t135, .int .u32 t136, .int .u8 t137, .slice Aox1 t138.length cox1, .int .u8 t141, .int .u8 t142, .int .u8 t143, .int .i64 t144] 78 (0, 0)) (zQ BKx2.out) hb); clear hb) | ((with_reducible refine gate_dst (N := 30) rfl ?_); refine Kd.R_lit (Kd.int .i64) _ 2 ?hg (N := 30) ?hd (xs := ([wrap64 (a0_1)] : List Int)) (inner := [.int .i64 (wrap64 (a0_1))]) (ok := fun _ => True) (okp := fun _ => True) ?hr ?hp (fun _ hk => hk) trivial (Below.refl _ _) (Nat.le_refl _) (by simp) ?_; (case hd => rfl); (case hg => rfl); (case hr => first | (go_simp; done) | (go_simp; rfl)); (case hp => exact (Reps.one (show Kd.M (Kd.int .i64) _ _ _ (wrap64 (a0_1)) [.int .i64 (wrap64 (a0_1))] from rfl) (Reps.none _ _))); intro vx1 wx3 hox1 hb hg_ hnew_; clear hg_ hnew_; (first | rw [← Ny149.out] at hox1 | (simp only [Int.reduceToNat] at hox1; rw [← Ny149.out] at hox1)); have HOx1 := qW5x2; replace BKx1 := zJ BKx1 hb; replace HB := zH hb; clear hb hox1; obtain ⟨Aox1, cox1, eox1⟩ := Kd.R_slice HOx1.out; subst eox1) | ((with_reducible refine gate_callee (f := 53) rfl ?_); refine goesZ (some 52) Tryd.func53 (args := #[.string (⟨#[99, 114, 97, 115, 104]⟩ : ByteArray), .slice Aox1 y157.length cox1]) (h := ?_); (with_reducible refine (words_put.calls (⟨#[99, 114, 97, 115, 104]⟩ : ByteArray) _ _ y157 t160 _ ?side1 ?side2 ?side3 A66.out).mono ?_); (case side1 => exact Gl.below hG.out zB); (case side2 => exact zC ((Kd.R_reads' HOx1.out).2.2)); (case side3 => exact (Kd.R_reads' HOx1.out).2.1); rintro e wx4 ⟨rfl, hb⟩; refine ⟨_, rfl, ?_⟩; replace HOx1 := zP HOx1 hb; replace BKx1 := zJ BKx1 hb; replace HB := zH hb; clear hb) | ((with_reducible refine gate_callee (f := 53) rfl ?_); refine goesZ (some 38) Tryd.func53 (args := #[.string (⟨#[107, 105, 108, 108]⟩ : ByteArray), .slice Aox1 y153.length cox1]) (h := ?_); (with_reducible refine (words_put.calls (⟨#[107, 105, 108, 108]⟩ : ByteArray) _ _ y153 t156 _ ?side1 ?side2 ?side3 A41.out).mono ?_); (case side1 => exact Gl.below hG.out zB); (case side2 => exact zC ((Kd.R_reads' HOx1.out).2.2)); (case side3 => exact (Kd.R_reads' HOx1.out).2.1); rintro e wx4 ⟨rfl, hb⟩; refine ⟨_, rfl, ?_⟩; replace HOx1 := zP HOx1 hb; replace BKx1 := zJ BKx1 hb; replace HB := zH hb; clear hb) | ((with_reducible refine gate_callee (f := 53) rfl ?_); refine goesZ (some 31) Tryd.func53 (args := #[.string (⟨#[112, 105, 99, 107]⟩ : ByteArray), .slice Aox1 y149.length cox1]) (h := ?_); (with_reducible refine (words_put.calls (⟨#[112, 105, 99, 107]⟩ : ByteArray) _ _ y149 t152 _ ?side1 ?side2 ?side3 A31.out).mono ?_); (case side1 => exact Gl.below hG.out zB); (case side2 => exact zC ((Kd.R_reads' HOx1.out).2.2)); (case side3 => exact (Kd.R_reads' HOx1.out).2.1); rintro e wx4 ⟨rfl, hb⟩; refine ⟨_, rfl, ?_⟩; replace HOx1 := zP HOx1 hb; replace BKx1 := zJ BKx1 hb; replace HB := zH hb; clear hb) | ((with_reducible refine gate_dst (N := 37) rfl ?_); refine Kd.R_lit (Kd.int .i64) _ 2 ?hg (N := 37) ?hd (xs := ([wrap64 (a0_1)] : List Int)) (inner := [.int .i64 (wrap64 (a0_1))]) (ok := fun _ => True) (okp := fun _ => True) ?hr ?hp (fun _ hk => hk) trivial (Below.refl _ _) (Nat.le_refl _) (by simp) ?_; (case hd => rfl); (case hg => rfl); (case hr => first | (go_simp; done) | (go_simp; rfl)); (case hp => exact (Reps.one (show Kd.M (Kd.int .i64) _ _ _ (wrap64 (a0_1)) [.int .i64 (wrap64 (a0_1))] from rfl) (Reps.none _ _))); intro vx1 wx3 hox1 hb hg_ hnew_; clear hg_ hnew_; (first | rw [← Ny153.out] at hox1 | (simp only [Int.reduceToNat] at hox1; rw [← Ny153.out] at hox1)); have HOx1 := qW5x2; replace BKx1 := zJ BKx1 hb; replace HB := zH hb; clear hb hox1; obtain ⟨Aox1, cox1, eox1⟩ := Kd.R_slice HOx1.out; subst eox1) | ((with_reducible refine gate_dst (N := 51) rfl ?_); refine Kd.R_lit (Kd.int .i64) _ 2 ?hg (N := 51) ?hd (xs := ([a0_2, a0_3] : List Int)) (inner := [.int .i64 a0_2, .int .i64 a0_3]) (ok := fun _ => True) (okp := fun _ => True) ?hr ?hp (fun _ hk => hk) trivial (Below.refl _ _) (Nat.le_refl _) (by simp) ?_; (case hd => rfl); (case hg => rfl); (case hr => first | (go_simp; done) | (go_simp; rfl)); (case hp => exact (Reps.one (show Kd.M (Kd.int .i64) _ _ _ a0_2 [.int .i64 a0_2] from rfl) (Reps.one (show Kd.M (Kd.int .i64) _ _ _ a0_3 [.int .i64 a0_3] from rfl) (Reps.none _ _)))); intro vx1 wx3 hox1 hb hg_ hnew_; clear hg_ hnew_; (first | rw [← Ny157.out] at hox1 | (simp only [Int.reduceToNat] at hox1; rw [← Ny157.out] at hox1)); have HOx1 := qW5x2; replace BKx1 := zJ BKx1 hb; replace HB := zH hb; clear hb hox1; obtain ⟨Aox1, cox1, eox1⟩ := Kd.R_slice HOx1.out; subst eox1))
  all_goals (go_ret; exact ⟨zer, zB⟩)
/-! ### words_number: function 68 (by hand) -/
def numOf (s : ByteArray) : Int := match Lib.parseIntB 64 s.data.toList with | .ok v => v | .range => Lib.intSat 64 s.data.toList | _ => 0
theorem parse_calls (s : ByteArray) (w : World) (hG : Gl w) (hs : s.size ≤ 281474976710656) :
    Calls Tryd.prog 97 #[.string s, .int .i64 10, .int .i64 64] w fun e w' => ∃ ev : Value, e = .returned (.tuple #[.int .i64 (numOf s), ev]) ∧ Below w.heap.size w w' := by
  unfold numOf
  cases hp : Lib.parseIntB 64 s.data.toList with
  | ok v =>
    refine (Tryd.strconv_ParseInt_10_at64_ok s (by omega) v hp w).mono ?_
    rintro e w' ⟨rfl, hw⟩
    refine ⟨_, rfl, ?_⟩
    rcases hw with rfl | ⟨t, rfl⟩
    · exact Below.refl _ _
    · exact Lib.bytesWorld_below w 5 t
  | range =>
    obtain ⟨ev, hv, hev⟩ := hG.2.2.2
    refine (Tryd.strconv_ParseInt_10_at64_range s hs hp ev w hv hev).mono ?_
    rintro e w' ⟨N, rfl, _, _, hb⟩
    exact ⟨_, rfl, hb⟩
  | _ =>
    obtain ⟨ev, hv, hev⟩ := hG.2.2.1
    refine (Tryd.strconv_ParseInt_10_at64_syntax s hs (fun v e => by rw [hp] at e; cases e) (fun e => by rw [hp] at e; cases e) ev w hv hev).mono ?_
    rintro e w' ⟨N, rfl, _, _, hb⟩
    exact ⟨_, rfl, hb⟩
def words_number.f (l0 : List ByteArray) (a1 : Int) : Option Int := if a1 ≥ (l0.length : Int) then some 0 else if 0 ≤ a1 ∧ (rdOf ByteArray.empty l0 a1).size ≤ 281474976710656 then some (numOf (rdOf ByteArray.empty l0 a1)) else none
set_option maxHeartbeats 4000000 in
theorem words_number.calls (A0 : Option Addr) (c0 : Nat) (l0 : List ByteArray) (a1 : Int) (r : Int) (w : World) (hG0 : Gl w) (hr0 : Kd.C Kd.string w A0 l0.length l0) (hc0 : l0.length ≤ c0) (h : words_number.f l0 a1 = some r) :
    Calls Tryd.prog 68 #[.slice A0 l0.length c0, .int .i64 a1] w fun e w' => e = .returned (.int .i64 r) ∧ Below w.heap.size w w' := by
  unfold words_number.f at h
  by_cases c1 : a1 ≥ (l0.length : Int)
  · rw [if_pos c1] at h
    obtain rfl := Option.some.inj h
    have c1b := decide_eq_true c1
    clear hr0
    go_enter Tryd.func68, Tryd.ntmps68
    go_wp2
    go_ret
    exact ⟨rfl, Below.refl _ _⟩
  rw [if_neg c1] at h
  split at h
  · rename_i hb
    obtain rfl := Option.some.inj h
    have p1 : 0 ≤ a1 := hb.1
    have p2 : a1 < (l0.length : Int) := by omega
    have c1b : decide ((l0.length : Int) ≤ a1) = false := decide_eq_false c1
    obtain ⟨ad, e1, hx⟩ := Kd.at_string hr0 a1 p1 p2
    cases e1
    have hcon := parse_calls (rdOf ByteArray.empty l0 a1) w hG0 hb.2
    clear hr0 hb
    generalize rdOf ByteArray.empty l0 a1 = s at *
    generalize numOf s = n at *
    have HG := Aside0.mk hG0
    clear hG0
    go_enter Tryd.func68, Tryd.ntmps68
    go_wp2_with (first | (go_at_call 97; refine hcon.mono ?_; rintro e w' ⟨ev, rfl, hb⟩))
    go_ret
    exact ⟨rfl, hb⟩
  · exact absurd h (by simp)
/-! ### strings_Join: function 69 (by hand) -/
def strings_Join.f (l0 : List ByteArray) (a1 : ByteArray) : Option ByteArray := if l0.length ≤ 140737488355328 ∧ (Lib.join (l0.map fun x => x.data.toList) a1.data.toList).length ≤ 140737488355328 then some ⟨(Lib.join (l0.map fun x => x.data.toList) a1.data.toList).toArray⟩ else none
theorem strings_Join.calls (A0 : Option Addr) (c0 : Nat) (l0 : List ByteArray) (a1 : ByteArray) (r : ByteArray) (w : World) (hr0 : Kd.C Kd.string w A0 l0.length l0) (hc0 : l0.length ≤ c0) (h : strings_Join.f l0 a1 = some r) :
    Calls Tryd.prog 69 #[.slice A0 l0.length c0, .string a1] w fun e w' => e = .returned (.string r) ∧ Below w.heap.size w w' := by
  unfold strings_Join.f at h
  split at h
  · rename_i hb
    obtain rfl := Option.some.inj h
    rcases l0 with _ | ⟨x, l0⟩
    · refine (Tryd.strings_Join_none A0 c0 a1 w).mono ?_
      rintro e w' ⟨rfl, rfl⟩
      exact ⟨rfl, Below.refl _ _⟩
    · obtain ⟨ad, e0, hx0⟩ := Kd.at_string hr0 0 (by omega) (by simp)
      obtain ⟨bk, o, sp⟩ := ad
      have hsp : sp = none := by
        have : sp.isSome = false := by
          have h1 := hx0
          unfold World.cell? at h1
          cases sp with
          | none => rfl
          | some q => simp [Addr.add] at h1; split at h1 <;> simp at h1
        cases sp <;> simp_all
      subst hsp
      subst e0
      have hcell : ∀ (j : Nat) (y : ByteArray), (x :: l0)[j]? = some y → w.cell? ⟨bk, o + j, none⟩ = some (.string y) := fun j y hy => by
        obtain ⟨hj, rfl⟩ := List.getElem?_eq_some_iff.1 hy
        obtain ⟨ad, e1, hx⟩ := Kd.at_string hr0 (j : Int) (by omega) (by omega)
        cases e1
        rw [Int.toNat_natCast, Lib.add_plain] at hx
        rw [hx]
        simp [rdOf, List.getD_eq_getElem?_getD, List.getElem?_eq_getElem hj]
      refine (Tryd.strings_Join bk o c0 (x :: l0) a1 w hcell (World.block_lt_of_cell? w _ (hcell 0 x rfl)) hb.1 hc0 hb.2).mono ?_
      rintro e w' ⟨rfl, hw⟩
      exact ⟨rfl, hw⟩
  · exact absurd h (by simp)
/-! ### strings_IndexByte: function 101 (by hand) -/
def strings_IndexByte.f (a0 : ByteArray) (a1 : Int) : Option Int := some (Lib.indexByte a0.data.toList a1.toNat.toUInt8)
theorem strings_IndexByte.calls (a0 : ByteArray) (a1 : Int) (r : Int) (w : World) (h : strings_IndexByte.f a0 a1 = some r) :
    Calls Tryd.prog 101 #[.string a0, .int .u8 a1] w fun e w' => e = .returned (.int .i64 r) ∧ Below w.heap.size w w' := by
  obtain rfl := Option.some.inj h
  refine (Tryd.strings_IndexByte a0 a1 w).mono ?_
  rintro e w' ⟨rfl, rfl⟩
  exact ⟨rfl, Below.refl _ _⟩
/-! ### words_nibble: function 70 -/
def words_nibble.f (a0 : Int) : Option (Int) := (strings_IndexByte.f (⟨#[48, 49, 50, 51, 52, 53, 54, 55, 56, 57, 97, 98, 99, 100, 101, 102]⟩ : ByteArray) a0).bind fun t161 => (some ((mx t161 0) % 256))
set_option maxHeartbeats 8000000 in
set_option maxRecDepth 100000 in
theorem words_nibble.calls (a0 : Int) (r : Int) (w : World) (h : words_nibble.f a0 = some r) :
    Calls Tryd.prog 70 #[.int .u8 a0] w fun e w' => e = .returned (.int .u8 r) ∧ Below w.heap.size w w' := by
  have HB := Aside0.mk (Below.refl w.heap.size w)
  have H : ((strings_IndexByte.f (⟨#[48, 49, 50, 51, 52, 53, 54, 55, 56, 57, 97, 98, 99, 100, 101, 102]⟩ : ByteArray) a0).bind fun t161 => (some ((mx t161 0) % 256))) = some r := h
  clear h
  obtain ⟨t161, A2, H⟩ := zO H
  try dsimp only at H
  obtain ⟨ji3, hji3⟩ : ∃ j_ : Int, (mx t161 0) = j_ := ⟨_, rfl⟩
  replace H : (some ((ji3) % 256)) = some r := by first | (rw [hji3] at H; exact H) | (simp only [hji3] at H ⊢; exact H)
  (try rw [hji3] at A2)
  (try (have hji3l : 0 ≤ ji3 := by (rw [← hji3]; unfold mx; (repeat' split) <;> omega)))
  (try (have hji3m : 0 ≤ ji3 := by omega))
  have hji3_ : (if t161 < 0 then 0 else t161) = ji3 := hji3
  obtain rfl := Option.some.inj H
  go_enter Tryd.func70, Tryd.ntmps70
  go_wp2_with (first | ((with_reducible refine gate_callee (f := 101) rfl ?_); refine goesZ (some 4) Tryd.func101 (args := #[.string (⟨#[48, 49, 50, 51, 52, 53, 54, 55, 56, 57, 97, 98, 99, 100, 101, 102]⟩ : ByteArray), .int .u8 a0]) (h := ?_); (with_reducible refine (strings_IndexByte.calls (⟨#[48, 49, 50, 51, 52, 53, 54, 55, 56, 57, 97, 98, 99, 100, 101, 102]⟩ : ByteArray) a0 t161 _ A2.out).mono ?_); rintro e w4 ⟨rfl, hb⟩; refine ⟨_, rfl, ?_⟩; replace HB := zH hb; clear hb))
  go_ret
  exact ⟨by first | rfl | (simp [errW_none, errW_some] <;> rfl) | (simp only [← hji3]; first | rfl | (simp [errW_none, errW_some] <;> rfl)) | (simp [*, errW_none, errW_some] <;> rfl), zB⟩
/-! ### request_ordered: function 77 -/
def request_ordered.f (a0 : Int) : Option (Bool) := if a0 ≥ 1 then (some (decide (a0 ≤ 4))) else (some false)
set_option maxHeartbeats 8000000 in
set_option maxRecDepth 100000 in
theorem request_ordered.calls (a0 : Int) (r : Bool) (w : World) (h : request_ordered.f a0 = some r) :
    Calls Tryd.prog 77 #[.int .u8 a0] w fun e w' => e = .returned (.bool r) ∧ Drawn0 w w' := by
  have H : (if a0 ≥ 1 then (some (decide (a0 ≤ 4))) else (some false)) = some r := h
  clear h
  by_cases c2 : a0 ≥ 1
  focus
    rw [if_pos c2] at H
    have c2b0 := decide_eq_true c2
    clear c2
    obtain rfl := Option.some.inj H
  rotate_left
  rw [if_neg c2] at H
  have c2b0 : decide (1 ≤ a0) = false := decide_eq_false c2
  clear c2
  obtain rfl := Option.some.inj H
  all_goals go_enter Tryd.func77, Tryd.ntmps77
  all_goals go_wp2
  all_goals (go_ret; exact ⟨by first | rfl | (simp; done) | (simp [*]; done), by repeat (first | exact Drawn0.refl _ | apply Drawn0.step)⟩)
/-! ### request_moved: function 79 -/
def request_moved.f (a0 : Int) : Option (Bool) := if a0 = 5 then (some true) else (some (a0 == 6))
set_option maxHeartbeats 8000000 in
set_option maxRecDepth 100000 in
theorem request_moved.calls (a0 : Int) (r : Bool) (w : World) (h : request_moved.f a0 = some r) :
    Calls Tryd.prog 79 #[.int .u8 a0] w fun e w' => e = .returned (.bool r) ∧ Drawn0 w w' := by
  have H : (if a0 = 5 then (some true) else (some (a0 == 6))) = some r := h
  clear h
  by_cases c2 : a0 = 5
  focus
    rw [if_pos c2] at H
    obtain ⟨c2b0, c2b1⟩ := zeq c2
    clear c2
    obtain rfl := Option.some.inj H
  rotate_left
  rw [if_neg c2] at H
  obtain ⟨c2b0, c2b1⟩ := zne c2
  obtain rfl := Option.some.inj H
  all_goals go_enter Tryd.func79, Tryd.ntmps79
  all_goals go_wp2
  all_goals (go_ret; exact ⟨by first | rfl | (simp; done) | (simp [*]; done), by repeat (first | exact Drawn0.refl _ | apply Drawn0.step)⟩)
end Go.Proofs.YtpnehgajhpejjaaDoor.W
