import Derived.Test.YtpnehgajhpejjaaDoorSq
import Derived.Test.YtpnehgajhpejjaaDoorW0
import Derived.Test.YtpnehgajhpejjaaDoorW1
import Derived.Test.YtpnehgajhpejjaaDoorW5
import Derived.Test.YtpnehgajhpejjaaDoorW9
namespace Go.Proofs.YtpnehgajhpejjaaDoor.W
open Go.RowKit Go.Proofs.YtpnehgajhpejjaaDoorW.PrintWords Go.Proofs.YtpnehgajhpejjaaDoorW.PrintLast Go.Proofs.YtpnehgajhpejjaaDoorW.PrintMore
attribute [local go_sem] max2_int min2_int max_two min_two max_three min_three max_four min_four
set_option linter.unusedVariables false
set_option linter.unusedSimpArgs false
theorem qW10x1 {p : Prop} (h : p := by (with_reducible repeat (first | apply Kd.R_alloc | apply Kd.R_drewN | apply Kd.R_drew)); exact (Kd.R_mono (Kd.R_far (p := ⟨gbx2, 4, none⟩) (Kd.R_far (p := ⟨gbx2, 3, none⟩) (Kd.R_far (p := ⟨gbx2, 2, none⟩) (Kd.R_far (p := ⟨gbx2, 1, none⟩) (Kd.R_far (p := ⟨gbx2, 0, none⟩) (Kd.R_types HOx2.out BKx2.out (by decide)) (fun _ hk => hk.2) (.int .u8 t218)) (fun _ hk => hk.2) (.int .u32 t219)) (fun _ hk => hk.2) (.int .i64 t220)) (fun _ hk => hk.2) (.int .i64 t221)) (fun _ hk => hk.2) (.slice Aox2 t222.length cox2)) (fun _ h_ => h_.1))) : p := h
/-! ### words_Read: function 40 -/
def words_Read.f (k : Nat) (a0 : ByteArray) : Option (Int × Int × Int × Int × List Int × Int) := (strings_Split.f a0 (⟨#[32]⟩ : ByteArray)).bind fun t215 => ((words_guess.f k t215).bind fun bt218 => ((script_Good.f k bt218.1 bt218.2.1 bt218.2.2.1 bt218.2.2.2.1 bt218.2.2.2.2).bind fun t226 => (if t226 = true then ((words_Line.f k bt218.1 bt218.2.1 bt218.2.2.1 bt218.2.2.2.1 bt218.2.2.2.2).bind fun t227 => (if t227.toList = a0.toList then (some (bt218.1, bt218.2.1, bt218.2.2.1, bt218.2.2.2.1, bt218.2.2.2.2, 0)) else (some (0, 0, 0, 0, ([] : List Int), 8)))) else (some (0, 0, 0, 0, ([] : List Int), 8)))))
set_option maxHeartbeats 8000000 in
set_option maxRecDepth 100000 in
theorem words_Read.calls (k : Nat) (a0 : ByteArray) (r1 : Int) (r2 : Int) (r3 : Int) (r4 : Int) (r5 : List Int) (r6 : Int) (w : World) (hG0 : Gl w) (h : words_Read.f k a0 = some (r1, r2, r3, r4, r5, r6)) :
    Calls Tryd.prog 40 #[.string a0] w fun e w' => ∃ v4_ : Value, e = .returned (.tuple #[.agg #[.int .u8 r1, .int .u32 r2, .int .i64 r3, .int .i64 r4, v4_], .int .i64 r6]) ∧ Kd.R (Kd.int .u8) 5 w' w.heap.size (fun _ => True) v4_ r5 ∧ Below w.heap.size w w' := by
  have hu64 := Tryd.underlying64
  have hG := Aside0.mk hG0
  clear hG0
  have HB := Aside0.mk (Below.refl w.heap.size w)
  have H : ((strings_Split.f a0 (⟨#[32]⟩ : ByteArray)).bind fun t215 => ((words_guess.f k t215).bind fun bt218 => ((script_Good.f k bt218.1 bt218.2.1 bt218.2.2.1 bt218.2.2.2.1 bt218.2.2.2.2).bind fun t226 => (if t226 = true then ((words_Line.f k bt218.1 bt218.2.1 bt218.2.2.1 bt218.2.2.2.1 bt218.2.2.2.2).bind fun t227 => (if t227.toList = a0.toList then (some (bt218.1, bt218.2.1, bt218.2.2.1, bt218.2.2.2.1, bt218.2.2.2.2, 0)) else (some (0, 0, 0, 0, ([] : List Int), 8)))) else (some (0, 0, 0, 0, ([] : List Int), 8)))))) = some (r1, r2, r3, r4, r5, r6) := h
  clear h
  obtain ⟨t215, A2, H⟩ := zO H
  try dsimp only at H
  obtain ⟨⟨t218, t219, t220, t221, t222⟩, A3, H⟩ := zO H
  try dsimp only at H
  obtain ⟨t226, A4, H⟩ := zO H
  try dsimp only at H
  by_cases c5 : t226 = true
  focus
    subst c5
    have H1 : ((words_Line.f k t218 t219 t220 t221 t222).bind fun t227 => (if t227.toList = a0.toList then (some (t218, t219, t220, t221, t222, 0)) else (some (0, 0, 0, 0, ([] : List Int), 8)))) = some (r1, r2, r3, r4, r5, r6) := by rw [if_pos rfl] at H; exact H
    clear H
    have H := H1
    clear H1
    obtain ⟨t227, A6, H⟩ := zO H
    try dsimp only at H
    by_cases c7 : t227.toList = a0.toList
    focus
      rw [if_pos c7] at H
      obtain ⟨c7b0, c7b1⟩ := zeq c7
      clear c7
      simp only [Option.some.injEq, Prod.mk.injEq] at H
      obtain ⟨rfl, rfl, rfl, rfl, rfl, rfl⟩ := H
    rotate_left
    rw [if_neg c7] at H
    obtain ⟨c7b0, c7b1⟩ := zne c7
    simp only [Option.some.injEq, Prod.mk.injEq] at H
    obtain ⟨rfl, rfl, rfl, rfl, rfl, rfl⟩ := H
  rotate_left 2
  replace c5 := Bool.eq_false_iff.mpr c5
  subst c5
  have H1 : (some (0, 0, 0, 0, ([] : List Int), 8)) = some (r1, r2, r3, r4, r5, r6) := by rw [if_neg (show ¬ (false = true) by decide)] at H; exact H
  clear H
  have H := H1
  clear H1
  simp only [Option.some.injEq, Prod.mk.injEq] at H
  obtain ⟨rfl, rfl, rfl, rfl, rfl, rfl⟩ := H
  all_goals go_enter Tryd.func40, Tryd.ntmps40
  all_goals go_wp2_with (first | ((with_reducible refine gate_dst (N := 2) rfl ?_); refine zbox (N := 2) (cs := #[.int .u8 0, .int .u32 0, .int .i64 0, .int .i64 0, .slice none 0 0]) (t := 64) (h := ?_); intro gbx1 hg wx1 hbox hb; have BKx1 := Aside0.mk (hbox); have GWx1 := zG (p := w.heap.size ≤ gbx1); have GEx1 := GWx1; replace HB := zH hb; clear hb hbox hg) | ((with_reducible refine gate_callee (f := 29) rfl ?_); refine goesZ (some 6) Tryd.func29 (args := #[.string a0, .string (⟨#[32]⟩ : ByteArray)]) (h := ?_); (with_reducible refine (strings_Split.calls a0 (⟨#[32]⟩ : ByteArray) t215 _ ?side1 A2.out).mono ?_); (case side1 => exact Gl.below hG.out zB); rintro e wx2 ⟨vx1, rfl, hox1, hb⟩; refine ⟨_, rfl, ?_⟩; have HOx1 := Aside0.mk (Kd.R_lower hox1 (below_size zB)); replace BKx1 := zJ BKx1 hb; replace HB := zH hb; clear hb hox1; obtain ⟨Aox1, cox1, eox1⟩ := Kd.R_slice HOx1.out; subst eox1) | ((with_reducible refine gate_callee (f := 48) rfl ?_); refine goesZ (some 7) Tryd.func48 (args := #[.slice Aox1 t215.length cox1]) (h := ?_); (with_reducible refine (words_guess.calls k _ _ t215 t218 t219 t220 t221 t222 _ ?side1 ?side2 ?side3 A3.out).mono ?_); (case side1 => exact Gl.below hG.out zB); (case side2 => exact zC ((Kd.R_reads' HOx1.out).2.2)); (case side3 => exact (Kd.R_reads' HOx1.out).2.1); rintro e wx3 ⟨vx2, rfl, hox1, hb⟩; refine ⟨_, rfl, ?_⟩; replace HOx1 := zP HOx1 hb; have HOx2 := Aside0.mk (Kd.R_lower hox1 (below_size zB)); replace BKx1 := zJ BKx1 hb; replace HB := zH hb; clear hb hox1) | ((with_reducible refine gate_dst (N := 4) rfl ?_); refine zbox (N := 4) (cs := #[.int .u8 0, .int .u32 0, .int .i64 0, .int .i64 0, .slice none 0 0]) (t := 64) (h := ?_); intro gbx2 hg wx4 hbox hb; replace HOx1 := zP HOx1 hb; replace HOx2 := zP HOx2 hb; have BKx2 := Aside0.mk (hbox); have GWx2 := zG (p := w.heap.size ≤ gbx2); have GEx2 := GWx2; have NBx1 := zNlt BKx1.out (p := gbx1 ≠ gbx2); have NBx2 := zNgt BKx1.out (p := gbx2 ≠ gbx1); replace BKx1 := zJ BKx1 hb; replace HB := zH hb; clear hb hbox hg; have hnbx1 := NBx2.out; have hncx1 := NBx1.out; have hczx1 := zcf5 BKx2.out; obtain ⟨Aox2, cox2, eox2⟩ := Kd.R_slice HOx2.out; subst eox2) | ((with_reducible refine gate_callee (f := 49) rfl ?_); refine goesZ (some 9) Tryd.func49 (args := #[.agg #[.int .u8 t218, .int .u32 t219, .int .i64 t220, .int .i64 t221, .slice Aox2 t222.length cox2]]) (h := ?_); (with_reducible refine (script_Good.calls k t218 t219 t220 t221 _ _ t222 false _ ?side1 ?side2 A4.out).mono ?_); (case side1 => refine (Kd.R_reads' (e := 5) (base := w.heap.size) (ok := fun k_ => True) (n := t222.length) (c := cox2) ?_).2.2; exact qW10x1); (case side2 => exact (Kd.R_reads' HOx2.out).2.1); rintro e wx5 ⟨rfl, hb⟩; refine ⟨_, rfl, ?_⟩; replace HOx1 := Aside0.mk (Kd.R_below (by (with_reducible repeat (first | apply Kd.R_alloc | apply Kd.R_drewN | apply Kd.R_drew)); exact (Kd.R_mono (Kd.R_far (p := ⟨gbx2, 4, none⟩) (Kd.R_far (p := ⟨gbx2, 3, none⟩) (Kd.R_far (p := ⟨gbx2, 2, none⟩) (Kd.R_far (p := ⟨gbx2, 1, none⟩) (Kd.R_far (p := ⟨gbx2, 0, none⟩) (Kd.R_types HOx1.out BKx2.out (by decide)) (fun _ hk => hk.2) (.int .u8 t218)) (fun _ hk => hk.2) (.int .u32 t219)) (fun _ hk => hk.2) (.int .i64 t220)) (fun _ hk => hk.2) (.int .i64 t221)) (fun _ hk => hk.2) (.slice Aox2 t222.length cox2)) (fun _ h_ => h_.1))) hb); replace HOx2 := Aside0.mk (Kd.R_below qW10x1 hb); replace BKx1 := Aside0.mk (blk_below (g := gbx1) (o := .cells #[.int .u8 0, .int .u32 0, .int .i64 0, .int .i64 0, .slice none 0 0] 64 (0, 0)) (by (with_reducible repeat (first | refine blk_drewN ?_ _ | refine blk_drew ?_ | refine blk_alloc ?_ _)); refine blk_far ?_ NBx1.out _; (with_reducible repeat (first | refine blk_drewN ?_ _ | refine blk_drew ?_ | refine blk_alloc ?_ _)); refine blk_far ?_ NBx1.out _; (with_reducible repeat (first | refine blk_drewN ?_ _ | refine blk_drew ?_ | refine blk_alloc ?_ _)); refine blk_far ?_ NBx1.out _; (with_reducible repeat (first | refine blk_drewN ?_ _ | refine blk_drew ?_ | refine blk_alloc ?_ _)); refine blk_far ?_ NBx1.out _; (with_reducible repeat (first | refine blk_drewN ?_ _ | refine blk_drew ?_ | refine blk_alloc ?_ _)); refine blk_far ?_ NBx1.out _; (with_reducible repeat (first | refine blk_drewN ?_ _ | refine blk_drew ?_ | refine blk_alloc ?_ _)); exact BKx1.out) hb); replace HB := zH hb; replace BKx2 := Aside0.mk (blk_below (g := gbx2) (o := .cells #[.int .u8 t218, .int .u32 t219, .int .i64 t220, .int .i64 t221, .slice Aox2 t222.length cox2] 64 (0, 0)) (zQ BKx2.out) hb); clear hb; have hczx2 := zcf5 BKx1.out) | ((with_reducible refine gate_callee (f := 49) rfl ?_); refine goesZ (some 9) Tryd.func49 (args := #[.agg #[.int .u8 t218, .int .u32 t219, .int .i64 t220, .int .i64 t221, .slice Aox2 t222.length cox2]]) (h := ?_); (with_reducible refine (script_Good.calls k t218 t219 t220 t221 _ _ t222 true _ ?side1 ?side2 A4.out).mono ?_); (case side1 => refine (Kd.R_reads' (e := 5) (base := w.heap.size) (ok := fun k_ => True) (n := t222.length) (c := cox2) ?_).2.2; exact qW10x1); (case side2 => exact (Kd.R_reads' HOx2.out).2.1); rintro e wx5 ⟨rfl, hb⟩; refine ⟨_, rfl, ?_⟩; replace HOx1 := Aside0.mk (Kd.R_below (by (with_reducible repeat (first | apply Kd.R_alloc | apply Kd.R_drewN | apply Kd.R_drew)); exact (Kd.R_mono (Kd.R_far (p := ⟨gbx2, 4, none⟩) (Kd.R_far (p := ⟨gbx2, 3, none⟩) (Kd.R_far (p := ⟨gbx2, 2, none⟩) (Kd.R_far (p := ⟨gbx2, 1, none⟩) (Kd.R_far (p := ⟨gbx2, 0, none⟩) (Kd.R_types HOx1.out BKx2.out (by decide)) (fun _ hk => hk.2) (.int .u8 t218)) (fun _ hk => hk.2) (.int .u32 t219)) (fun _ hk => hk.2) (.int .i64 t220)) (fun _ hk => hk.2) (.int .i64 t221)) (fun _ hk => hk.2) (.slice Aox2 t222.length cox2)) (fun _ h_ => h_.1))) hb); replace HOx2 := Aside0.mk (Kd.R_below qW10x1 hb); replace BKx1 := Aside0.mk (blk_below (g := gbx1) (o := .cells #[.int .u8 0, .int .u32 0, .int .i64 0, .int .i64 0, .slice none 0 0] 64 (0, 0)) (by (with_reducible repeat (first | refine blk_drewN ?_ _ | refine blk_drew ?_ | refine blk_alloc ?_ _)); refine blk_far ?_ NBx1.out _; (with_reducible repeat (first | refine blk_drewN ?_ _ | refine blk_drew ?_ | refine blk_alloc ?_ _)); refine blk_far ?_ NBx1.out _; (with_reducible repeat (first | refine blk_drewN ?_ _ | refine blk_drew ?_ | refine blk_alloc ?_ _)); refine blk_far ?_ NBx1.out _; (with_reducible repeat (first | refine blk_drewN ?_ _ | refine blk_drew ?_ | refine blk_alloc ?_ _)); refine blk_far ?_ NBx1.out _; (with_reducible repeat (first | refine blk_drewN ?_ _ | refine blk_drew ?_ | refine blk_alloc ?_ _)); refine blk_far ?_ NBx1.out _; (with_reducible repeat (first | refine blk_drewN ?_ _ | refine blk_drew ?_ | refine blk_alloc ?_ _)); exact BKx1.out) hb); replace HB := zH hb; replace BKx2 := Aside0.mk (blk_below (g := gbx2) (o := .cells #[.int .u8 t218, .int .u32 t219, .int .i64 t220, .int .i64 t221, .slice Aox2 t222.length cox2] 64 (0, 0)) (zQ BKx2.out) hb); clear hb; have hczx2 := zcf5 BKx2.out) | (go_at_call 41; (with_reducible refine (words_Line.calls k t218 t219 t220 t221 _ _ t222 t227 _ ?side1 ?side2 ?side3 A6.out).mono ?_); (case side1 => exact Gl.below hG.out zB); (case side2 => exact zC ((Kd.R_reads' HOx2.out).2.2)); (case side3 => exact (Kd.R_reads' HOx2.out).2.1); rintro e wx6 ⟨rfl, hb⟩; replace HOx1 := zP HOx1 hb; replace HOx2 := zP HOx2 hb; replace BKx1 := zJ BKx1 hb; replace BKx2 := zJ BKx2 hb; replace HB := zH hb; clear hb; have hczx3 := zcf5 BKx2.out; have hczx4 := zcf5 BKx1.out) | (go_at_call 41; (with_reducible refine (words_Line.calls k t218 t219 t220 t221 _ _ t222 t227 _ ?side1 ?side2 ?side3 A6.out).mono ?_); (case side1 => exact Gl.below hG.out zB); (case side2 => exact zC ((Kd.R_reads' HOx2.out).2.2)); (case side3 => exact (Kd.R_reads' HOx2.out).2.1); rintro e wx6 ⟨rfl, hb⟩; replace HOx1 := zP HOx1 hb; replace HOx2 := zP HOx2 hb; replace BKx1 := zJ BKx1 hb; replace BKx2 := zJ BKx2 hb; replace HB := zH hb; clear hb; have hczx3 := zcf5 BKx1.out))
  all_goals first | (refine bodyPost_ret (results_ct rfl _ _ gbx1 64 #[.int .u8 t218, .int .u32 t219, .int .i64 t220, .int .i64 t221, .slice Aox2 t222.length cox2] (0, 0) _ rfl (zQ BKx1.out) Tryd.underlying64 rfl (by kernel_rfl)) rfl ?_; exact ⟨_, zer, by (with_reducible repeat (first | apply Kd.R_alloc | apply Kd.R_drewN | apply Kd.R_drew)); exact Kd.R_mono (Kd.R_far (p := ⟨gbx1, 4, none⟩) (Kd.R_far (p := ⟨gbx1, 3, none⟩) (Kd.R_far (p := ⟨gbx1, 2, none⟩) (Kd.R_far (p := ⟨gbx1, 1, none⟩) (Kd.R_far (p := ⟨gbx1, 0, none⟩) (Kd.R_types HOx2.out BKx1.out (by decide)) (fun _ hk => hk.2) (.int .u8 t218)) (fun _ hk => hk.2) (.int .u32 t219)) (fun _ hk => hk.2) (.int .i64 t220)) (fun _ hk => hk.2) (.int .i64 t221)) (fun _ hk => hk.2) (.slice Aox2 t222.length cox2)) (fun _ hk => trivial), zB⟩) | (refine bodyPost_ret (results_ct rfl _ _ gbx1 64 #[.int .u8 0, .int .u32 0, .int .i64 0, .int .i64 0, .slice none 0 0] (0, 0) _ rfl (zQ BKx1.out) Tryd.underlying64 rfl (by kernel_rfl)) rfl ?_; exact ⟨_, zer, znil, zB⟩)
/-! ### pledgelaw39_works: function 26 -/
def pledgelaw39_works.f (k : Nat)  : Option (Bool) := (words_Read.f k (⟨#[112, 108, 97, 99, 101, 32, 55, 32, 48, 32, 48, 58, 53, 32, 50, 58, 49]⟩ : ByteArray)).bind fun bt228 => (if bt228.2.2.2.2.2 = 0 then (if bt228.1 = 1 then (if (bt228.2.2.2.2.1.length : Int) = 25 then ((words_Line.f k bt228.1 bt228.2.1 bt228.2.2.1 bt228.2.2.2.1 bt228.2.2.2.2.1).bind fun t237 => (if t237.toList = ([112, 108, 97, 99, 101, 32, 55, 32, 48, 32, 48, 58, 53, 32, 50, 58, 49] : List UInt8) then ((words_Line.f k 7 0 3 40 ([] : List Int)).bind fun t238 => (some (t238.toList == ([99, 114, 97, 115, 104, 32, 51, 32, 52, 48] : List UInt8)))) else (some false))) else (some false)) else (some false)) else (some false))
set_option maxHeartbeats 8000000 in
set_option maxRecDepth 100000 in
theorem pledgelaw39_works.calls (k : Nat)  (r : Bool) (w : World) (hG0 : Gl w) (h : pledgelaw39_works.f k  = some r) :
    Calls Tryd.prog 26 #[] w fun e w' => e = .returned (.bool r) ∧ Below w.heap.size w w' := by
  have hu64 := Tryd.underlying64
  have hG := Aside0.mk hG0
  clear hG0
  have HB := Aside0.mk (Below.refl w.heap.size w)
  have H : ((words_Read.f k (⟨#[112, 108, 97, 99, 101, 32, 55, 32, 48, 32, 48, 58, 53, 32, 50, 58, 49]⟩ : ByteArray)).bind fun bt228 => (if bt228.2.2.2.2.2 = 0 then (if bt228.1 = 1 then (if (bt228.2.2.2.2.1.length : Int) = 25 then ((words_Line.f k bt228.1 bt228.2.1 bt228.2.2.1 bt228.2.2.2.1 bt228.2.2.2.2.1).bind fun t237 => (if t237.toList = ([112, 108, 97, 99, 101, 32, 55, 32, 48, 32, 48, 58, 53, 32, 50, 58, 49] : List UInt8) then ((words_Line.f k 7 0 3 40 ([] : List Int)).bind fun t238 => (some (t238.toList == ([99, 114, 97, 115, 104, 32, 51, 32, 52, 48] : List UInt8)))) else (some false))) else (some false)) else (some false)) else (some false))) = some r := h
  clear h
  obtain ⟨⟨t228, t229, t230, t231, t232, t235⟩, A1, H⟩ := zO H
  try dsimp only at H
  by_cases c2 : t235 = 0
  focus
    rw [if_pos c2] at H
    obtain ⟨c2b0, c2b1⟩ := zeq c2
    clear c2
    by_cases c3 : t228 = 1
    focus
      rw [if_pos c3] at H
      obtain ⟨c3b0, c3b1⟩ := zeq c3
      clear c3
      by_cases c4 : (t232.length : Int) = 25
      focus
        rw [if_pos c4] at H
        obtain ⟨c4b0, c4b1⟩ := zeq c4
        clear c4
        obtain ⟨t237, A5, H⟩ := zO H
        try dsimp only at H
        by_cases c6 : t237.toList = ([112, 108, 97, 99, 101, 32, 55, 32, 48, 32, 48, 58, 53, 32, 50, 58, 49] : List UInt8)
        focus
          rw [if_pos c6] at H
          obtain ⟨c6b0, c6b1⟩ := zeq c6
          clear c6
          obtain ⟨t238, A7, H⟩ := zO H
          try dsimp only at H
          obtain rfl := Option.some.inj H
        rotate_left
        rw [if_neg c6] at H
        obtain ⟨c6b0, c6b1⟩ := zne c6
        obtain rfl := Option.some.inj H
      rotate_left 2
      rw [if_neg c4] at H
      obtain ⟨c4b0, c4b1⟩ := zne c4
      obtain rfl := Option.some.inj H
    rotate_left 3
    rw [if_neg c3] at H
    obtain ⟨c3b0, c3b1⟩ := zne c3
    obtain rfl := Option.some.inj H
  rotate_left 4
  rw [if_neg c2] at H
  obtain ⟨c2b0, c2b1⟩ := zne c2
  obtain rfl := Option.some.inj H
  all_goals go_enter Tryd.func26, Tryd.ntmps26
  all_goals go_wp2_with (first | ((with_reducible refine gate_callee (f := 40) rfl ?_); refine goesZ (some 4) Tryd.func40 (args := #[.string (⟨#[112, 108, 97, 99, 101, 32, 55, 32, 48, 32, 48, 58, 53, 32, 50, 58, 49]⟩ : ByteArray)]) (h := ?_); (with_reducible refine (words_Read.calls k (⟨#[112, 108, 97, 99, 101, 32, 55, 32, 48, 32, 48, 58, 53, 32, 50, 58, 49]⟩ : ByteArray) t228 t229 t230 t231 t232 t235 _ ?side1 A1.out).mono ?_); (case side1 => exact Gl.below hG.out zB); rintro e wx1 ⟨vx1, rfl, hox1, hb⟩; refine ⟨_, rfl, ?_⟩; have HOx1 := Aside0.mk (Kd.R_lower hox1 (below_size zB)); replace HB := zH hb; clear hb hox1) | ((with_reducible refine gate_dst (N := 1) rfl ?_); (try (refine gate_guard (by rfl) ?_; dsimp only)); refine zbox (N := 1) (cs := #[.int .u8 0, .int .u32 0, .int .i64 0, .int .i64 0, .slice none 0 0]) (t := 64) (h := ?_); intro gbx1 hg wx2 hbox hb; replace HOx1 := zP HOx1 hb; have BKx1 := Aside0.mk (hbox); have GWx1 := zG (p := w.heap.size ≤ gbx1); have GEx1 := GWx1; replace HB := zH hb; clear hb hbox hg; have hczx1 := zcf5 BKx1.out; obtain ⟨Aox1, cox1, eox1⟩ := Kd.R_slice HOx1.out; subst eox1) | (go_at_call 41; (with_reducible refine (words_Line.calls k t228 t229 t230 t231 _ _ t232 t237 _ ?side1 ?side2 ?side3 A5.out).mono ?_); (case side1 => exact Gl.below hG.out zB); (case side2 => refine (Kd.R_reads' (e := 5) (base := w.heap.size) (ok := fun k_ => True) (n := t232.length) (c := cox1) ?_).2.2; exact (by (with_reducible repeat (first | apply Kd.R_alloc | apply Kd.R_drewN | apply Kd.R_drew)); exact (Kd.R_mono (Kd.R_far (p := ⟨gbx1, 4, none⟩) (Kd.R_far (p := ⟨gbx1, 3, none⟩) (Kd.R_far (p := ⟨gbx1, 2, none⟩) (Kd.R_far (p := ⟨gbx1, 1, none⟩) (Kd.R_far (p := ⟨gbx1, 0, none⟩) (Kd.R_types HOx1.out BKx1.out (by decide)) (fun _ hk => hk.2) (.int .u8 t228)) (fun _ hk => hk.2) (.int .u32 t229)) (fun _ hk => hk.2) (.int .i64 t230)) (fun _ hk => hk.2) (.int .i64 t231)) (fun _ hk => hk.2) (.slice Aox1 t232.length cox1)) (fun _ h_ => h_.1)))); (case side3 => exact (Kd.R_reads' HOx1.out).2.1); rintro e wx3 ⟨rfl, hb⟩; replace HOx1 := Aside0.mk (Kd.R_below (by (with_reducible repeat (first | apply Kd.R_alloc | apply Kd.R_drewN | apply Kd.R_drew)); exact (Kd.R_mono (Kd.R_far (p := ⟨gbx1, 4, none⟩) (Kd.R_far (p := ⟨gbx1, 3, none⟩) (Kd.R_far (p := ⟨gbx1, 2, none⟩) (Kd.R_far (p := ⟨gbx1, 1, none⟩) (Kd.R_far (p := ⟨gbx1, 0, none⟩) (Kd.R_types HOx1.out BKx1.out (by decide)) (fun _ hk => hk.2) (.int .u8 t228)) (fun _ hk => hk.2) (.int .u32 t229)) (fun _ hk => hk.2) (.int .i64 t230)) (fun _ hk => hk.2) (.int .i64 t231)) (fun _ hk => hk.2) (.slice Aox1 t232.length cox1)) (fun _ h_ => h_.1))) hb); replace HB := zH hb; replace BKx1 := Aside0.mk (blk_below (g := gbx1) (o := .cells #[.int .u8 t228, .int .u32 t229, .int .i64 t230, .int .i64 t231, .slice Aox1 t232.length cox1] 64 (0, 0)) (zQ BKx1.out) hb); clear hb) | (go_at_call 41; (refine (words_Line.calls k 7 0 3 40 _ _ ([] : List Int) t238 _ ?side1 ?side2 ?side3 A7.out).mono ?_); (case side1 => exact Gl.below hG.out zB); (case side2 => exact Kd.C_nil _ _); (case side3 => exact Nat.le_refl _); rintro e wx4 ⟨rfl, hb⟩; replace HOx1 := zP HOx1 hb; replace BKx1 := zJ BKx1 hb; replace HB := zH hb; clear hb))
  all_goals (go_ret; exact ⟨zer, zB⟩)
/-! ### words_Parse: function 27 (by hand) -/
/-- What Parse tells from place pos on, by at most so many runes. -/
def words_Parse.go (k : Nat) (s : ByteArray) : Nat → Nat → Nat → List (S64) → Option (List (S64) × Int × Int)
  | 0, _, _, _ => none
  | m + 1, pos, frm, out => if pos < s.size then (if (Utf8.decode s pos).1 = 10 then (if out.length = 1024 then some ([], 1025, 7) else (words_Read.f k (s.extract frm pos)).bind fun q => if q.2.2.2.2.2 = 0 then words_Parse.go k s m (pos + (Utf8.decode s pos).2) (pos + 1) (out ++ [⟨q.1, q.2.1, q.2.2.1, q.2.2.2.1, q.2.2.2.2.1⟩]) else some ([], (out.length : Int) + 1, q.2.2.2.2.2)) else words_Parse.go k s m (pos + (Utf8.decode s pos).2) frm out)
    else if frm < s.size then some ([], (out.length : Int) + 1, 6) else some (out, (out.length : Int), 0)
def words_Parse.f (k : Nat) (a0 : ByteArray) : Option (List (S64) × Int × Int) := if a0.size ≤ 1000000 then words_Parse.go k a0 (a0.size + 1) 0 0 [] else none
theorem words_Parse.width_pos (s : ByteArray) (pos : Nat) (h : pos < s.size) : 1 ≤ (Utf8.decode s pos).2 := by
  by_cases ha : (s[pos]'h).toNat < 128
  rotate_left
  · exact (decode_high s pos h (by omega)).2
  rw [decode_ascii s pos h ha]
  exact Nat.le_refl _
theorem words_Parse.q_iter {w : World} {base : Nat} {v : Value} {xs : List (S64)} {n : Nat} {s : ByteArray} {pos : Nat} (h : Kd.S k64 64 w base (fun _ => True) v xs) (hit : w.heap[n]? = some (.stringIter s pos)) (p : Nat) : Kd.S k64 64 (w.iterAt n s p) base (fun k => True ∧ ¬ w.heap.size ≤ k) v xs := by
  refine Kd.S_mono (Kd.S_step (Kd.S_bound h) (fun k hk hl => ?_)) (fun k hk => ⟨trivial, by have := hk.2.2.1; omega⟩)
  refine Lib.iterAt_other w n k s p ?_
  rintro rfl
  obtain ⟨_, _, _, q, _, cells, hc⟩ := hk
  rw [hit] at hc
  cases hc
theorem words_Parse.inf : (Tryd.prog.info? 64).map (fun i => (i.zero, i.size, i.bytes)) = some (some (.agg #[(.int .u8 0), (.int .u32 0), (.int .i64 0), (.int .i64 0), (.slice none 0 0)]), 5, 48) := by kernel_rfl
def words_Parse.Res (w : World) (q : List (S64) × Int × Int) (e : Ending) (w' : World) : Prop := ∃ v0_ : Value, e = .returned (.tuple #[v0_, .int .i64 q.2.1, .int .i64 q.2.2]) ∧ Kd.S k64 64 w' w.heap.size (fun _ => True) v0_ q.1 ∧ Below w.heap.size w w'
set_option maxHeartbeats 8000000 in
set_option maxRecDepth 100000 in
theorem words_Parse.walk (k : Nat) (s : ByteArray) (q : List (S64) × Int × Int) (hs : s.size ≤ 1000000) (w : World) (hG0 : Gl w) (h : words_Parse.go k s (s.size + 1) 0 0 [] = some q) :
    Calls Tryd.prog 27 #[.string s] w fun e w' => words_Parse.Res w q e w' := by
  have HG := Aside0.mk hG0
  have HF := Aside0.mk h
  clear hG0 h
  go_enter Tryd.func27, Tryd.ntmps27
  go_wp2_with (first | fail)
  go_loopw [5, 6] (fun v5 v6 wr => ∃ (m pos frm : Nat) (out : List (S64)), v6 = .int .i64 (frm : Int) ∧ frm ≤ pos ∧ frm ≤ s.size ∧ out.length ≤ 1024 ∧ out.length ≤ pos ∧ Aside0 (wr.heap[w.heap.size]? = some (.stringIter s pos) ∧ Below w.heap.size w wr ∧ Kd.S k64 64 wr w.heap.size (fun _ => True) v5 out ∧ words_Parse.go k s m pos frm out = some q)) (fun _ _ wr => s.size + 1 - wr.iterPos w.heap.size)
  case atStart =>
    refine ⟨s.size + 1, 0, 0, [], rfl, Nat.le_refl _, Nat.zero_le _, by simp, by simp, Aside0.mk ⟨?_, (Below.refl _ w).alloc (Nat.le_refl _) _, Kd.S_nil _ _ _ _ _, HF.out⟩⟩
    have := World.iter_heap w s 0
    simpa using this
  case round =>
    obtain ⟨m, pos, frm, out, rfl, hfp, hfs, ho, hop, HI⟩ := hrel
    obtain ⟨hit, hB, hQ, hgo⟩ := HI.out
    clear HI
    cases m with
    | zero => exact absurd hgo (by simp [words_Parse.go])
    | succ m =>
      unfold words_Parse.go at hgo
      have HB := Aside0.mk hB
      have HQ := Aside0.mk hQ
      have HGO := Aside0.mk hgo
      have HIT := Aside0.mk hit
      clear hB hQ hgo
      obtain ⟨Ao, co, rfl⟩ := Kd.S_slice HQ.out
      by_cases hp : pos < s.size
      rotate_left
      · have hnx : ∀ ty, (Instr.next (.pointer (some ⟨w.heap.size, 0, none⟩)) true ty).run Tryd.prog wr = _ := fun ty => Lib.run_next_end_at wr w.heap.size s pos ty hit hp
        have hgo := HGO.out
        rw [if_neg hp] at hgo
        by_cases hf : frm < s.size
        · rw [if_pos hf] at hgo
          obtain rfl := Option.some.inj hgo
          clear hgo HGO
          have hf2 : (frm : Int) < (s.size : Int) := by omega
          go_wp2_with (first | fail)
          go_ret3
          exact ⟨_, rfl, Kd.S_nil _ _ _ _ _, HB.out⟩
        rw [if_neg hf] at hgo
        obtain rfl := Option.some.inj hgo
        clear hgo HGO
        have hf2 : ¬ ((frm : Int) < (s.size : Int)) := by omega
        go_wp2_with (first | fail)
        go_ret3
        exact ⟨_, rfl, HQ.out, HB.out⟩
      have hnx : ∀ ty, (Instr.next (.pointer (some ⟨w.heap.size, 0, none⟩)) true ty).run Tryd.prog wr = _ := fun ty => Lib.run_next_any_at wr w.heap.size s pos ty hit hp
      have hwd := words_Parse.width_pos s pos hp
      have IT2 := Aside0.mk (Lib.iterAt_heap wr w.heap.size s pos (pos + (Utf8.decode s pos).2) hit)
      have B2 := Aside0.mk (Lib.below_iterAt HB.out (k := w.heap.size) (Nat.le_refl _) s (pos + (Utf8.decode s pos).2))
      have Q2 := Aside0.mk (words_Parse.q_iter HQ.out hit (pos + (Utf8.decode s pos).2))
      have hgo := HGO.out
      rw [if_pos hp] at hgo
      by_cases h10 : (Utf8.decode s pos).1 = 10
      rotate_left
      · rw [if_neg h10] at hgo
        have HGO2 := Aside0.mk hgo
        clear hgo HGO
        go_wp2_with (first | fail)
        go_roundw
        case rel => exact ⟨m, pos + (Utf8.decode s pos).2, frm, out, rfl, by omega, hfs, ho, by omega, Aside0.mk ⟨IT2.out, B2.out, Kd.S_mono Q2.out (fun _ _ => trivial), HGO2.out⟩⟩
        case measure =>
          simp only [World.iterPos, IT2.out, HIT.out]
          omega
      rw [if_pos h10] at hgo
      by_cases h1024 : out.length = 1024
      · rw [if_pos h1024] at hgo
        obtain rfl := Option.some.inj hgo
        clear hgo HGO
        have hlb : (out.length : Int) = 1024 := by omega
        go_wp2_with (first | fail)
        go_ret3
        exact ⟨_, rfl, Kd.S_nil _ _ _ _ _, B2.out⟩
      rw [if_neg h1024] at hgo
      obtain ⟨rd, hrd, hgo2⟩ := Option.bind_eq_some_iff.1 hgo
      have HRD := Aside0.mk hrd
      have HGO2 := Aside0.mk hgo2
      clear hgo hgo2 hrd HGO
      have hlb : ¬ ((out.length : Int) = 1024) := by omega
      obtain ⟨q1, q2, q3, q4, q5, qe⟩ := rd
      have hps : pos ≤ s.size := by omega
      have hfi : (frm : Int) ≤ (pos : Int) := by omega
      go_wp2_with (first | fail)
      refine (words_Read.calls k (s.extract frm pos) q1 q2 q3 q4 q5 qe _ (Gl.below HG.out B2.out) HRD.out).mono ?_
      rintro e w2 ⟨v4, rfl, hR4, hb⟩
      obtain ⟨A4, c4, rfl⟩ := Kd.R_slice hR4
      have HSZ := Aside0.mk (Lib.iterAt_size wr w.heap.size s (pos + (Utf8.decode s pos).2))
      have IT3 := Aside0.mk (blk_below IT2.out hb)
      have B3 := Aside0.mk (below_step B2.out hb)
      have Q3 := Aside0.mk (Kd.S_below Q2.out hb)
      have R4 := Aside0.mk hR4
      have HGE := Aside0.mk hb.size
      clear hR4 hb IT2 B2 Q2 hnx
      try dsimp only at HGO2
      by_cases he : qe = 0
      rotate_left
      · have hgo := HGO2.out
        rw [if_neg he] at hgo
        obtain rfl := Option.some.inj hgo
        clear hgo HGO2
        have heb : (qe == 0) = false := beq_eq_false_iff_ne.2 he
        have heb2 : (qe != 0) = true := bne_iff_ne.2 he
        go_wp2_with (first | fail)
        go_ret3
        exact ⟨_, rfl, Kd.S_nil _ _ _ _ _, below_alloc B3.out _⟩
      subst he
      have hgo := HGO2.out
      rw [if_pos rfl] at hgo
      have HG3 := Aside0.mk hgo
      clear hgo HGO2
      have HOL := Aside0.mk ho
      go_wp2_with (first | (at_builtin; refine Kd.S_append k64 (w0 := w2.alloc (.cells #[.int .u8 q1, .int .u32 q2, .int .i64 q3, .int .i64 q4, .slice A4 q5.length c4] 64)) w.heap.size rfl (.tmp 36) (.tmp 38) 44 64 (.agg #[(.int .u8 0), (.int .u32 0), (.int .i64 0), (.int .i64 0), (.slice none 0 0)]) 48 rfl Tryd.underlying44 words_Parse.inf rfl (by decide) (by omega) (.slice Ao out.length co) out (⟨q1, q2, q3, q4, q5⟩ : S64) [.int .u8 q1, .int .u32 q2, .int .i64 q3, .int .i64 q4, .slice A4 q5.length c4] (fun _ => True) (fun k => wr.heap.size ≤ k) rfl ?aX ?aP ?aK ?aF ?aO ?aB ?aS ?aL ?_; (case aX => exact (show Value.slice (some ⟨w2.heap.size + 1, 0, none⟩) 1 1 = Value.slice (some ⟨(w2.alloc (.cells #[.int .u8 q1, .int .u32 q2, .int .i64 q3, .int .i64 q4, .slice A4 q5.length c4] 64)).heap.size, 0, none⟩) 1 1 from by simp)); (case aP => exact k64_mkM _ _ _ (⟨q1, q2, q3, q4, q5⟩ : S64) (Kd.R_alloc (Kd.R_lower (Kd.R_mono (Kd.R_bound R4.out) (fun k hk => by have h1 := hk.2.1; have h2 := HSZ.out; omega)) (by have h2 := HSZ.out; have h3 := HB.out.size; omega)) _)); (case aK => exact fun k hk => ⟨trivial, fun e => by have := Kd.S_lt HQ.out k e.symm; omega⟩); (case aB => exact Below.refl _ _); (case aF => exact (fun _ _ => trivial)); (case aO => exact Kd.S_alloc Q3.out _); (case aS => have h1 := B3.out.size; simp; omega); (case aL => have := HOL.out; omega); intro v18 w18 ho2 hb2 hg2 hat2; have N0 := Aside0.mk ho2; have N1 := Aside0.mk hb2; have N2 := Aside0.mk hg2; clear ho2 hb2 hg2 hat2; obtain ⟨Av, cv_, rfl⟩ := Kd.S_slice N0.out))
      have IT4 : w18.heap[w.heap.size]? = some (.stringIter s (pos + (Utf8.decode s pos).2)) := (N2.out.block w.heap.size (blk_lt (blk_alloc IT3.out _)) (fun e => by obtain ⟨inner, ho2⟩ := Kd.S_own HQ.out; obtain ⟨cells, hc⟩ := own_typed ho2 _ e.symm; rw [HIT.out] at hc; cases hc)).trans (blk_alloc IT3.out _)
      have hQ5 := N0.out
      rw [show (out ++ [(⟨q1, q2, q3, q4, q5⟩ : S64)]).length = out.length + 1 from by simp] at hQ5
      have hol := HOL.out
      refine ⟨⟨m, pos + (Utf8.decode s pos).2, pos + 1, out ++ [⟨q1, q2, q3, q4, q5⟩], by go_num, by omega, by omega, by simp; omega, by simp; omega, Aside0.mk ⟨IT4, (below_alloc B3.out _).trans N1.out, hQ5, HG3.out⟩⟩, ?_⟩
      simp only [World.iterPos, IT4, HIT.out]
      omega
theorem words_Parse.calls (k : Nat) (a0 : ByteArray) (r1 : List (S64)) (r2 : Int) (r3 : Int) (w : World) (hG0 : Gl w) (h : words_Parse.f k a0 = some (r1, r2, r3)) :
    Calls Tryd.prog 27 #[.string a0] w fun e w' => ∃ v0_ : Value, e = .returned (.tuple #[v0_, .int .i64 r2, .int .i64 r3]) ∧ Kd.S k64 64 w' w.heap.size (fun _ => True) v0_ r1 ∧ Below w.heap.size w w' := by
  unfold words_Parse.f at h
  split at h
  · rename_i hs
    exact words_Parse.walk k a0 (r1, r2, r3) hs w hG0 h
  · exact absurd h (by simp)
/-! ### pledgeref38_Same: function 42 -/
def pledgeref38_Same.f (a0_0 : Int) (a0_1 : Int) (a0_2 : Int) (a0_3 : Int) (l0_4 : List Int) (a1_0 : Int) (a1_1 : Int) (a1_2 : Int) (a1_3 : Int) (l1_4 : List Int) : Option (Bool) := if a0_0 = a1_0 then (if a0_1 = a1_1 then (if a0_2 = a1_2 then (if a0_3 = a1_3 then (some ((strOfNums l0_4).toList == (strOfNums l1_4).toList)) else (some false)) else (some false)) else (some false)) else (some false)
set_option maxHeartbeats 8000000 in
set_option maxRecDepth 100000 in
theorem pledgeref38_Same.calls (a0_0 : Int) (a0_1 : Int) (a0_2 : Int) (a0_3 : Int) (A0_4 : Option Addr) (c0_4 : Nat) (l0_4 : List Int) (a1_0 : Int) (a1_1 : Int) (a1_2 : Int) (a1_3 : Int) (A1_4 : Option Addr) (c1_4 : Nat) (l1_4 : List Int) (r : Bool) (w : World) (hr0_4 : Kd.C (Kd.int .u8) w A0_4 l0_4.length l0_4) (hc0_4 : l0_4.length ≤ c0_4) (hr1_4 : Kd.C (Kd.int .u8) w A1_4 l1_4.length l1_4) (hc1_4 : l1_4.length ≤ c1_4) (h : pledgeref38_Same.f a0_0 a0_1 a0_2 a0_3 l0_4 a1_0 a1_1 a1_2 a1_3 l1_4 = some r) :
    Calls Tryd.prog 42 #[.agg #[.int .u8 a0_0, .int .u32 a0_1, .int .i64 a0_2, .int .i64 a0_3, .slice A0_4 l0_4.length c0_4], .agg #[.int .u8 a1_0, .int .u32 a1_1, .int .i64 a1_2, .int .i64 a1_3, .slice A1_4 l1_4.length c1_4]] w fun e w' => e = .returned (.bool r) ∧ Below w.heap.size w w' := by
  have hu64 := Tryd.underlying64
  have HR0_4 := Aside0.mk hr0_4
  have HC0_4 := Aside0.mk hc0_4
  clear hr0_4 hc0_4
  have HR1_4 := Aside0.mk hr1_4
  have HC1_4 := Aside0.mk hc1_4
  clear hr1_4 hc1_4
  have HB := Aside0.mk (Below.refl w.heap.size w)
  have H : (if a0_0 = a1_0 then (if a0_1 = a1_1 then (if a0_2 = a1_2 then (if a0_3 = a1_3 then (some ((strOfNums l0_4).toList == (strOfNums l1_4).toList)) else (some false)) else (some false)) else (some false)) else (some false)) = some r := h
  clear h
  by_cases c3 : a0_0 = a1_0
  focus
    rw [if_pos c3] at H
    obtain ⟨c3b0, c3b1⟩ := zeq c3
    clear c3
    by_cases c4 : a0_1 = a1_1
    focus
      rw [if_pos c4] at H
      obtain ⟨c4b0, c4b1⟩ := zeq c4
      clear c4
      by_cases c5 : a0_2 = a1_2
      focus
        rw [if_pos c5] at H
        obtain ⟨c5b0, c5b1⟩ := zeq c5
        clear c5
        by_cases c6 : a0_3 = a1_3
        focus
          rw [if_pos c6] at H
          obtain ⟨c6b0, c6b1⟩ := zeq c6
          clear c6
          obtain rfl := Option.some.inj H
        rotate_left
        rw [if_neg c6] at H
        obtain ⟨c6b0, c6b1⟩ := zne c6
        obtain rfl := Option.some.inj H
      rotate_left 2
      rw [if_neg c5] at H
      obtain ⟨c5b0, c5b1⟩ := zne c5
      obtain rfl := Option.some.inj H
    rotate_left 3
    rw [if_neg c4] at H
    obtain ⟨c4b0, c4b1⟩ := zne c4
    obtain rfl := Option.some.inj H
  rotate_left 4
  rw [if_neg c3] at H
  obtain ⟨c3b0, c3b1⟩ := zne c3
  obtain rfl := Option.some.inj H
  all_goals go_enter Tryd.func42, Tryd.ntmps42
  all_goals go_wp2_with (first | ((with_reducible refine gate_dst (N := 2) rfl ?_); refine zbox (N := 2) (cs := #[.int .u8 a0_0, .int .u32 a0_1, .int .i64 a0_2, .int .i64 a0_3, .slice A0_4 l0_4.length c0_4]) (t := 64) (h := ?_); intro gbx1 hg wx1 hbox hb; have BKx1 := Aside0.mk (hbox); have GWx1 := zG (p := w.heap.size ≤ gbx1); have GEx1 := GWx1; replace HB := zH hb; clear hb hbox hg) | ((with_reducible refine gate_dst (N := 3) rfl ?_); refine zbox (N := 3) (cs := #[.int .u8 a1_0, .int .u32 a1_1, .int .i64 a1_2, .int .i64 a1_3, .slice A1_4 l1_4.length c1_4]) (t := 64) (h := ?_); intro gbx2 hg wx2 hbox hb; have BKx2 := Aside0.mk (hbox); have GWx2 := zG (p := w.heap.size ≤ gbx2); have GEx2 := GWx2; have NBx1 := zNlt BKx1.out (p := gbx1 ≠ gbx2); have NBx2 := zNgt BKx1.out (p := gbx2 ≠ gbx1); replace BKx1 := zJ BKx1 hb; replace HB := zH hb; clear hb hbox hg; have hnbx1 := NBx1.out; have hncx1 := NBx2.out; have hczx1 := zcf5 BKx1.out; have hczx2 := zcf5 BKx2.out; have hcvx1 := Kd.C_string (P := Tryd.prog) (A := A0_4) (c := c0_4) Tryd.underlying62 Tryd.underlying5 Tryd.underlying9 (Kd.C_below HR0_4.out HB.out); have hcvx2 := Kd.C_string (P := Tryd.prog) (A := A1_4) (c := c1_4) Tryd.underlying62 Tryd.underlying5 Tryd.underlying9 (Kd.C_below HR1_4.out HB.out)) | ((with_reducible refine gate_dst (N := 3) rfl ?_); refine zbox (N := 3) (cs := #[.int .u8 a1_0, .int .u32 a1_1, .int .i64 a1_2, .int .i64 a1_3, .slice A1_4 l1_4.length c1_4]) (t := 64) (h := ?_); intro gbx2 hg wx2 hbox hb; have BKx2 := Aside0.mk (hbox); have GWx2 := zG (p := w.heap.size ≤ gbx2); have GEx2 := GWx2; have NBx1 := zNlt BKx1.out (p := gbx1 ≠ gbx2); have NBx2 := zNgt BKx1.out (p := gbx2 ≠ gbx1); replace BKx1 := zJ BKx1 hb; replace HB := zH hb; clear hb hbox hg; have hnbx1 := NBx1.out; have hncx1 := NBx2.out; have hczx1 := zcf5 BKx1.out; have hczx2 := zcf5 BKx2.out))
  all_goals (go_ret; exact ⟨zer, zB⟩)
end Go.Proofs.YtpnehgajhpejjaaDoor.W
