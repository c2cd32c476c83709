import Derived.Test.YtpnehgajhpejjaaGreatDoorSq
import Derived.Test.YtpnehgajhpejjaaGreatDoorW0
import Derived.Test.YtpnehgajhpejjaaGreatDoorW2
import Derived.Test.YtpnehgajhpejjaaGreatDoorW6
import Derived.Test.YtpnehgajhpejjaaGreatDoorW12
import Derived.Test.YtpnehgajhpejjaaGreatDoorW16
import Derived.Test.YtpnehgajhpejjaaGreatDoorW17
import Derived.Test.YtpnehgajhpejjaaGreatDoorW18
import Derived.Test.YtpnehgajhpejjaaGreatDoorW19
import Derived.Test.YtpnehgajhpejjaaGreatDoorW20
import Derived.Test.YtpnehgajhpejjaaGreatDoorW21
namespace Go.Proofs.YtpnehgajhpejjaaGreatDoor.W
open Go.RowKit Go.Proofs.YtpnehgajhpejjaaGreatDoorW.PrintWords Go.Proofs.YtpnehgajhpejjaaGreatDoorW.PrintLast Go.Proofs.YtpnehgajhpejjaaGreatDoorW.PrintMore
attribute [local go_sem] max2_int min2_int max_two min_two max_three min_three max_four min_four
set_option linter.unusedVariables false
set_option linter.unusedSimpArgs false
theorem qW22x1 {p : Prop} (h : p := by (with_reducible repeat (first | apply Kd.R_alloc | apply Kd.R_drewN | apply Kd.R_drew)); exact (Kd.R_mono (Kd.R_far (p := ⟨gbx2, 7, none⟩) (Kd.R_far (p := ⟨gbx2, 6, none⟩) (Kd.R_far (p := ⟨gbx2, 5, none⟩) (Kd.R_far (p := ⟨gbx2, 4, none⟩) (Kd.R_far (p := ⟨gbx2, 3, none⟩) (Kd.R_far (p := ⟨gbx2, 2, none⟩) (Kd.R_far (p := ⟨gbx2, 1, none⟩) (Kd.R_far (p := ⟨gbx2, 0, none⟩) (Kd.R_types HOx1.out BKx2.out (by decide)) (fun _ hk => hk.2) (.int .u8 t407)) (fun _ hk => hk.2) (.int .u32 t408)) (fun _ hk => hk.2) (.int .u8 t409)) (fun _ hk => hk.2) (.slice Aox1 t410.length cox1)) (fun _ hk => hk.2) (.int .u8 t413)) (fun _ hk => hk.2) (.int .u8 t414)) (fun _ hk => hk.2) (.int .u8 t415)) (fun _ hk => hk.2) (.int .i64 t416)) (fun _ h_ => h_.1))) : p := h
theorem qW22x2 {p : Prop} (h : p := by (with_reducible repeat (first | apply Kd.R_alloc | apply Kd.R_drewN | apply Kd.R_drew)); exact (Kd.R_mono (Kd.R_far (p := ⟨gbx2, 4, none⟩) (Kd.R_far (p := ⟨gbx2, 3, none⟩) (Kd.R_far (p := ⟨gbx2, 2, none⟩) (Kd.R_far (p := ⟨gbx2, 1, none⟩) (Kd.R_far (p := ⟨gbx2, 0, none⟩) (Kd.R_types HOx2.out BKx2.out (by decide)) (fun _ hk => hk.2) (.int .u8 t426)) (fun _ hk => hk.2) (.int .u32 t427)) (fun _ hk => hk.2) (.int .i64 t428)) (fun _ hk => hk.2) (.int .i64 t429)) (fun _ hk => hk.2) (.slice Aox2 t430.length cox2)) (fun _ h_ => h_.1))) : p := h
theorem qW22x3 {p : Prop} (h : p := by exact Aside0.mk (Kd.R_lower hox1 (below_size zB))) : p := h
theorem qW22x4 {p : Prop} (h : p := by kernel_rfl) : p := h
theorem qW22x5 {p : Prop} (h : p := by exact Aside0.mk (zDk hq_ BKx1.out)) : p := h
theorem qW22x6 {p : Prop} (h : p := by exact Aside0.mk (zDb hq_ HB.out)) : p := h
/-! ### pledgeref39_guess: function 22 -/
def pledgeref39_guess.f (k : Nat) (l0 : List ByteArray) : Option (Int × Int × Int × Int × List Int) := (pledgeref39_at.f l0 1).bind fun t398 => ((pledgeref39_value.f k t398).bind fun t399 => (if 0 < (l0.length : Int) then (if (rdOf ByteArray.empty l0 0).toList = ([112, 105, 99, 107] : List UInt8) then (some (2, (t399) % 4294967296, 0, 0, ([] : List Int))) else (if (rdOf ByteArray.empty l0 0).toList = ([107, 105, 108, 108] : List UInt8) then (some (3, (t399) % 4294967296, 0, 0, ([] : List Int))) else (if (rdOf ByteArray.empty l0 0).toList = ([119, 114, 105, 116, 101] : List UInt8) then (some (4, 0, 0, 0, ([] : List Int))) else (if (rdOf ByteArray.empty l0 0).toList = ([115, 121, 110, 99] : List UInt8) then (some (5, 0, 0, 0, ([] : List Int))) else (if (rdOf ByteArray.empty l0 0).toList = ([99, 107, 112, 116] : List UInt8) then (some (6, 0, 0, 0, ([] : List Int))) else (if (rdOf ByteArray.empty l0 0).toList = ([99, 114, 97, 115, 104] : List UInt8) then ((pledgeref39_at.f l0 2).bind fun t401 => ((pledgeref39_value.f k t401).bind fun t402 => (some (7, 0, t399, t402, ([] : List Int))))) else (if (rdOf ByteArray.empty l0 0).toList = ([98, 111, 111, 116] : List UInt8) then (some (8, 0, 0, 0, ([] : List Int))) else (if (rdOf ByteArray.empty l0 0).toList = ([97, 115, 107] : List UInt8) then ((pledgeref39_at.f l0 1).bind fun t403 => ((pledgeref39_bytes.f k t403).bind fun t404 => (some (1, 0, 0, 0, t404)))) else ((pledgeref39_asked.f k l0).bind fun bt407 => ((pledgeref34_Plain.f bt407.1 bt407.2.1 bt407.2.2.1 bt407.2.2.2.1 bt407.2.2.2.2.1 bt407.2.2.2.2.2.1 bt407.2.2.2.2.2.2.1 bt407.2.2.2.2.2.2.2).bind fun t418 => (if t418 = true then ((pledgeref34_Bytes.f k bt407.1 bt407.2.1 bt407.2.2.1 bt407.2.2.2.1 bt407.2.2.2.2.1 bt407.2.2.2.2.2.1 bt407.2.2.2.2.2.2.1 bt407.2.2.2.2.2.2.2).bind fun t419 => (some (1, 0, 0, 0, t419))) else (some (0, 0, 0, 0, ([] : List Int)))))))))))))) else (none)))
set_option maxHeartbeats 8000000 in
set_option maxRecDepth 100000 in
theorem pledgeref39_guess.calls (k : Nat) (A0 : Option Addr) (c0 : Nat) (l0 : List ByteArray) (r1 : Int) (r2 : Int) (r3 : Int) (r4 : Int) (r5 : List Int) (w : World) (hr0 : Kd.C Kd.string w A0 l0.length l0) (hc0 : l0.length ≤ c0) (h : pledgeref39_guess.f k l0 = some (r1, r2, r3, r4, r5)) :
    Calls Tryz.prog 22 #[.slice A0 l0.length c0] w fun e w' => ∃ v4_ : Value, e = .returned (.agg #[.int .u8 r1, .int .u32 r2, .int .i64 r3, .int .i64 r4, v4_]) ∧ Kd.R (Kd.int .u8) 5 w' w.heap.size (fun _ => True) v4_ r5 ∧ Below w.heap.size w w' := by
  have hu25 := Tryz.underlying25
  have hu51 := Tryz.underlying51
  have HR0 := Aside0.mk hr0
  have HC0 := Aside0.mk hc0
  clear hr0 hc0
  have HB := Aside0.mk (Below.refl w.heap.size w)
  have H : ((pledgeref39_at.f l0 1).bind fun t398 => ((pledgeref39_value.f k t398).bind fun t399 => (if 0 < (l0.length : Int) then (if (rdOf ByteArray.empty l0 0).toList = ([112, 105, 99, 107] : List UInt8) then (some (2, (t399) % 4294967296, 0, 0, ([] : List Int))) else (if (rdOf ByteArray.empty l0 0).toList = ([107, 105, 108, 108] : List UInt8) then (some (3, (t399) % 4294967296, 0, 0, ([] : List Int))) else (if (rdOf ByteArray.empty l0 0).toList = ([119, 114, 105, 116, 101] : List UInt8) then (some (4, 0, 0, 0, ([] : List Int))) else (if (rdOf ByteArray.empty l0 0).toList = ([115, 121, 110, 99] : List UInt8) then (some (5, 0, 0, 0, ([] : List Int))) else (if (rdOf ByteArray.empty l0 0).toList = ([99, 107, 112, 116] : List UInt8) then (some (6, 0, 0, 0, ([] : List Int))) else (if (rdOf ByteArray.empty l0 0).toList = ([99, 114, 97, 115, 104] : List UInt8) then ((pledgeref39_at.f l0 2).bind fun t401 => ((pledgeref39_value.f k t401).bind fun t402 => (some (7, 0, t399, t402, ([] : List Int))))) else (if (rdOf ByteArray.empty l0 0).toList = ([98, 111, 111, 116] : List UInt8) then (some (8, 0, 0, 0, ([] : List Int))) else (if (rdOf ByteArray.empty l0 0).toList = ([97, 115, 107] : List UInt8) then ((pledgeref39_at.f l0 1).bind fun t403 => ((pledgeref39_bytes.f k t403).bind fun t404 => (some (1, 0, 0, 0, t404)))) else ((pledgeref39_asked.f k l0).bind fun bt407 => ((pledgeref34_Plain.f bt407.1 bt407.2.1 bt407.2.2.1 bt407.2.2.2.1 bt407.2.2.2.2.1 bt407.2.2.2.2.2.1 bt407.2.2.2.2.2.2.1 bt407.2.2.2.2.2.2.2).bind fun t418 => (if t418 = true then ((pledgeref34_Bytes.f k bt407.1 bt407.2.1 bt407.2.2.1 bt407.2.2.2.1 bt407.2.2.2.2.1 bt407.2.2.2.2.2.1 bt407.2.2.2.2.2.2.1 bt407.2.2.2.2.2.2.2).bind fun t419 => (some (1, 0, 0, 0, t419))) else (some (0, 0, 0, 0, ([] : List Int)))))))))))))) else (none)))) = some (r1, r2, r3, r4, r5) := h
  clear h
  obtain ⟨t398, A2, H⟩ := zO H
  try dsimp only at H
  obtain ⟨t399, A3, H⟩ := zO H
  try dsimp only at H
  by_cases c4 : 0 < (l0.length : Int)
  focus
    rw [if_pos c4] at H
    have c4b0 := decide_eq_true c4
    have c4b1 : decide (0 < l0.length) = true := decide_eq_true (by omega)
    clear c4
    by_cases c5 : (rdOf ByteArray.empty l0 0).toList = ([112, 105, 99, 107] : List UInt8)
    focus
      rw [if_pos c5] at H
      obtain ⟨c5b0, c5b1⟩ := zeq c5
      clear c5
      simp only [Option.some.injEq, Prod.mk.injEq] at H
      obtain ⟨rfl, rfl, rfl, rfl, rfl⟩ := H
    rotate_left
    rw [if_neg c5] at H
    obtain ⟨c5b0, c5b1⟩ := zne c5
    by_cases c8 : (rdOf ByteArray.empty l0 0).toList = ([107, 105, 108, 108] : List UInt8)
    focus
      rw [if_pos c8] at H
      obtain ⟨c8b0, c8b1⟩ := zeq c8
      clear c8
      simp only [Option.some.injEq, Prod.mk.injEq] at H
      obtain ⟨rfl, rfl, rfl, rfl, rfl⟩ := H
    rotate_left
    rw [if_neg c8] at H
    obtain ⟨c8b0, c8b1⟩ := zne c8
    by_cases c11 : (rdOf ByteArray.empty l0 0).toList = ([119, 114, 105, 116, 101] : List UInt8)
    focus
      rw [if_pos c11] at H
      obtain ⟨c11b0, c11b1⟩ := zeq c11
      clear c11
      simp only [Option.some.injEq, Prod.mk.injEq] at H
      obtain ⟨rfl, rfl, rfl, rfl, rfl⟩ := H
    rotate_left
    rw [if_neg c11] at H
    obtain ⟨c11b0, c11b1⟩ := zne c11
    by_cases c14 : (rdOf ByteArray.empty l0 0).toList = ([115, 121, 110, 99] : List UInt8)
    focus
      rw [if_pos c14] at H
      obtain ⟨c14b0, c14b1⟩ := zeq c14
      clear c14
      simp only [Option.some.injEq, Prod.mk.injEq] at H
      obtain ⟨rfl, rfl, rfl, rfl, rfl⟩ := H
    rotate_left
    rw [if_neg c14] at H
    obtain ⟨c14b0, c14b1⟩ := zne c14
    by_cases c17 : (rdOf ByteArray.empty l0 0).toList = ([99, 107, 112, 116] : List UInt8)
    focus
      rw [if_pos c17] at H
      obtain ⟨c17b0, c17b1⟩ := zeq c17
      clear c17
      simp only [Option.some.injEq, Prod.mk.injEq] at H
      obtain ⟨rfl, rfl, rfl, rfl, rfl⟩ := H
    rotate_left
    rw [if_neg c17] at H
    obtain ⟨c17b0, c17b1⟩ := zne c17
    by_cases c20 : (rdOf ByteArray.empty l0 0).toList = ([99, 114, 97, 115, 104] : List UInt8)
    focus
      rw [if_pos c20] at H
      obtain ⟨c20b0, c20b1⟩ := zeq c20
      clear c20
      obtain ⟨t401, A21, H⟩ := zO H
      try dsimp only at H
      obtain ⟨t402, A22, H⟩ := zO H
      try dsimp only at H
      simp only [Option.some.injEq, Prod.mk.injEq] at H
      obtain ⟨rfl, rfl, rfl, rfl, rfl⟩ := H
    rotate_left
    rw [if_neg c20] at H
    obtain ⟨c20b0, c20b1⟩ := zne c20
    by_cases c25 : (rdOf ByteArray.empty l0 0).toList = ([98, 111, 111, 116] : List UInt8)
    focus
      rw [if_pos c25] at H
      obtain ⟨c25b0, c25b1⟩ := zeq c25
      clear c25
      simp only [Option.some.injEq, Prod.mk.injEq] at H
      obtain ⟨rfl, rfl, rfl, rfl, rfl⟩ := H
    rotate_left
    rw [if_neg c25] at H
    obtain ⟨c25b0, c25b1⟩ := zne c25
    by_cases c28 : (rdOf ByteArray.empty l0 0).toList = ([97, 115, 107] : List UInt8)
    focus
      rw [if_pos c28] at H
      obtain ⟨c28b0, c28b1⟩ := zeq c28
      clear c28
      obtain ⟨t403, A29, H⟩ := zO H
      try dsimp only at H
      obtain ⟨t404, A30, H⟩ := zO H
      try dsimp only at H
      simp only [Option.some.injEq, Prod.mk.injEq] at H
      obtain ⟨rfl, rfl, rfl, rfl, rfl⟩ := H
    rotate_left
    rw [if_neg c28] at H
    obtain ⟨c28b0, c28b1⟩ := zne c28
    obtain ⟨⟨t407, t408, t409, t410, t413, t414, t415, t416⟩, A35, H⟩ := zO H
    try dsimp only at H
    obtain ⟨t418, A36, H⟩ := zO H
    try dsimp only at H
    by_cases c37 : t418 = true
    focus
      subst c37
      have H1 : ((pledgeref34_Bytes.f k t407 t408 t409 t410 t413 t414 t415 t416).bind fun t419 => (some (1, 0, 0, 0, t419))) = some (r1, r2, r3, r4, r5) := by rw [if_pos rfl] at H; exact H
      clear H
      have H := H1
      clear H1
      obtain ⟨t419, A38, H⟩ := zO H
      try dsimp only at H
      simp only [Option.some.injEq, Prod.mk.injEq] at H
      obtain ⟨rfl, rfl, rfl, rfl, rfl⟩ := H
    rotate_left
    replace c37 := Bool.eq_false_iff.mpr c37
    subst c37
    have H1 : (some (0, 0, 0, 0, ([] : List Int))) = some (r1, r2, r3, r4, r5) := by rw [if_neg (show ¬ (false = true) by decide)] at H; exact H
    clear H
    have H := H1
    clear H1
    simp only [Option.some.injEq, Prod.mk.injEq] at H
    obtain ⟨rfl, rfl, rfl, rfl, rfl⟩ := H
  rotate_left 10
  · rw [if_neg c4] at H
    exact absurd H (by simp)
  all_goals go_enter Tryz.func22, Tryz.ntmps22
  all_goals go_wp2_with (first | ((with_reducible refine gate_dst (N := 2) rfl ?_); refine zbox (N := 2) (cs := #[.int .u8 0, .int .u32 0, .int .i64 0, .int .i64 0, .slice none 0 0]) (t := 25) (h := ?_); intro gbx1 hg wx1 hbox hb; have BKx1 := Aside0.mk (hbox); have GWx1 := zG (p := w.heap.size ≤ gbx1); have GEx1 := GWx1; replace HB := zH hb; clear hb hbox hg) | ((with_reducible refine gate_callee (f := 43) rfl ?_); refine goesZ (some 34) Tryz.func43 (args := #[.slice (some adx1) l0.length c0, .int .i64 2]) (h := ?_); (with_reducible refine (pledgeref39_at.calls _ _ l0 2 t401 _ ?side1 ?side2 A21.out).mono ?_); (case side1 => exact zC (Kd.C_below HR0.out HB.out)); (case side2 => exact HC0.out); rintro e w' ⟨rfl, ⟨nd, rfl⟩⟩; refine ⟨_, rfl, ?_⟩; (try (rw [drewN_self wx1]; generalize hq_ : World.drewN wx1 _ = wx1; replace BKx1 := qW22x5; replace HB := qW22x6; clear hq_))) | ((with_reducible refine gate_callee (f := 43) rfl ?_); refine goesZ (some 43) Tryz.func43 (args := #[.slice (some adx1) l0.length c0, .int .i64 1]) (h := ?_); (with_reducible refine (pledgeref39_at.calls _ _ l0 1 t403 _ ?side1 ?side2 A29.out).mono ?_); (case side1 => exact zC (Kd.C_below HR0.out HB.out)); (case side2 => exact HC0.out); rintro e w' ⟨rfl, ⟨nd, rfl⟩⟩; refine ⟨_, rfl, ?_⟩; (try (rw [drewN_self wx1]; generalize hq_ : World.drewN wx1 _ = wx1; replace BKx1 := qW22x5; replace HB := qW22x6; clear hq_))) | ((with_reducible refine gate_callee (f := 43) rfl ?_); refine goesZ (some 6) Tryz.func43 (args := #[.slice A0 l0.length c0, .int .i64 1]) (h := ?_); (with_reducible refine (pledgeref39_at.calls _ _ l0 1 t398 _ ?side1 ?side2 A2.out).mono ?_); (case side1 => exact zC (Kd.C_below HR0.out HB.out)); (case side2 => exact HC0.out); rintro e w' ⟨rfl, ⟨nd, rfl⟩⟩; refine ⟨_, rfl, ?_⟩; (try (rw [drewN_self wx1]; generalize hq_ : World.drewN wx1 _ = wx1; replace BKx1 := qW22x5; replace HB := qW22x6; clear hq_))) | ((with_reducible refine gate_callee (f := 42) rfl ?_); refine goesZ (some 7) Tryz.func42 (args := #[.string t398]) (h := ?_); (with_reducible refine (pledgeref39_value.calls k t398 t399 _ A3.out).mono ?_); rintro e w' ⟨rfl, ⟨nd, rfl⟩⟩; refine ⟨_, rfl, ?_⟩; (try (rw [drewN_self wx1]; generalize hq_ : World.drewN wx1 _ = wx1; replace BKx1 := qW22x5; replace HB := qW22x6; clear hq_)); have px1 : 0 ≤ (0 : Int) := (by omega); have qx1 : 0 < (l0.length : Int) := of_decide_eq_true zas; obtain ⟨adx1, ex1, hxx1⟩ := Kd.at_string HR0.out 0 px1 qx1; cases ex1; have qix1 : (0 < l0.length) = True := eq_true (by omega); (try rw [show ((0 : Int)).toNat = 0 from rfl] at hxx1); (try rw [Addr.add_zero'] at hxx1); replace hxx1 := (HB.out.cell (World.block_lt_of_cell? w _ hxx1)).trans hxx1; replace px1 := eq_true px1; replace qx1 := eq_true qx1; have hczx1 := zcf5 BKx1.out) | ((with_reducible refine gate_callee (f := 42) rfl ?_); refine goesZ (some 7) Tryz.func42 (args := #[.string t398]) (h := ?_); (with_reducible refine (pledgeref39_value.calls k t398 t399 _ A3.out).mono ?_); rintro e w' ⟨rfl, ⟨nd, rfl⟩⟩; refine ⟨_, rfl, ?_⟩; (try (rw [drewN_self wx1]; generalize hq_ : World.drewN wx1 _ = wx1; replace BKx1 := qW22x5; replace HB := qW22x6; clear hq_)); have px1 : 0 ≤ (0 : Int) := (by omega); have qx1 : 0 < (l0.length : Int) := of_decide_eq_true zas; obtain ⟨adx1, ex1, hxx1⟩ := Kd.at_string HR0.out 0 px1 qx1; cases ex1; have qix1 : (0 < l0.length) = True := eq_true (by omega); (try rw [show ((0 : Int)).toNat = 0 from rfl] at hxx1); (try rw [Addr.add_zero'] at hxx1); replace hxx1 := (HB.out.cell (World.block_lt_of_cell? w _ hxx1)).trans hxx1; replace px1 := eq_true px1; replace qx1 := eq_true qx1) | ((with_reducible refine gate_callee (f := 42) rfl ?_); refine goesZ (some 35) Tryz.func42 (args := #[.string t401]) (h := ?_); (with_reducible refine (pledgeref39_value.calls k t401 t402 _ A22.out).mono ?_); rintro e w' ⟨rfl, ⟨nd, rfl⟩⟩; refine ⟨_, rfl, ?_⟩; (try (rw [drewN_self wx1]; generalize hq_ : World.drewN wx1 _ = wx1; replace BKx1 := qW22x5; replace HB := qW22x6; clear hq_)); have hczx1 := zcf5 BKx1.out) | ((with_reducible refine gate_callee (f := 44) rfl ?_); refine goesZ (some 44) Tryz.func44 (args := #[.string t403]) (h := ?_); (with_reducible refine (pledgeref39_bytes.calls k t403 t404 _ A30.out).mono ?_); rintro e wx2 ⟨vx1, rfl, hox1, hb⟩; refine ⟨_, rfl, ?_⟩; have HOx1 := qW22x3; replace BKx1 := zJ BKx1 hb; replace HB := zH hb; clear hb hox1; obtain ⟨Aox1, cox1, eox1⟩ := Kd.R_slice HOx1.out; subst eox1; have hczx1 := zcf5 BKx1.out) | ((with_reducible refine gate_callee (f := 45) rfl ?_); refine goesZ (some 47) Tryz.func45 (args := #[.slice (some adx1) l0.length c0]) (h := ?_); (with_reducible refine (pledgeref39_asked.calls k _ _ l0 t407 t408 t409 t410 t413 t414 t415 t416 _ ?side1 ?side2 A35.out).mono ?_); (case side1 => exact zC (Kd.C_below HR0.out HB.out)); (case side2 => exact HC0.out); rintro e wx2 ⟨vx1, rfl, hox1, hb⟩; refine ⟨_, rfl, ?_⟩; have HOx1 := qW22x3; replace BKx1 := zJ BKx1 hb; replace HB := zH hb; clear hb hox1) | ((with_reducible refine gate_dst (N := 4) rfl ?_); refine zbox (N := 4) (cs := #[.int .u8 0, .int .u32 0, .int .u8 0, .slice none 0 0, .int .u8 0, .int .u8 0, .int .u8 0, .int .i64 0]) (t := 51) (h := ?_); intro gbx2 hg wx3 hbox hb; replace HOx1 := zP HOx1 hb; have BKx2 := Aside0.mk (hbox); have GWx2 := zG (p := w.heap.size ≤ gbx2); have GEx2 := GWx2; have NBx1 := zNlt BKx1.out (p := gbx1 ≠ gbx2); have NBx2 := zNgt BKx1.out (p := gbx2 ≠ gbx1); replace BKx1 := zJ BKx1 hb; replace HB := zH hb; clear hb hbox hg; have hnbx1 := NBx2.out; have hncx1 := NBx1.out; have hczx1 := zcf8 BKx2.out; obtain ⟨Aox1, cox1, eox1⟩ := Kd.R_slice HOx1.out; subst eox1) | ((with_reducible refine gate_callee (f := 46) rfl ?_); refine goesZ (some 49) Tryz.func46 (args := #[.agg #[.int .u8 t407, .int .u32 t408, .int .u8 t409, .slice Aox1 t410.length cox1, .int .u8 t413, .int .u8 t414, .int .u8 t415, .int .i64 t416]]) (h := ?_); (with_reducible refine (pledgeref34_Plain.calls t407 t408 t409 _ _ t410 t413 t414 t415 t416 false _ ?side1 ?side2 A36.out).mono ?_); (case side1 => refine (Kd.R_reads' (e := 90) (base := w.heap.size) (ok := fun k_ => True) (n := t410.length) (c := cox1) ?_).2.2; exact qW22x1); (case side2 => exact (Kd.R_reads' HOx1.out).2.1); rintro e wx4 ⟨rfl, hb⟩; refine ⟨_, rfl, ?_⟩; replace HOx1 := Aside0.mk (Kd.R_below qW22x1 hb); replace BKx1 := Aside0.mk (blk_below (g := gbx1) (o := .cells #[.int .u8 0, .int .u32 0, .int .i64 0, .int .i64 0, .slice none 0 0] 25 (0, 0)) (by (with_reducible repeat (first | refine blk_drewN ?_ _ | refine blk_drew ?_ | refine blk_alloc ?_ _)); refine blk_far ?_ NBx1.out _; (with_reducible repeat (first | refine blk_drewN ?_ _ | refine blk_drew ?_ | refine blk_alloc ?_ _)); refine blk_far ?_ NBx1.out _; (with_reducible repeat (first | refine blk_drewN ?_ _ | refine blk_drew ?_ | refine blk_alloc ?_ _)); refine blk_far ?_ NBx1.out _; (with_reducible repeat (first | refine blk_drewN ?_ _ | refine blk_drew ?_ | refine blk_alloc ?_ _)); refine blk_far ?_ NBx1.out _; (with_reducible repeat (first | refine blk_drewN ?_ _ | refine blk_drew ?_ | refine blk_alloc ?_ _)); refine blk_far ?_ NBx1.out _; (with_reducible repeat (first | refine blk_drewN ?_ _ | refine blk_drew ?_ | refine blk_alloc ?_ _)); refine blk_far ?_ NBx1.out _; (with_reducible repeat (first | refine blk_drewN ?_ _ | refine blk_drew ?_ | refine blk_alloc ?_ _)); refine blk_far ?_ NBx1.out _; (with_reducible repeat (first | refine blk_drewN ?_ _ | refine blk_drew ?_ | refine blk_alloc ?_ _)); refine blk_far ?_ NBx1.out _; (with_reducible repeat (first | refine blk_drewN ?_ _ | refine blk_drew ?_ | refine blk_alloc ?_ _)); exact BKx1.out) hb); replace HB := zH hb; replace BKx2 := Aside0.mk (blk_below (g := gbx2) (o := .cells #[.int .u8 t407, .int .u32 t408, .int .u8 t409, .slice Aox1 t410.length cox1, .int .u8 t413, .int .u8 t414, .int .u8 t415, .int .i64 t416] 51 (0, 0)) (zQ BKx2.out) hb); clear hb; have hczx2 := zcf5 BKx1.out) | ((with_reducible refine gate_callee (f := 46) rfl ?_); refine goesZ (some 49) Tryz.func46 (args := #[.agg #[.int .u8 t407, .int .u32 t408, .int .u8 t409, .slice Aox1 t410.length cox1, .int .u8 t413, .int .u8 t414, .int .u8 t415, .int .i64 t416]]) (h := ?_); (with_reducible refine (pledgeref34_Plain.calls t407 t408 t409 _ _ t410 t413 t414 t415 t416 true _ ?side1 ?side2 A36.out).mono ?_); (case side1 => refine (Kd.R_reads' (e := 90) (base := w.heap.size) (ok := fun k_ => True) (n := t410.length) (c := cox1) ?_).2.2; exact qW22x1); (case side2 => exact (Kd.R_reads' HOx1.out).2.1); rintro e wx4 ⟨rfl, hb⟩; refine ⟨_, rfl, ?_⟩; replace HOx1 := Aside0.mk (Kd.R_below qW22x1 hb); replace BKx1 := Aside0.mk (blk_below (g := gbx1) (o := .cells #[.int .u8 0, .int .u32 0, .int .i64 0, .int .i64 0, .slice none 0 0] 25 (0, 0)) (by (with_reducible repeat (first | refine blk_drewN ?_ _ | refine blk_drew ?_ | refine blk_alloc ?_ _)); refine blk_far ?_ NBx1.out _; (with_reducible repeat (first | refine blk_drewN ?_ _ | refine blk_drew ?_ | refine blk_alloc ?_ _)); refine blk_far ?_ NBx1.out _; (with_reducible repeat (first | refine blk_drewN ?_ _ | refine blk_drew ?_ | refine blk_alloc ?_ _)); refine blk_far ?_ NBx1.out _; (with_reducible repeat (first | refine blk_drewN ?_ _ | refine blk_drew ?_ | refine blk_alloc ?_ _)); refine blk_far ?_ NBx1.out _; (with_reducible repeat (first | refine blk_drewN ?_ _ | refine blk_drew ?_ | refine blk_alloc ?_ _)); refine blk_far ?_ NBx1.out _; (with_reducible repeat (first | refine blk_drewN ?_ _ | refine blk_drew ?_ | refine blk_alloc ?_ _)); refine blk_far ?_ NBx1.out _; (with_reducible repeat (first | refine blk_drewN ?_ _ | refine blk_drew ?_ | refine blk_alloc ?_ _)); refine blk_far ?_ NBx1.out _; (with_reducible repeat (first | refine blk_drewN ?_ _ | refine blk_drew ?_ | refine blk_alloc ?_ _)); refine blk_far ?_ NBx1.out _; (with_reducible repeat (first | refine blk_drewN ?_ _ | refine blk_drew ?_ | refine blk_alloc ?_ _)); exact BKx1.out) hb); replace HB := zH hb; replace BKx2 := Aside0.mk (blk_below (g := gbx2) (o := .cells #[.int .u8 t407, .int .u32 t408, .int .u8 t409, .slice Aox1 t410.length cox1, .int .u8 t413, .int .u8 t414, .int .u8 t415, .int .i64 t416] 51 (0, 0)) (zQ BKx2.out) hb); clear hb; have hczx2 := zcf8 BKx2.out) | ((with_reducible refine gate_callee (f := 47) rfl ?_); refine goesZ (some 53) Tryz.func47 (args := #[.agg #[.int .u8 t407, .int .u32 t408, .int .u8 t409, .slice Aox1 t410.length cox1, .int .u8 t413, .int .u8 t414, .int .u8 t415, .int .i64 t416]]) (h := ?_); (with_reducible refine (pledgeref34_Bytes.calls k t407 t408 t409 _ _ t410 t413 t414 t415 t416 t419 _ ?side1 ?side2 A38.out).mono ?_); (case side1 => exact zC ((Kd.R_reads' HOx1.out).2.2)); (case side2 => exact (Kd.R_reads' HOx1.out).2.1); rintro e wx5 ⟨vx2, rfl, hox1, hb⟩; refine ⟨_, rfl, ?_⟩; replace HOx1 := zP HOx1 hb; have HOx2 := qW22x3; replace BKx1 := zJ BKx1 hb; replace BKx2 := zJ BKx2 hb; replace HB := zH hb; clear hb hox1; obtain ⟨Aox2, cox2, eox2⟩ := Kd.R_slice HOx2.out; subst eox2; have hczx3 := zcf5 BKx1.out))
  all_goals first | (refine bodyPost_ret (results_cell_row rfl _ _ gbx1 25 #[.int .u8 1, .int .u32 0, .int .i64 0, .int .i64 0, .slice Aox1 t404.length cox1] (0, 0) _ rfl (zQ BKx1.out) Tryz.underlying25 rfl qW22x4) rfl ?_; exact ⟨_, zer, by (with_reducible repeat (first | apply Kd.R_alloc | apply Kd.R_drewN | apply Kd.R_drew)); exact Kd.R_mono (Kd.R_far (p := ⟨gbx1, 4, none⟩) (Kd.R_far (p := ⟨gbx1, 3, none⟩) (Kd.R_far (p := ⟨gbx1, 2, none⟩) (Kd.R_far (p := ⟨gbx1, 1, none⟩) (Kd.R_far (p := ⟨gbx1, 0, none⟩) (Kd.R_types HOx1.out BKx1.out (by decide)) (fun _ hk => hk.2) (.int .u8 1)) (fun _ hk => hk.2) (.int .u32 0)) (fun _ hk => hk.2) (.int .i64 0)) (fun _ hk => hk.2) (.int .i64 0)) (fun _ hk => hk.2) (.slice Aox1 t404.length cox1)) (fun _ hk => trivial), zB⟩) | (refine bodyPost_ret (results_cell_row rfl _ _ gbx1 25 #[.int .u8 1, .int .u32 0, .int .i64 0, .int .i64 0, .slice Aox2 t419.length cox2] (0, 0) _ rfl (zQ BKx1.out) Tryz.underlying25 rfl qW22x4) rfl ?_; exact ⟨_, zer, by (with_reducible repeat (first | apply Kd.R_alloc | apply Kd.R_drewN | apply Kd.R_drew)); exact Kd.R_mono (Kd.R_far (p := ⟨gbx1, 4, none⟩) (Kd.R_far (p := ⟨gbx1, 3, none⟩) (Kd.R_far (p := ⟨gbx1, 2, none⟩) (Kd.R_far (p := ⟨gbx1, 1, none⟩) (Kd.R_far (p := ⟨gbx1, 0, none⟩) (Kd.R_types HOx2.out BKx1.out (by decide)) (fun _ hk => hk.2) (.int .u8 1)) (fun _ hk => hk.2) (.int .u32 0)) (fun _ hk => hk.2) (.int .i64 0)) (fun _ hk => hk.2) (.int .i64 0)) (fun _ hk => hk.2) (.slice Aox2 t419.length cox2)) (fun _ hk => trivial), zB⟩) | (refine bodyPost_ret (results_cell_row rfl _ _ gbx1 25 #[.int .u8 2, .int .u32 ((t399) % 4294967296), .int .i64 0, .int .i64 0, .slice none 0 0] (0, 0) _ rfl (zQ BKx1.out) Tryz.underlying25 rfl qW22x4) rfl ?_; exact ⟨_, zer, znil, zB⟩) | (refine bodyPost_ret (results_cell_row rfl _ _ gbx1 25 #[.int .u8 3, .int .u32 ((t399) % 4294967296), .int .i64 0, .int .i64 0, .slice none 0 0] (0, 0) _ rfl (zQ BKx1.out) Tryz.underlying25 rfl qW22x4) rfl ?_; exact ⟨_, zer, znil, zB⟩) | (refine bodyPost_ret (results_cell_row rfl _ _ gbx1 25 #[.int .u8 7, .int .u32 0, .int .i64 t399, .int .i64 t402, .slice none 0 0] (0, 0) _ rfl (zQ BKx1.out) Tryz.underlying25 rfl qW22x4) rfl ?_; exact ⟨_, zer, znil, zB⟩) | (refine bodyPost_ret (results_cell_row rfl _ _ gbx1 25 #[.int .u8 4, .int .u32 0, .int .i64 0, .int .i64 0, .slice none 0 0] (0, 0) _ rfl (zQ BKx1.out) Tryz.underlying25 rfl qW22x4) rfl ?_; exact ⟨_, zer, znil, zB⟩) | (refine bodyPost_ret (results_cell_row rfl _ _ gbx1 25 #[.int .u8 5, .int .u32 0, .int .i64 0, .int .i64 0, .slice none 0 0] (0, 0) _ rfl (zQ BKx1.out) Tryz.underlying25 rfl qW22x4) rfl ?_; exact ⟨_, zer, znil, zB⟩) | (refine bodyPost_ret (results_cell_row rfl _ _ gbx1 25 #[.int .u8 6, .int .u32 0, .int .i64 0, .int .i64 0, .slice none 0 0] (0, 0) _ rfl (zQ BKx1.out) Tryz.underlying25 rfl qW22x4) rfl ?_; exact ⟨_, zer, znil, zB⟩) | (refine bodyPost_ret (results_cell_row rfl _ _ gbx1 25 #[.int .u8 8, .int .u32 0, .int .i64 0, .int .i64 0, .slice none 0 0] (0, 0) _ rfl (zQ BKx1.out) Tryz.underlying25 rfl qW22x4) rfl ?_; exact ⟨_, zer, znil, zB⟩) | (refine bodyPost_ret (results_cell_row rfl _ _ gbx1 25 #[.int .u8 0, .int .u32 0, .int .i64 0, .int .i64 0, .slice none 0 0] (0, 0) _ rfl (zQ BKx1.out) Tryz.underlying25 rfl qW22x4) rfl ?_; exact ⟨_, zer, znil, zB⟩)
/-! ### pledgeref39_Read: function 9 -/
def pledgeref39_Read.f (k : Nat) (a0 : ByteArray) : Option (Int × Int × Int × Int × List Int × Int) := (pledgeref39_cut.f k a0 32).bind fun t423 => ((pledgeref39_guess.f k t423).bind fun bt426 => ((pledgeref38_Good.f bt426.1 bt426.2.1 bt426.2.2.1 bt426.2.2.2.1 bt426.2.2.2.2).bind fun t434 => (if t434 = true then ((pledgeref39_Line.f k bt426.1 bt426.2.1 bt426.2.2.1 bt426.2.2.2.1 bt426.2.2.2.2).bind fun t435 => (if t435.toList = a0.toList then (some (bt426.1, bt426.2.1, bt426.2.2.1, bt426.2.2.2.1, bt426.2.2.2.2, 0)) else (some (0, 0, 0, 0, ([] : List Int), 8)))) else (some (0, 0, 0, 0, ([] : List Int), 8)))))
set_option maxHeartbeats 8000000 in
set_option maxRecDepth 100000 in
theorem pledgeref39_Read.calls (k : Nat) (a0 : ByteArray) (r1 : Int) (r2 : Int) (r3 : Int) (r4 : Int) (r5 : List Int) (r6 : Int) (w : World) (h : pledgeref39_Read.f k a0 = some (r1, r2, r3, r4, r5, r6)) :
    Calls Tryz.prog 9 #[.string a0] w fun e w' => ∃ v4_ : Value, e = .returned (.tuple #[.agg #[.int .u8 r1, .int .u32 r2, .int .i64 r3, .int .i64 r4, v4_], .int .i64 r6]) ∧ Kd.R (Kd.int .u8) 5 w' w.heap.size (fun _ => True) v4_ r5 ∧ Below w.heap.size w w' := by
  have hu25 := Tryz.underlying25
  have HB := Aside0.mk (Below.refl w.heap.size w)
  have H : ((pledgeref39_cut.f k a0 32).bind fun t423 => ((pledgeref39_guess.f k t423).bind fun bt426 => ((pledgeref38_Good.f bt426.1 bt426.2.1 bt426.2.2.1 bt426.2.2.2.1 bt426.2.2.2.2).bind fun t434 => (if t434 = true then ((pledgeref39_Line.f k bt426.1 bt426.2.1 bt426.2.2.1 bt426.2.2.2.1 bt426.2.2.2.2).bind fun t435 => (if t435.toList = a0.toList then (some (bt426.1, bt426.2.1, bt426.2.2.1, bt426.2.2.2.1, bt426.2.2.2.2, 0)) else (some (0, 0, 0, 0, ([] : List Int), 8)))) else (some (0, 0, 0, 0, ([] : List Int), 8)))))) = some (r1, r2, r3, r4, r5, r6) := h
  clear h
  obtain ⟨t423, A2, H⟩ := zO H
  try dsimp only at H
  obtain ⟨⟨t426, t427, t428, t429, t430⟩, A3, H⟩ := zO H
  try dsimp only at H
  obtain ⟨t434, A4, H⟩ := zO H
  try dsimp only at H
  by_cases c5 : t434 = true
  focus
    subst c5
    have H1 : ((pledgeref39_Line.f k t426 t427 t428 t429 t430).bind fun t435 => (if t435.toList = a0.toList then (some (t426, t427, t428, t429, t430, 0)) else (some (0, 0, 0, 0, ([] : List Int), 8)))) = some (r1, r2, r3, r4, r5, r6) := by rw [if_pos rfl] at H; exact H
    clear H
    have H := H1
    clear H1
    obtain ⟨t435, A6, H⟩ := zO H
    try dsimp only at H
    by_cases c7 : t435.toList = a0.toList
    focus
      rw [if_pos c7] at H
      obtain ⟨c7b0, c7b1⟩ := zeq c7
      clear c7
      simp only [Option.some.injEq, Prod.mk.injEq] at H
      obtain ⟨rfl, rfl, rfl, rfl, rfl, rfl⟩ := H
    rotate_left
    rw [if_neg c7] at H
    obtain ⟨c7b0, c7b1⟩ := zne c7
    simp only [Option.some.injEq, Prod.mk.injEq] at H
    obtain ⟨rfl, rfl, rfl, rfl, rfl, rfl⟩ := H
  rotate_left 2
  replace c5 := Bool.eq_false_iff.mpr c5
  subst c5
  have H1 : (some (0, 0, 0, 0, ([] : List Int), 8)) = some (r1, r2, r3, r4, r5, r6) := by rw [if_neg (show ¬ (false = true) by decide)] at H; exact H
  clear H
  have H := H1
  clear H1
  simp only [Option.some.injEq, Prod.mk.injEq] at H
  obtain ⟨rfl, rfl, rfl, rfl, rfl, rfl⟩ := H
  all_goals go_enter Tryz.func9, Tryz.ntmps9
  all_goals go_wp2_with (first | ((with_reducible refine gate_dst (N := 2) rfl ?_); refine zbox (N := 2) (cs := #[.int .u8 0, .int .u32 0, .int .i64 0, .int .i64 0, .slice none 0 0]) (t := 25) (h := ?_); intro gbx1 hg wx1 hbox hb; have BKx1 := Aside0.mk (hbox); have GWx1 := zG (p := w.heap.size ≤ gbx1); have GEx1 := GWx1; replace HB := zH hb; clear hb hbox hg) | ((with_reducible refine gate_callee (f := 23) rfl ?_); refine goesZ (some 6) Tryz.func23 (args := #[.string a0, .int .u8 32]) (h := ?_); (with_reducible refine (pledgeref39_cut.calls k a0 32 t423 _ A2.out).mono ?_); rintro e wx2 ⟨vx1, rfl, hox1, hb⟩; refine ⟨_, rfl, ?_⟩; have HOx1 := qW22x3; replace BKx1 := zJ BKx1 hb; replace HB := zH hb; clear hb hox1; obtain ⟨Aox1, cox1, eox1⟩ := Kd.R_slice HOx1.out; subst eox1) | ((with_reducible refine gate_callee (f := 22) rfl ?_); refine goesZ (some 7) Tryz.func22 (args := #[.slice Aox1 t423.length cox1]) (h := ?_); (with_reducible refine (pledgeref39_guess.calls k _ _ t423 t426 t427 t428 t429 t430 _ ?side1 ?side2 A3.out).mono ?_); (case side1 => exact zC ((Kd.R_reads' HOx1.out).2.2)); (case side2 => exact (Kd.R_reads' HOx1.out).2.1); rintro e wx3 ⟨vx2, rfl, hox1, hb⟩; refine ⟨_, rfl, ?_⟩; replace HOx1 := zP HOx1 hb; have HOx2 := qW22x3; replace BKx1 := zJ BKx1 hb; replace HB := zH hb; clear hb hox1) | ((with_reducible refine gate_dst (N := 4) rfl ?_); refine zbox (N := 4) (cs := #[.int .u8 0, .int .u32 0, .int .i64 0, .int .i64 0, .slice none 0 0]) (t := 25) (h := ?_); intro gbx2 hg wx4 hbox hb; replace HOx1 := zP HOx1 hb; replace HOx2 := zP HOx2 hb; have BKx2 := Aside0.mk (hbox); have GWx2 := zG (p := w.heap.size ≤ gbx2); have GEx2 := GWx2; have NBx1 := zNlt BKx1.out (p := gbx1 ≠ gbx2); have NBx2 := zNgt BKx1.out (p := gbx2 ≠ gbx1); replace BKx1 := zJ BKx1 hb; replace HB := zH hb; clear hb hbox hg; have hnbx1 := NBx2.out; have hncx1 := NBx1.out; have hczx1 := zcf5 BKx2.out; obtain ⟨Aox2, cox2, eox2⟩ := Kd.R_slice HOx2.out; subst eox2) | ((with_reducible refine gate_callee (f := 18) rfl ?_); refine goesZ (some 9) Tryz.func18 (args := #[.agg #[.int .u8 t426, .int .u32 t427, .int .i64 t428, .int .i64 t429, .slice Aox2 t430.length cox2]]) (h := ?_); (with_reducible refine (pledgeref38_Good.calls t426 t427 t428 t429 _ _ t430 false _ ?side1 ?side2 A4.out).mono ?_); (case side1 => refine (Kd.R_reads' (e := 5) (base := w.heap.size) (ok := fun k_ => True) (n := t430.length) (c := cox2) ?_).2.2; exact qW22x2); (case side2 => exact (Kd.R_reads' HOx2.out).2.1); rintro e wx5 ⟨rfl, hb⟩; refine ⟨_, rfl, ?_⟩; replace HOx1 := Aside0.mk (Kd.R_below (by (with_reducible repeat (first | apply Kd.R_alloc | apply Kd.R_drewN | apply Kd.R_drew)); exact (Kd.R_mono (Kd.R_far (p := ⟨gbx2, 4, none⟩) (Kd.R_far (p := ⟨gbx2, 3, none⟩) (Kd.R_far (p := ⟨gbx2, 2, none⟩) (Kd.R_far (p := ⟨gbx2, 1, none⟩) (Kd.R_far (p := ⟨gbx2, 0, none⟩) (Kd.R_types HOx1.out BKx2.out (by decide)) (fun _ hk => hk.2) (.int .u8 t426)) (fun _ hk => hk.2) (.int .u32 t427)) (fun _ hk => hk.2) (.int .i64 t428)) (fun _ hk => hk.2) (.int .i64 t429)) (fun _ hk => hk.2) (.slice Aox2 t430.length cox2)) (fun _ h_ => h_.1))) hb); replace HOx2 := Aside0.mk (Kd.R_below qW22x2 hb); replace BKx1 := Aside0.mk (blk_below (g := gbx1) (o := .cells #[.int .u8 0, .int .u32 0, .int .i64 0, .int .i64 0, .slice none 0 0] 25 (0, 0)) (by (with_reducible repeat (first | refine blk_drewN ?_ _ | refine blk_drew ?_ | refine blk_alloc ?_ _)); refine blk_far ?_ NBx1.out _; (with_reducible repeat (first | refine blk_drewN ?_ _ | refine blk_drew ?_ | refine blk_alloc ?_ _)); refine blk_far ?_ NBx1.out _; (with_reducible repeat (first | refine blk_drewN ?_ _ | refine blk_drew ?_ | refine blk_alloc ?_ _)); refine blk_far ?_ NBx1.out _; (with_reducible repeat (first | refine blk_drewN ?_ _ | refine blk_drew ?_ | refine blk_alloc ?_ _)); refine blk_far ?_ NBx1.out _; (with_reducible repeat (first | refine blk_drewN ?_ _ | refine blk_drew ?_ | refine blk_alloc ?_ _)); refine blk_far ?_ NBx1.out _; (with_reducible repeat (first | refine blk_drewN ?_ _ | refine blk_drew ?_ | refine blk_alloc ?_ _)); exact BKx1.out) hb); replace HB := zH hb; replace BKx2 := Aside0.mk (blk_below (g := gbx2) (o := .cells #[.int .u8 t426, .int .u32 t427, .int .i64 t428, .int .i64 t429, .slice Aox2 t430.length cox2] 25 (0, 0)) (zQ BKx2.out) hb); clear hb; have hczx2 := zcf5 BKx1.out) | ((with_reducible refine gate_callee (f := 18) rfl ?_); refine goesZ (some 9) Tryz.func18 (args := #[.agg #[.int .u8 t426, .int .u32 t427, .int .i64 t428, .int .i64 t429, .slice Aox2 t430.length cox2]]) (h := ?_); (with_reducible refine (pledgeref38_Good.calls t426 t427 t428 t429 _ _ t430 true _ ?side1 ?side2 A4.out).mono ?_); (case side1 => refine (Kd.R_reads' (e := 5) (base := w.heap.size) (ok := fun k_ => True) (n := t430.length) (c := cox2) ?_).2.2; exact qW22x2); (case side2 => exact (Kd.R_reads' HOx2.out).2.1); rintro e wx5 ⟨rfl, hb⟩; refine ⟨_, rfl, ?_⟩; replace HOx1 := Aside0.mk (Kd.R_below (by (with_reducible repeat (first | apply Kd.R_alloc | apply Kd.R_drewN | apply Kd.R_drew)); exact (Kd.R_mono (Kd.R_far (p := ⟨gbx2, 4, none⟩) (Kd.R_far (p := ⟨gbx2, 3, none⟩) (Kd.R_far (p := ⟨gbx2, 2, none⟩) (Kd.R_far (p := ⟨gbx2, 1, none⟩) (Kd.R_far (p := ⟨gbx2, 0, none⟩) (Kd.R_types HOx1.out BKx2.out (by decide)) (fun _ hk => hk.2) (.int .u8 t426)) (fun _ hk => hk.2) (.int .u32 t427)) (fun _ hk => hk.2) (.int .i64 t428)) (fun _ hk => hk.2) (.int .i64 t429)) (fun _ hk => hk.2) (.slice Aox2 t430.length cox2)) (fun _ h_ => h_.1))) hb); replace HOx2 := Aside0.mk (Kd.R_below qW22x2 hb); replace BKx1 := Aside0.mk (blk_below (g := gbx1) (o := .cells #[.int .u8 0, .int .u32 0, .int .i64 0, .int .i64 0, .slice none 0 0] 25 (0, 0)) (by (with_reducible repeat (first | refine blk_drewN ?_ _ | refine blk_drew ?_ | refine blk_alloc ?_ _)); refine blk_far ?_ NBx1.out _; (with_reducible repeat (first | refine blk_drewN ?_ _ | refine blk_drew ?_ | refine blk_alloc ?_ _)); refine blk_far ?_ NBx1.out _; (with_reducible repeat (first | refine blk_drewN ?_ _ | refine blk_drew ?_ | refine blk_alloc ?_ _)); refine blk_far ?_ NBx1.out _; (with_reducible repeat (first | refine blk_drewN ?_ _ | refine blk_drew ?_ | refine blk_alloc ?_ _)); refine blk_far ?_ NBx1.out _; (with_reducible repeat (first | refine blk_drewN ?_ _ | refine blk_drew ?_ | refine blk_alloc ?_ _)); refine blk_far ?_ NBx1.out _; (with_reducible repeat (first | refine blk_drewN ?_ _ | refine blk_drew ?_ | refine blk_alloc ?_ _)); exact BKx1.out) hb); replace HB := zH hb; replace BKx2 := Aside0.mk (blk_below (g := gbx2) (o := .cells #[.int .u8 t426, .int .u32 t427, .int .i64 t428, .int .i64 t429, .slice Aox2 t430.length cox2] 25 (0, 0)) (zQ BKx2.out) hb); clear hb; have hczx2 := zcf5 BKx2.out) | (go_at_call 11; (with_reducible refine (pledgeref39_Line.calls k t426 t427 t428 t429 _ _ t430 t435 _ ?side1 ?side2 A6.out).mono ?_); (case side1 => exact zC ((Kd.R_reads' HOx2.out).2.2)); (case side2 => exact (Kd.R_reads' HOx2.out).2.1); rintro e wx6 ⟨rfl, hb⟩; replace HOx1 := zP HOx1 hb; replace HOx2 := zP HOx2 hb; replace BKx1 := zJ BKx1 hb; replace BKx2 := zJ BKx2 hb; replace HB := zH hb; clear hb; have hczx3 := zcf5 BKx2.out; have hczx4 := zcf5 BKx1.out) | (go_at_call 11; (with_reducible refine (pledgeref39_Line.calls k t426 t427 t428 t429 _ _ t430 t435 _ ?side1 ?side2 A6.out).mono ?_); (case side1 => exact zC ((Kd.R_reads' HOx2.out).2.2)); (case side2 => exact (Kd.R_reads' HOx2.out).2.1); rintro e wx6 ⟨rfl, hb⟩; replace HOx1 := zP HOx1 hb; replace HOx2 := zP HOx2 hb; replace BKx1 := zJ BKx1 hb; replace BKx2 := zJ BKx2 hb; replace HB := zH hb; clear hb; have hczx3 := zcf5 BKx1.out))
  all_goals first | (refine bodyPost_ret (results_ct rfl _ _ gbx1 25 #[.int .u8 t426, .int .u32 t427, .int .i64 t428, .int .i64 t429, .slice Aox2 t430.length cox2] (0, 0) _ rfl (zQ BKx1.out) Tryz.underlying25 rfl qW22x4) rfl ?_; exact ⟨_, zer, by (with_reducible repeat (first | apply Kd.R_alloc | apply Kd.R_drewN | apply Kd.R_drew)); exact Kd.R_mono (Kd.R_far (p := ⟨gbx1, 4, none⟩) (Kd.R_far (p := ⟨gbx1, 3, none⟩) (Kd.R_far (p := ⟨gbx1, 2, none⟩) (Kd.R_far (p := ⟨gbx1, 1, none⟩) (Kd.R_far (p := ⟨gbx1, 0, none⟩) (Kd.R_types HOx2.out BKx1.out (by decide)) (fun _ hk => hk.2) (.int .u8 t426)) (fun _ hk => hk.2) (.int .u32 t427)) (fun _ hk => hk.2) (.int .i64 t428)) (fun _ hk => hk.2) (.int .i64 t429)) (fun _ hk => hk.2) (.slice Aox2 t430.length cox2)) (fun _ hk => trivial), zB⟩) | (refine bodyPost_ret (results_ct rfl _ _ gbx1 25 #[.int .u8 0, .int .u32 0, .int .i64 0, .int .i64 0, .slice none 0 0] (0, 0) _ rfl (zQ BKx1.out) Tryz.underlying25 rfl qW22x4) rfl ?_; exact ⟨_, zer, znil, zB⟩)
/-! ### pledgeref39_Parse: function 14 -/
/-! ### words_Print: function 15 (by hand) -/
end Go.Proofs.YtpnehgajhpejjaaGreatDoor.W
