import Derived.Test.YtpnehgajhpejjaaGreatDoorSq
import Derived.Test.YtpnehgajhpejjaaGreatDoorW0
import Derived.Test.YtpnehgajhpejjaaGreatDoorW2
import Derived.Test.YtpnehgajhpejjaaGreatDoorW6
import Derived.Test.YtpnehgajhpejjaaGreatDoorW12
import Derived.Test.YtpnehgajhpejjaaGreatDoorW16
import Derived.Test.YtpnehgajhpejjaaGreatDoorW17
import Derived.Test.YtpnehgajhpejjaaGreatDoorW18
import Derived.Test.YtpnehgajhpejjaaGreatDoorW19
import Derived.Test.YtpnehgajhpejjaaGreatDoorW20
import Derived.Test.YtpnehgajhpejjaaGreatDoorW21
namespace Go.Proofs.YtpnehgajhpejjaaGreatDoor.W
open Go.RowKit Go.Proofs.YtpnehgajhpejjaaGreatDoorW.PrintWords Go.Proofs.YtpnehgajhpejjaaGreatDoorW.PrintLast Go.Proofs.YtpnehgajhpejjaaGreatDoorW.PrintMore
attribute [local go_sem] max2_int min2_int max_two min_two max_three min_three max_four min_four
set_option linter.unusedVariables false
set_option linter.unusedSimpArgs false
theorem qW22x1 {p : Prop} (h : p := by (with_reducible repeat (first | apply Kd.R_alloc | apply Kd.R_drewN | apply Kd.R_drew)); exact (Kd.R_mono (Kd.R_far (p := ⟨gbx2, 7, none⟩) (Kd.R_far (p := ⟨gbx2, 6, none⟩) (Kd.R_far (p := ⟨gbx2, 5, none⟩) (Kd.R_far (p := ⟨gbx2, 4, none⟩) (Kd.R_far (p := ⟨gbx2, 3, none⟩) (Kd.R_far (p := ⟨gbx2, 2, none⟩) (Kd.R_far (p := ⟨gbx2, 1, none⟩) (Kd.R_far (p := ⟨gbx2, 0, none⟩) (Kd.R_types HOx1.out BKx2.out (by decide)) (fun _ hk => hk.2) (.int .u8 t407)) (fun _ hk => hk.2) (.int .u32 t408)) (fun _ hk => hk.2) (.int .u8 t409)) (fun _ hk => hk.2) (.slice Aox1 t410.length cox1)) (fun _ hk => hk.2) (.int .u8 t413)) (fun _ hk => hk.2) (.int .u8 t414)) (fun _ hk => hk.2) (.int .u8 t415)) (fun _ hk => hk.2) (.int .i64 t416)) (fun _ h_ => h_.1))) : p := h
theorem qW22x2 {p : Prop} (h : p := by (with_reducible repeat (first | apply Kd.R_alloc | apply Kd.R_drewN | apply Kd.R_drew)); exact (Kd.R_mono (Kd.R_far (p := ⟨gbx2, 4, none⟩) (Kd.R_far (p := ⟨gbx2, 3, none⟩) (Kd.R_far (p := ⟨gbx2, 2, none⟩) (Kd.R_far (p := ⟨gbx2, 1, none⟩) (Kd.R_far (p := ⟨gbx2, 0, none⟩) (Kd.R_types HOx2.out BKx2.out (by decide)) (fun _ hk => hk.2) (.int .u8 t426)) (fun _ hk => hk.2) (.int .u32 t427)) (fun _ hk => hk.2) (.int .i64 t428)) (fun _ hk => hk.2) (.int .i64 t429)) (fun _ hk => hk.2) (.slice Aox2 t430.length cox2)) (fun _ h_ => h_.1))) : p := h
theorem qW22x3 {p : Prop} (h : p := by exact Aside0.mk (Kd.R_lower hox1 (below_size zB))) : p := h
theorem qW22x4 {p : Prop} (h : p := by kernel_rfl) : p := h
theorem qW22x5 {p : Prop} (h : p := by exact Aside0.mk (zDk hq_ BKx1.out)) : p := h
theorem qW22x6 {p : Prop} (h : p := by exact Aside0.mk (zDb hq_ HB.out)) : p := h

/-! ### pledgeref39_guess: function 22 -/
def pledgeref39_guess.f (k : Nat) (l0 : List ByteArray) : Option (Int × Int × Int × Int × List Int) := (pledgeref39_at.f l0 1).bind fun t398 => ((pledgeref39_value.f k t398).bind fun t399 => (if 0 < (l0.length : Int) then (if (rdOf ByteArray.empty l0 0).toList = ([112, 105, 99, 107] : List UInt8) then (some (2, (t399) % 4294967296, 0, 0, ([] : List Int))) else (if (rdOf ByteArray.empty l0 0).toList = ([107, 105, 108, 108] : List UInt8) then (some (3, (t399) % 4294967296, 0, 0, ([] : List Int))) else (if (rdOf ByteArray.empty l0 0).toList = ([119, 114, 105, 116, 101] : List UInt8) then (some (4, 0, 0, 0, ([] : List Int))) else (if (rdOf ByteArray.empty l0 0).toList = ([115, 121, 110, 99] : List UInt8) then (some (5, 0, 0, 0, ([] : List Int))) else (if (rdOf ByteArray.empty l0 0).toList = ([99, 107, 112, 116] : List UInt8) then (some (6, 0, 0, 0, ([] : List Int))) else (if (rdOf ByteArray.empty l0 0).toList = ([99, 114, 97, 115, 104] : List UInt8) then ((pledgeref39_at.f l0 2).bind fun t401 => ((pledgeref39_value.f k t401).bind fun t402 => (some (7, 0, t399, t402, ([] : List Int))))) else (if (rdOf ByteArray.empty l0 0).toList = ([98, 111, 111, 116] : List UInt8) then (some (8, 0, 0, 0, ([] : List Int))) else (if (rdOf ByteArray.empty l0 0).toList = ([97, 115, 107] : List UInt8) then ((pledgeref39_at.f l0 1).bind fun t403 => ((pledgeref39_bytes.f k t403).bind fun t404 => (some (1, 0, 0, 0, t404)))) else ((pledgeref39_asked.f k l0).bind fun bt407 => ((pledgeref34_Plain.f bt407.1 bt407.2.1 bt407.2.2.1 bt407.2.2.2.1 bt407.2.2.2.2.1 bt407.2.2.2.2.2.1 bt407.2.2.2.2.2.2.1 bt407.2.2.2.2.2.2.2).bind fun t418 => (if t418 = true then ((pledgeref34_Bytes.f k bt407.1 bt407.2.1 bt407.2.2.1 bt407.2.2.2.1 bt407.2.2.2.2.1 bt407.2.2.2.2.2.1 bt407.2.2.2.2.2.2.1 bt407.2.2.2.2.2.2.2).bind fun t419 => (some (1, 0, 0, 0, t419))) else (some (0, 0, 0, 0, ([] : List Int)))))))))))))) else (none)))
theorem pledgeref39_guess.mono : ∀ a0 k, LeO (pledgeref39_guess.f k a0) (pledgeref39_guess.f (k + 1) a0) := by
  intro a0 k
  unfold pledgeref39_guess.f
  repeat' first
      | (with_reducible exact pledgeref34_Bytes.mono _ _ _ _ _ _ _ _ _)
      | (with_reducible exact pledgeref39_asked.mono _ _)
      | (with_reducible exact pledgeref39_bytes.mono _ _)
      | (with_reducible exact pledgeref39_value.mono _ _)
      | (with_reducible exact LeO.refl _)
      | (with_reducible exact LeO.none _)
      | (with_reducible refine LeO.ite ?_ ?_)
      | (with_reducible refine LeO.bind ?_ (fun _ => ?_))
      | exact pledgeref34_Bytes.mono _ _ _ _ _ _ _ _ _
      | exact pledgeref39_asked.mono _ _
      | exact pledgeref39_bytes.mono _ _
      | exact pledgeref39_value.mono _ _
      | exact LeO.none _
      | refine LeO.ite ?_ ?_
      | refine LeO.bind ?_ (fun _ => ?_)
set_option maxHeartbeats 8000000 in
set_option maxRecDepth 100000 in
theorem pledgeref39_guess.calls (k : Nat) (A0 : Option Addr) (c0 : Nat) (l0 : List ByteArray) (r1 : Int) (r2 : Int) (r3 : Int) (r4 : Int) (r5 : List Int) (w : World) (hr0 : Kd.C Kd.string w A0 l0.length l0) (hc0 : l0.length ≤ c0) (h : pledgeref39_guess.f k l0 = some (r1, r2, r3, r4, r5)) :
    Calls Tryz.prog 22 #[.slice A0 l0.length c0] w fun e w' => ∃ v4_ : Value, e = .returned (.agg #[.int .u8 r1, .int .u32 r2, .int .i64 r3, .int .i64 r4, v4_]) ∧ Kd.R (Kd.int .u8) 5 w' w.heap.size (fun _ => True) v4_ r5 ∧ Below w.heap.size w w' := by
  have hu25 := Tryz.underlying25
  have hu51 := Tryz.underlying51
  have HR0 := Aside0.mk hr0
  have HC0 := Aside0.mk hc0
  clear hr0 hc0
  have HB := Aside0.mk (Below.refl w.heap.size w)
  have H : ((pledgeref39_at.f l0 1).bind fun t398 => ((pledgeref39_value.f k t398).bind fun t399 => (if 0 < (l0.length : Int) then (if (rdOf ByteArray.empty l0 0).toList = ([112, 105, 99, 107] : List UInt8) then (some (2, (t399) % 4294967296, 0, 0, ([] : List Int))) else (if (rdOf ByteArray.empty l0 0).toList = ([107, 105, 108, 108] : List UInt8) then (some (3, (t399) % 4294967296, 0, 0, ([] : List Int))) else (if (rdOf ByteArray.empty l0 0).toList = ([119, 114, 105, 116, 101] : List UInt8) then (some (4, 0, 0, 0, ([] : List Int))) else (if (rdOf ByteArray.empty l0 0).toList = ([115, 121, 110, 99] : List UInt8) then (some (5, 0, 0, 0, ([] : List Int))) else (if (rdOf ByteArray.empty l0 0).toList = ([99, 107, 112, 116] : List UInt8) then (some (6, 0, 0, 0, ([] : List Int))) else (if (rdOf ByteArray.empty l0 0).toList = ([99, 114, 97, 115, 104] : List UInt8) then ((pledgeref39_at.f l0 2).bind fun t401 => ((pledgeref39_value.f k t401).bind fun t402 => (some (7, 0, t399, t402, ([] : List Int))))) else (if (rdOf ByteArray.empty l0 0).toList = ([98, 111, 111, 116] : List UInt8) then (some (8, 0, 0, 0, ([] : List Int))) else (if (rdOf ByteArray.empty l0 0).toList = ([97, 115, 107] : List UInt8) then ((pledgeref39_at.f l0 1).bind fun t403 => ((pledgeref39_bytes.f k t403).bind fun t404 => (some (1, 0, 0, 0, t404)))) else ((pledgeref39_asked.f k l0).bind fun bt407 => ((pledgeref34_Plain.f bt407.1 bt407.2.1 bt407.2.2.1 bt407.2.2.2.1 bt407.2.2.2.2.1 bt407.2.2.2.2.2.1 bt407.2.2.2.2.2.2.1 bt407.2.2.2.2.2.2.2).bind fun t418 => (if t418 = true then ((pledgeref34_Bytes.f k bt407.1 bt407.2.1 bt407.2.2.1 bt407.2.2.2.1 bt407.2.2.2.2.1 bt407.2.2.2.2.2.1 bt407.2.2.2.2.2.2.1 bt407.2.2.2.2.2.2.2).bind fun t419 => (some (1, 0, 0, 0, t419))) else (some (0, 0, 0, 0, ([] : List Int)))))))))))))) else (none)))) = some (r1, r2, r3, r4, r5) := h
  clear h
  obtain ⟨t398, A2, H⟩ := zO H
  try dsimp only at H
  obtain ⟨t399, A3, H⟩ := zO H
  try dsimp only at H
  by_cases c4 : 0 < (l0.length : Int)
  focus
    rw [if_pos c4] at H
    have c4b0 := decide_eq_true c4
    have c4b1 : decide (0 < l0.length) = true := decide_eq_true (by omega)
    clear c4
    by_cases c5 : (rdOf ByteArray.empty l0 0).toList = ([112, 105, 99, 107] : List UInt8)
    focus
      rw [if_pos c5] at H
      obtain ⟨c5b0, c5b1⟩ := zeq c5
      clear c5
      simp only [Option.some.injEq, Prod.mk.injEq] at H
      obtain ⟨rfl, rfl, rfl, rfl, rfl⟩ := H
    rotate_left
    rw [if_neg c5] at H
    obtain ⟨c5b0, c5b1⟩ := zne c5
    by_cases c8 : (rdOf ByteArray.empty l0 0).toList = ([107, 105, 108, 108] : List UInt8)
    focus
      rw [if_pos c8] at H
      obtain ⟨c8b0, c8b1⟩ := zeq c8
      clear c8
      simp only [Option.some.injEq, Prod.mk.injEq] at H
      obtain ⟨rfl, rfl, rfl, rfl, rfl⟩ := H
    rotate_left
    rw [if_neg c8] at H
    obtain ⟨c8b0, c8b1⟩ := zne c8
    by_cases c11 : (rdOf ByteArray.empty l0 0).toList = ([119, 114, 105, 116, 101] : List UInt8)
    focus
      rw [if_pos c11] at H
      obtain ⟨c11b0, c11b1⟩ := zeq c11
      clear c11
      simp only [Option.some.injEq, Prod.mk.injEq] at H
      obtain ⟨rfl, rfl, rfl, rfl, rfl⟩ := H
    rotate_left
    rw [if_neg c11] at H
    obtain ⟨c11b0, c11b1⟩ := zne c11
    by_cases c14 : (rdOf ByteArray.empty l0 0).toList = ([115, 121, 110, 99] : List UInt8)
    focus
      rw [if_pos c14] at H
      obtain ⟨c14b0, c14b1⟩ := zeq c14
      clear c14
      simp only [Option.some.injEq, Prod.mk.injEq] at H
      obtain ⟨rfl, rfl, rfl, rfl, rfl⟩ := H
    rotate_left
    rw [if_neg c14] at H
    obtain ⟨c14b0, c14b1⟩ := zne c14
    by_cases c17 : (rdOf ByteArray.empty l0 0).toList = ([99, 107, 112, 116] : List UInt8)
    focus
      rw [if_pos c17] at H
      obtain ⟨c17b0, c17b1⟩ := zeq c17
      clear c17
      simp only [Option.some.injEq, Prod.mk.injEq] at H
      obtain ⟨rfl, rfl, rfl, rfl, rfl⟩ := H
    rotate_left
    rw [if_neg c17] at H
    obtain ⟨c17b0, c17b1⟩ := zne c17
    by_cases c20 : (rdOf ByteArray.empty l0 0).toList = ([99, 114, 97, 115, 104] : List UInt8)
    focus
      rw [if_pos c20] at H
      obtain ⟨c20b0, c20b1⟩ := zeq c20
      clear c20
      obtain ⟨t401, A21, H⟩ := zO H
      try dsimp only at H
      obtain ⟨t402, A22, H⟩ := zO H
      try dsimp only at H
      simp only [Option.some.injEq, Prod.mk.injEq] at H
      obtain ⟨rfl, rfl, rfl, rfl, rfl⟩ := H
    rotate_left
    rw [if_neg c20] at H
    obtain ⟨c20b0, c20b1⟩ := zne c20
    by_cases c25 : (rdOf ByteArray.empty l0 0).toList = ([98, 111, 111, 116] : List UInt8)
    focus
      rw [if_pos c25] at H
      obtain ⟨c25b0, c25b1⟩ := zeq c25
      clear c25
      simp only [Option.some.injEq, Prod.mk.injEq] at H
      obtain ⟨rfl, rfl, rfl, rfl, rfl⟩ := H
    rotate_left
    rw [if_neg c25] at H
    obtain ⟨c25b0, c25b1⟩ := zne c25
    by_cases c28 : (rdOf ByteArray.empty l0 0).toList = ([97, 115, 107] : List UInt8)
    focus
      rw [if_pos c28] at H
      obtain ⟨c28b0, c28b1⟩ := zeq c28
      clear c28
      obtain ⟨t403, A29, H⟩ := zO H
      try dsimp only at H
      obtain ⟨t404, A30, H⟩ := zO H
      try dsimp only at H
      simp only [Option.some.injEq, Prod.mk.injEq] at H
      obtain ⟨rfl, rfl, rfl, rfl, rfl⟩ := H
    rotate_left
    rw [if_neg c28] at H
    obtain ⟨c28b0, c28b1⟩ := zne c28
    obtain ⟨⟨t407, t408, t409, t410, t413, t414, t415, t416⟩, A35, H⟩ := zO H
    try dsimp only at H
    obtain ⟨t418, A36, H⟩ := zO H
    try dsimp only at H
    by_cases c37 : t418 = true
    focus
      subst c37
      have H1 : ((pledgeref34_Bytes.f k t407 t408 t409 t410 t413 t414 t415 t416).bind fun t419 => (some (1, 0, 0, 0, t419))) = some (r1, r2, r3, r4, r5) := by rw [if_pos rfl] at H; exact H
      clear H
      have H := H1
      clear H1
      obtain ⟨t419, A38, H⟩ := zO H
      try dsimp only at H
      simp only [Option.some.injEq, Prod.mk.injEq] at H
      obtain ⟨rfl, rfl, rfl, rfl, rfl⟩ := H
    rotate_left
    replace c37 := Bool.eq_false_iff.mpr c37
    subst c37
    have H1 : (some (0, 0, 0, 0, ([] : List Int))) = some (r1, r2, r3, r4, r5) := by rw [if_neg (show ¬ (false = true) by decide)] at H; exact H
    clear H
    have H := H1
    clear H1
    simp only [Option.some.injEq, Prod.mk.injEq] at H
    obtain ⟨rfl, rfl, rfl, rfl, rfl⟩ := H
  rotate_left 10
  · rw [if_neg c4] at H
    exact absurd H (by simp)
  all_goals go_enter Tryz.func22, Tryz.ntmps22
  all_goals go_wp2_with (first | ((with_reducible refine gate_dst (N := 2) rfl ?_); refine zbox (N := 2) (cs := #[.int .u8 0, .int .u32 0, .int .i64 0, .int .i64 0, .slice none 0 0]) (t := 25) (h := ?_); intro gbx1 hg wx1 hbox hb; have BKx1 := Aside0.mk (hbox); have GWx1 := zG (p := w.heap.size ≤ gbx1); have GEx1 := GWx1; replace HB := zH hb; clear hb hbox hg) | ((with_reducible refine gate_callee (f := 43) rfl ?_); refine goesZ (some 34) Tryz.func43 (args := #[.slice (some adx1) l0.length c0, .int .i64 2]) (h := ?_); (with_reducible refine (pledgeref39_at.calls _ _ l0 2 t401 _ ?side1 ?side2 A21.out).mono ?_); (case side1 => exact zC (Kd.C_below HR0.out HB.out)); (case side2 => exact HC0.out); rintro e w' ⟨rfl, ⟨nd, rfl⟩⟩; refine ⟨_, rfl, ?_⟩; (try (rw [drewN_self wx1]; generalize hq_ : World.drewN wx1 _ = wx1; replace BKx1 := qW22x5; replace HB := qW22x6; clear hq_))) | ((with_reducible refine gate_callee (f := 43) rfl ?_); refine goesZ (some 43) Tryz.func43 (args := #[.slice (some adx1) l0.length c0, .int .i64 1]) (h := ?_); (with_reducible refine (pledgeref39_at.calls _ _ l0 1 t403 _ ?side1 ?side2 A29.out).mono ?_); (case side1 => exact zC (Kd.C_below HR0.out HB.out)); (case side2 => exact HC0.out); rintro e w' ⟨rfl, ⟨nd, rfl⟩⟩; refine ⟨_, rfl, ?_⟩; (try (rw [drewN_self wx1]; generalize hq_ : World.drewN wx1 _ = wx1; replace BKx1 := qW22x5; replace HB := qW22x6; clear hq_))) | ((with_reducible refine gate_callee (f := 43) rfl ?_); refine goesZ (some 6) Tryz.func43 (args := #[.slice A0 l0.length c0, .int .i64 1]) (h := ?_); (with_reducible refine (pledgeref39_at.calls _ _ l0 1 t398 _ ?side1 ?side2 A2.out).mono ?_); (case side1 => exact zC (Kd.C_below HR0.out HB.out)); (case side2 => exact HC0.out); rintro e w' ⟨rfl, ⟨nd, rfl⟩⟩; refine ⟨_, rfl, ?_⟩; (try (rw [drewN_self wx1]; generalize hq_ : World.drewN wx1 _ = wx1; replace BKx1 := qW22x5; replace HB := qW22x6; clear hq_))) | ((with_reducible refine gate_callee (f := 42) rfl ?_); refine goesZ (some 7) Tryz.func42 (args := #[.string t398]) (h := ?_); (with_reducible refine (pledgeref39_value.calls k t398 t399 _ A3.out).mono ?_); rintro e w' ⟨rfl, ⟨nd, rfl⟩⟩; refine ⟨_, rfl, ?_⟩; (try (rw [drewN_self wx1]; generalize hq_ : World.drewN wx1 _ = wx1; replace BKx1 := qW22x5; replace HB := qW22x6; clear hq_)); have px1 : 0 ≤ (0 : Int) := (by omega); have qx1 : 0 < (l0.length : Int) := of_decide_eq_true zas; obtain ⟨adx1, ex1, hxx1⟩ := Kd.at_string HR0.out 0 px1 qx1; cases ex1; have qix1 : (0 < l0.length) = True := eq_true (by omega); (try rw [show ((0 : Int)).toNat = 0 from rfl] at hxx1); (try rw [Addr.add_zero'] at hxx1); replace hxx1 := (HB.out.cell (World.block_lt_of_cell? w _ hxx1)).trans hxx1; replace px1 := eq_true px1; replace qx1 := eq_true qx1; have hczx1 := zcf5 BKx1.out) | ((with_reducible refine gate_callee (f := 42) rfl ?_); refine goesZ (some 7) Tryz.func42 (args := #[.string t398]) (h := ?_); (with_reducible refine (pledgeref39_value.calls k t398 t399 _ A3.out).mono ?_); rintro e w' ⟨rfl, ⟨nd, rfl⟩⟩; refine ⟨_, rfl, ?_⟩; (try (rw [drewN_self wx1]; generalize hq_ : World.drewN wx1 _ = wx1; replace BKx1 := qW22x5; replace HB := qW22x6; clear hq_)); have px1 : 0 ≤ (0 : Int) := (by omega); have qx1 : 0 < (l0.length : Int) := of_decide_eq_true zas; obtain ⟨adx1, ex1, hxx1⟩ := Kd.at_string HR0.out 0 px1 qx1; cases ex1; have qix1 : (0 < l0.length) = True := eq_true (by omega); (try rw [show ((0 : Int)).toNat = 0 from rfl] at hxx1); (try rw [Addr.add_zero'] at hxx1); replace hxx1 := (HB.out.cell (World.block_lt_of_cell? w _ hxx1)).trans hxx1; replace px1 := eq_true px1; replace qx1 := eq_true qx1) | ((with_reducible refine gate_callee (f := 42) rfl ?_); refine goesZ (some 35) Tryz.func42 (args := #[.string t401]) (h := ?_); (with_reducible refine (pledgeref39_value.calls k t401 t402 _ A22.out).mono ?_); rintro e w' ⟨rfl, ⟨nd, rfl⟩⟩; refine ⟨_, rfl, ?_⟩; (try (rw [drewN_self wx1]; generalize hq_ : World.drewN wx1 _ = wx1; replace BKx1 := qW22x5; replace HB := qW22x6; clear hq_)); have hczx1 := zcf5 BKx1.out) | ((with_reducible refine gate_callee (f := 44) rfl ?_); refine goesZ (some 44) Tryz.func44 (args := #[.string t403]) (h := ?_); (with_reducible refine (pledgeref39_bytes.calls k t403 t404 _ A30.out).mono ?_); rintro e wx2 ⟨vx1, rfl, hox1, hb⟩; refine ⟨_, rfl, ?_⟩; have HOx1 := qW22x3; replace BKx1 := zJ BKx1 hb; replace HB := zH hb; clear hb hox1; obtain ⟨Aox1, cox1, eox1⟩ := Kd.R_slice HOx1.out; subst eox1; have hczx1 := zcf5 BKx1.out) | ((with_reducible refine gate_callee (f := 45) rfl ?_); refine goesZ (some 47) Tryz.func45 (args := #[.slice (some adx1) l0.length c0]) (h := ?_); (with_reducible refine (pledgeref39_asked.calls k _ _ l0 t407 t408 t409 t410 t413 t414 t415 t416 _ ?side1 ?side2 A35.out).mono ?_); (case side1 => exact zC (Kd.C_below HR0.out HB.out)); (case side2 => exact HC0.out); rintro e wx2 ⟨vx1, rfl, hox1, hb⟩; refine ⟨_, rfl, ?_⟩; have HOx1 := qW22x3; replace BKx1 := zJ BKx1 hb; replace HB := zH hb; clear hb hox1) | ((with_reducible refine gate_dst (N := 4) rfl ?_); refine zbox (N := 4) (cs := #[.int .u8 0, .int .u32 0, .int .u8 0, .slice none 0 0, .int .u8 0, .int .u8 0, .int .u8 0, .int .i64 0]) (t := 51) (h := ?_); intro gbx2 hg wx3 hbox hb; replace HOx1 := zP HOx1 hb; have BKx2 := Aside0.mk (hbox); have GWx2 := zG (p := w.heap.size ≤ gbx2); have GEx2 := GWx2; have NBx1 := zNlt BKx1.out (p := gbx1 ≠ gbx2); have NBx2 := zNgt BKx1.out (p := gbx2 ≠ gbx1); replace BKx1 := zJ BKx1 hb; replace HB := zH hb; clear hb hbox hg; have hnbx1 := NBx2.out; have hncx1 := NBx1.out; have hczx1 := zcf8 BKx2.out; obtain ⟨Aox1, cox1, eox1⟩ := Kd.R_slice HOx1.out; subst eox1) | ((with_reducible refine gate_callee (f := 46) rfl ?_); refine goesZ (some 49) Tryz.func46 (args := #[.agg #[.int .u8 t407, .int .u32 t408, .int .u8 t409, .slice Aox1 t410.length cox1, .int .u8 t413, .int .u8 t414, .int .u8 t415, .int .i64 t416]]) (h := ?_); (with_reducible refine (pledgeref34_Plain.calls t407 t408 t409 _ _ t410 t413 t414 t415 t416 false _ ?side1 ?side2 A36.out).mono ?_); (case side1 => refine (Kd.R_reads' (e := 90) (base := w.heap.size) (ok := fun k_ => True) (n := t410.length) (c := cox1) ?_).2.2; exact qW22x1); (case side2 => exact (Kd.R_reads' HOx1.out).2.1); rintro e wx4 ⟨rfl, hb⟩; refine ⟨_, rfl, ?_⟩; replace HOx1 := Aside0.mk (Kd.R_below qW22x1 hb); replace BKx1 := Aside0.mk (blk_below (g := gbx1) (o := .cells #[.int .u8 0, .int .u32 0, .int .i64 0, .int .i64 0, .slice none 0 0] 25 (0, 0)) (by (with_reducible repeat (first | refine blk_drewN ?_ _ | refine blk_drew ?_ | refine blk_alloc ?_ _)); refine blk_far ?_ NBx1.out _; (with_reducible repeat (first | refine blk_drewN ?_ _ | refine blk_drew ?_ | refine blk_alloc ?_ _)); refine blk_far ?_ NBx1.out _; (with_reducible repeat (first | refine blk_drewN ?_ _ | refine blk_drew ?_ | refine blk_alloc ?_ _)); refine blk_far ?_ NBx1.out _; (with_reducible repeat (first | refine blk_drewN ?_ _ | refine blk_drew ?_ | refine blk_alloc ?_ _)); refine blk_far ?_ NBx1.out _; (with_reducible repeat (first | refine blk_drewN ?_ _ | refine blk_drew ?_ | refine blk_alloc ?_ _)); refine blk_far ?_ NBx1.out _; (with_reducible repeat (first | refine blk_drewN ?_ _ | refine blk_drew ?_ | refine blk_alloc ?_ _)); refine blk_far ?_ NBx1.out _; (with_reducible repeat (first | refine blk_drewN ?_ _ | refine blk_drew ?_ | refine blk_alloc ?_ _)); refine blk_far ?_ NBx1.out _; (with_reducible repeat (first | refine blk_drewN ?_ _ | refine blk_drew ?_ | refine blk_alloc ?_ _)); refine blk_far ?_ NBx1.out _; (with_reducible repeat (first | refine blk_drewN ?_ _ | refine blk_drew ?_ | refine blk_alloc ?_ _)); exact BKx1.out) hb); replace HB := zH hb; replace BKx2 := Aside0.mk (blk_below (g := gbx2) (o := .cells #[.int .u8 t407, .int .u32 t408, .int .u8 t409, .slice Aox1 t410.length cox1, .int .u8 t413, .int .u8 t414, .int .u8 t415, .int .i64 t416] 51 (0, 0)) (zQ BKx2.out) hb); clear hb; have hczx2 := zcf5 BKx1.out) | ((with_reducible refine gate_callee (f := 46) rfl ?_); refine goesZ (some 49) Tryz.func46 (args := #[.agg #[.int .u8 t407, .int .u32 t408, .int .u8 t409, .slice Aox1 t410.length cox1, .int .u8 t413, .int .u8 t414, .int .u8 t415, .int .i64 t416]]) (h := ?_); (with_reducible refine (pledgeref34_Plain.calls t407 t408 t409 _ _ t410 t413 t414 t415 t416 true _ ?side1 ?side2 A36.out).mono ?_); (case side1 => refine (Kd.R_reads' (e := 90) (base := w.heap.size) (ok := fun k_ => True) (n := t410.length) (c := cox1) ?_).2.2; exact qW22x1); (case side2 => exact (Kd.R_reads' HOx1.out).2.1); rintro e wx4 ⟨rfl, hb⟩; refine ⟨_, rfl, ?_⟩; replace HOx1 := Aside0.mk (Kd.R_below qW22x1 hb); replace BKx1 := Aside0.mk (blk_below (g := gbx1) (o := .cells #[.int .u8 0, .int .u32 0, .int .i64 0, .int .i64 0, .slice none 0 0] 25 (0, 0)) (by (with_reducible repeat (first | refine blk_drewN ?_ _ | refine blk_drew ?_ | refine blk_alloc ?_ _)); refine blk_far ?_ NBx1.out _; (with_reducible repeat (first | refine blk_drewN ?_ _ | refine blk_drew ?_ | refine blk_alloc ?_ _)); refine blk_far ?_ NBx1.out _; (with_reducible repeat (first | refine blk_drewN ?_ _ | refine blk_drew ?_ | refine blk_alloc ?_ _)); refine blk_far ?_ NBx1.out _; (with_reducible repeat (first | refine blk_drewN ?_ _ | refine blk_drew ?_ | refine blk_alloc ?_ _)); refine blk_far ?_ NBx1.out _; (with_reducible repeat (first | refine blk_drewN ?_ _ | refine blk_drew ?_ | refine blk_alloc ?_ _)); refine blk_far ?_ NBx1.out _; (with_reducible repeat (first | refine blk_drewN ?_ _ | refine blk_drew ?_ | refine blk_alloc ?_ _)); refine blk_far ?_ NBx1.out _; (with_reducible repeat (first | refine blk_drewN ?_ _ | refine blk_drew ?_ | refine blk_alloc ?_ _)); refine blk_far ?_ NBx1.out _; (with_reducible repeat (first | refine blk_drewN ?_ _ | refine blk_drew ?_ | refine blk_alloc ?_ _)); refine blk_far ?_ NBx1.out _; (with_reducible repeat (first | refine blk_drewN ?_ _ | refine blk_drew ?_ | refine blk_alloc ?_ _)); exact BKx1.out) hb); replace HB := zH hb; replace BKx2 := Aside0.mk (blk_below (g := gbx2) (o := .cells #[.int .u8 t407, .int .u32 t408, .int .u8 t409, .slice Aox1 t410.length cox1, .int .u8 t413, .int .u8 t414, .int .u8 t415, .int .i64 t416] 51 (0, 0)) (zQ BKx2.out) hb); clear hb; have hczx2 := zcf8 BKx2.out) | ((with_reducible refine gate_callee (f := 47) rfl ?_); refine goesZ (some 53) Tryz.func47 (args := #[.agg #[.int .u8 t407, .int .u32 t408, .int .u8 t409, .slice Aox1 t410.length cox1, .int .u8 t413, .int .u8 t414, .int .u8 t415, .int .i64 t416]]) (h := ?_); (with_reducible refine (pledgeref34_Bytes.calls k t407 t408 t409 _ _ t410 t413 t414 t415 t416 t419 _ ?side1 ?side2 A38.out).mono ?_); (case side1 => exact zC ((Kd.R_reads' HOx1.out).2.2)); (case side2 => exact (Kd.R_reads' HOx1.out).2.1); rintro e wx5 ⟨vx2, rfl, hox1, hb⟩; refine ⟨_, rfl, ?_⟩; replace HOx1 := zP HOx1 hb; have HOx2 := qW22x3; replace BKx1 := zJ BKx1 hb; replace BKx2 := zJ BKx2 hb; replace HB := zH hb; clear hb hox1; obtain ⟨Aox2, cox2, eox2⟩ := Kd.R_slice HOx2.out; subst eox2; have hczx3 := zcf5 BKx1.out))
  all_goals first | (refine bodyPost_ret (results_cell_row rfl _ _ gbx1 25 #[.int .u8 1, .int .u32 0, .int .i64 0, .int .i64 0, .slice Aox1 t404.length cox1] (0, 0) _ rfl (zQ BKx1.out) Tryz.underlying25 rfl qW22x4) rfl ?_; exact ⟨_, zer, by (with_reducible repeat (first | apply Kd.R_alloc | apply Kd.R_drewN | apply Kd.R_drew)); exact Kd.R_mono (Kd.R_far (p := ⟨gbx1, 4, none⟩) (Kd.R_far (p := ⟨gbx1, 3, none⟩) (Kd.R_far (p := ⟨gbx1, 2, none⟩) (Kd.R_far (p := ⟨gbx1, 1, none⟩) (Kd.R_far (p := ⟨gbx1, 0, none⟩) (Kd.R_types HOx1.out BKx1.out (by decide)) (fun _ hk => hk.2) (.int .u8 1)) (fun _ hk => hk.2) (.int .u32 0)) (fun _ hk => hk.2) (.int .i64 0)) (fun _ hk => hk.2) (.int .i64 0)) (fun _ hk => hk.2) (.slice Aox1 t404.length cox1)) (fun _ hk => trivial), zB⟩) | (refine bodyPost_ret (results_cell_row rfl _ _ gbx1 25 #[.int .u8 1, .int .u32 0, .int .i64 0, .int .i64 0, .slice Aox2 t419.length cox2] (0, 0) _ rfl (zQ BKx1.out) Tryz.underlying25 rfl qW22x4) rfl ?_; exact ⟨_, zer, by (with_reducible repeat (first | apply Kd.R_alloc | apply Kd.R_drewN | apply Kd.R_drew)); exact Kd.R_mono (Kd.R_far (p := ⟨gbx1, 4, none⟩) (Kd.R_far (p := ⟨gbx1, 3, none⟩) (Kd.R_far (p := ⟨gbx1, 2, none⟩) (Kd.R_far (p := ⟨gbx1, 1, none⟩) (Kd.R_far (p := ⟨gbx1, 0, none⟩) (Kd.R_types HOx2.out BKx1.out (by decide)) (fun _ hk => hk.2) (.int .u8 1)) (fun _ hk => hk.2) (.int .u32 0)) (fun _ hk => hk.2) (.int .i64 0)) (fun _ hk => hk.2) (.int .i64 0)) (fun _ hk => hk.2) (.slice Aox2 t419.length cox2)) (fun _ hk => trivial), zB⟩) | (refine bodyPost_ret (results_cell_row rfl _ _ gbx1 25 #[.int .u8 2, .int .u32 ((t399) % 4294967296), .int .i64 0, .int .i64 0, .slice none 0 0] (0, 0) _ rfl (zQ BKx1.out) Tryz.underlying25 rfl qW22x4) rfl ?_; exact ⟨_, zer, znil, zB⟩) | (refine bodyPost_ret (results_cell_row rfl _ _ gbx1 25 #[.int .u8 3, .int .u32 ((t399) % 4294967296), .int .i64 0, .int .i64 0, .slice none 0 0] (0, 0) _ rfl (zQ BKx1.out) Tryz.underlying25 rfl qW22x4) rfl ?_; exact ⟨_, zer, znil, zB⟩) | (refine bodyPost_ret (results_cell_row rfl _ _ gbx1 25 #[.int .u8 7, .int .u32 0, .int .i64 t399, .int .i64 t402, .slice none 0 0] (0, 0) _ rfl (zQ BKx1.out) Tryz.underlying25 rfl qW22x4) rfl ?_; exact ⟨_, zer, znil, zB⟩) | (refine bodyPost_ret (results_cell_row rfl _ _ gbx1 25 #[.int .u8 4, .int .u32 0, .int .i64 0, .int .i64 0, .slice none 0 0] (0, 0) _ rfl (zQ BKx1.out) Tryz.underlying25 rfl qW22x4) rfl ?_; exact ⟨_, zer, znil, zB⟩) | (refine bodyPost_ret (results_cell_row rfl _ _ gbx1 25 #[.int .u8 5, .int .u32 0, .int .i64 0, .int .i64 0, .slice none 0 0] (0, 0) _ rfl (zQ BKx1.out) Tryz.underlying25 rfl qW22x4) rfl ?_; exact ⟨_, zer, znil, zB⟩) | (refine bodyPost_ret (results_cell_row rfl _ _ gbx1 25 #[.int .u8 6, .int .u32 0, .int .i64 0, .int .i64 0, .slice none 0 0] (0, 0) _ rfl (zQ BKx1.out) Tryz.underlying25 rfl qW22x4) rfl ?_; exact ⟨_, zer, znil, zB⟩) | (refine bodyPost_ret (results_cell_row rfl _ _ gbx1 25 #[.int .u8 8, .int .u32 0, .int .i64 0, .int .i64 0, .slice none 0 0] (0, 0) _ rfl (zQ BKx1.out) Tryz.underlying25 rfl qW22x4) rfl ?_; exact ⟨_, zer, znil, zB⟩) | (refine bodyPost_ret (results_cell_row rfl _ _ gbx1 25 #[.int .u8 0, .int .u32 0, .int .i64 0, .int .i64 0, .slice none 0 0] (0, 0) _ rfl (zQ BKx1.out) Tryz.underlying25 rfl qW22x4) rfl ?_; exact ⟨_, zer, znil, zB⟩)

/-! ### pledgeref39_Read: function 9 -/
def pledgeref39_Read.f (k : Nat) (a0 : ByteArray) : Option (Int × Int × Int × Int × List Int × Int) := (pledgeref39_cut.f k a0 32).bind fun t423 => ((pledgeref39_guess.f k t423).bind fun bt426 => ((pledgeref38_Good.f bt426.1 bt426.2.1 bt426.2.2.1 bt426.2.2.2.1 bt426.2.2.2.2).bind fun t434 => (if t434 = true then ((pledgeref39_Line.f k bt426.1 bt426.2.1 bt426.2.2.1 bt426.2.2.2.1 bt426.2.2.2.2).bind fun t435 => (if t435.toList = a0.toList then (some (bt426.1, bt426.2.1, bt426.2.2.1, bt426.2.2.2.1, bt426.2.2.2.2, 0)) else (some (0, 0, 0, 0, ([] : List Int), 8)))) else (some (0, 0, 0, 0, ([] : List Int), 8)))))
theorem pledgeref39_Read.mono : ∀ a0 k, LeO (pledgeref39_Read.f k a0) (pledgeref39_Read.f (k + 1) a0) := by
  intro a0 k
  unfold pledgeref39_Read.f
  repeat' first
      | (with_reducible exact pledgeref39_Line.mono _ _ _ _ _ _)
      | (with_reducible exact pledgeref39_cut.mono _ _ _)
      | (with_reducible exact pledgeref39_guess.mono _ _)
      | (with_reducible exact LeO.refl _)
      | (with_reducible exact LeO.none _)
      | (with_reducible refine LeO.ite ?_ ?_)
      | (with_reducible refine LeO.bind ?_ (fun _ => ?_))
      | exact pledgeref39_Line.mono _ _ _ _ _ _
      | exact pledgeref39_cut.mono _ _ _
      | exact pledgeref39_guess.mono _ _
      | exact LeO.none _
      | refine LeO.ite ?_ ?_
      | refine LeO.bind ?_ (fun _ => ?_)
set_option maxHeartbeats 8000000 in
set_option maxRecDepth 100000 in
theorem pledgeref39_Read.calls (k : Nat) (a0 : ByteArray) (r1 : Int) (r2 : Int) (r3 : Int) (r4 : Int) (r5 : List Int) (r6 : Int) (w : World) (h : pledgeref39_Read.f k a0 = some (r1, r2, r3, r4, r5, r6)) :
    Calls Tryz.prog 9 #[.string a0] w fun e w' => ∃ v4_ : Value, e = .returned (.tuple #[.agg #[.int .u8 r1, .int .u32 r2, .int .i64 r3, .int .i64 r4, v4_], .int .i64 r6]) ∧ Kd.R (Kd.int .u8) 5 w' w.heap.size (fun _ => True) v4_ r5 ∧ Below w.heap.size w w' := by
  have hu25 := Tryz.underlying25
  have HB := Aside0.mk (Below.refl w.heap.size w)
  have H : ((pledgeref39_cut.f k a0 32).bind fun t423 => ((pledgeref39_guess.f k t423).bind fun bt426 => ((pledgeref38_Good.f bt426.1 bt426.2.1 bt426.2.2.1 bt426.2.2.2.1 bt426.2.2.2.2).bind fun t434 => (if t434 = true then ((pledgeref39_Line.f k bt426.1 bt426.2.1 bt426.2.2.1 bt426.2.2.2.1 bt426.2.2.2.2).bind fun t435 => (if t435.toList = a0.toList then (some (bt426.1, bt426.2.1, bt426.2.2.1, bt426.2.2.2.1, bt426.2.2.2.2, 0)) else (some (0, 0, 0, 0, ([] : List Int), 8)))) else (some (0, 0, 0, 0, ([] : List Int), 8)))))) = some (r1, r2, r3, r4, r5, r6) := h
  clear h
  obtain ⟨t423, A2, H⟩ := zO H
  try dsimp only at H
  obtain ⟨⟨t426, t427, t428, t429, t430⟩, A3, H⟩ := zO H
  try dsimp only at H
  obtain ⟨t434, A4, H⟩ := zO H
  try dsimp only at H
  by_cases c5 : t434 = true
  focus
    subst c5
    have H1 : ((pledgeref39_Line.f k t426 t427 t428 t429 t430).bind fun t435 => (if t435.toList = a0.toList then (some (t426, t427, t428, t429, t430, 0)) else (some (0, 0, 0, 0, ([] : List Int), 8)))) = some (r1, r2, r3, r4, r5, r6) := by rw [if_pos rfl] at H; exact H
    clear H
    have H := H1
    clear H1
    obtain ⟨t435, A6, H⟩ := zO H
    try dsimp only at H
    by_cases c7 : t435.toList = a0.toList
    focus
      rw [if_pos c7] at H
      obtain ⟨c7b0, c7b1⟩ := zeq c7
      clear c7
      simp only [Option.some.injEq, Prod.mk.injEq] at H
      obtain ⟨rfl, rfl, rfl, rfl, rfl, rfl⟩ := H
    rotate_left
    rw [if_neg c7] at H
    obtain ⟨c7b0, c7b1⟩ := zne c7
    simp only [Option.some.injEq, Prod.mk.injEq] at H
    obtain ⟨rfl, rfl, rfl, rfl, rfl, rfl⟩ := H
  rotate_left 2
  replace c5 := Bool.eq_false_iff.mpr c5
  subst c5
  have H1 : (some (0, 0, 0, 0, ([] : List Int), 8)) = some (r1, r2, r3, r4, r5, r6) := by rw [if_neg (show ¬ (false = true) by decide)] at H; exact H
  clear H
  have H := H1
  clear H1
  simp only [Option.some.injEq, Prod.mk.injEq] at H
  obtain ⟨rfl, rfl, rfl, rfl, rfl, rfl⟩ := H
  all_goals go_enter Tryz.func9, Tryz.ntmps9
  all_goals go_wp2_with (first | ((with_reducible refine gate_dst (N := 2) rfl ?_); refine zbox (N := 2) (cs := #[.int .u8 0, .int .u32 0, .int .i64 0, .int .i64 0, .slice none 0 0]) (t := 25) (h := ?_); intro gbx1 hg wx1 hbox hb; have BKx1 := Aside0.mk (hbox); have GWx1 := zG (p := w.heap.size ≤ gbx1); have GEx1 := GWx1; replace HB := zH hb; clear hb hbox hg) | ((with_reducible refine gate_callee (f := 23) rfl ?_); refine goesZ (some 6) Tryz.func23 (args := #[.string a0, .int .u8 32]) (h := ?_); (with_reducible refine (pledgeref39_cut.calls k a0 32 t423 _ A2.out).mono ?_); rintro e wx2 ⟨vx1, rfl, hox1, hb⟩; refine ⟨_, rfl, ?_⟩; have HOx1 := qW22x3; replace BKx1 := zJ BKx1 hb; replace HB := zH hb; clear hb hox1; obtain ⟨Aox1, cox1, eox1⟩ := Kd.R_slice HOx1.out; subst eox1) | ((with_reducible refine gate_callee (f := 22) rfl ?_); refine goesZ (some 7) Tryz.func22 (args := #[.slice Aox1 t423.length cox1]) (h := ?_); (with_reducible refine (pledgeref39_guess.calls k _ _ t423 t426 t427 t428 t429 t430 _ ?side1 ?side2 A3.out).mono ?_); (case side1 => exact zC ((Kd.R_reads' HOx1.out).2.2)); (case side2 => exact (Kd.R_reads' HOx1.out).2.1); rintro e wx3 ⟨vx2, rfl, hox1, hb⟩; refine ⟨_, rfl, ?_⟩; replace HOx1 := zP HOx1 hb; have HOx2 := qW22x3; replace BKx1 := zJ BKx1 hb; replace HB := zH hb; clear hb hox1) | ((with_reducible refine gate_dst (N := 4) rfl ?_); refine zbox (N := 4) (cs := #[.int .u8 0, .int .u32 0, .int .i64 0, .int .i64 0, .slice none 0 0]) (t := 25) (h := ?_); intro gbx2 hg wx4 hbox hb; replace HOx1 := zP HOx1 hb; replace HOx2 := zP HOx2 hb; have BKx2 := Aside0.mk (hbox); have GWx2 := zG (p := w.heap.size ≤ gbx2); have GEx2 := GWx2; have NBx1 := zNlt BKx1.out (p := gbx1 ≠ gbx2); have NBx2 := zNgt BKx1.out (p := gbx2 ≠ gbx1); replace BKx1 := zJ BKx1 hb; replace HB := zH hb; clear hb hbox hg; have hnbx1 := NBx2.out; have hncx1 := NBx1.out; have hczx1 := zcf5 BKx2.out; obtain ⟨Aox2, cox2, eox2⟩ := Kd.R_slice HOx2.out; subst eox2) | ((with_reducible refine gate_callee (f := 18) rfl ?_); refine goesZ (some 9) Tryz.func18 (args := #[.agg #[.int .u8 t426, .int .u32 t427, .int .i64 t428, .int .i64 t429, .slice Aox2 t430.length cox2]]) (h := ?_); (with_reducible refine (pledgeref38_Good.calls t426 t427 t428 t429 _ _ t430 false _ ?side1 ?side2 A4.out).mono ?_); (case side1 => refine (Kd.R_reads' (e := 5) (base := w.heap.size) (ok := fun k_ => True) (n := t430.length) (c := cox2) ?_).2.2; exact qW22x2); (case side2 => exact (Kd.R_reads' HOx2.out).2.1); rintro e wx5 ⟨rfl, hb⟩; refine ⟨_, rfl, ?_⟩; replace HOx1 := Aside0.mk (Kd.R_below (by (with_reducible repeat (first | apply Kd.R_alloc | apply Kd.R_drewN | apply Kd.R_drew)); exact (Kd.R_mono (Kd.R_far (p := ⟨gbx2, 4, none⟩) (Kd.R_far (p := ⟨gbx2, 3, none⟩) (Kd.R_far (p := ⟨gbx2, 2, none⟩) (Kd.R_far (p := ⟨gbx2, 1, none⟩) (Kd.R_far (p := ⟨gbx2, 0, none⟩) (Kd.R_types HOx1.out BKx2.out (by decide)) (fun _ hk => hk.2) (.int .u8 t426)) (fun _ hk => hk.2) (.int .u32 t427)) (fun _ hk => hk.2) (.int .i64 t428)) (fun _ hk => hk.2) (.int .i64 t429)) (fun _ hk => hk.2) (.slice Aox2 t430.length cox2)) (fun _ h_ => h_.1))) hb); replace HOx2 := Aside0.mk (Kd.R_below qW22x2 hb); replace BKx1 := Aside0.mk (blk_below (g := gbx1) (o := .cells #[.int .u8 0, .int .u32 0, .int .i64 0, .int .i64 0, .slice none 0 0] 25 (0, 0)) (by (with_reducible repeat (first | refine blk_drewN ?_ _ | refine blk_drew ?_ | refine blk_alloc ?_ _)); refine blk_far ?_ NBx1.out _; (with_reducible repeat (first | refine blk_drewN ?_ _ | refine blk_drew ?_ | refine blk_alloc ?_ _)); refine blk_far ?_ NBx1.out _; (with_reducible repeat (first | refine blk_drewN ?_ _ | refine blk_drew ?_ | refine blk_alloc ?_ _)); refine blk_far ?_ NBx1.out _; (with_reducible repeat (first | refine blk_drewN ?_ _ | refine blk_drew ?_ | refine blk_alloc ?_ _)); refine blk_far ?_ NBx1.out _; (with_reducible repeat (first | refine blk_drewN ?_ _ | refine blk_drew ?_ | refine blk_alloc ?_ _)); refine blk_far ?_ NBx1.out _; (with_reducible repeat (first | refine blk_drewN ?_ _ | refine blk_drew ?_ | refine blk_alloc ?_ _)); exact BKx1.out) hb); replace HB := zH hb; replace BKx2 := Aside0.mk (blk_below (g := gbx2) (o := .cells #[.int .u8 t426, .int .u32 t427, .int .i64 t428, .int .i64 t429, .slice Aox2 t430.length cox2] 25 (0, 0)) (zQ BKx2.out) hb); clear hb; have hczx2 := zcf5 BKx1.out) | ((with_reducible refine gate_callee (f := 18) rfl ?_); refine goesZ (some 9) Tryz.func18 (args := #[.agg #[.int .u8 t426, .int .u32 t427, .int .i64 t428, .int .i64 t429, .slice Aox2 t430.length cox2]]) (h := ?_); (with_reducible refine (pledgeref38_Good.calls t426 t427 t428 t429 _ _ t430 true _ ?side1 ?side2 A4.out).mono ?_); (case side1 => refine (Kd.R_reads' (e := 5) (base := w.heap.size) (ok := fun k_ => True) (n := t430.length) (c := cox2) ?_).2.2; exact qW22x2); (case side2 => exact (Kd.R_reads' HOx2.out).2.1); rintro e wx5 ⟨rfl, hb⟩; refine ⟨_, rfl, ?_⟩; replace HOx1 := Aside0.mk (Kd.R_below (by (with_reducible repeat (first | apply Kd.R_alloc | apply Kd.R_drewN | apply Kd.R_drew)); exact (Kd.R_mono (Kd.R_far (p := ⟨gbx2, 4, none⟩) (Kd.R_far (p := ⟨gbx2, 3, none⟩) (Kd.R_far (p := ⟨gbx2, 2, none⟩) (Kd.R_far (p := ⟨gbx2, 1, none⟩) (Kd.R_far (p := ⟨gbx2, 0, none⟩) (Kd.R_types HOx1.out BKx2.out (by decide)) (fun _ hk => hk.2) (.int .u8 t426)) (fun _ hk => hk.2) (.int .u32 t427)) (fun _ hk => hk.2) (.int .i64 t428)) (fun _ hk => hk.2) (.int .i64 t429)) (fun _ hk => hk.2) (.slice Aox2 t430.length cox2)) (fun _ h_ => h_.1))) hb); replace HOx2 := Aside0.mk (Kd.R_below qW22x2 hb); replace BKx1 := Aside0.mk (blk_below (g := gbx1) (o := .cells #[.int .u8 0, .int .u32 0, .int .i64 0, .int .i64 0, .slice none 0 0] 25 (0, 0)) (by (with_reducible repeat (first | refine blk_drewN ?_ _ | refine blk_drew ?_ | refine blk_alloc ?_ _)); refine blk_far ?_ NBx1.out _; (with_reducible repeat (first | refine blk_drewN ?_ _ | refine blk_drew ?_ | refine blk_alloc ?_ _)); refine blk_far ?_ NBx1.out _; (with_reducible repeat (first | refine blk_drewN ?_ _ | refine blk_drew ?_ | refine blk_alloc ?_ _)); refine blk_far ?_ NBx1.out _; (with_reducible repeat (first | refine blk_drewN ?_ _ | refine blk_drew ?_ | refine blk_alloc ?_ _)); refine blk_far ?_ NBx1.out _; (with_reducible repeat (first | refine blk_drewN ?_ _ | refine blk_drew ?_ | refine blk_alloc ?_ _)); refine blk_far ?_ NBx1.out _; (with_reducible repeat (first | refine blk_drewN ?_ _ | refine blk_drew ?_ | refine blk_alloc ?_ _)); exact BKx1.out) hb); replace HB := zH hb; replace BKx2 := Aside0.mk (blk_below (g := gbx2) (o := .cells #[.int .u8 t426, .int .u32 t427, .int .i64 t428, .int .i64 t429, .slice Aox2 t430.length cox2] 25 (0, 0)) (zQ BKx2.out) hb); clear hb; have hczx2 := zcf5 BKx2.out) | (go_at_call 11; (with_reducible refine (pledgeref39_Line.calls k t426 t427 t428 t429 _ _ t430 t435 _ ?side1 ?side2 A6.out).mono ?_); (case side1 => exact zC ((Kd.R_reads' HOx2.out).2.2)); (case side2 => exact (Kd.R_reads' HOx2.out).2.1); rintro e wx6 ⟨rfl, hb⟩; replace HOx1 := zP HOx1 hb; replace HOx2 := zP HOx2 hb; replace BKx1 := zJ BKx1 hb; replace BKx2 := zJ BKx2 hb; replace HB := zH hb; clear hb; have hczx3 := zcf5 BKx2.out; have hczx4 := zcf5 BKx1.out) | (go_at_call 11; (with_reducible refine (pledgeref39_Line.calls k t426 t427 t428 t429 _ _ t430 t435 _ ?side1 ?side2 A6.out).mono ?_); (case side1 => exact zC ((Kd.R_reads' HOx2.out).2.2)); (case side2 => exact (Kd.R_reads' HOx2.out).2.1); rintro e wx6 ⟨rfl, hb⟩; replace HOx1 := zP HOx1 hb; replace HOx2 := zP HOx2 hb; replace BKx1 := zJ BKx1 hb; replace BKx2 := zJ BKx2 hb; replace HB := zH hb; clear hb; have hczx3 := zcf5 BKx1.out))
  all_goals first | (refine bodyPost_ret (results_ct rfl _ _ gbx1 25 #[.int .u8 t426, .int .u32 t427, .int .i64 t428, .int .i64 t429, .slice Aox2 t430.length cox2] (0, 0) _ rfl (zQ BKx1.out) Tryz.underlying25 rfl qW22x4) rfl ?_; exact ⟨_, zer, by (with_reducible repeat (first | apply Kd.R_alloc | apply Kd.R_drewN | apply Kd.R_drew)); exact Kd.R_mono (Kd.R_far (p := ⟨gbx1, 4, none⟩) (Kd.R_far (p := ⟨gbx1, 3, none⟩) (Kd.R_far (p := ⟨gbx1, 2, none⟩) (Kd.R_far (p := ⟨gbx1, 1, none⟩) (Kd.R_far (p := ⟨gbx1, 0, none⟩) (Kd.R_types HOx2.out BKx1.out (by decide)) (fun _ hk => hk.2) (.int .u8 t426)) (fun _ hk => hk.2) (.int .u32 t427)) (fun _ hk => hk.2) (.int .i64 t428)) (fun _ hk => hk.2) (.int .i64 t429)) (fun _ hk => hk.2) (.slice Aox2 t430.length cox2)) (fun _ hk => trivial), zB⟩) | (refine bodyPost_ret (results_ct rfl _ _ gbx1 25 #[.int .u8 0, .int .u32 0, .int .i64 0, .int .i64 0, .slice none 0 0] (0, 0) _ rfl (zQ BKx1.out) Tryz.underlying25 rfl qW22x4) rfl ?_; exact ⟨_, zer, znil, zB⟩)

/-! ### pledgeref39_Parse: function 14 -/
def pledgeref39_Parse.l0 : Nat → List ByteArray → List (S25) → Int → Option ((List (S25)) × Int × Int)
  | 0, _, _, _ => none
  | k + 1, x5, x6, x7 => if x7 < (wrap64 ((x5.length : Int) - 1)) then (if x7 = 1024 then (some (([] : List (S25)), 1025, 7)) else (if 0 ≤ x7 then (if x7 < (x5.length : Int) then ((pledgeref39_Read.f k (rdOf ByteArray.empty x5 x7)).bind fun bt441 => (if bt441.2.2.2.2.2 = 0 then (if x6.length < 2932031007402 then (pledgeref39_Parse.l0 k x5 (x6 ++ [(⟨bt441.1, bt441.2.1, bt441.2.2.1, bt441.2.2.2.1, bt441.2.2.2.2.1⟩ : S25)]) (wrap64 (x7 + 1))) else (none)) else (some (([] : List (S25)), wrap64 (x7 + 1), bt441.2.2.2.2.2)))) else (none)) else (none))) else (if 0 ≤ (wrap64 ((x5.length : Int) - 1)) then (if (wrap64 ((x5.length : Int) - 1)) < (x5.length : Int) then (if (rdOf ByteArray.empty x5 (wrap64 ((x5.length : Int) - 1))).toList = ([] : List UInt8) then (some (x6, (x6.length : Int), 0)) else (some (([] : List (S25)), (x5.length : Int), 6))) else (none)) else (none))
def pledgeref39_Parse.f (k : Nat) (a0 : ByteArray) : Option ((List (S25)) × Int × Int) := (pledgeref39_cut.f k a0 10).bind fun t436 => (pledgeref39_Parse.l0 k t436 ([] : List (S25)) 0)
theorem pledgeref39_Parse.mono_l : ∀ k, (∀ y0 y1 y2, LeO (pledgeref39_Parse.l0 k y0 y1 y2) (pledgeref39_Parse.l0 (k + 1) y0 y1 y2))
  | 0 => fun _ _ _ r h => by simp [pledgeref39_Parse.l0] at h
  | k + 1 => by
    have ih0 := pledgeref39_Parse.mono_l k
    · intro y0 y1 y2
      unfold pledgeref39_Parse.l0
      repeat' first
      | (with_reducible exact ih0 _ _ _)
      | (with_reducible exact pledgeref39_Read.mono _ _)
      | (with_reducible exact pledgeref39_cut.mono _ _ _)
      | (with_reducible exact LeO.refl _)
      | (with_reducible exact LeO.none _)
      | (with_reducible refine LeO.ite ?_ ?_)
      | (with_reducible refine LeO.bind ?_ (fun _ => ?_))
      | exact ih0 _ _ _
      | exact pledgeref39_Read.mono _ _
      | exact pledgeref39_cut.mono _ _ _
      | exact LeO.none _
      | refine LeO.ite ?_ ?_
      | refine LeO.bind ?_ (fun _ => ?_)
theorem pledgeref39_Parse.mono : ∀ a0 k, LeO (pledgeref39_Parse.f k a0) (pledgeref39_Parse.f (k + 1) a0) := by
  intro a0 k
  have ih0 := pledgeref39_Parse.mono_l k
  unfold pledgeref39_Parse.f
  repeat' first
      | (with_reducible exact ih0 _ _ _)
      | (with_reducible exact pledgeref39_Read.mono _ _)
      | (with_reducible exact pledgeref39_cut.mono _ _ _)
      | (with_reducible exact LeO.refl _)
      | (with_reducible exact LeO.none _)
      | (with_reducible refine LeO.ite ?_ ?_)
      | (with_reducible refine LeO.bind ?_ (fun _ => ?_))
      | exact ih0 _ _ _
      | exact pledgeref39_Read.mono _ _
      | exact pledgeref39_cut.mono _ _ _
      | exact LeO.none _
      | refine LeO.ite ?_ ?_
      | refine LeO.bind ?_ (fun _ => ?_)
set_option maxHeartbeats 8000000 in
set_option maxRecDepth 100000 in
theorem pledgeref39_Parse.calls (k : Nat) (a0 : ByteArray) (r1 : List (S25)) (r2 : Int) (r3 : Int) (w : World) (h : pledgeref39_Parse.f k a0 = some (r1, r2, r3)) :
    Calls Tryz.prog 14 #[.string a0] w fun e w' => ∃ v0_ : Value, e = .returned (.tuple #[v0_, .int .i64 r2, .int .i64 r3]) ∧ Kd.S k25 25 w' w.heap.size (fun _ => True) v0_ r1 ∧ Below w.heap.size w w' := by
  have hu25 := Tryz.underlying25
  have HB := Aside0.mk (Below.refl w.heap.size w)
  have H : ((pledgeref39_cut.f k a0 10).bind fun t436 => (pledgeref39_Parse.l0 k t436 ([] : List (S25)) 0)) = some (r1, r2, r3) := h
  clear h
  obtain ⟨t436, A2, H⟩ := zO H
  try dsimp only at H
  have H' := Aside0.mk H
  clear H
  go_enter Tryz.func14, Tryz.ntmps14
  go_wp2_with (first | ((with_reducible refine gate_callee (f := 23) rfl ?_); refine goesZ (some 11) Tryz.func23 (args := #[.string a0, .int .u8 10]) (h := ?_); (with_reducible refine (pledgeref39_cut.calls k a0 10 t436 _ A2.out).mono ?_); rintro e w3 ⟨v437, rfl, ho0, hb⟩; refine ⟨_, rfl, ?_⟩; have HO438 := Aside0.mk (Kd.R_lower ho0 (below_size zB)); replace HB := zH hb; clear hb ho0))
  go_loopg [6, 7] k (fun kq v6 v7 w' => ∃ (x6_1 : List (S25)) (x7_1 : Int), v7 = .int .i64 x7_1 ∧ Aside0 (pledgeref39_Parse.l0 kq t436 x6_1 x7_1 = some (r1, r2, r3)) ∧ Aside0 (kq ≤ k) ∧ Aside0 (Kd.R Kd.string 9 w' w.heap.size (fun _ => True) v437 t436) ∧ Aside0 (Kd.S k25 25 w' w.heap.size (fun _ => True) v6 x6_1) ∧ Aside0 (Below w.heap.size w w'))
  case atStart => exact ⟨(([] : List (S25))), (0), (by first | rfl | (simp; done) | (simp [*]; done)), H', ⟨Nat.le_refl _⟩, ⟨by (with_reducible repeat (first | apply Kd.R_alloc | apply Kd.R_drewN | apply Kd.R_drew)); exact HO438.out⟩, ⟨by first | exact Kd.S_nil _ _ _ _ _ | exact Kd.N_nil _ _ _ _ _ | exact Kd.V_nil _ _ _ _ _ | exact Kd.Q_nil _ _ _ _ _ | exact Kd.R_nil _ _ _ _ _⟩, ⟨zB⟩⟩
  case round =>
    clear H'
    try clear c1
    try clear c2
    try clear p2
    obtain ⟨x6_1, x7_1, rfl, HA, HK1, HO_5, HO_6, HB⟩ := hrel
    cases gk with
    | zero => exact absurd HA.out (by simp [pledgeref39_Parse.l0])
    | succ k1 =>
      have H := HA.out
      clear HA
      simp only [pledgeref39_Parse.l0] at H
      by_cases c4 : x7_1 < (wrap64 ((t436.length : Int) - 1))
      rotate_left
      · rw [if_neg c4] at H
        have c4b0 : decide (x7_1 < (wrap64 ((t436.length : Int) - 1))) = false := decide_eq_false c4
        clear c4
        obtain ⟨ji25, hji25⟩ : ∃ j_ : Int, (wrap64 ((t436.length : Int) - 1)) = j_ := ⟨_, rfl⟩
        replace H : (if 0 ≤ (ji25) then (if (ji25) < (t436.length : Int) then (if (rdOf ByteArray.empty t436 (ji25)).toList = ([] : List UInt8) then (some (x6_1, (x6_1.length : Int), 0)) else (some (([] : List (S25)), (t436.length : Int), 6))) else (none)) else (none)) = some (r1, r2, r3) := by first | (rw [hji25] at H; exact H) | (simp only [hji25] at H ⊢; exact H)
        (try rw [hji25] at c4b0)
        have hji25w : (IntKind.i64.wrap ((t436.length : Int) - 1)) = ji25 := (i64_w _).trans hji25
        by_cases c26 : 0 ≤ (ji25)
        rotate_left
        · rw [if_neg c26] at H
          exact absurd H (by simp)
        rw [if_pos c26] at H
        have c26b0 := decide_eq_true c26
        clear c26
        by_cases c27 : (ji25) < (t436.length : Int)
        rotate_left
        · rw [if_neg c27] at H
          exact absurd H (by simp)
        rw [if_pos c27] at H
        have c27b0 := decide_eq_true c27
        clear c27
        by_cases c28 : (rdOf ByteArray.empty t436 (ji25)).toList = ([] : List UInt8)
        rotate_left
        · rw [if_neg c28] at H
          obtain ⟨c28b0, c28b1⟩ := zne c28
          simp only [Option.some.injEq, Prod.mk.injEq] at H
          obtain ⟨rfl, rfl, rfl⟩ := H
          obtain ⟨Ao31, co31, eo31⟩ := Kd.R_slice HO_5.out
          subst eo31
          have p439 : 0 ≤ ((ji25) : Int) := of_decide_eq_true zas
          have q439 : (ji25) < (t436.length : Int) := of_decide_eq_true zas
          obtain ⟨ad439, e439, hx439_0⟩ := Kd.at_string (Kd.R_reads' HO_5.out).2.2 (ji25) p439 q439
          cases e439
          replace p439 := eq_true p439
          replace q439 := eq_true q439
          go_wp2
          go_ret3
          exact ⟨_, by first | rfl | (simp [errW_none, errW_some] <;> rfl) | (simp only [← hji25]; first | rfl | (simp [errW_none, errW_some] <;> rfl)) | (simp [*, errW_none, errW_some] <;> rfl), by first | exact Kd.S_nil _ _ _ _ _ | exact Kd.N_nil _ _ _ _ _ | exact Kd.V_nil _ _ _ _ _ | exact Kd.Q_nil _ _ _ _ _ | exact Kd.R_nil _ _ _ _ _, zB⟩
        rw [if_pos c28] at H
        obtain ⟨c28b0, c28b1⟩ := zeq c28
        clear c28
        simp only [Option.some.injEq, Prod.mk.injEq] at H
        obtain ⟨rfl, rfl, rfl⟩ := H
        obtain ⟨Ao29, co29, eo29⟩ := Kd.R_slice HO_5.out
        subst eo29
        have p439 : 0 ≤ ((ji25) : Int) := of_decide_eq_true zas
        have q439 : (ji25) < (t436.length : Int) := of_decide_eq_true zas
        obtain ⟨ad439, e439, hx439_0⟩ := Kd.at_string (Kd.R_reads' HO_5.out).2.2 (ji25) p439 q439
        cases e439
        replace p439 := eq_true p439
        replace q439 := eq_true q439
        obtain ⟨Ao30, co30, eo30⟩ := Kd.S_slice HO_6.out
        subst eo30
        go_wp2
        go_ret3
        exact ⟨_, by first | rfl | (simp [errW_none, errW_some] <;> rfl) | (simp only [← hji25]; first | rfl | (simp [errW_none, errW_some] <;> rfl)) | (simp [*, errW_none, errW_some] <;> rfl), by (with_reducible repeat (first | apply Kd.S_alloc | apply Kd.S_drewN | apply Kd.S_drew)); exact HO_6.out, zB⟩
      rw [if_pos c4] at H
      have c4b0 := decide_eq_true c4
      clear c4
      by_cases c5 : x7_1 = 1024
      · rw [if_pos c5] at H
        obtain ⟨c5b0, c5b1⟩ := zeq c5
        clear c5
        simp only [Option.some.injEq, Prod.mk.injEq] at H
        obtain ⟨rfl, rfl, rfl⟩ := H
        obtain ⟨Ao6, co6, eo6⟩ := Kd.R_slice HO_5.out
        subst eo6
        go_wp2
        go_ret3
        exact ⟨_, zer, by first | exact Kd.S_nil _ _ _ _ _ | exact Kd.N_nil _ _ _ _ _ | exact Kd.V_nil _ _ _ _ _ | exact Kd.Q_nil _ _ _ _ _ | exact Kd.R_nil _ _ _ _ _, zB⟩
      rw [if_neg c5] at H
      obtain ⟨c5b0, c5b1⟩ := zne c5
      by_cases c7 : 0 ≤ x7_1
      rotate_left
      · rw [if_neg c7] at H
        exact absurd H (by simp)
      rw [if_pos c7] at H
      have c7b0 := decide_eq_true c7
      clear c7
      by_cases c8 : x7_1 < (t436.length : Int)
      rotate_left
      · rw [if_neg c8] at H
        exact absurd H (by simp)
      rw [if_pos c8] at H
      have c8b0 := decide_eq_true c8
      clear c8
      obtain ⟨⟨t441, t442, t443, t444, t445, t448⟩, A9, H⟩ := zO H
      try dsimp only at H
      by_cases c10 : t448 = 0
      rotate_left
      · rw [if_neg c10] at H
        obtain ⟨c10b0, c10b1⟩ := zne c10
        simp only [Option.some.injEq, Prod.mk.injEq] at H
        obtain ⟨rfl, rfl, rfl⟩ := H
        obtain ⟨Ao20, co20, eo20⟩ := Kd.R_slice HO_5.out
        subst eo20
        have p440 : 0 ≤ (x7_1 : Int) := of_decide_eq_true zas
        have q440 : x7_1 < (t436.length : Int) := of_decide_eq_true zas
        obtain ⟨ad440, e440, hx440_0⟩ := Kd.at_string (Kd.R_reads' HO_5.out).2.2 x7_1 p440 q440
        cases e440
        replace p440 := eq_true p440
        replace q440 := eq_true q440
        go_wp2_with (first | ((with_reducible refine gate_callee (f := 9) rfl ?_); refine goesZ (some 26) Tryz.func9 (args := #[.string (rdOf ByteArray.empty t436 x7_1)]) (h := ?_); (with_reducible refine (pledgeref39_Read.calls k1 (rdOf ByteArray.empty t436 x7_1) t441 t442 t443 t444 t445 t448 _ A9.out).mono ?_); rintro e w21 ⟨v446, rfl, ho0, hb⟩; refine ⟨_, rfl, ?_⟩; replace HO_5 := zP HO_5 hb; replace HO_6 := Aside0.mk (Kd.S_elder' (zS HO_6.out) (Kd.R_base ho0) hb); have HO447 := Aside0.mk (Kd.R_lower ho0 (below_size zB)); replace HB := zH hb; clear hb ho0) | ((with_reducible refine gate_dst (N := 8) rfl ?_); refine zbox (N := 8) (cs := #[.int .u8 0, .int .u32 0, .int .i64 0, .int .i64 0, .slice none 0 0]) (t := 25) (h := ?_); intro gb449 hg w22 hbox hb; replace HO_5 := zP HO_5 hb; replace HO_6 := Aside0.mk (Kd.S_below (Kd.S_elderB (zS HO_6.out) gb449 (Nat.le_of_eq hg.symm)) hb); replace HO447 := zP HO447 hb; have BK449 := Aside0.mk (hbox); have GW449 := zG (p := w.heap.size ≤ gb449); have GE449 := GW449; replace HB := zH hb; clear hb hbox hg; have hcz23_0 := zcf5 BK449.out; obtain ⟨Ao24, co24, eo24⟩ := Kd.R_slice HO447.out; subst eo24))
        go_ret3
        exact ⟨_, zer, by first | exact Kd.S_nil _ _ _ _ _ | exact Kd.N_nil _ _ _ _ _ | exact Kd.V_nil _ _ _ _ _ | exact Kd.Q_nil _ _ _ _ _ | exact Kd.R_nil _ _ _ _ _, zB⟩
      rw [if_pos c10] at H
      obtain ⟨c10b0, c10b1⟩ := zeq c10
      clear c10
      by_cases c11 : x6_1.length < 2932031007402
      rotate_left
      · rw [if_neg c11] at H
        exact absurd H (by simp)
      rw [if_pos c11] at H
      have LMc11 := Aside0.mk c11
      clear c11
      obtain ⟨y450, hy450⟩ : ∃ y_ : List (S25), y_ = (x6_1 ++ [(⟨t441, t442, t443, t444, t445⟩ : S25)]) := ⟨_, rfl⟩
      replace H : (pledgeref39_Parse.l0 k1 t436 y450 (wrap64 (x7_1 + 1))) = some (r1, r2, r3) := by first | (rw [hy450]; with_reducible exact H) | (have H2_ := (Option.bind_some _ _).symm.trans H; rw [hy450]; with_reducible exact H2_) | (have H2_ := (Option.bind_some _ _).symm.trans H; with_reducible exact H2_) | with_reducible exact H | (rw [hy450]; exact H) | exact H
      have Ny450 := Aside0.mk hy450
      clear hy450
      have H' := Aside0.mk H
      clear H
      obtain ⟨Ao12, co12, eo12⟩ := Kd.R_slice HO_5.out
      subst eo12
      have p440 : 0 ≤ (x7_1 : Int) := of_decide_eq_true zas
      have q440 : x7_1 < (t436.length : Int) := of_decide_eq_true zas
      obtain ⟨ad440, e440, hx440_0⟩ := Kd.at_string (Kd.R_reads' HO_5.out).2.2 x7_1 p440 q440
      cases e440
      replace p440 := eq_true p440
      replace q440 := eq_true q440
      go_wp2_with (first | ((with_reducible refine gate_callee (f := 9) rfl ?_); refine goesZ (some 26) Tryz.func9 (args := #[.string (rdOf ByteArray.empty t436 x7_1)]) (h := ?_); (with_reducible refine (pledgeref39_Read.calls k1 (rdOf ByteArray.empty t436 x7_1) t441 t442 t443 t444 t445 t448 _ A9.out).mono ?_); rintro e w13 ⟨v446, rfl, ho0, hb⟩; refine ⟨_, rfl, ?_⟩; replace HO_5 := zP HO_5 hb; replace HO_6 := Aside0.mk (Kd.S_elder' (zS HO_6.out) (Kd.R_base ho0) hb); have HO447 := Aside0.mk (Kd.R_lower ho0 (below_size zB)); replace HB := zH hb; clear hb ho0) | ((with_reducible refine gate_dst (N := 8) rfl ?_); refine zbox (N := 8) (cs := #[.int .u8 0, .int .u32 0, .int .i64 0, .int .i64 0, .slice none 0 0]) (t := 25) (h := ?_); intro gb449 hg w14 hbox hb; replace HO_5 := zP HO_5 hb; replace HO_6 := Aside0.mk (Kd.S_below (Kd.S_elderB (zS HO_6.out) gb449 (Nat.le_of_eq hg.symm)) hb); replace HO447 := zP HO447 hb; have BK449 := Aside0.mk (hbox); have GW449 := zG (p := w.heap.size ≤ gb449); have GE449 := GW449; replace HB := zH hb; clear hb hbox hg; have hcz15_0 := zcf5 BK449.out; obtain ⟨Ao16, co16, eo16⟩ := Kd.R_slice HO447.out; subst eo16) | ((with_reducible refine gate_store (t := 25) (p := 8) rfl ?_); refine store_event (t := 25) (p := 8) (v := ?vo_w17) (w1 := (((((w14.setCell ⟨gb449, 0, none⟩ (.int .u8 t441)).setCell ⟨gb449, 1, none⟩ (.int .u32 t442)).setCell ⟨gb449, 2, none⟩ (.int .i64 t443)).setCell ⟨gb449, 3, none⟩ (.int .i64 t444)).setCell ⟨gb449, 4, none⟩ (.slice Ao16 t445.length co16))) ?hg ?ho ?hn ?hr ?_; (case ho => rfl); (case hg => rfl); (case hn => rfl); (case hr => first | (go_simp; done) | (go_simp; rfl)); intro w17 hw; replace HO_5 : Aside0 (Kd.R Kd.string 9 w17 w.heap.size (fun _ => True) (.slice (some ad440) t436.length co12) t436) := ⟨(by rw [hw]; exact (by (with_reducible repeat (first | apply Kd.R_alloc | apply Kd.R_drewN | apply Kd.R_drew)); exact Kd.R_mono (Kd.R_far (p := ⟨gb449, 4, none⟩) (Kd.R_far (p := ⟨gb449, 3, none⟩) (Kd.R_far (p := ⟨gb449, 2, none⟩) (Kd.R_far (p := ⟨gb449, 1, none⟩) (Kd.R_far (p := ⟨gb449, 0, none⟩) (Kd.R_types HO_5.out BK449.out (by decide)) (fun _ hk => hk.2) (.int .u8 t441)) (fun _ hk => hk.2) (.int .u32 t442)) (fun _ hk => hk.2) (.int .i64 t443)) (fun _ hk => hk.2) (.int .i64 t444)) (fun _ hk => hk.2) (.slice Ao16 t445.length co16)) (fun _ hk => trivial)))⟩; replace HO_6 : Aside0 (Kd.S k25 25 w17 w.heap.size (fun k_ => some k_ ≠ (.slice Ao16 t445.length co16 : Value).ownBlock ∧ k_ ≠ gb449) u6 x6_1) := ⟨(by rw [hw]; exact (by (with_reducible repeat (first | apply Kd.S_alloc | apply Kd.S_drewN | apply Kd.S_drew)); exact Kd.S_mono (Kd.S_far (p := ⟨gb449, 4, none⟩) (Kd.S_far (p := ⟨gb449, 3, none⟩) (Kd.S_far (p := ⟨gb449, 2, none⟩) (Kd.S_far (p := ⟨gb449, 1, none⟩) (Kd.S_far (p := ⟨gb449, 0, none⟩) (Kd.S_mono HO_6.out (fun k_ hk => (⟨hk, hk.2⟩ : _ ∧ k_ ≠ gb449))) (fun _ hk => hk.2) (.int .u8 t441)) (fun _ hk => hk.2) (.int .u32 t442)) (fun _ hk => hk.2) (.int .i64 t443)) (fun _ hk => hk.2) (.int .i64 t444)) (fun _ hk => hk.2) (.slice Ao16 t445.length co16)) (fun _ hk => ⟨hk.1.1.2, hk.1.2⟩)))⟩; replace HO447 : Aside0 (Kd.R (Kd.int .u8) 5 w17 w.heap.size (fun _ => True) (.slice Ao16 t445.length co16) t445) := ⟨(by rw [hw]; exact (by (with_reducible repeat (first | apply Kd.R_alloc | apply Kd.R_drewN | apply Kd.R_drew)); exact Kd.R_mono (Kd.R_far (p := ⟨gb449, 4, none⟩) (Kd.R_far (p := ⟨gb449, 3, none⟩) (Kd.R_far (p := ⟨gb449, 2, none⟩) (Kd.R_far (p := ⟨gb449, 1, none⟩) (Kd.R_far (p := ⟨gb449, 0, none⟩) (Kd.R_types HO447.out BK449.out (by decide)) (fun _ hk => hk.2) (.int .u8 t441)) (fun _ hk => hk.2) (.int .u32 t442)) (fun _ hk => hk.2) (.int .i64 t443)) (fun _ hk => hk.2) (.int .i64 t444)) (fun _ hk => hk.2) (.slice Ao16 t445.length co16)) (fun _ hk => trivial)))⟩; replace HB : Aside0 (Below w.heap.size w w17) := ⟨(by rw [hw]; exact zB)⟩; replace BK449 : Aside0 (w17.heap[gb449]? = some (.cells #[.int .u8 t441, .int .u32 t442, .int .i64 t443, .int .i64 t444, .slice Ao16 t445.length co16] 25 (0, 0))) := ⟨(by rw [hw]; exact (by (with_reducible repeat (first | refine blk_drewN ?_ _ | refine blk_drew ?_ | refine blk_alloc ?_ _)); refine blk_put (cs := #[.int .u8 t441, .int .u32 t442, .int .i64 t443, .int .i64 t444, .slice none 0 0]) ?_ 4 _ rfl; (with_reducible repeat (first | refine blk_drewN ?_ _ | refine blk_drew ?_ | refine blk_alloc ?_ _)); refine blk_put (cs := #[.int .u8 t441, .int .u32 t442, .int .i64 t443, .int .i64 0, .slice none 0 0]) ?_ 3 _ rfl; (with_reducible repeat (first | refine blk_drewN ?_ _ | refine blk_drew ?_ | refine blk_alloc ?_ _)); refine blk_put (cs := #[.int .u8 t441, .int .u32 t442, .int .i64 0, .int .i64 0, .slice none 0 0]) ?_ 2 _ rfl; (with_reducible repeat (first | refine blk_drewN ?_ _ | refine blk_drew ?_ | refine blk_alloc ?_ _)); refine blk_put (cs := #[.int .u8 t441, .int .u32 0, .int .i64 0, .int .i64 0, .slice none 0 0]) ?_ 1 _ rfl; (with_reducible repeat (first | refine blk_drewN ?_ _ | refine blk_drew ?_ | refine blk_alloc ?_ _)); refine blk_put (cs := #[.int .u8 0, .int .u32 0, .int .i64 0, .int .i64 0, .slice none 0 0]) ?_ 0 _ rfl; (with_reducible repeat (first | refine blk_drewN ?_ _ | refine blk_drew ?_ | refine blk_alloc ?_ _)); exact BK449.out))⟩; clear hw; have hcz18_0 := zcf5 BK449.out) | ((with_reducible refine gate_builtin (b := .append) (xs := #[.tmp 34, .tmp 36]) rfl ?_); at_builtin; refine Kd.S_append k25 (w0 := w) w.heap.size rfl (.tmp 34) (.tmp 36) 27 25 (.agg #[(.int .u8 0), (.int .u32 0), (.int .i64 0), (.int .i64 0), (.slice none 0 0)]) 48 rfl Tryz.underlying27 info25 rfl (by decide) (by omega) u6 x6_1 (⟨t441, t442, t443, t444, t445⟩ : S25) [.int .u8 t441, .int .u32 t442, .int .i64 t443, .int .i64 t444, .slice Ao16 t445.length co16] (fun k_ => k_ ≠ gb449) (fun k_ => some k_ = (.slice Ao16 t445.length co16 : Value).ownBlock) rfl rfl ?aP (fun k_ hk_ => ((Kd.R_mono (ok' := fun k_ => ((fun k_ => k_ ≠ gb449)) k_ ∧ some k_ ≠ (u6 : Value).ownBlock) (Kd.R_types (Kd.R_apart' (HO447.out) (Kd.S_typed HO_6.out) (by decide)) BK449.out (by decide)) (fun k_ hk => ⟨hk.2, hk.1.2⟩))).1 k_ hk_.symm) ?aF ?aO ?aB ?aS ?aL ?_; (case aP => exact k25_mkM _ _ _ (⟨t441, t442, t443, t444, t445⟩ : S25) (Kd.R_mono (Kd.R_tight rfl (Kd.R_mono (ok' := fun k_ => ((fun k_ => k_ ≠ gb449)) k_ ∧ some k_ ≠ (u6 : Value).ownBlock) (Kd.R_types (Kd.R_apart' (HO447.out) (Kd.S_typed HO_6.out) (by decide)) BK449.out (by decide)) (fun k_ hk => ⟨hk.2, hk.1.2⟩))) (fun _ h_ => h_))); (case aB => exact zB); (case aF => exact (fun k_ hk => Kd.freshB (g := gb449) (o := .cells #[.int .u8 t441, .int .u32 t442, .int .i64 t443, .int .i64 t444, .slice Ao16 t445.length co16] 25 (0, 0)) (zK BK449.out) k_ hk)); (case aO => exact (by (with_reducible repeat (first | apply Kd.S_alloc | apply Kd.S_drewN | apply Kd.S_drew)); exact Kd.S_mono HO_6.out (fun k_ hk => ⟨hk.2, fun e_ => hk.1 e_⟩))); (case aS => exact (below_size zB)); (case aL => have := LMc11.out; omega); intro v451 w19 ho hb hg hat; rw [← Ny450.out] at ho; replace HO_5 := Aside0.mk (Kd.R_over' (zR HO_5.out) (Kd.S_typed (zS HO_6.out)) (by decide) hg); replace BK449 := Aside0.mk (blk_grown (g := gb449) (o := .cells #[.int .u8 t441, .int .u32 t442, .int .i64 t443, .int .i64 t444, .slice Ao16 t445.length co16] 25 (0, 0)) (zK BK449.out) hg (Kd.S_away HO_6.out (fun _ hk => hk.2))); replace HB := Aside0.mk (hb); have HO452 := Aside0.mk (ho); clear HO_6 HO447 ho hb hg hat))
      go_roundg k1
      case measure => have := HK1.out; omega
      case rel => exact ⟨(y450), (wrap64 (x7_1 + 1)), (by first | rfl | (simp; done) | (simp [*]; done)), H', ⟨by have := HK1.out; omega⟩, ⟨by (with_reducible repeat (first | apply Kd.R_alloc | apply Kd.R_drewN | apply Kd.R_drew)); exact HO_5.out⟩, ⟨by (with_reducible repeat (first | apply Kd.S_alloc | apply Kd.S_drewN | apply Kd.S_drew)); exact Kd.S_mono HO452.out (fun _ hk => trivial)⟩, ⟨zB⟩⟩

/-! ### words_Print: function 15 (by hand) -/
/-- The lines of those events that may be told. -/
def words_Print.go (k : Nat) : List (S25) → Option (List UInt8)
  | [] => some []
  | e :: l => (script_Good.f k e.f0 e.f1 e.f2 e.f3 e.f4).bind fun g => if g = true then (words_Line.f k e.f0 e.f1 e.f2 e.f3 e.f4).bind fun s => (words_Print.go k l).bind fun r => some (s.data.toList ++ 10 :: r) else words_Print.go k l
def words_Print.f (k : Nat) (l0 : List (S25)) : Option ByteArray := (words_Print.go k l0).bind fun b => if b.length ≤ 140737488355328 then some ⟨b.toArray⟩ else none
theorem words_Print.go_mono (k : Nat) : ∀ l, LeO (words_Print.go k l) (words_Print.go (k + 1) l)
  | [] => LeO.refl _
  | e :: l => by
    unfold words_Print.go
    refine LeO.bind (script_Good.mono _ _ _ _ _ _) (fun g => ?_)
    refine LeO.ite ?_ (words_Print.go_mono k l)
    refine LeO.bind (words_Line.mono _ _ _ _ _ _) (fun s => ?_)
    exact LeO.bind (words_Print.go_mono k l) (fun _ => LeO.refl _)
theorem words_Print.mono : ∀ a0 k, LeO (words_Print.f k a0) (words_Print.f (k + 1) a0) := by
  intro a0 k
  unfold words_Print.f
  exact LeO.bind (words_Print.go_mono k a0) (fun _ => LeO.refl _)
set_option maxHeartbeats 8000000 in
set_option maxRecDepth 100000 in
theorem words_Print.calls (k : Nat) (A0 : Option Addr) (c0 : Nat) (l0 : List (S25)) (r : ByteArray) (w : World) (hG0 : Gl w) (hr0 : Kd.C k25 w A0 l0.length l0) (hc0 : l0.length ≤ c0) (h : words_Print.f k l0 = some r) :
    Calls Tryz.prog 15 #[.slice A0 l0.length c0] w fun e w' => e = .returned (.string r) ∧ Below w.heap.size w w' := by
  unfold words_Print.f at h
  obtain ⟨fin, hf, h2⟩ := Option.bind_eq_some_iff.1 h
  clear h
  split at h2
  · rename_i hfl
    obtain rfl := Option.some.inj h2
    have HF := Aside0.mk hf
    have HC := Aside0.mk hr0
    have HG := Aside0.mk hG0
    clear h2 hf hr0 hG0
    go_enter Tryz.func15, Tryz.ntmps15
    go_wp2_with (first | fail)
    go_loopw [8] (fun v8 wr => ∃ (j : Nat) (acc rest : List UInt8), j ≤ l0.length ∧ v8 = .int .i64 (j : Int) ∧ Aside0 (Lib.IsBuilder 62 5 w.heap.size w.heap.size (Lib.byteCells acc) wr ∧ Below w.heap.size w wr ∧ words_Print.go k (l0.drop j) = some rest ∧ acc ++ rest = fin)) (fun v _ => l0.length - (RowKit.intOf v).toNat)
    case atStart => exact ⟨0, [], fin, Nat.zero_le _, rfl, Aside0.mk ⟨Lib.fresh_isBuilder _ _ w, (Below.refl _ _).alloc (Nat.le_refl _) _, HF.out, rfl⟩⟩
    case round =>
      obtain ⟨j, acc, rest, hj, rfl, HI⟩ := hrel
      by_cases hlt : j < l0.length
      rotate_left
      · obtain rfl : j = l0.length := by omega
        have p2 : ¬ ((l0.length : Int) < (l0.length : Int)) := by omega
        obtain ⟨hI, hB, hgo, hfin⟩ := HI.out
        rw [List.drop_length] at hgo
        obtain rfl : ([] : List UInt8) = rest := Option.some.inj hgo
        rw [List.append_nil] at hfin
        subst hfin
        have HI2 := Aside0.mk hI
        have HB2 := Aside0.mk hB
        clear HI hI hB hgo
        go_wp2_with (first | fail)
        refine (Tryz.Builder_String_any w.heap.size w.heap.size acc _ HI2.out HB2.out.size).mono ?_
        rintro e w3 ⟨rfl, hb⟩
        go_wp2_with (first | fail)
        go_ret
        exact ⟨rfl, HB2.out.trans hb⟩
      have p1 : (0 : Int) ≤ (j : Int) := by omega
      have p2 : (j : Int) < (l0.length : Int) := by omega
      have hw : wrap64 ((j : Int) + 1) = (j : Int) + 1 := by have := Kd.C_max HC.out; simp only [wrap64]; omega
      have HWR := Aside0.mk hw
      clear hw
      obtain ⟨ad, A4, c4, e1, x0, x1, x2, x3, x4, h4, hC4⟩ := at_T25 HC.out (j : Int) p1 p2
      cases e1
      have hrd : rd_T25 l0 (j : Int) = l0[j] := by simp [rd_T25, List.getD_eq_getElem?_getD, List.getElem?_eq_getElem hlt]
      have hgo := HI.out.2.2.1
      rw [List.drop_eq_getElem_cons hlt] at hgo
      unfold words_Print.go at hgo
      rw [hrd] at x0 x1 x2 x3 x4 h4 hC4
      simp only [Int.toNat_natCast] at x0 x1 x2 x3 x4
      generalize l0[j] = ev at *
      obtain ⟨f0, f1, f2, f3, f4⟩ := ev
      dsimp only at x0 x1 x2 x3 x4 h4 hC4 hgo
      obtain ⟨g, hg, hgo4⟩ := Option.bind_eq_some_iff.1 hgo
      replace x0 := (HI.out.2.1.cell (World.block_lt_of_cell? w _ x0)).trans x0
      replace x1 := (HI.out.2.1.cell (World.block_lt_of_cell? w _ x1)).trans x1
      replace x2 := (HI.out.2.1.cell (World.block_lt_of_cell? w _ x2)).trans x2
      replace x3 := (HI.out.2.1.cell (World.block_lt_of_cell? w _ x3)).trans x3
      replace x4 := (HI.out.2.1.cell (World.block_lt_of_cell? w _ x4)).trans x4
      have HB := Aside0.mk HI.out.2.1
      have HI1 := Aside0.mk HI.out.1
      have HFI := Aside0.mk HI.out.2.2.2
      have HGD := Aside0.mk hg
      have HGO := Aside0.mk hgo4
      have HC4 := Aside0.mk hC4
      clear HI hg hgo hgo4 hC4 hrd
      go_wp2_with (first | fail)
      obtain ⟨gb, hgb⟩ : ∃ gb, gb = wr.heap.size := ⟨_, rfl⟩
      have BX := Aside0.mk (heap_alloc_new wr (.cells #[.int .u8 f0, .int .u32 f1, .int .i64 f2, .int .i64 f3, .slice A4 f4.length c4] 25))
      have B1 := Aside0.mk (below_alloc HB.out (.cells #[.int .u8 f0, .int .u32 f1, .int .i64 f2, .int .i64 f3, .slice A4 f4.length c4] 25))
      have I1 := Aside0.mk (bld_below HI1.out ((Below.refl _ wr).alloc (Nat.le_refl _) (.cells #[.int .u8 f0, .int .u32 f1, .int .i64 f2, .int .i64 f3, .slice A4 f4.length c4] 25)))
      rw [← hgb] at BX ⊢
      clear HB HI1 hgb x0 x1 x2 x3 x4
      generalize wr.alloc (.cells #[.int .u8 f0, .int .u32 f1, .int .i64 f2, .int .i64 f3, .slice A4 f4.length c4] 25) = w1 at *
      refine (script_Good.calls k f0 f1 f2 f3 A4 c4 f4 g _ (Kd.C_below HC4.out B1.out) h4 HGD.out).mono ?_
      rintro e w2 ⟨rfl, hb⟩
      have BX2 := Aside0.mk (blk_below BX.out hb)
      have B2 := Aside0.mk (below_step B1.out hb)
      have I2 := Aside0.mk (bld_below I1.out hb)
      clear BX B1 I1 hb
      cases g with
      | false =>
        have hgo := HGO.out
        rw [if_neg (by simp)] at hgo
        have HGO2 := Aside0.mk hgo
        clear hgo HGO
        go_wp2_with (first | fail)
        go_roundw
        case measure => rw [HWR.out]; show l0.length - ((j : Int) + 1).toNat < l0.length - (j : Int).toNat; omega
        case rel => exact ⟨j + 1, acc, rest, by omega, by rw [HWR.out]; go_num, Aside0.mk ⟨I2.out, B2.out, HGO2.out, HFI.out⟩⟩
      | true =>
        have hgo := HGO.out
        rw [if_pos rfl] at hgo
        obtain ⟨s, hs, hgo2⟩ := Option.bind_eq_some_iff.1 hgo
        obtain ⟨r, hr, hgo3⟩ := Option.bind_eq_some_iff.1 hgo2
        obtain rfl := Option.some.inj hgo3
        have HS := Aside0.mk hs
        have HR := Aside0.mk hr
        have hll : acc.length + (s.size + 1) ≤ 140737488355328 := by
          have h1 := congrArg List.length HFI.out
          have h2 : s.data.toList.length = s.size := by rw [Array.length_toList]; rfl
          simp only [List.length_append, List.length_cons, h2] at h1
          omega
        have HLL := Aside0.mk hll
        clear hgo hgo2 hgo3 hs hr HGO hll
        obtain ⟨y0, y1, y2, y3, y4⟩ := zc5 BX2.out
        go_wp2_with (first | fail)
        refine (words_Line.calls k f0 f1 f2 f3 A4 c4 f4 s _ (Gl.below HG.out B2.out) (Kd.C_below HC4.out B2.out) h4 HS.out).mono ?_
        rintro e w3 ⟨rfl, hb⟩
        have B3 := Aside0.mk (below_step B2.out hb)
        have I3 := Aside0.mk (bld_below I2.out hb)
        clear B2 I2 BX2 hb y0 y1 y2 y3 y4
        go_wp2_with (first | fail)
        refine (writeString_calls w.heap.size w.heap.size (Lib.byteCells acc) s _ I3.out (by have := HLL.out; rw [Lib.byteCells_length]; omega) B3.out.size).mono ?_
        rintro e w4 ⟨rfl, hi, hb⟩
        have B4 := Aside0.mk (B3.out.trans hb)
        have I4 := Aside0.mk hi
        clear B3 I3 hb hi
        go_wp2_with (first | fail)
        refine (writeByte_calls w.heap.size w.heap.size (Lib.byteCells acc ++ Lib.strCells s) 10 _ (.inr I4.out) (by have := HLL.out; rw [List.length_append, Lib.byteCells_length, Lib.strCells_length]; omega) B4.out.size).mono ?_
        rintro e w5 ⟨rfl, hi, hb⟩
        have B5 := Aside0.mk (B4.out.trans hb)
        have I5 := Aside0.mk hi
        clear B4 I4 hb hi
        go_wp2_with (first | fail)
        go_roundw
        case measure => rw [HWR.out]; show l0.length - ((j : Int) + 1).toNat < l0.length - (j : Int).toNat; omega
        case rel =>
          refine ⟨j + 1, acc ++ (s.data.toList ++ [10]), r, by omega, by rw [HWR.out]; go_num, Aside0.mk ⟨?_, B5.out, HR.out, ?_⟩⟩
          · have e1 : Lib.byteCells (acc ++ (s.data.toList ++ [10])) = Lib.byteCells acc ++ Lib.strCells s ++ [.int .u8 10] := by simp [Lib.byteCells, Lib.strCells]
            rw [e1]
            exact .inr I5.out
          · rw [← HFI.out]
            simp
  · exact absurd h2 (by simp)

end Go.Proofs.YtpnehgajhpejjaaGreatDoor.W
