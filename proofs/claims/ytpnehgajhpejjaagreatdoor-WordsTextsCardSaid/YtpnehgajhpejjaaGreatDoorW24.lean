import Derived.Test.YtpnehgajhpejjaaGreatDoorSq
import Derived.Test.YtpnehgajhpejjaaGreatDoorW0
import Derived.Test.YtpnehgajhpejjaaGreatDoorW2
import Derived.Test.YtpnehgajhpejjaaGreatDoorW11
import Derived.Test.YtpnehgajhpejjaaGreatDoorW22
import Derived.Test.YtpnehgajhpejjaaGreatDoorW23
namespace Go.Proofs.YtpnehgajhpejjaaGreatDoor.W
open Go.RowKit Go.Proofs.YtpnehgajhpejjaaGreatDoorW.PrintWords Go.Proofs.YtpnehgajhpejjaaGreatDoorW.PrintLast Go.Proofs.YtpnehgajhpejjaaGreatDoorW.PrintMore
attribute [local go_sem] max2_int min2_int max_two min_two max_three min_three max_four min_four
set_option linter.unusedVariables false
set_option linter.unusedSimpArgs false
theorem qW24x1 {p : Prop} (h : p := by exact Aside0.mk (Kd.S_below (zS HO466.out) hb)) : p := h
theorem qW24x2 {p : Prop} (h : p := by exact Aside0.mk (Kd.S_below (zS HO471.out) hb)) : p := h
theorem qW24x3 {p : Prop} (h : p := by exact Aside0.mk (Kd.S_lower (Kd.S_new' ho0 (Kd.S_lt (zS HO466.out))) (below_size zB))) : p := h
theorem qW24x4 {p : Prop} (h : p := by exact Aside0.mk (Kd.S_elder' (zS HO466.out) (Kd.S_base ho0) hb)) : p := h
theorem qW24x5 {p : Prop} (h : p := by exact Aside0.mk (Kd.S_lower ho0 (below_size zB))) : p := h

/-! ### pledgelaw39_WordsTexts: function 4 -/
def pledgelaw39_WordsTexts.j0 : Nat → List (S25) → ByteArray → Bool → Option (Bool)
  | 0, _, _, _ => none
  | k + 1, x0, x1, x18 => if x18 = true then ((pledgelaw39_works.f k).bind fun t461 => (some t461)) else ((words_Parse.f k x1).bind fun bt462 => ((pledgeref39_Parse.f k x1).bind fun bt467 => ((words_Print.f k x0).bind fun t472 => ((pledgeref39_Print.f k x0).bind fun t473 => (if t472.toList = t473.toList then ((pledgeref38_SameAll.f k bt462.1 bt467.1).bind fun t474 => (if t474 = true then (if bt462.2.1 = bt467.2.1 then (if bt462.2.2 = bt467.2.2 then ((pledgelaw39_works.f k).bind fun t475 => (some t475)) else (some false)) else (some false)) else (some false))) else (some false))))))
def pledgelaw39_WordsTexts.f (k : Nat) (l0 : List (S25)) (a1 : ByteArray) : Option (Bool) := (pledgelaw39_few.f k l0).bind fun t460 => (if t460 = true then (pledgelaw39_WordsTexts.j0 k l0 a1 (decide ((a1.size : Int) > 6000))) else (pledgelaw39_WordsTexts.j0 k l0 a1 true))
theorem pledgelaw39_WordsTexts.mono_l : ∀ k, (∀ y0 y1 y2, LeO (pledgelaw39_WordsTexts.j0 k y0 y1 y2) (pledgelaw39_WordsTexts.j0 (k + 1) y0 y1 y2))
  | 0 => fun _ _ _ r h => by simp [pledgelaw39_WordsTexts.j0] at h
  | k + 1 => by
    have ih0 := pledgelaw39_WordsTexts.mono_l k
    · intro y0 y1 y2
      unfold pledgelaw39_WordsTexts.j0
      repeat' first
      | (with_reducible exact ih0 _ _ _)
      | (with_reducible exact pledgelaw39_few.mono _ _)
      | (with_reducible exact pledgelaw39_works.mono _)
      | (with_reducible exact pledgeref38_SameAll.mono _ _ _)
      | (with_reducible exact pledgeref39_Parse.mono _ _)
      | (with_reducible exact pledgeref39_Print.mono _ _)
      | (with_reducible exact words_Parse.mono _ _)
      | (with_reducible exact words_Print.mono _ _)
      | (with_reducible exact LeO.refl _)
      | (with_reducible exact LeO.none _)
      | (with_reducible refine LeO.ite ?_ ?_)
      | (with_reducible refine LeO.bind ?_ (fun _ => ?_))
      | exact ih0 _ _ _
      | exact pledgelaw39_few.mono _ _
      | exact pledgelaw39_works.mono _
      | exact pledgeref38_SameAll.mono _ _ _
      | exact pledgeref39_Parse.mono _ _
      | exact pledgeref39_Print.mono _ _
      | exact words_Parse.mono _ _
      | exact words_Print.mono _ _
      | exact LeO.none _
      | refine LeO.ite ?_ ?_
      | refine LeO.bind ?_ (fun _ => ?_)
theorem pledgelaw39_WordsTexts.mono : ∀ a0 a1 k, LeO (pledgelaw39_WordsTexts.f k a0 a1) (pledgelaw39_WordsTexts.f (k + 1) a0 a1) := by
  intro a0 a1 k
  have ih0 := pledgelaw39_WordsTexts.mono_l k
  unfold pledgelaw39_WordsTexts.f
  repeat' first
      | (with_reducible exact ih0 _ _ _)
      | (with_reducible exact pledgelaw39_few.mono _ _)
      | (with_reducible exact pledgelaw39_works.mono _)
      | (with_reducible exact pledgeref38_SameAll.mono _ _ _)
      | (with_reducible exact pledgeref39_Parse.mono _ _)
      | (with_reducible exact pledgeref39_Print.mono _ _)
      | (with_reducible exact words_Parse.mono _ _)
      | (with_reducible exact words_Print.mono _ _)
      | (with_reducible exact LeO.refl _)
      | (with_reducible exact LeO.none _)
      | (with_reducible refine LeO.ite ?_ ?_)
      | (with_reducible refine LeO.bind ?_ (fun _ => ?_))
      | exact ih0 _ _ _
      | exact pledgelaw39_few.mono _ _
      | exact pledgelaw39_works.mono _
      | exact pledgeref38_SameAll.mono _ _ _
      | exact pledgeref39_Parse.mono _ _
      | exact pledgeref39_Print.mono _ _
      | exact words_Parse.mono _ _
      | exact words_Print.mono _ _
      | exact LeO.none _
      | refine LeO.ite ?_ ?_
      | refine LeO.bind ?_ (fun _ => ?_)
set_option maxHeartbeats 8000000 in
set_option maxRecDepth 100000 in
theorem pledgelaw39_WordsTexts.calls (k : Nat) (A0 : Option Addr) (c0 : Nat) (l0 : List (S25)) (a1 : ByteArray) (r : Bool) (w : World) (hG0 : Gl w) (hr0 : Kd.C k25 w A0 l0.length l0) (hc0 : l0.length ≤ c0) (h : pledgelaw39_WordsTexts.f k l0 a1 = some r) :
    Calls Tryz.prog 4 #[.slice A0 l0.length c0, .string a1] w fun e w' => e = .returned (.bool r) ∧ Below w.heap.size w w' := by
  have hG := Aside0.mk hG0
  clear hG0
  have HR0 := Aside0.mk hr0
  have HC0 := Aside0.mk hc0
  clear hr0 hc0
  have HB := Aside0.mk (Below.refl w.heap.size w)
  have H : ((pledgelaw39_few.f k l0).bind fun t460 => (if t460 = true then (pledgelaw39_WordsTexts.j0 k l0 a1 (decide ((a1.size : Int) > 6000))) else (pledgelaw39_WordsTexts.j0 k l0 a1 true))) = some r := h
  clear h
  have HC3 := Aside0.mk H
  clear H
  go_enter Tryz.func4, Tryz.ntmps4
  go_upto_region 1 with (fail)
  go_cut [18] (fun v18 wc => ∃ (kq : Nat) (x18_2 : Bool), v18 = .bool x18_2 ∧ Aside0 (pledgelaw39_WordsTexts.j0 kq l0 a1 x18_2 = some r) ∧ Aside0 (kq ≤ k) ∧ Aside0 (Below w.heap.size w wc))
  case first =>
    have H := HC3.out
    clear HC3
    obtain ⟨t460, A4, H⟩ := zO H
    try dsimp only at H
    by_cases c5 : t460 = true
    · subst c5
      have H1 : (pledgelaw39_WordsTexts.j0 k l0 a1 (decide ((a1.size : Int) > 6000))) = some r := by rw [if_pos rfl] at H; exact H
      clear H
      have H := H1
      clear H1
      have H' := Aside0.mk H
      clear H
      go_wp2_with (first | ((with_reducible refine gate_callee (f := 6) rfl ?_); refine goesZ (some 12) Tryz.func6 (args := #[.slice A0 l0.length c0]) (h := ?_); (with_reducible refine (pledgelaw39_few.calls k _ _ l0 true _ ?side1 ?side2 A4.out).mono ?_); (case side1 => exact zC (Kd.C_below HR0.out HB.out)); (case side2 => exact HC0.out); rintro e w' ⟨rfl, ⟨nd, rfl⟩⟩; refine ⟨_, rfl, ?_⟩))
      go_meet
      case rel => exact ⟨_, (decide ((a1.size : Int) > 6000)), (by first | rfl | (simp; done) | (simp [*]; done)), H', ⟨by first | omega | exact Nat.le_refl _⟩, ⟨zB⟩⟩
    replace c5 := Bool.eq_false_iff.mpr c5
    subst c5
    have H1 : (pledgelaw39_WordsTexts.j0 k l0 a1 true) = some r := by rw [if_neg (show ¬ (false = true) by decide)] at H; exact H
    clear H
    have H := H1
    clear H1
    have H' := Aside0.mk H
    clear H
    go_wp2_with (first | ((with_reducible refine gate_callee (f := 6) rfl ?_); refine goesZ (some 12) Tryz.func6 (args := #[.slice A0 l0.length c0]) (h := ?_); (with_reducible refine (pledgelaw39_few.calls k _ _ l0 false _ ?side1 ?side2 A4.out).mono ?_); (case side1 => exact zC (Kd.C_below HR0.out HB.out)); (case side2 => exact HC0.out); rintro e w' ⟨rfl, ⟨nd, rfl⟩⟩; refine ⟨_, rfl, ?_⟩))
    go_meet
    case rel => exact ⟨_, (true), (by first | rfl | (simp; done) | (simp [*]; done)), H', ⟨by first | omega | exact Nat.le_refl _⟩, ⟨zB⟩⟩
  case rest =>
    clear HC3
    try clear p2
    try clear c4
    try clear c5
    obtain ⟨kq, x18_2, rfl, HA, HJ2, HB⟩ := hcut
    cases kq with
    | zero => exact absurd HA.out (by simp [pledgelaw39_WordsTexts.j0])
    | succ kj2 =>
      have H := HA.out
      clear HA
      simp only [pledgelaw39_WordsTexts.j0] at H
      by_cases c6 : x18_2 = true
      · subst c6
        have H1 : ((pledgelaw39_works.f kj2).bind fun t461 => (some t461)) = some r := by rw [if_pos rfl] at H; exact H
        clear H
        have H := H1
        clear H1
        obtain ⟨t461, A7, H⟩ := zO H
        try dsimp only at H
        obtain rfl := Option.some.inj H
        go_wp2_with (first | ((with_reducible refine gate_callee (f := 7) rfl ?_); refine goesZ (some 19) Tryz.func7 (args := #[]) (h := ?_); (with_reducible refine (pledgelaw39_works.calls kj2  t461 _ ?side1 A7.out).mono ?_); (case side1 => exact Gl.below hG.out zB); rintro e w8 ⟨rfl, hb⟩; refine ⟨_, rfl, ?_⟩; replace HB := zH hb; clear hb))
        go_ret
        exact ⟨zer, zB⟩
      replace c6 := Bool.eq_false_iff.mpr c6
      subst c6
      have H1 : ((words_Parse.f kj2 a1).bind fun bt462 => ((pledgeref39_Parse.f kj2 a1).bind fun bt467 => ((words_Print.f kj2 l0).bind fun t472 => ((pledgeref39_Print.f kj2 l0).bind fun t473 => (if t472.toList = t473.toList then ((pledgeref38_SameAll.f kj2 bt462.1 bt467.1).bind fun t474 => (if t474 = true then (if bt462.2.1 = bt467.2.1 then (if bt462.2.2 = bt467.2.2 then ((pledgelaw39_works.f kj2).bind fun t475 => (some t475)) else (some false)) else (some false)) else (some false))) else (some false)))))) = some r := by rw [if_neg (show ¬ (false = true) by decide)] at H; exact H
      clear H
      have H := H1
      clear H1
      obtain ⟨⟨t462, t463, t464⟩, A9, H⟩ := zO H
      try dsimp only at H
      obtain ⟨⟨t467, t468, t469⟩, A10, H⟩ := zO H
      try dsimp only at H
      obtain ⟨t472, A11, H⟩ := zO H
      try dsimp only at H
      obtain ⟨t473, A12, H⟩ := zO H
      try dsimp only at H
      by_cases c13 : t472.toList = t473.toList
      rotate_left
      · rw [if_neg c13] at H
        obtain ⟨c13b0, c13b1⟩ := zne c13
        obtain rfl := Option.some.inj H
        go_wp2_with (first | ((with_reducible refine gate_callee (f := 13) rfl ?_); refine goesZ (some 22) Tryz.func13 (args := #[.string a1]) (h := ?_); (with_reducible refine (words_Parse.calls kj2 a1 t462 t463 t464 _ ?side1 A9.out).mono ?_); (case side1 => exact Gl.below hG.out zB); rintro e w48 ⟨v465, rfl, ho0, hb⟩; refine ⟨_, rfl, ?_⟩; have HO466 := qW24x5; replace HB := zH hb; clear hb ho0) | ((with_reducible refine gate_callee (f := 14) rfl ?_); refine goesZ (some 28) Tryz.func14 (args := #[.string a1]) (h := ?_); (with_reducible refine (pledgeref39_Parse.calls kj2 a1 t467 t468 t469 _ A10.out).mono ?_); rintro e w49 ⟨v470, rfl, ho0, hb⟩; refine ⟨_, rfl, ?_⟩; have HO471 := qW24x3; replace HO466 := qW24x4; replace HB := zH hb; clear hb ho0) | ((with_reducible refine gate_callee (f := 15) rfl ?_); refine goesZ (some 33) Tryz.func15 (args := #[.slice A0 l0.length c0]) (h := ?_); (with_reducible refine (words_Print.calls kj2 _ _ l0 t472 _ ?side1 ?side2 ?side3 A11.out).mono ?_); (case side1 => exact Gl.below hG.out zB); (case side2 => exact zC (Kd.C_below HR0.out HB.out)); (case side3 => exact HC0.out); rintro e w50 ⟨rfl, hb⟩; refine ⟨_, rfl, ?_⟩; replace HO466 := qW24x1; replace HO471 := qW24x2; replace HB := zH hb; clear hb) | ((with_reducible refine gate_callee (f := 16) rfl ?_); refine goesZ (some 35) Tryz.func16 (args := #[.slice A0 l0.length c0]) (h := ?_); (with_reducible refine (pledgeref39_Print.calls kj2 _ _ l0 t473 _ ?side1 ?side2 A12.out).mono ?_); (case side1 => exact zC (Kd.C_below HR0.out HB.out)); (case side2 => exact HC0.out); rintro e w51 ⟨rfl, hb⟩; refine ⟨_, rfl, ?_⟩; replace HO466 := qW24x1; replace HO471 := qW24x2; replace HB := zH hb; clear hb))
        go_ret
        exact ⟨zer, zB⟩
      rw [if_pos c13] at H
      obtain ⟨c13b0, c13b1⟩ := zeq c13
      clear c13
      obtain ⟨t474, A14, H⟩ := zO H
      try dsimp only at H
      by_cases c15 : t474 = true
      rotate_left
      · replace c15 := Bool.eq_false_iff.mpr c15
        subst c15
        have H1 : (some false) = some r := by rw [if_neg (show ¬ (false = true) by decide)] at H; exact H
        clear H
        have H := H1
        clear H1
        obtain rfl := Option.some.inj H
        go_wp2_with (first | ((with_reducible refine gate_callee (f := 13) rfl ?_); refine goesZ (some 22) Tryz.func13 (args := #[.string a1]) (h := ?_); (with_reducible refine (words_Parse.calls kj2 a1 t462 t463 t464 _ ?side1 A9.out).mono ?_); (case side1 => exact Gl.below hG.out zB); rintro e w41 ⟨v465, rfl, ho0, hb⟩; refine ⟨_, rfl, ?_⟩; have HO466 := qW24x5; replace HB := zH hb; clear hb ho0) | ((with_reducible refine gate_callee (f := 14) rfl ?_); refine goesZ (some 28) Tryz.func14 (args := #[.string a1]) (h := ?_); (with_reducible refine (pledgeref39_Parse.calls kj2 a1 t467 t468 t469 _ A10.out).mono ?_); rintro e w42 ⟨v470, rfl, ho0, hb⟩; refine ⟨_, rfl, ?_⟩; have HO471 := qW24x3; replace HO466 := qW24x4; replace HB := zH hb; clear hb ho0) | ((with_reducible refine gate_callee (f := 15) rfl ?_); refine goesZ (some 33) Tryz.func15 (args := #[.slice A0 l0.length c0]) (h := ?_); (with_reducible refine (words_Print.calls kj2 _ _ l0 t472 _ ?side1 ?side2 ?side3 A11.out).mono ?_); (case side1 => exact Gl.below hG.out zB); (case side2 => exact zC (Kd.C_below HR0.out HB.out)); (case side3 => exact HC0.out); rintro e w43 ⟨rfl, hb⟩; refine ⟨_, rfl, ?_⟩; replace HO466 := qW24x1; replace HO471 := qW24x2; replace HB := zH hb; clear hb) | ((with_reducible refine gate_callee (f := 16) rfl ?_); refine goesZ (some 35) Tryz.func16 (args := #[.slice A0 l0.length c0]) (h := ?_); (with_reducible refine (pledgeref39_Print.calls kj2 _ _ l0 t473 _ ?side1 ?side2 A12.out).mono ?_); (case side1 => exact zC (Kd.C_below HR0.out HB.out)); (case side2 => exact HC0.out); rintro e w44 ⟨rfl, hb⟩; refine ⟨_, rfl, ?_⟩; replace HO466 := qW24x1; replace HO471 := qW24x2; replace HB := zH hb; clear hb; obtain ⟨Ao45, co45, eo45⟩ := Kd.S_slice HO466.out; subst eo45; obtain ⟨Ao46, co46, eo46⟩ := Kd.S_slice HO471.out; subst eo46) | (go_at_call 17; (with_reducible refine (pledgeref38_SameAll.calls kj2 _ _ t462 _ _ t467 false _ ?side1 ?side2 ?side3 ?side4 A14.out).mono ?_); (case side1 => exact zC ((Kd.S_reads' HO466.out).2.2)); (case side2 => exact (Kd.S_reads' HO466.out).2.1); (case side3 => exact zC ((Kd.S_reads' HO471.out).2.2)); (case side4 => exact (Kd.S_reads' HO471.out).2.1); rintro e w47 ⟨rfl, hb⟩; replace HO466 := qW24x1; replace HO471 := qW24x2; replace HB := zH hb; clear hb))
        go_ret
        exact ⟨zer, zB⟩
      subst c15
      have H1 : (if t463 = t468 then (if t464 = t469 then ((pledgelaw39_works.f kj2).bind fun t475 => (some t475)) else (some false)) else (some false)) = some r := by rw [if_pos rfl] at H; exact H
      clear H
      have H := H1
      clear H1
      by_cases c16 : t463 = t468
      rotate_left
      · rw [if_neg c16] at H
        obtain ⟨c16b0, c16b1⟩ := zne c16
        obtain rfl := Option.some.inj H
        go_wp2_with (first | ((with_reducible refine gate_callee (f := 13) rfl ?_); refine goesZ (some 22) Tryz.func13 (args := #[.string a1]) (h := ?_); (with_reducible refine (words_Parse.calls kj2 a1 t462 t463 t464 _ ?side1 A9.out).mono ?_); (case side1 => exact Gl.below hG.out zB); rintro e w34 ⟨v465, rfl, ho0, hb⟩; refine ⟨_, rfl, ?_⟩; have HO466 := qW24x5; replace HB := zH hb; clear hb ho0) | ((with_reducible refine gate_callee (f := 14) rfl ?_); refine goesZ (some 28) Tryz.func14 (args := #[.string a1]) (h := ?_); (with_reducible refine (pledgeref39_Parse.calls kj2 a1 t467 t468 t469 _ A10.out).mono ?_); rintro e w35 ⟨v470, rfl, ho0, hb⟩; refine ⟨_, rfl, ?_⟩; have HO471 := qW24x3; replace HO466 := qW24x4; replace HB := zH hb; clear hb ho0) | ((with_reducible refine gate_callee (f := 15) rfl ?_); refine goesZ (some 33) Tryz.func15 (args := #[.slice A0 l0.length c0]) (h := ?_); (with_reducible refine (words_Print.calls kj2 _ _ l0 t472 _ ?side1 ?side2 ?side3 A11.out).mono ?_); (case side1 => exact Gl.below hG.out zB); (case side2 => exact zC (Kd.C_below HR0.out HB.out)); (case side3 => exact HC0.out); rintro e w36 ⟨rfl, hb⟩; refine ⟨_, rfl, ?_⟩; replace HO466 := qW24x1; replace HO471 := qW24x2; replace HB := zH hb; clear hb) | ((with_reducible refine gate_callee (f := 16) rfl ?_); refine goesZ (some 35) Tryz.func16 (args := #[.slice A0 l0.length c0]) (h := ?_); (with_reducible refine (pledgeref39_Print.calls kj2 _ _ l0 t473 _ ?side1 ?side2 A12.out).mono ?_); (case side1 => exact zC (Kd.C_below HR0.out HB.out)); (case side2 => exact HC0.out); rintro e w37 ⟨rfl, hb⟩; refine ⟨_, rfl, ?_⟩; replace HO466 := qW24x1; replace HO471 := qW24x2; replace HB := zH hb; clear hb; obtain ⟨Ao38, co38, eo38⟩ := Kd.S_slice HO466.out; subst eo38; obtain ⟨Ao39, co39, eo39⟩ := Kd.S_slice HO471.out; subst eo39) | (go_at_call 17; (with_reducible refine (pledgeref38_SameAll.calls kj2 _ _ t462 _ _ t467 true _ ?side1 ?side2 ?side3 ?side4 A14.out).mono ?_); (case side1 => exact zC ((Kd.S_reads' HO466.out).2.2)); (case side2 => exact (Kd.S_reads' HO466.out).2.1); (case side3 => exact zC ((Kd.S_reads' HO471.out).2.2)); (case side4 => exact (Kd.S_reads' HO471.out).2.1); rintro e w40 ⟨rfl, hb⟩; replace HO466 := qW24x1; replace HO471 := qW24x2; replace HB := zH hb; clear hb))
        go_ret
        exact ⟨zer, zB⟩
      rw [if_pos c16] at H
      obtain ⟨c16b0, c16b1⟩ := zeq c16
      clear c16
      by_cases c17 : t464 = t469
      rotate_left
      · rw [if_neg c17] at H
        obtain ⟨c17b0, c17b1⟩ := zne c17
        obtain rfl := Option.some.inj H
        go_wp2_with (first | ((with_reducible refine gate_callee (f := 13) rfl ?_); refine goesZ (some 22) Tryz.func13 (args := #[.string a1]) (h := ?_); (with_reducible refine (words_Parse.calls kj2 a1 t462 t463 t464 _ ?side1 A9.out).mono ?_); (case side1 => exact Gl.below hG.out zB); rintro e w27 ⟨v465, rfl, ho0, hb⟩; refine ⟨_, rfl, ?_⟩; have HO466 := qW24x5; replace HB := zH hb; clear hb ho0) | ((with_reducible refine gate_callee (f := 14) rfl ?_); refine goesZ (some 28) Tryz.func14 (args := #[.string a1]) (h := ?_); (with_reducible refine (pledgeref39_Parse.calls kj2 a1 t467 t468 t469 _ A10.out).mono ?_); rintro e w28 ⟨v470, rfl, ho0, hb⟩; refine ⟨_, rfl, ?_⟩; have HO471 := qW24x3; replace HO466 := qW24x4; replace HB := zH hb; clear hb ho0) | ((with_reducible refine gate_callee (f := 15) rfl ?_); refine goesZ (some 33) Tryz.func15 (args := #[.slice A0 l0.length c0]) (h := ?_); (with_reducible refine (words_Print.calls kj2 _ _ l0 t472 _ ?side1 ?side2 ?side3 A11.out).mono ?_); (case side1 => exact Gl.below hG.out zB); (case side2 => exact zC (Kd.C_below HR0.out HB.out)); (case side3 => exact HC0.out); rintro e w29 ⟨rfl, hb⟩; refine ⟨_, rfl, ?_⟩; replace HO466 := qW24x1; replace HO471 := qW24x2; replace HB := zH hb; clear hb) | ((with_reducible refine gate_callee (f := 16) rfl ?_); refine goesZ (some 35) Tryz.func16 (args := #[.slice A0 l0.length c0]) (h := ?_); (with_reducible refine (pledgeref39_Print.calls kj2 _ _ l0 t473 _ ?side1 ?side2 A12.out).mono ?_); (case side1 => exact zC (Kd.C_below HR0.out HB.out)); (case side2 => exact HC0.out); rintro e w30 ⟨rfl, hb⟩; refine ⟨_, rfl, ?_⟩; replace HO466 := qW24x1; replace HO471 := qW24x2; replace HB := zH hb; clear hb; obtain ⟨Ao31, co31, eo31⟩ := Kd.S_slice HO466.out; subst eo31; obtain ⟨Ao32, co32, eo32⟩ := Kd.S_slice HO471.out; subst eo32) | (go_at_call 17; (with_reducible refine (pledgeref38_SameAll.calls kj2 _ _ t462 _ _ t467 true _ ?side1 ?side2 ?side3 ?side4 A14.out).mono ?_); (case side1 => exact zC ((Kd.S_reads' HO466.out).2.2)); (case side2 => exact (Kd.S_reads' HO466.out).2.1); (case side3 => exact zC ((Kd.S_reads' HO471.out).2.2)); (case side4 => exact (Kd.S_reads' HO471.out).2.1); rintro e w33 ⟨rfl, hb⟩; replace HO466 := qW24x1; replace HO471 := qW24x2; replace HB := zH hb; clear hb))
        go_ret
        exact ⟨zer, zB⟩
      rw [if_pos c17] at H
      obtain ⟨c17b0, c17b1⟩ := zeq c17
      clear c17
      obtain ⟨t475, A18, H⟩ := zO H
      try dsimp only at H
      obtain rfl := Option.some.inj H
      go_wp2_with (first | ((with_reducible refine gate_callee (f := 13) rfl ?_); refine goesZ (some 22) Tryz.func13 (args := #[.string a1]) (h := ?_); (with_reducible refine (words_Parse.calls kj2 a1 t462 t463 t464 _ ?side1 A9.out).mono ?_); (case side1 => exact Gl.below hG.out zB); rintro e w19 ⟨v465, rfl, ho0, hb⟩; refine ⟨_, rfl, ?_⟩; have HO466 := qW24x5; replace HB := zH hb; clear hb ho0) | ((with_reducible refine gate_callee (f := 14) rfl ?_); refine goesZ (some 28) Tryz.func14 (args := #[.string a1]) (h := ?_); (with_reducible refine (pledgeref39_Parse.calls kj2 a1 t467 t468 t469 _ A10.out).mono ?_); rintro e w20 ⟨v470, rfl, ho0, hb⟩; refine ⟨_, rfl, ?_⟩; have HO471 := qW24x3; replace HO466 := qW24x4; replace HB := zH hb; clear hb ho0) | ((with_reducible refine gate_callee (f := 15) rfl ?_); refine goesZ (some 33) Tryz.func15 (args := #[.slice A0 l0.length c0]) (h := ?_); (with_reducible refine (words_Print.calls kj2 _ _ l0 t472 _ ?side1 ?side2 ?side3 A11.out).mono ?_); (case side1 => exact Gl.below hG.out zB); (case side2 => exact zC (Kd.C_below HR0.out HB.out)); (case side3 => exact HC0.out); rintro e w21 ⟨rfl, hb⟩; refine ⟨_, rfl, ?_⟩; replace HO466 := qW24x1; replace HO471 := qW24x2; replace HB := zH hb; clear hb) | ((with_reducible refine gate_callee (f := 16) rfl ?_); refine goesZ (some 35) Tryz.func16 (args := #[.slice A0 l0.length c0]) (h := ?_); (with_reducible refine (pledgeref39_Print.calls kj2 _ _ l0 t473 _ ?side1 ?side2 A12.out).mono ?_); (case side1 => exact zC (Kd.C_below HR0.out HB.out)); (case side2 => exact HC0.out); rintro e w22 ⟨rfl, hb⟩; refine ⟨_, rfl, ?_⟩; replace HO466 := qW24x1; replace HO471 := qW24x2; replace HB := zH hb; clear hb; obtain ⟨Ao23, co23, eo23⟩ := Kd.S_slice HO466.out; subst eo23; obtain ⟨Ao24, co24, eo24⟩ := Kd.S_slice HO471.out; subst eo24) | (go_at_call 17; (with_reducible refine (pledgeref38_SameAll.calls kj2 _ _ t462 _ _ t467 true _ ?side1 ?side2 ?side3 ?side4 A14.out).mono ?_); (case side1 => exact zC ((Kd.S_reads' HO466.out).2.2)); (case side2 => exact (Kd.S_reads' HO466.out).2.1); (case side3 => exact zC ((Kd.S_reads' HO471.out).2.2)); (case side4 => exact (Kd.S_reads' HO471.out).2.1); rintro e w25 ⟨rfl, hb⟩; replace HO466 := qW24x1; replace HO471 := qW24x2; replace HB := zH hb; clear hb) | (go_at_call 7; (with_reducible refine (pledgelaw39_works.calls kj2  t475 _ ?side1 A18.out).mono ?_); (case side1 => exact Gl.below hG.out zB); rintro e w26 ⟨rfl, hb⟩; replace HO466 := qW24x1; replace HO471 := qW24x2; replace HB := zH hb; clear hb))
      go_ret
      exact ⟨zer, zB⟩

-- NOT PRINTED: function 3 (pledgelaw39_WordsLines)

-- NOT PRINTED: function 5 (pledgelaw39_WordsBack)

end Go.Proofs.YtpnehgajhpejjaaGreatDoor.W
