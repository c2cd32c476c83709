import Derived.Test.YtpnehgajhpejjaaGreatDoorSq
import Derived.Test.YtpnehgajhpejjaaGreatDoorW0
import Derived.Test.YtpnehgajhpejjaaGreatDoorW20
namespace Go.Proofs.YtpnehgajhpejjaaGreatDoor.W
open Go.RowKit Go.Proofs.YtpnehgajhpejjaaGreatDoorW.PrintWords Go.Proofs.YtpnehgajhpejjaaGreatDoorW.PrintLast Go.Proofs.YtpnehgajhpejjaaGreatDoorW.PrintMore
attribute [local go_sem] max2_int min2_int max_two min_two max_three min_three max_four min_four
set_option linter.unusedVariables false
set_option linter.unusedSimpArgs false
theorem qW21x1 {p : Prop} (h : p := by exact Aside0.mk (blk_grown (g := gb351) (o := .cells #[.int .u8 a0_0, .int .u32 a0_1, .int .u8 a0_2, .slice A0_3 l0_3.length c0_3, .int .u8 a0_4, .int .u8 a0_5, .int .u8 a0_6, .int .i64 a0_7] 51 (0, 0)) (zK BK351.out) hg (Kd.R_ne HO_3.out BK351.out (by decide)))) : p := h

/-! ### pledgeref13_LinesBytes: function 78 -/
def pledgeref13_LinesBytes.l0 : Nat → List (S90) → List Int → Int → Option (List Int)
  | 0, _, _, _ => none
  | k + 1, x0, x3, x4 => if x4 < (x0.length : Int) then (if 0 ≤ x4 then (if x3.length < 140737488355328 then ((some (x3 ++ [(rd_T90 x0 x4).f0] : List Int)).bind fun y341 => ((pledgeref03_Int.f k ((rd_T90 x0 x4).f1)).bind fun t345 => (if y341.length + t345.length < 140737488355328 then (pledgeref13_LinesBytes.l0 k x0 (y341 ++ t345) (wrap64 (x4 + 1))) else (none)))) else (none)) else (none)) else (some x3)
def pledgeref13_LinesBytes.f (k : Nat) (l0 : List (S90)) : Option (List Int) := pledgeref13_LinesBytes.l0 k l0 (([((l0.length : Int)) % 256] : List Int)) 0
theorem pledgeref13_LinesBytes.mono_l : ∀ k, (∀ y0 y1 y2, LeO (pledgeref13_LinesBytes.l0 k y0 y1 y2) (pledgeref13_LinesBytes.l0 (k + 1) y0 y1 y2))
  | 0 => fun _ _ _ r h => by simp [pledgeref13_LinesBytes.l0] at h
  | k + 1 => by
    have ih0 := pledgeref13_LinesBytes.mono_l k
    · intro y0 y1 y2
      unfold pledgeref13_LinesBytes.l0
      repeat' first
      | (with_reducible exact ih0 _ _ _)
      | (with_reducible exact pledgeref03_Int.mono _ _)
      | (with_reducible exact LeO.refl _)
      | (with_reducible exact LeO.none _)
      | (with_reducible refine LeO.ite ?_ ?_)
      | (with_reducible refine LeO.bind ?_ (fun _ => ?_))
      | exact ih0 _ _ _
      | exact pledgeref03_Int.mono _ _
      | exact LeO.none _
      | refine LeO.ite ?_ ?_
      | refine LeO.bind ?_ (fun _ => ?_)
theorem pledgeref13_LinesBytes.mono : ∀ a0 k, LeO (pledgeref13_LinesBytes.f k a0) (pledgeref13_LinesBytes.f (k + 1) a0) := by
  intro a0 k
  have ih0 := pledgeref13_LinesBytes.mono_l k
  unfold pledgeref13_LinesBytes.f
  repeat' first
      | (with_reducible exact ih0 _ _ _)
      | (with_reducible exact pledgeref03_Int.mono _ _)
      | (with_reducible exact LeO.refl _)
      | (with_reducible exact LeO.none _)
      | (with_reducible refine LeO.ite ?_ ?_)
      | (with_reducible refine LeO.bind ?_ (fun _ => ?_))
      | exact ih0 _ _ _
      | exact pledgeref03_Int.mono _ _
      | exact LeO.none _
      | refine LeO.ite ?_ ?_
      | refine LeO.bind ?_ (fun _ => ?_)
set_option maxHeartbeats 8000000 in
set_option maxRecDepth 100000 in
theorem pledgeref13_LinesBytes.calls (k : Nat) (A0 : Option Addr) (c0 : Nat) (l0 : List (S90)) (r : List Int) (w : World) (hr0 : Kd.C k90 w A0 l0.length l0) (hc0 : l0.length ≤ c0) (h : pledgeref13_LinesBytes.f k l0 = some r) :
    Calls Tryz.prog 78 #[.slice A0 l0.length c0] w fun e w' => ∃ v0_ : Value, e = .returned (v0_) ∧ Kd.R (Kd.int .u8) 5 w' w.heap.size (fun _ => True) v0_ r ∧ Below w.heap.size w w' := by
  have HR0 := Aside0.mk hr0
  have HC0 := Aside0.mk hc0
  clear hr0 hc0
  have HB := Aside0.mk (Below.refl w.heap.size w)
  have H : (pledgeref13_LinesBytes.l0 k l0 (([((l0.length : Int)) % 256] : List Int)) 0) = some r := h
  clear h
  obtain ⟨y337, hy337⟩ : ∃ y_ : List Int, y_ = (([((l0.length : Int)) % 256] : List Int)) := ⟨_, rfl⟩
  replace H : (pledgeref13_LinesBytes.l0 k l0 y337 0) = some r := by first | (rw [hy337]; with_reducible exact H) | (have H2_ := (Option.bind_some _ _).symm.trans H; rw [hy337]; with_reducible exact H2_) | (have H2_ := (Option.bind_some _ _).symm.trans H; with_reducible exact H2_) | with_reducible exact H | (rw [hy337]; exact H) | exact H
  have Ny337 := Aside0.mk hy337
  clear hy337
  have H' := Aside0.mk H
  clear H
  go_enter Tryz.func78, Tryz.ntmps78
  go_wp2_with (first | ((with_reducible refine gate_dst (N := 8) rfl ?_); refine Kd.R_lit (Kd.int .u8) _ 5 ?hg (N := 8) ?hd (xs := ([((l0.length : Int)) % 256] : List Int)) (inner := [.int .u8 (((l0.length : Int)) % 256)]) (ok := fun _ => True) (okp := fun _ => True) ?hr ?hp (fun _ hk => hk) trivial (Below.refl _ _) (Nat.le_refl _) (by simp) ?_; (case hd => rfl); (case hg => rfl); (case hr => first | (go_simp; done) | (go_simp; rfl)); (case hp => exact (Reps.one (show Kd.M (Kd.int .u8) _ _ _ (((l0.length : Int)) % 256) [.int .u8 (((l0.length : Int)) % 256)] from rfl) (Reps.none _ _))); intro v338 w2 ho3 hb hg_ hnew_; clear hg_ hnew_; (first | rw [← Ny337.out] at ho3 | (simp only [Int.reduceToNat] at ho3; rw [← Ny337.out] at ho3)); have HO339 := Aside0.mk (Kd.R_lower ho3 (below_size zB)); replace HB := zH hb; clear hb ho3))
  go_loopg [3, 4] k (fun kq v3 v4 w' => ∃ (x3_1 : List Int) (x4_1 : Int), v4 = .int .i64 x4_1 ∧ Aside0 (pledgeref13_LinesBytes.l0 kq l0 x3_1 x4_1 = some r) ∧ Aside0 (kq ≤ k) ∧ Aside0 (Kd.R (Kd.int .u8) 5 w' w.heap.size (fun _ => True) v3 x3_1) ∧ Aside0 (Below w.heap.size w w'))
  case atStart => exact ⟨(y337), (0), (by first | rfl | (simp; done) | (simp [*]; done)), H', ⟨Nat.le_refl _⟩, ⟨by (with_reducible repeat (first | apply Kd.R_alloc | apply Kd.R_drewN | apply Kd.R_drew)); exact HO339.out⟩, ⟨zB⟩⟩
  case round =>
    clear H'
    try clear p2
    obtain ⟨x3_1, x4_1, rfl, HA, HK1, HO_3, HB⟩ := hrel
    cases gk with
    | zero => exact absurd HA.out (by simp [pledgeref13_LinesBytes.l0])
    | succ k1 =>
      have H := HA.out
      clear HA
      simp only [pledgeref13_LinesBytes.l0] at H
      by_cases c4 : x4_1 < (l0.length : Int)
      rotate_left
      · rw [if_neg c4] at H
        have c4b0 : decide (x4_1 < (l0.length : Int)) = false := decide_eq_false c4
        clear c4
        obtain rfl := Option.some.inj H
        go_wp2
        go_ret
        exact ⟨_, zer, by (with_reducible repeat (first | apply Kd.R_alloc | apply Kd.R_drewN | apply Kd.R_drew)); exact HO_3.out, zB⟩
      rw [if_pos c4] at H
      have c4b0 := decide_eq_true c4
      clear c4
      by_cases c5 : 0 ≤ x4_1
      rotate_left
      · rw [if_neg c5] at H
        exact absurd H (by simp)
      rw [if_pos c5] at H
      have c5b0 := decide_eq_true c5
      clear c5
      by_cases c6 : x3_1.length < 140737488355328
      rotate_left
      · rw [if_neg c6] at H
        exact absurd H (by simp)
      rw [if_pos c6] at H
      have LMc6 := Aside0.mk c6
      clear c6
      obtain ⟨y341, hy341⟩ : ∃ y_ : List Int, y_ = (x3_1 ++ [(rd_T90 l0 x4_1).f0]) := ⟨_, rfl⟩
      replace H : ((pledgeref03_Int.f k1 ((rd_T90 l0 x4_1).f1)).bind fun t345 => (if y341.length + t345.length < 140737488355328 then (pledgeref13_LinesBytes.l0 k1 l0 (y341 ++ t345) (wrap64 (x4_1 + 1))) else (none))) = some r := by first | (rw [hy341]; with_reducible exact H) | (have H2_ := (Option.bind_some _ _).symm.trans H; rw [hy341]; with_reducible exact H2_) | (have H2_ := (Option.bind_some _ _).symm.trans H; with_reducible exact H2_) | with_reducible exact H | (rw [hy341]; exact H) | exact H
      have Ny341 := Aside0.mk hy341
      clear hy341
      obtain ⟨t345, A7, H⟩ := zO H
      try dsimp only at H
      by_cases c8 : y341.length + t345.length < 140737488355328
      rotate_left
      · rw [if_neg c8] at H
        exact absurd H (by simp)
      rw [if_pos c8] at H
      have LMc8 := Aside0.mk c8
      clear c8
      obtain ⟨y348, hy348⟩ : ∃ y_ : List Int, y_ = (y341 ++ t345) := ⟨_, rfl⟩
      replace H : (pledgeref13_LinesBytes.l0 k1 l0 y348 (wrap64 (x4_1 + 1))) = some r := by first | (rw [hy348]; with_reducible exact H) | (have H2_ := (Option.bind_some _ _).symm.trans H; rw [hy348]; with_reducible exact H2_) | (have H2_ := (Option.bind_some _ _).symm.trans H; with_reducible exact H2_) | with_reducible exact H | (rw [hy348]; exact H) | exact H
      have Ny348 := Aside0.mk hy348
      clear hy348
      have H' := Aside0.mk H
      clear H
      have p340 : 0 ≤ (x4_1 : Int) := of_decide_eq_true zas
      have q340 : x4_1 < (l0.length : Int) := of_decide_eq_true zas
      obtain ⟨ad340, e340, hx340_0, hx340_1⟩ := at_T90 HR0.out x4_1 p340 q340
      cases e340
      replace hx340_0 := (HB.out.cell (World.block_lt_of_cell? w _ hx340_0)).trans hx340_0
      replace hx340_1 := (HB.out.cell (World.block_lt_of_cell? w _ hx340_1)).trans hx340_1
      replace p340 := eq_true p340
      replace q340 := eq_true q340
      go_wp2_with (first | ((with_reducible refine gate_builtin (b := .append) (xs := #[.tmp 15, .tmp 21]) rfl ?_); at_builtin; refine Kd.R_append (Kd.int .u8) (w0 := w) w.heap.size rfl (.tmp 15) (.tmp 21) 23 5 (.int .u8 0) 1 rfl Tryz.underlying23 info5 rfl (by decide) (by omega) u3 x3_1 ((rd_T90 l0 x4_1).f0) [.int .u8 ((rd_T90 l0 x4_1).f0)] (fun _ => True) (fun _ => False) rfl rfl ?aP (fun _ hk => hk.elim) ?aF ?aO ?aB ?aS ?aL ?_; (case aP => exact rfl); (case aB => exact zB); (case aF => exact (fun _ _ => trivial)); (case aO => exact (zR HO_3.out)); (case aS => exact (below_size zB)); (case aL => have := LMc6.out; omega); intro v342 w9 ho hb hg hat; rw [← Ny341.out] at ho; replace HB := Aside0.mk (hb); have HO343 := Aside0.mk (ho); clear HO_3 ho hb hg hat; have p344 : 0 ≤ (x4_1 : Int) := of_decide_eq_true zas; have q344 : x4_1 < (l0.length : Int) := of_decide_eq_true zas; obtain ⟨ad344, e344, hx344_0, hx344_1⟩ := at_T90 HR0.out x4_1 p344 q344; obtain rfl : ad340 = ad344 := (by injection e344); replace hx344_0 := (HB.out.cell (World.block_lt_of_cell? w _ hx344_0)).trans hx344_0; replace hx344_1 := (HB.out.cell (World.block_lt_of_cell? w _ hx344_1)).trans hx344_1; replace p344 := eq_true p344; replace q344 := eq_true q344) | ((with_reducible refine gate_callee (f := 79) rfl ?_); refine goesZ (some 29) Tryz.func79 (args := #[.int .i64 ((rd_T90 l0 x4_1).f1)]) (h := ?_); (with_reducible refine (pledgeref03_Int.calls k1 ((rd_T90 l0 x4_1).f1) t345 _ A7.out).mono ?_); rintro e w10 ⟨v346, rfl, ho0, hb⟩; refine ⟨_, rfl, ?_⟩; have HO347 := Aside0.mk (Kd.R_lower (Kd.R_new' ho0 (Kd.R_lt (zR HO343.out))) (below_size zB)); replace HO343 := Aside0.mk (Kd.R_elder' (zR HO343.out) (Kd.R_base ho0) hb); replace HB := zH hb; clear hb ho0; obtain ⟨Ao12, co12, eo12⟩ := Kd.R_slice HO347.out; subst eo12) | ((with_reducible refine gate_builtin (b := .append) (xs := #[.tmp 23, .tmp 29]) rfl ?_); at_builtin; refine Kd.R_append_rows (Kd.int .u8) (w0 := w) w.heap.size rfl (.tmp 23) (.tmp 29) 23 5 (.int .u8 0) 1 rfl Tryz.underlying23 info5 rfl (by decide) (by omega) v342 y341 t345 _ _ _ (fun k_ => some k_ ≠ (.slice Ao12 t345.length co12 : Value).ownBlock) (fun _ => False) rfl rfl ?aO ?aR (fun _ _ h => h) (fun _ h => h.elim) ?aF ?aB ?aS ?aL ?_; (case aR => exact zC ((Kd.R_reads' HO347.out).2.2)); (case aB => exact zB); (case aF => exact (fun k_ hk => Kd.fresh' (Kd.R_lt (zR HO347.out)) k_ hk)); (case aO => exact (by (with_reducible repeat (first | apply Kd.R_alloc | apply Kd.R_drewN | apply Kd.R_drew)); exact Kd.R_mono HO343.out (fun _ hk => hk.2))); (case aS => exact (below_size zB)); (case aL => have := LMc8.out; omega); intro v349 w11 ho hb hg hat; rw [← Ny348.out] at ho; replace HO347 := Aside0.mk (Kd.R_after (ok := (fun _ => True)) (zR HO347.out) hg hat); replace HB := Aside0.mk (hb); have HO350 := Aside0.mk (ho); clear HO343 ho hb hg hat))
      go_roundg k1
      case measure => have := HK1.out; omega
      case rel => exact ⟨(y348), (wrap64 (x4_1 + 1)), (by first | rfl | (simp; done) | (simp [*]; done)), H', ⟨by have := HK1.out; omega⟩, ⟨by (with_reducible repeat (first | apply Kd.R_alloc | apply Kd.R_drewN | apply Kd.R_drew)); exact Kd.R_mono HO350.out (fun _ hk => trivial)⟩, ⟨zB⟩⟩

/-! ### pledgeref34_Bytes: function 47 -/
def pledgeref34_Bytes.j0 : Nat → List Int → Int → Int → Int → List (S90) → Int → Int → Int → Int → Option (List Int)
  | 0, _, _, _, _, _, _, _, _, _ => none
  | k + 1, x3, x352000, x352001, x352002, x352003, x352004, x352005, x352006, x352007 => if x352000 = 1 then (if x3.length < 140737488355328 then ((some (x3 ++ [x352002] : List Int)).bind fun y361 => ((pledgeref13_LinesBytes.f k x352003).bind fun t364 => (if y361.length + t364.length < 140737488355328 then (some (y361 ++ t364)) else (none)))) else (none)) else (if x352000 = 5 then ((some (([x352004, x352006] : List Int) : List Int)).bind fun y370 => (if x3.length + y370.length < 140737488355328 then ((some (x3 ++ y370 : List Int)).bind fun y373 => ((pledgeref03_Int.f k x352007).bind fun t376 => (if y373.length + t376.length < 140737488355328 then (some (y373 ++ t376)) else (none)))) else (none))) else (if x352000 = 6 then ((some (([x352004, x352005, x352006] : List Int) : List Int)).bind fun y382 => (if x3.length + y382.length < 140737488355328 then ((some (x3 ++ y382 : List Int)).bind fun y385 => ((pledgeref03_Int.f k x352007).bind fun t388 => (if y385.length + t388.length < 140737488355328 then (some (y385 ++ t388)) else (none)))) else (none))) else (if x352000 = 7 then (if x3.length < 140737488355328 then (some (x3 ++ [x352004])) else (none)) else (some x3))))
def pledgeref34_Bytes.f (k : Nat) (a0_0 : Int) (a0_1 : Int) (a0_2 : Int) (l0_3 : List (S90)) (a0_4 : Int) (a0_5 : Int) (a0_6 : Int) (a0_7 : Int) : Option (List Int) := (some (([a0_0] : List Int) : List Int)).bind fun y352 => (if a0_0 ≤ 4 then ((pledgeref03_Num.f k (IntKind.u64.wrap (a0_1)) 4).bind fun t355 => (if y352.length + t355.length < 140737488355328 then (pledgeref34_Bytes.j0 k (y352 ++ t355) a0_0 a0_1 a0_2 l0_3 a0_4 a0_5 a0_6 a0_7) else (none))) else (pledgeref34_Bytes.j0 k y352 a0_0 a0_1 a0_2 l0_3 a0_4 a0_5 a0_6 a0_7))
theorem pledgeref34_Bytes.mono_l : ∀ k, (∀ y0 y1 y2 y3 y4 y5 y6 y7 y8, LeO (pledgeref34_Bytes.j0 k y0 y1 y2 y3 y4 y5 y6 y7 y8) (pledgeref34_Bytes.j0 (k + 1) y0 y1 y2 y3 y4 y5 y6 y7 y8))
  | 0 => fun _ _ _ _ _ _ _ _ _ r h => by simp [pledgeref34_Bytes.j0] at h
  | k + 1 => by
    have ih0 := pledgeref34_Bytes.mono_l k
    · intro y0 y1 y2 y3 y4 y5 y6 y7 y8
      unfold pledgeref34_Bytes.j0
      repeat' first
      | (with_reducible exact ih0 _ _ _ _ _ _ _ _ _)
      | (with_reducible exact pledgeref03_Int.mono _ _)
      | (with_reducible exact pledgeref03_Num.mono _ _ _)
      | (with_reducible exact pledgeref13_LinesBytes.mono _ _)
      | (with_reducible exact LeO.refl _)
      | (with_reducible exact LeO.none _)
      | (with_reducible refine LeO.ite ?_ ?_)
      | (with_reducible refine LeO.bind ?_ (fun _ => ?_))
      | exact ih0 _ _ _ _ _ _ _ _ _
      | exact pledgeref03_Int.mono _ _
      | exact pledgeref03_Num.mono _ _ _
      | exact pledgeref13_LinesBytes.mono _ _
      | exact LeO.none _
      | refine LeO.ite ?_ ?_
      | refine LeO.bind ?_ (fun _ => ?_)
theorem pledgeref34_Bytes.mono : ∀ a0 a1 a2 a3 a4 a5 a6 a7 k, LeO (pledgeref34_Bytes.f k a0 a1 a2 a3 a4 a5 a6 a7) (pledgeref34_Bytes.f (k + 1) a0 a1 a2 a3 a4 a5 a6 a7) := by
  intro a0 a1 a2 a3 a4 a5 a6 a7 k
  have ih0 := pledgeref34_Bytes.mono_l k
  unfold pledgeref34_Bytes.f
  repeat' first
      | (with_reducible exact ih0 _ _ _ _ _ _ _ _ _)
      | (with_reducible exact pledgeref03_Int.mono _ _)
      | (with_reducible exact pledgeref03_Num.mono _ _ _)
      | (with_reducible exact pledgeref13_LinesBytes.mono _ _)
      | (with_reducible exact LeO.refl _)
      | (with_reducible exact LeO.none _)
      | (with_reducible refine LeO.ite ?_ ?_)
      | (with_reducible refine LeO.bind ?_ (fun _ => ?_))
      | exact ih0 _ _ _ _ _ _ _ _ _
      | exact pledgeref03_Int.mono _ _
      | exact pledgeref03_Num.mono _ _ _
      | exact pledgeref13_LinesBytes.mono _ _
      | exact LeO.none _
      | refine LeO.ite ?_ ?_
      | refine LeO.bind ?_ (fun _ => ?_)
set_option maxHeartbeats 8000000 in
set_option maxRecDepth 100000 in
theorem pledgeref34_Bytes.calls (k : Nat) (a0_0 : Int) (a0_1 : Int) (a0_2 : Int) (A0_3 : Option Addr) (c0_3 : Nat) (l0_3 : List (S90)) (a0_4 : Int) (a0_5 : Int) (a0_6 : Int) (a0_7 : Int) (r : List Int) (w : World) (hr0_3 : Kd.C k90 w A0_3 l0_3.length l0_3) (hc0_3 : l0_3.length ≤ c0_3) (h : pledgeref34_Bytes.f k a0_0 a0_1 a0_2 l0_3 a0_4 a0_5 a0_6 a0_7 = some r) :
    Calls Tryz.prog 47 #[.agg #[.int .u8 a0_0, .int .u32 a0_1, .int .u8 a0_2, .slice A0_3 l0_3.length c0_3, .int .u8 a0_4, .int .u8 a0_5, .int .u8 a0_6, .int .i64 a0_7]] w fun e w' => ∃ v0_ : Value, e = .returned (v0_) ∧ Kd.R (Kd.int .u8) 5 w' w.heap.size (fun _ => True) v0_ r ∧ Below w.heap.size w w' := by
  have hu51 := Tryz.underlying51
  have HR0_3 := Aside0.mk hr0_3
  have HC0_3 := Aside0.mk hc0_3
  clear hr0_3 hc0_3
  have HB := Aside0.mk (Below.refl w.heap.size w)
  have H : ((some (([a0_0] : List Int) : List Int)).bind fun y352 => (if a0_0 ≤ 4 then ((pledgeref03_Num.f k (IntKind.u64.wrap (a0_1)) 4).bind fun t355 => (if y352.length + t355.length < 140737488355328 then (pledgeref34_Bytes.j0 k (y352 ++ t355) a0_0 a0_1 a0_2 l0_3 a0_4 a0_5 a0_6 a0_7) else (none))) else (pledgeref34_Bytes.j0 k y352 a0_0 a0_1 a0_2 l0_3 a0_4 a0_5 a0_6 a0_7))) = some r := h
  clear h
  obtain ⟨y352, hy352⟩ : ∃ y_ : List Int, y_ = (([a0_0] : List Int)) := ⟨_, rfl⟩
  replace H : (if a0_0 ≤ 4 then ((pledgeref03_Num.f k (IntKind.u64.wrap (a0_1)) 4).bind fun t355 => (if y352.length + t355.length < 140737488355328 then (pledgeref34_Bytes.j0 k (y352 ++ t355) a0_0 a0_1 a0_2 l0_3 a0_4 a0_5 a0_6 a0_7) else (none))) else (pledgeref34_Bytes.j0 k y352 a0_0 a0_1 a0_2 l0_3 a0_4 a0_5 a0_6 a0_7)) = some r := by first | (rw [hy352]; with_reducible exact H) | (have H2_ := (Option.bind_some _ _).symm.trans H; rw [hy352]; with_reducible exact H2_) | (have H2_ := (Option.bind_some _ _).symm.trans H; with_reducible exact H2_) | with_reducible exact H | (rw [hy352]; exact H) | exact H
  have Ny352 := Aside0.mk hy352
  clear hy352
  have HC2 := Aside0.mk H
  clear H
  go_enter Tryz.func47, Tryz.ntmps47
  go_upto_if 9 with (first | ((with_reducible refine gate_dst (N := 1) rfl ?_); refine zbox (N := 1) (cs := #[.int .u8 a0_0, .int .u32 a0_1, .int .u8 a0_2, .slice A0_3 l0_3.length c0_3, .int .u8 a0_4, .int .u8 a0_5, .int .u8 a0_6, .int .i64 a0_7]) (t := 51) (h := ?_); intro gb351 hg w3 hbox hb; have BK351 := Aside0.mk (hbox); have GW351 := zG (p := w.heap.size ≤ gb351); have GE351 := GW351; replace HB := zH hb; clear hb hbox hg; have hcz4_0 := zcf8 BK351.out) | ((with_reducible refine gate_dst (N := 6) rfl ?_); refine Kd.R_lit (Kd.int .u8) _ 5 ?hg (N := 6) ?hd (xs := ([a0_0] : List Int)) (inner := [.int .u8 a0_0]) (ok := fun _ => True) (okp := fun _ => True) ?hr ?hp (fun _ hk => hk) trivial (Below.refl _ _) (Nat.le_refl _) (by simp) ?_; (case hd => rfl); (case hg => rfl); (case hr => first | (go_simp; done) | (go_simp; rfl)); (case hp => exact (Reps.one (show Kd.M (Kd.int .u8) _ _ _ a0_0 [.int .u8 a0_0] from rfl) (Reps.none _ _))); intro v353 w5 ho6 hb hg_ hnew_; clear hg_ hnew_; (first | rw [← Ny352.out] at ho6 | (simp only [Int.reduceToNat] at ho6; rw [← Ny352.out] at ho6)); have HO354 := Aside0.mk (Kd.R_lower ho6 (below_size zB)); replace BK351 := zJ BK351 hb; replace HB := zH hb; clear hb ho6; have hcz7_0 := zcf8 BK351.out))
  (try simp only [Act.put, List.setIfInBounds_toArray, List.set_cons_zero, List.set_cons_succ])
  go_cut [3] (fun v3 wc => ∃ (kq : Nat) (x3_1 : List Int), Aside0 (pledgeref34_Bytes.j0 kq x3_1 a0_0 a0_1 a0_2 l0_3 a0_4 a0_5 a0_6 a0_7 = some r) ∧ Aside0 (kq ≤ k) ∧ Aside0 (Kd.R (Kd.int .u8) 5 wc w.heap.size (fun _ => True) v3 x3_1) ∧ Aside0 (wc.heap[gb351]? = some (.cells #[.int .u8 a0_0, .int .u32 a0_1, .int .u8 a0_2, (.slice A0_3 l0_3.length c0_3), .int .u8 a0_4, .int .u8 a0_5, .int .u8 a0_6, .int .i64 a0_7] 51 (0, 0))) ∧ Aside0 (Below w.heap.size w wc))
  case first =>
    have H := HC2.out
    clear HC2
    by_cases c8 : a0_0 ≤ 4
    rotate_left
    · rw [if_neg c8] at H
      have c8b0 : decide (a0_0 ≤ 4) = false := decide_eq_false c8
      clear c8
      (first | rw [c8b0] | (simp only [i64_w, i32_w]; rw [c8b0]) | skip)
      have H' := Aside0.mk H
      clear H
      go_wp2
      go_meet
      case rel => exact ⟨_, (y352), H', ⟨by first | omega | exact Nat.le_refl _⟩, ⟨by (with_reducible repeat (first | apply Kd.R_alloc | apply Kd.R_drewN | apply Kd.R_drew)); exact HO354.out⟩, ⟨by (with_reducible repeat (first | refine blk_drewN ?_ _ | refine blk_drew ?_ | refine blk_alloc ?_ _)); exact BK351.out⟩, ⟨zB⟩⟩
    rw [if_pos c8] at H
    have c8b0 := decide_eq_true c8
    clear c8
    (first | rw [c8b0] | (simp only [i64_w, i32_w]; rw [c8b0]) | skip)
    obtain ⟨t355, A9, H⟩ := zO H
    try dsimp only at H
    by_cases c10 : y352.length + t355.length < 140737488355328
    rotate_left
    · rw [if_neg c10] at H
      exact absurd H (by simp)
    rw [if_pos c10] at H
    have LMc10 := Aside0.mk c10
    clear c10
    obtain ⟨y358, hy358⟩ : ∃ y_ : List Int, y_ = (y352 ++ t355) := ⟨_, rfl⟩
    replace H : (pledgeref34_Bytes.j0 k y358 a0_0 a0_1 a0_2 l0_3 a0_4 a0_5 a0_6 a0_7) = some r := by first | (rw [hy358]; with_reducible exact H) | (have H2_ := (Option.bind_some _ _).symm.trans H; rw [hy358]; with_reducible exact H2_) | (have H2_ := (Option.bind_some _ _).symm.trans H; with_reducible exact H2_) | with_reducible exact H | (rw [hy358]; exact H) | exact H
    have Ny358 := Aside0.mk hy358
    clear hy358
    have H' := Aside0.mk H
    clear H
    have hcz11_0 := zcf8 BK351.out
    go_wp2_with (first | ((with_reducible refine gate_callee (f := 77) rfl ?_); refine goesZ (some 14) Tryz.func77 (args := #[.int .u64 (IntKind.u64.wrap (a0_1)), .int .i64 4]) (h := ?_); (with_reducible refine (pledgeref03_Num.calls k (IntKind.u64.wrap (a0_1)) 4 t355 _ A9.out).mono ?_); rintro e w12 ⟨v356, rfl, ho0, hb⟩; refine ⟨_, rfl, ?_⟩; have HO357 := Aside0.mk (Kd.R_lower (Kd.R_new' ho0 (Kd.R_lt (zR HO354.out))) (below_size zB)); replace BK351 := zJ BK351 hb; replace HO354 := Aside0.mk (Kd.R_elder' (zR HO354.out) (Kd.R_base ho0) hb); replace HB := zH hb; clear hb ho0; obtain ⟨Ao14, co14, eo14⟩ := Kd.R_slice HO357.out; subst eo14) | ((with_reducible refine gate_builtin (b := .append) (xs := #[.tmp 10, .tmp 14]) rfl ?_); at_builtin; refine Kd.R_append_rows (Kd.int .u8) (w0 := w) w.heap.size rfl (.tmp 10) (.tmp 14) 23 5 (.int .u8 0) 1 rfl Tryz.underlying23 info5 rfl (by decide) (by omega) v353 y352 t355 _ _ _ (fun k_ => some k_ ≠ (.slice Ao14 t355.length co14 : Value).ownBlock) (fun _ => False) rfl rfl ?aO ?aR (fun _ _ h => h) (fun _ h => h.elim) ?aF ?aB ?aS ?aL ?_; (case aR => exact zC ((Kd.R_reads' HO357.out).2.2)); (case aB => exact zB); (case aF => exact (fun k_ hk => Kd.fresh' (Kd.R_lt (zR HO357.out)) k_ hk)); (case aO => exact (by (with_reducible repeat (first | apply Kd.R_alloc | apply Kd.R_drewN | apply Kd.R_drew)); exact Kd.R_mono HO354.out (fun _ hk => hk.2))); (case aS => exact (below_size zB)); (case aL => have := LMc10.out; omega); intro v359 w13 ho hb hg hat; rw [← Ny358.out] at ho; replace BK351 := Aside0.mk (blk_grown (g := gb351) (o := .cells #[.int .u8 a0_0, .int .u32 a0_1, .int .u8 a0_2, .slice A0_3 l0_3.length c0_3, .int .u8 a0_4, .int .u8 a0_5, .int .u8 a0_6, .int .i64 a0_7] 51 (0, 0)) (zK BK351.out) hg (Kd.R_ne HO354.out BK351.out (by decide))); replace HO357 := Aside0.mk (Kd.R_after (ok := (fun _ => True)) (zR HO357.out) hg hat); replace HB := Aside0.mk (hb); have HO360 := Aside0.mk (ho); clear HO354 ho hb hg hat))
    go_meet
    case rel => exact ⟨_, (y358), H', ⟨by first | omega | exact Nat.le_refl _⟩, ⟨by (with_reducible repeat (first | apply Kd.R_alloc | apply Kd.R_drewN | apply Kd.R_drew)); exact Kd.R_mono HO360.out (fun _ hk => trivial)⟩, ⟨by (with_reducible repeat (first | refine blk_drewN ?_ _ | refine blk_drew ?_ | refine blk_alloc ?_ _)); exact BK351.out⟩, ⟨zB⟩⟩
  case rest =>
    clear HC2
    try clear c1
    try clear p2
    try clear c4
    try clear c7
    try clear c8
    try clear c8b0
    try clear c10
    try clear hcz11_0
    try clear hcz4_0
    try clear hcz7_0
    obtain ⟨kq, x3_1, HA, HJ1, HO_3, BK351, HB⟩ := hcut
    cases kq with
    | zero => exact absurd HA.out (by simp [pledgeref34_Bytes.j0])
    | succ kj1 =>
      have H := HA.out
      clear HA
      simp only [pledgeref34_Bytes.j0] at H
      by_cases c15 : a0_0 = 1
      · rw [if_pos c15] at H
        obtain ⟨c15b0, c15b1⟩ := zeq c15
        clear c15
        by_cases c16 : x3_1.length < 140737488355328
        rotate_left
        · rw [if_neg c16] at H
          exact absurd H (by simp)
        rw [if_pos c16] at H
        have LMc16 := Aside0.mk c16
        clear c16
        obtain ⟨y361, hy361⟩ : ∃ y_ : List Int, y_ = (x3_1 ++ [a0_2]) := ⟨_, rfl⟩
        replace H : ((pledgeref13_LinesBytes.f kj1 l0_3).bind fun t364 => (if y361.length + t364.length < 140737488355328 then (some (y361 ++ t364)) else (none))) = some r := by first | (rw [hy361]; with_reducible exact H) | (have H2_ := (Option.bind_some _ _).symm.trans H; rw [hy361]; with_reducible exact H2_) | (have H2_ := (Option.bind_some _ _).symm.trans H; with_reducible exact H2_) | with_reducible exact H | (rw [hy361]; exact H) | exact H
        have Ny361 := Aside0.mk hy361
        clear hy361
        obtain ⟨t364, A17, H⟩ := zO H
        try dsimp only at H
        by_cases c18 : y361.length + t364.length < 140737488355328
        rotate_left
        · rw [if_neg c18] at H
          exact absurd H (by simp)
        rw [if_pos c18] at H
        have LMc18 := Aside0.mk c18
        clear c18
        obtain ⟨y367, hy367⟩ : ∃ y_ : List Int, y_ = (y361 ++ t364) := ⟨_, rfl⟩
        replace H : (some y367) = some r := by first | (rw [hy367]; with_reducible exact H) | (have H2_ := (Option.bind_some _ _).symm.trans H; rw [hy367]; with_reducible exact H2_) | (have H2_ := (Option.bind_some _ _).symm.trans H; with_reducible exact H2_) | with_reducible exact H | (rw [hy367]; exact H) | exact H
        have Ny367 := Aside0.mk hy367
        clear hy367
        obtain rfl := Option.some.inj H
        have hcz19_0 := zcf8 BK351.out
        go_wp2_with (first | ((with_reducible refine gate_builtin (b := .append) (xs := #[.tmp 20, .tmp 23]) rfl ?_); at_builtin; refine Kd.R_append (Kd.int .u8) (w0 := w) w.heap.size rfl (.tmp 20) (.tmp 23) 23 5 (.int .u8 0) 1 rfl Tryz.underlying23 info5 rfl (by decide) (by omega) u3 x3_1 a0_2 [.int .u8 a0_2] (fun _ => True) (fun _ => False) rfl rfl ?aP (fun _ hk => hk.elim) ?aF ?aO ?aB ?aS ?aL ?_; (case aP => exact rfl); (case aB => exact zB); (case aF => exact (fun _ _ => trivial)); (case aO => exact (zR HO_3.out)); (case aS => exact (below_size zB)); (case aL => have := LMc16.out; omega); intro v362 w20 ho hb hg hat; rw [← Ny361.out] at ho; replace BK351 := qW21x1; replace HB := Aside0.mk (hb); have HO363 := Aside0.mk (ho); clear HO_3 ho hb hg hat; have hcz21_0 := zcf8 BK351.out) | ((with_reducible refine gate_callee (f := 78) rfl ?_); refine goesZ (some 28) Tryz.func78 (args := #[.slice A0_3 l0_3.length c0_3]) (h := ?_); (with_reducible refine (pledgeref13_LinesBytes.calls kj1 _ _ l0_3 t364 _ ?side1 ?side2 A17.out).mono ?_); (case side1 => exact zC (Kd.C_below HR0_3.out HB.out)); (case side2 => exact HC0_3.out); rintro e w22 ⟨v365, rfl, ho0, hb⟩; refine ⟨_, rfl, ?_⟩; have HO366 := Aside0.mk (Kd.R_lower (Kd.R_new' ho0 (Kd.R_lt (zR HO363.out))) (below_size zB)); replace BK351 := zJ BK351 hb; replace HO363 := Aside0.mk (Kd.R_elder' (zR HO363.out) (Kd.R_base ho0) hb); replace HB := zH hb; clear hb ho0; obtain ⟨Ao24, co24, eo24⟩ := Kd.R_slice HO366.out; subst eo24) | ((with_reducible refine gate_builtin (b := .append) (xs := #[.tmp 25, .tmp 28]) rfl ?_); at_builtin; refine Kd.R_append_rows (Kd.int .u8) (w0 := w) w.heap.size rfl (.tmp 25) (.tmp 28) 23 5 (.int .u8 0) 1 rfl Tryz.underlying23 info5 rfl (by decide) (by omega) v362 y361 t364 _ _ _ (fun k_ => some k_ ≠ (.slice Ao24 t364.length co24 : Value).ownBlock) (fun _ => False) rfl rfl ?aO ?aR (fun _ _ h => h) (fun _ h => h.elim) ?aF ?aB ?aS ?aL ?_; (case aR => exact zC ((Kd.R_reads' HO366.out).2.2)); (case aB => exact zB); (case aF => exact (fun k_ hk => Kd.fresh' (Kd.R_lt (zR HO366.out)) k_ hk)); (case aO => exact (by (with_reducible repeat (first | apply Kd.R_alloc | apply Kd.R_drewN | apply Kd.R_drew)); exact Kd.R_mono HO363.out (fun _ hk => hk.2))); (case aS => exact (below_size zB)); (case aL => have := LMc18.out; omega); intro v368 w23 ho hb hg hat; rw [← Ny367.out] at ho; replace BK351 := Aside0.mk (blk_grown (g := gb351) (o := .cells #[.int .u8 a0_0, .int .u32 a0_1, .int .u8 a0_2, .slice A0_3 l0_3.length c0_3, .int .u8 a0_4, .int .u8 a0_5, .int .u8 a0_6, .int .i64 a0_7] 51 (0, 0)) (zK BK351.out) hg (Kd.R_ne HO363.out BK351.out (by decide))); replace HO366 := Aside0.mk (Kd.R_after (ok := (fun _ => True)) (zR HO366.out) hg hat); replace HB := Aside0.mk (hb); have HO369 := Aside0.mk (ho); clear HO363 ho hb hg hat))
        go_ret
        exact ⟨_, zer, by (with_reducible repeat (first | apply Kd.R_alloc | apply Kd.R_drewN | apply Kd.R_drew)); exact Kd.R_mono HO369.out (fun _ hk => trivial), zB⟩
      rw [if_neg c15] at H
      obtain ⟨c15b0, c15b1⟩ := zne c15
      by_cases c25 : a0_0 = 5
      · rw [if_pos c25] at H
        obtain ⟨c25b0, c25b1⟩ := zeq c25
        clear c25
        obtain ⟨y370, hy370⟩ : ∃ y_ : List Int, y_ = (([a0_4, a0_6] : List Int)) := ⟨_, rfl⟩
        replace H : (if x3_1.length + y370.length < 140737488355328 then ((some (x3_1 ++ y370 : List Int)).bind fun y373 => ((pledgeref03_Int.f kj1 a0_7).bind fun t376 => (if y373.length + t376.length < 140737488355328 then (some (y373 ++ t376)) else (none)))) else (none)) = some r := by first | (rw [hy370]; with_reducible exact H) | (have H2_ := (Option.bind_some _ _).symm.trans H; rw [hy370]; with_reducible exact H2_) | (have H2_ := (Option.bind_some _ _).symm.trans H; with_reducible exact H2_) | with_reducible exact H | (rw [hy370]; exact H) | exact H
        have Ny370 := Aside0.mk hy370
        clear hy370
        by_cases c26 : x3_1.length + y370.length < 140737488355328
        rotate_left
        · rw [if_neg c26] at H
          exact absurd H (by simp)
        rw [if_pos c26] at H
        have LMc26 := Aside0.mk c26
        clear c26
        obtain ⟨y373, hy373⟩ : ∃ y_ : List Int, y_ = (x3_1 ++ y370) := ⟨_, rfl⟩
        replace H : ((pledgeref03_Int.f kj1 a0_7).bind fun t376 => (if y373.length + t376.length < 140737488355328 then (some (y373 ++ t376)) else (none))) = some r := by first | (rw [hy373]; with_reducible exact H) | (have H2_ := (Option.bind_some _ _).symm.trans H; rw [hy373]; with_reducible exact H2_) | (have H2_ := (Option.bind_some _ _).symm.trans H; with_reducible exact H2_) | with_reducible exact H | (rw [hy373]; exact H) | exact H
        have Ny373 := Aside0.mk hy373
        clear hy373
        obtain ⟨t376, A27, H⟩ := zO H
        try dsimp only at H
        by_cases c28 : y373.length + t376.length < 140737488355328
        rotate_left
        · rw [if_neg c28] at H
          exact absurd H (by simp)
        rw [if_pos c28] at H
        have LMc28 := Aside0.mk c28
        clear c28
        obtain ⟨y379, hy379⟩ : ∃ y_ : List Int, y_ = (y373 ++ t376) := ⟨_, rfl⟩
        replace H : (some y379) = some r := by first | (rw [hy379]; with_reducible exact H) | (have H2_ := (Option.bind_some _ _).symm.trans H; rw [hy379]; with_reducible exact H2_) | (have H2_ := (Option.bind_some _ _).symm.trans H; with_reducible exact H2_) | with_reducible exact H | (rw [hy379]; exact H) | exact H
        have Ny379 := Aside0.mk hy379
        clear hy379
        obtain rfl := Option.some.inj H
        have hcz29_0 := zcf8 BK351.out
        go_wp2_with (first | ((with_reducible refine gate_dst (N := 37) rfl ?_); refine Kd.R_lit (Kd.int .u8) _ 5 ?hg (N := 37) ?hd (xs := ([a0_4, a0_6] : List Int)) (inner := [.int .u8 a0_4, .int .u8 a0_6]) (ok := fun _ => True) (okp := fun _ => True) ?hr ?hp (fun _ hk => hk) trivial (Below.refl _ _) (Nat.le_refl _) (by simp) ?_; (case hd => rfl); (case hg => rfl); (case hr => first | (go_simp; done) | (go_simp; rfl)); (case hp => exact (Reps.one (show Kd.M (Kd.int .u8) _ _ _ a0_4 [.int .u8 a0_4] from rfl) (Reps.one (show Kd.M (Kd.int .u8) _ _ _ a0_6 [.int .u8 a0_6] from rfl) (Reps.none _ _)))); intro v371 w30 ho31 hb hg_ hnew_; clear hg_ hnew_; (first | rw [← Ny370.out] at ho31 | (simp only [Int.reduceToNat] at ho31; rw [← Ny370.out] at ho31)); have HO372 := Aside0.mk (Kd.R_lower (Kd.R_new' ho31 (Kd.R_lt (zR HO_3.out))) (below_size zB)); replace BK351 := zJ BK351 hb; replace HO_3 := Aside0.mk (Kd.R_elder' (zR HO_3.out) (Kd.R_base ho31) hb); replace HB := zH hb; clear hb ho31; obtain ⟨Ao33, co33, eo33⟩ := Kd.R_slice HO372.out; subst eo33) | ((with_reducible refine gate_builtin (b := .append) (xs := #[.tmp 32, .tmp 37]) rfl ?_); at_builtin; refine Kd.R_append_rows (Kd.int .u8) (w0 := w) w.heap.size rfl (.tmp 32) (.tmp 37) 23 5 (.int .u8 0) 1 rfl Tryz.underlying23 info5 rfl (by decide) (by omega) u3 x3_1 y370 _ _ _ (fun k_ => some k_ ≠ (.slice Ao33 y370.length co33 : Value).ownBlock) (fun _ => False) rfl rfl ?aO ?aR (fun _ _ h => h) (fun _ h => h.elim) ?aF ?aB ?aS ?aL ?_; (case aR => exact zC ((Kd.R_reads' HO372.out).2.2)); (case aB => exact zB); (case aF => exact (fun k_ hk => Kd.fresh' (Kd.R_lt (zR HO372.out)) k_ hk)); (case aO => exact (by (with_reducible repeat (first | apply Kd.R_alloc | apply Kd.R_drewN | apply Kd.R_drew)); exact Kd.R_mono HO_3.out (fun _ hk => hk.2))); (case aS => exact (below_size zB)); (case aL => have := LMc26.out; omega); intro v374 w32 ho hb hg hat; rw [← Ny373.out] at ho; replace BK351 := qW21x1; replace HO372 := Aside0.mk (Kd.R_after (ok := (fun _ => True)) (zR HO372.out) hg hat); replace HB := Aside0.mk (hb); have HO375 := Aside0.mk (ho); clear HO_3 ho hb hg hat; have hcz34_0 := zcf8 BK351.out) | ((with_reducible refine gate_callee (f := 79) rfl ?_); refine goesZ (some 42) Tryz.func79 (args := #[.int .i64 a0_7]) (h := ?_); (with_reducible refine (pledgeref03_Int.calls kj1 a0_7 t376 _ A27.out).mono ?_); rintro e w35 ⟨v377, rfl, ho0, hb⟩; refine ⟨_, rfl, ?_⟩; have HO378 := Aside0.mk (Kd.R_lower (Kd.R_new' (Kd.R_new' ho0 (Kd.R_lt (zR HO372.out))) (Kd.R_lt (zR HO375.out))) (below_size zB)); replace BK351 := zJ BK351 hb; replace HO372 := Aside0.mk (Kd.R_elder' (zR HO372.out) (Kd.R_base ho0) hb); replace HO375 := Aside0.mk (Kd.R_elder' (zR HO375.out) (Kd.R_base ho0) hb); replace HB := zH hb; clear hb ho0; obtain ⟨Ao37, co37, eo37⟩ := Kd.R_slice HO378.out; subst eo37) | ((with_reducible refine gate_builtin (b := .append) (xs := #[.tmp 39, .tmp 42]) rfl ?_); at_builtin; refine Kd.R_append_rows (Kd.int .u8) (w0 := w) w.heap.size rfl (.tmp 39) (.tmp 42) 23 5 (.int .u8 0) 1 rfl Tryz.underlying23 info5 rfl (by decide) (by omega) v374 y373 t376 _ _ _ (fun k_ => some k_ ≠ (.slice Ao33 y370.length co33 : Value).ownBlock ∧ some k_ ≠ (.slice Ao37 t376.length co37 : Value).ownBlock) (fun _ => False) rfl rfl ?aO ?aR (fun _ _ h => h) (fun _ h => h.elim) ?aF ?aB ?aS ?aL ?_; (case aR => exact zC ((Kd.R_reads' HO378.out).2.2)); (case aB => exact zB); (case aF => exact (fun k_ hk => ⟨Kd.fresh' (Kd.R_lt (zR HO372.out)) k_ hk, Kd.fresh' (Kd.R_lt (zR HO378.out)) k_ hk⟩)); (case aO => exact (zR HO375.out)); (case aS => exact (below_size zB)); (case aL => have := LMc28.out; omega); intro v380 w36 ho hb hg hat; rw [← Ny379.out] at ho; replace BK351 := Aside0.mk (blk_grown (g := gb351) (o := .cells #[.int .u8 a0_0, .int .u32 a0_1, .int .u8 a0_2, .slice A0_3 l0_3.length c0_3, .int .u8 a0_4, .int .u8 a0_5, .int .u8 a0_6, .int .i64 a0_7] 51 (0, 0)) (zK BK351.out) hg (Kd.R_ne HO375.out BK351.out (by decide))); replace HO372 := Aside0.mk (Kd.R_after (ok := (fun k_ => some k_ ≠ (.slice Ao37 t376.length co37 : Value).ownBlock)) (by (with_reducible repeat (first | apply Kd.R_alloc | apply Kd.R_drewN | apply Kd.R_drew)); exact Kd.R_mono HO372.out (fun _ hk => ⟨hk.2, hk.1.2⟩)) hg hat); replace HO378 := Aside0.mk (Kd.R_after (ok := (fun k_ => some k_ ≠ (.slice Ao33 y370.length co33 : Value).ownBlock)) (by (with_reducible repeat (first | apply Kd.R_alloc | apply Kd.R_drewN | apply Kd.R_drew)); exact Kd.R_mono HO378.out (fun _ hk => ⟨hk.1.2, hk.2⟩)) hg hat); replace HB := Aside0.mk (hb); have HO381 := Aside0.mk (ho); clear HO375 ho hb hg hat))
        go_ret
        exact ⟨_, zer, by (with_reducible repeat (first | apply Kd.R_alloc | apply Kd.R_drewN | apply Kd.R_drew)); exact Kd.R_mono HO381.out (fun _ hk => trivial), zB⟩
      rw [if_neg c25] at H
      obtain ⟨c25b0, c25b1⟩ := zne c25
      by_cases c38 : a0_0 = 6
      rotate_left
      · rw [if_neg c38] at H
        obtain ⟨c38b0, c38b1⟩ := zne c38
        by_cases c51 : a0_0 = 7
        rotate_left
        · rw [if_neg c51] at H
          obtain ⟨c51b0, c51b1⟩ := zne c51
          obtain rfl := Option.some.inj H
          have hcz55_0 := zcf8 BK351.out
          go_wp2
          go_ret
          exact ⟨_, zer, by (with_reducible repeat (first | apply Kd.R_alloc | apply Kd.R_drewN | apply Kd.R_drew)); exact HO_3.out, zB⟩
        rw [if_pos c51] at H
        obtain ⟨c51b0, c51b1⟩ := zeq c51
        clear c51
        by_cases c52 : x3_1.length < 140737488355328
        rotate_left
        · rw [if_neg c52] at H
          exact absurd H (by simp)
        rw [if_pos c52] at H
        have LMc52 := Aside0.mk c52
        clear c52
        obtain ⟨y394, hy394⟩ : ∃ y_ : List Int, y_ = (x3_1 ++ [a0_4]) := ⟨_, rfl⟩
        replace H : (some y394) = some r := by first | (rw [hy394]; with_reducible exact H) | (have H2_ := (Option.bind_some _ _).symm.trans H; rw [hy394]; with_reducible exact H2_) | (have H2_ := (Option.bind_some _ _).symm.trans H; with_reducible exact H2_) | with_reducible exact H | (rw [hy394]; exact H) | exact H
        have Ny394 := Aside0.mk hy394
        clear hy394
        obtain rfl := Option.some.inj H
        have hcz53_0 := zcf8 BK351.out
        go_wp2_with (first | ((with_reducible refine gate_builtin (b := .append) (xs := #[.tmp 62, .tmp 65]) rfl ?_); at_builtin; refine Kd.R_append (Kd.int .u8) (w0 := w) w.heap.size rfl (.tmp 62) (.tmp 65) 23 5 (.int .u8 0) 1 rfl Tryz.underlying23 info5 rfl (by decide) (by omega) u3 x3_1 a0_4 [.int .u8 a0_4] (fun _ => True) (fun _ => False) rfl rfl ?aP (fun _ hk => hk.elim) ?aF ?aO ?aB ?aS ?aL ?_; (case aP => exact rfl); (case aB => exact zB); (case aF => exact (fun _ _ => trivial)); (case aO => exact (zR HO_3.out)); (case aS => exact (below_size zB)); (case aL => have := LMc52.out; omega); intro v395 w54 ho hb hg hat; rw [← Ny394.out] at ho; replace BK351 := qW21x1; replace HB := Aside0.mk (hb); have HO396 := Aside0.mk (ho); clear HO_3 ho hb hg hat))
        go_ret
        exact ⟨_, zer, by (with_reducible repeat (first | apply Kd.R_alloc | apply Kd.R_drewN | apply Kd.R_drew)); exact HO396.out, zB⟩
      rw [if_pos c38] at H
      obtain ⟨c38b0, c38b1⟩ := zeq c38
      clear c38
      obtain ⟨y382, hy382⟩ : ∃ y_ : List Int, y_ = (([a0_4, a0_5, a0_6] : List Int)) := ⟨_, rfl⟩
      replace H : (if x3_1.length + y382.length < 140737488355328 then ((some (x3_1 ++ y382 : List Int)).bind fun y385 => ((pledgeref03_Int.f kj1 a0_7).bind fun t388 => (if y385.length + t388.length < 140737488355328 then (some (y385 ++ t388)) else (none)))) else (none)) = some r := by first | (rw [hy382]; with_reducible exact H) | (have H2_ := (Option.bind_some _ _).symm.trans H; rw [hy382]; with_reducible exact H2_) | (have H2_ := (Option.bind_some _ _).symm.trans H; with_reducible exact H2_) | with_reducible exact H | (rw [hy382]; exact H) | exact H
      have Ny382 := Aside0.mk hy382
      clear hy382
      by_cases c39 : x3_1.length + y382.length < 140737488355328
      rotate_left
      · rw [if_neg c39] at H
        exact absurd H (by simp)
      rw [if_pos c39] at H
      have LMc39 := Aside0.mk c39
      clear c39
      obtain ⟨y385, hy385⟩ : ∃ y_ : List Int, y_ = (x3_1 ++ y382) := ⟨_, rfl⟩
      replace H : ((pledgeref03_Int.f kj1 a0_7).bind fun t388 => (if y385.length + t388.length < 140737488355328 then (some (y385 ++ t388)) else (none))) = some r := by first | (rw [hy385]; with_reducible exact H) | (have H2_ := (Option.bind_some _ _).symm.trans H; rw [hy385]; with_reducible exact H2_) | (have H2_ := (Option.bind_some _ _).symm.trans H; with_reducible exact H2_) | with_reducible exact H | (rw [hy385]; exact H) | exact H
      have Ny385 := Aside0.mk hy385
      clear hy385
      obtain ⟨t388, A40, H⟩ := zO H
      try dsimp only at H
      by_cases c41 : y385.length + t388.length < 140737488355328
      rotate_left
      · rw [if_neg c41] at H
        exact absurd H (by simp)
      rw [if_pos c41] at H
      have LMc41 := Aside0.mk c41
      clear c41
      obtain ⟨y391, hy391⟩ : ∃ y_ : List Int, y_ = (y385 ++ t388) := ⟨_, rfl⟩
      replace H : (some y391) = some r := by first | (rw [hy391]; with_reducible exact H) | (have H2_ := (Option.bind_some _ _).symm.trans H; rw [hy391]; with_reducible exact H2_) | (have H2_ := (Option.bind_some _ _).symm.trans H; with_reducible exact H2_) | with_reducible exact H | (rw [hy391]; exact H) | exact H
      have Ny391 := Aside0.mk hy391
      clear hy391
      obtain rfl := Option.some.inj H
      have hcz42_0 := zcf8 BK351.out
      go_wp2_with (first | ((with_reducible refine gate_dst (N := 53) rfl ?_); refine Kd.R_lit (Kd.int .u8) _ 5 ?hg (N := 53) ?hd (xs := ([a0_4, a0_5, a0_6] : List Int)) (inner := [.int .u8 a0_4, .int .u8 a0_5, .int .u8 a0_6]) (ok := fun _ => True) (okp := fun _ => True) ?hr ?hp (fun _ hk => hk) trivial (Below.refl _ _) (Nat.le_refl _) (by simp) ?_; (case hd => rfl); (case hg => rfl); (case hr => first | (go_simp; done) | (go_simp; rfl)); (case hp => exact (Reps.one (show Kd.M (Kd.int .u8) _ _ _ a0_4 [.int .u8 a0_4] from rfl) (Reps.one (show Kd.M (Kd.int .u8) _ _ _ a0_5 [.int .u8 a0_5] from rfl) (Reps.one (show Kd.M (Kd.int .u8) _ _ _ a0_6 [.int .u8 a0_6] from rfl) (Reps.none _ _))))); intro v383 w43 ho44 hb hg_ hnew_; clear hg_ hnew_; (first | rw [← Ny382.out] at ho44 | (simp only [Int.reduceToNat] at ho44; rw [← Ny382.out] at ho44)); have HO384 := Aside0.mk (Kd.R_lower (Kd.R_new' ho44 (Kd.R_lt (zR HO_3.out))) (below_size zB)); replace BK351 := zJ BK351 hb; replace HO_3 := Aside0.mk (Kd.R_elder' (zR HO_3.out) (Kd.R_base ho44) hb); replace HB := zH hb; clear hb ho44; obtain ⟨Ao46, co46, eo46⟩ := Kd.R_slice HO384.out; subst eo46) | ((with_reducible refine gate_builtin (b := .append) (xs := #[.tmp 46, .tmp 53]) rfl ?_); at_builtin; refine Kd.R_append_rows (Kd.int .u8) (w0 := w) w.heap.size rfl (.tmp 46) (.tmp 53) 23 5 (.int .u8 0) 1 rfl Tryz.underlying23 info5 rfl (by decide) (by omega) u3 x3_1 y382 _ _ _ (fun k_ => some k_ ≠ (.slice Ao46 y382.length co46 : Value).ownBlock) (fun _ => False) rfl rfl ?aO ?aR (fun _ _ h => h) (fun _ h => h.elim) ?aF ?aB ?aS ?aL ?_; (case aR => exact zC ((Kd.R_reads' HO384.out).2.2)); (case aB => exact zB); (case aF => exact (fun k_ hk => Kd.fresh' (Kd.R_lt (zR HO384.out)) k_ hk)); (case aO => exact (by (with_reducible repeat (first | apply Kd.R_alloc | apply Kd.R_drewN | apply Kd.R_drew)); exact Kd.R_mono HO_3.out (fun _ hk => hk.2))); (case aS => exact (below_size zB)); (case aL => have := LMc39.out; omega); intro v386 w45 ho hb hg hat; rw [← Ny385.out] at ho; replace BK351 := qW21x1; replace HO384 := Aside0.mk (Kd.R_after (ok := (fun _ => True)) (zR HO384.out) hg hat); replace HB := Aside0.mk (hb); have HO387 := Aside0.mk (ho); clear HO_3 ho hb hg hat; have hcz47_0 := zcf8 BK351.out) | ((with_reducible refine gate_callee (f := 79) rfl ?_); refine goesZ (some 58) Tryz.func79 (args := #[.int .i64 a0_7]) (h := ?_); (with_reducible refine (pledgeref03_Int.calls kj1 a0_7 t388 _ A40.out).mono ?_); rintro e w48 ⟨v389, rfl, ho0, hb⟩; refine ⟨_, rfl, ?_⟩; have HO390 := Aside0.mk (Kd.R_lower (Kd.R_new' (Kd.R_new' ho0 (Kd.R_lt (zR HO384.out))) (Kd.R_lt (zR HO387.out))) (below_size zB)); replace BK351 := zJ BK351 hb; replace HO384 := Aside0.mk (Kd.R_elder' (zR HO384.out) (Kd.R_base ho0) hb); replace HO387 := Aside0.mk (Kd.R_elder' (zR HO387.out) (Kd.R_base ho0) hb); replace HB := zH hb; clear hb ho0; obtain ⟨Ao50, co50, eo50⟩ := Kd.R_slice HO390.out; subst eo50) | ((with_reducible refine gate_builtin (b := .append) (xs := #[.tmp 55, .tmp 58]) rfl ?_); at_builtin; refine Kd.R_append_rows (Kd.int .u8) (w0 := w) w.heap.size rfl (.tmp 55) (.tmp 58) 23 5 (.int .u8 0) 1 rfl Tryz.underlying23 info5 rfl (by decide) (by omega) v386 y385 t388 _ _ _ (fun k_ => some k_ ≠ (.slice Ao46 y382.length co46 : Value).ownBlock ∧ some k_ ≠ (.slice Ao50 t388.length co50 : Value).ownBlock) (fun _ => False) rfl rfl ?aO ?aR (fun _ _ h => h) (fun _ h => h.elim) ?aF ?aB ?aS ?aL ?_; (case aR => exact zC ((Kd.R_reads' HO390.out).2.2)); (case aB => exact zB); (case aF => exact (fun k_ hk => ⟨Kd.fresh' (Kd.R_lt (zR HO384.out)) k_ hk, Kd.fresh' (Kd.R_lt (zR HO390.out)) k_ hk⟩)); (case aO => exact (zR HO387.out)); (case aS => exact (below_size zB)); (case aL => have := LMc41.out; omega); intro v392 w49 ho hb hg hat; rw [← Ny391.out] at ho; replace BK351 := Aside0.mk (blk_grown (g := gb351) (o := .cells #[.int .u8 a0_0, .int .u32 a0_1, .int .u8 a0_2, .slice A0_3 l0_3.length c0_3, .int .u8 a0_4, .int .u8 a0_5, .int .u8 a0_6, .int .i64 a0_7] 51 (0, 0)) (zK BK351.out) hg (Kd.R_ne HO387.out BK351.out (by decide))); replace HO384 := Aside0.mk (Kd.R_after (ok := (fun k_ => some k_ ≠ (.slice Ao50 t388.length co50 : Value).ownBlock)) (by (with_reducible repeat (first | apply Kd.R_alloc | apply Kd.R_drewN | apply Kd.R_drew)); exact Kd.R_mono HO384.out (fun _ hk => ⟨hk.2, hk.1.2⟩)) hg hat); replace HO390 := Aside0.mk (Kd.R_after (ok := (fun k_ => some k_ ≠ (.slice Ao46 y382.length co46 : Value).ownBlock)) (by (with_reducible repeat (first | apply Kd.R_alloc | apply Kd.R_drewN | apply Kd.R_drew)); exact Kd.R_mono HO390.out (fun _ hk => ⟨hk.1.2, hk.2⟩)) hg hat); replace HB := Aside0.mk (hb); have HO393 := Aside0.mk (ho); clear HO387 ho hb hg hat))
      go_ret
      exact ⟨_, zer, by (with_reducible repeat (first | apply Kd.R_alloc | apply Kd.R_drewN | apply Kd.R_drew)); exact Kd.R_mono HO393.out (fun _ hk => trivial), zB⟩

end Go.Proofs.YtpnehgajhpejjaaGreatDoor.W
