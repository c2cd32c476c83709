import Derived.Test.YtpnehgajhpejjaaGreatDoorSq
import Derived.Test.YtpnehgajhpejjaaGreatDoorW0
import Derived.Test.YtpnehgajhpejjaaGreatDoorW12
import Derived.Test.YtpnehgajhpejjaaGreatDoorW13
import Derived.Test.YtpnehgajhpejjaaGreatDoorW14
import Derived.Test.YtpnehgajhpejjaaGreatDoorW15
namespace Go.Proofs.YtpnehgajhpejjaaGreatDoor.W
open Go.RowKit Go.Proofs.YtpnehgajhpejjaaGreatDoorW.PrintWords Go.Proofs.YtpnehgajhpejjaaGreatDoorW.PrintLast Go.Proofs.YtpnehgajhpejjaaGreatDoorW.PrintMore
attribute [local go_sem] max2_int min2_int max_two min_two max_three min_three max_four min_four
set_option linter.unusedVariables false
set_option linter.unusedSimpArgs false
theorem qW16x1 {p : Prop} (h : p := by (with_reducible repeat (first | apply Kd.R_alloc | apply Kd.R_drewN | apply Kd.R_drew)); exact (Kd.R_mono (Kd.R_far (p := ⟨gbx1, 7, none⟩) (Kd.R_far (p := ⟨gbx1, 6, none⟩) (Kd.R_far (p := ⟨gbx1, 5, none⟩) (Kd.R_far (p := ⟨gbx1, 4, none⟩) (Kd.R_far (p := ⟨gbx1, 3, none⟩) (Kd.R_far (p := ⟨gbx1, 2, none⟩) (Kd.R_far (p := ⟨gbx1, 1, none⟩) (Kd.R_far (p := ⟨gbx1, 0, none⟩) (Kd.R_types HOx1.out BKx1.out (by decide)) (fun _ hk => hk.2) (.int .u8 t271)) (fun _ hk => hk.2) (.int .u32 t272)) (fun _ hk => hk.2) (.int .u8 t273)) (fun _ hk => hk.2) (.slice Aox1 t274.length cox1)) (fun _ hk => hk.2) (.int .u8 t277)) (fun _ hk => hk.2) (.int .u8 t278)) (fun _ hk => hk.2) (.int .u8 t279)) (fun _ hk => hk.2) (.int .i64 t280)) (fun _ h_ => h_.1))) : p := h
theorem qW16x2 {p : Prop} (h : p := by first | rfl | (simp; done) | (simp [*]; done)) : p := h
theorem qW16x3 {p : Prop} (h : p := by kernel_rfl) : p := h

/-! ### pledgeref39_hex: function 30 -/
def pledgeref39_hex.l0 : Nat → List Int → ByteArray → Int → Option (ByteArray)
  | 0, _, _, _ => none
  | k + 1, x0, x3, x4 => if x4 < (x0.length : Int) then (if 0 ≤ x4 then (if 0 ≤ (wrap64 (Int.tdiv (wrap64 (rd x0 x4)) 16)) then (if (wrap64 (Int.tdiv (wrap64 (rd x0 x4)) 16)) < 16 then (if 0 ≤ (Int.tmod (wrap64 (rd x0 x4)) 16) then (if (Int.tmod (wrap64 (rd x0 x4)) 16) < 16 then ((some (([bt (⟨#[48, 49, 50, 51, 52, 53, 54, 55, 56, 57, 97, 98, 99, 100, 101, 102]⟩ : ByteArray) (wrap64 (Int.tdiv (wrap64 (rd x0 x4)) 16)), bt (⟨#[48, 49, 50, 51, 52, 53, 54, 55, 56, 57, 97, 98, 99, 100, 101, 102]⟩ : ByteArray) (Int.tmod (wrap64 (rd x0 x4)) 16)] : List Int) : List Int)).bind fun y266 => (if x3.size + (strOfNums y266).size ≤ 9223372036854775807 then (pledgeref39_hex.l0 k x0 (x3 ++ (strOfNums y266)) (wrap64 (x4 + 1))) else (none))) else (none)) else (none)) else (none)) else (none)) else (none)) else (some x3)
def pledgeref39_hex.f (k : Nat) (l0 : List Int) : Option (ByteArray) := pledgeref39_hex.l0 k l0 (⟨#[]⟩ : ByteArray) 0
theorem pledgeref39_hex.mono_l : ∀ k, (∀ y0 y1 y2, LeO (pledgeref39_hex.l0 k y0 y1 y2) (pledgeref39_hex.l0 (k + 1) y0 y1 y2))
  | 0 => fun _ _ _ r h => by simp [pledgeref39_hex.l0] at h
  | k + 1 => by
    have ih0 := pledgeref39_hex.mono_l k
    · intro y0 y1 y2
      unfold pledgeref39_hex.l0
      repeat' first
      | (with_reducible exact ih0 _ _ _)
      | (with_reducible exact LeO.refl _)
      | (with_reducible exact LeO.none _)
      | (with_reducible refine LeO.ite ?_ ?_)
      | (with_reducible refine LeO.bind ?_ (fun _ => ?_))
      | exact ih0 _ _ _
      | exact LeO.none _
      | refine LeO.ite ?_ ?_
      | refine LeO.bind ?_ (fun _ => ?_)
theorem pledgeref39_hex.mono : ∀ a0 k, LeO (pledgeref39_hex.f k a0) (pledgeref39_hex.f (k + 1) a0) := by
  intro a0 k
  have ih0 := pledgeref39_hex.mono_l k
  unfold pledgeref39_hex.f
  repeat' first
      | (with_reducible exact ih0 _ _ _)
      | (with_reducible exact LeO.refl _)
      | (with_reducible exact LeO.none _)
      | (with_reducible refine LeO.ite ?_ ?_)
      | (with_reducible refine LeO.bind ?_ (fun _ => ?_))
      | exact ih0 _ _ _
      | exact LeO.none _
      | refine LeO.ite ?_ ?_
      | refine LeO.bind ?_ (fun _ => ?_)
def pledgeref39_hex.T5 : Bool × List (List Nat × List Nat) := (true, [([], []), ([], []), ([], []), ([1, 2], [1, 2]), ([3], [3]), ([4], [4]), ([5], [5]), ([6], [6]), ([], []), ([], []), ([8, 9], [8, 9]), ([10], [10]), ([11], [11]), ([12], [12]), ([13], [13]), ([7, 14], [7, 14]), ([15], [15]), ([0, 16], [0, 16]), ([17, 0, 1, 2, 3, 4, 5, 6, 7, 8, 9, 10, 11, 12, 13, 14, 15, 16, 17], [0, 17])])
def pledgeref39_hex.B5 : List Nat := [0, 0, 0, 6, 14, 30, 62, 126, 0, 0, 768, 1792, 3840, 7936, 16128, 32766, 65534, 131071, 262143]
theorem pledgeref39_hex.tab5 : rtab .any (opsOf Tryz.f30 5) = pledgeref39_hex.T5 := by kernel_rfl
theorem pledgeref39_hex.bits5 : waitsOk pledgeref39_hex.T5.2 pledgeref39_hex.B5 = true := by kernel_rfl
set_option maxHeartbeats 8000000 in
set_option maxRecDepth 100000 in
theorem pledgeref39_hex.calls (k : Nat) (A0 : Option Addr) (c0 : Nat) (l0 : List Int) (r : ByteArray) (w : World) (hr0 : Kd.C (Kd.int .u8) w A0 l0.length l0) (hc0 : l0.length ≤ c0) (h : pledgeref39_hex.f k l0 = some r) :
    Calls Tryz.prog 30 #[.slice A0 l0.length c0] w fun e w' => e = .returned (.string r) ∧ Below w.heap.size w w' := by
  have HR0 := Aside0.mk hr0
  have HC0 := Aside0.mk hc0
  clear hr0 hc0
  have HB := Aside0.mk (Below.refl w.heap.size w)
  have H : (pledgeref39_hex.l0 k l0 (⟨#[]⟩ : ByteArray) 0) = some r := h
  clear h
  have H' := Aside0.mk H
  clear H
  go_enter Tryz.func30, Tryz.ntmps30
  go_wp2
  go_loopg [3, 4] k (fun kq v3 v4 w' => ∃ (x3_1 : ByteArray) (x4_1 : Int), v3 = .string x3_1 ∧ v4 = .int .i64 x4_1 ∧ Aside0 (pledgeref39_hex.l0 kq l0 x3_1 x4_1 = some r) ∧ Aside0 (kq ≤ k) ∧ Aside0 (Below w.heap.size w w'))
  case atStart => exact ⟨((⟨#[]⟩ : ByteArray)), (0), qW16x2, qW16x2, H', ⟨Nat.le_refl _⟩, ⟨zB⟩⟩
  case round =>
    clear H'
    obtain ⟨x3_1, x4_1, rfl, rfl, HA, HK1, HB⟩ := hrel
    cases gk with
    | zero => exact absurd HA.out (by simp [pledgeref39_hex.l0])
    | succ k1 =>
      have H := HA.out
      clear HA
      simp only [pledgeref39_hex.l0] at H
      by_cases c2 : x4_1 < (l0.length : Int)
      rotate_left
      · rw [if_neg c2] at H
        have c2b0 : decide (x4_1 < (l0.length : Int)) = false := decide_eq_false c2
        clear c2
        obtain rfl := Option.some.inj H
        go_wp2
        go_ret
        exact ⟨zer, zB⟩
      rw [if_pos c2] at H
      have c2b0 := decide_eq_true c2
      clear c2
      by_cases c3 : 0 ≤ x4_1
      rotate_left
      · rw [if_neg c3] at H
        exact absurd H (by simp)
      rw [if_pos c3] at H
      have c3b0 := decide_eq_true c3
      clear c3
      obtain ⟨ji4, hji4⟩ : ∃ j_ : Int, (wrap64 (Int.tdiv (wrap64 (rd l0 x4_1)) 16)) = j_ := ⟨_, rfl⟩
      replace H : (if 0 ≤ (ji4) then (if (ji4) < 16 then (if 0 ≤ (Int.tmod (wrap64 (rd l0 x4_1)) 16) then (if (Int.tmod (wrap64 (rd l0 x4_1)) 16) < 16 then ((some (([bt (⟨#[48, 49, 50, 51, 52, 53, 54, 55, 56, 57, 97, 98, 99, 100, 101, 102]⟩ : ByteArray) (ji4), bt (⟨#[48, 49, 50, 51, 52, 53, 54, 55, 56, 57, 97, 98, 99, 100, 101, 102]⟩ : ByteArray) (Int.tmod (wrap64 (rd l0 x4_1)) 16)] : List Int) : List Int)).bind fun y266 => (if x3_1.size + (strOfNums y266).size ≤ 9223372036854775807 then (pledgeref39_hex.l0 k1 l0 (x3_1 ++ (strOfNums y266)) (wrap64 (x4_1 + 1))) else (none))) else (none)) else (none)) else (none)) else (none)) = some r := by first | (rw [hji4] at H; exact H) | (simp only [hji4] at H ⊢; exact H)
      have hji4w : (IntKind.i64.wrap (Int.tdiv (wrap64 (rd l0 x4_1)) 16)) = ji4 := (i64_w _).trans hji4
      by_cases c5 : 0 ≤ (ji4)
      rotate_left
      · rw [if_neg c5] at H
        exact absurd H (by simp)
      rw [if_pos c5] at H
      have c5b0 := decide_eq_true c5
      clear c5
      by_cases c6 : (ji4) < 16
      rotate_left
      · rw [if_neg c6] at H
        exact absurd H (by simp)
      rw [if_pos c6] at H
      have c6b0 := decide_eq_true c6
      clear c6
      obtain ⟨ji8, hji8⟩ : ∃ j_ : Int, (Int.tmod (wrap64 (rd l0 x4_1)) 16) = j_ := ⟨_, rfl⟩
      replace H : (if 0 ≤ (ji8) then (if (ji8) < 16 then ((some (([bt (⟨#[48, 49, 50, 51, 52, 53, 54, 55, 56, 57, 97, 98, 99, 100, 101, 102]⟩ : ByteArray) (ji4), bt (⟨#[48, 49, 50, 51, 52, 53, 54, 55, 56, 57, 97, 98, 99, 100, 101, 102]⟩ : ByteArray) (ji8)] : List Int) : List Int)).bind fun y266 => (if x3_1.size + (strOfNums y266).size ≤ 9223372036854775807 then (pledgeref39_hex.l0 k1 l0 (x3_1 ++ (strOfNums y266)) (wrap64 (x4_1 + 1))) else (none))) else (none)) else (none)) = some r := by first | (rw [hji8] at H; exact H) | (simp only [hji8] at H ⊢; exact H)
      by_cases c9 : 0 ≤ (ji8)
      rotate_left
      · rw [if_neg c9] at H
        exact absurd H (by simp)
      rw [if_pos c9] at H
      have c9b0 := decide_eq_true c9
      clear c9
      by_cases c10 : (ji8) < 16
      rotate_left
      · rw [if_neg c10] at H
        exact absurd H (by simp)
      rw [if_pos c10] at H
      have c10b0 := decide_eq_true c10
      clear c10
      obtain ⟨y266, hy266⟩ : ∃ y_ : List Int, y_ = (([bt (⟨#[48, 49, 50, 51, 52, 53, 54, 55, 56, 57, 97, 98, 99, 100, 101, 102]⟩ : ByteArray) (ji4), bt (⟨#[48, 49, 50, 51, 52, 53, 54, 55, 56, 57, 97, 98, 99, 100, 101, 102]⟩ : ByteArray) (ji8)] : List Int)) := ⟨_, rfl⟩
      replace H : (if x3_1.size + (strOfNums y266).size ≤ 9223372036854775807 then (pledgeref39_hex.l0 k1 l0 (x3_1 ++ (strOfNums y266)) (wrap64 (x4_1 + 1))) else (none)) = some r := by first | (rw [hy266]; with_reducible exact H) | (have H2_ := (Option.bind_some _ _).symm.trans H; rw [hy266]; with_reducible exact H2_) | (have H2_ := (Option.bind_some _ _).symm.trans H; with_reducible exact H2_) | with_reducible exact H | (rw [hy266]; exact H) | exact H
      have Ny266 := Aside0.mk hy266
      clear hy266
      by_cases c12 : x3_1.size + (strOfNums y266).size ≤ 9223372036854775807
      rotate_left
      · rw [if_neg c12] at H
        exact absurd H (by simp)
      rw [if_pos c12] at H
      have c12b0 := eq_true c12
      have c12b1 := decide_eq_true c12
      try have c12b2 : (9223372036854775807 < x3_1.size + (strOfNums y266).size) = False := eq_false (Nat.not_lt.2 c12)
      have H' := Aside0.mk H
      clear H
      try go_wp2
      replace HB := Aside0.mk (below_drew1 HB.out)
      have p264 : 0 ≤ (x4_1 : Int) := of_decide_eq_true zas
      have q264 : x4_1 < (l0.length : Int) := of_decide_eq_true zas
      obtain ⟨ad264, e264, hx264_0⟩ := Kd.at_int HR0.out x4_1 p264 q264
      have hw264_0 := hx264_0
      cases e264
      replace hx264_0 := (HB.out.cell (World.block_lt_of_cell? w _ hx264_0)).trans hx264_0
      replace p264 := eq_true p264
      replace q264 := eq_true q264
      have p7 : 0 ≤ ((ji4) : Int) := of_decide_eq_true zas
      have q7 : (ji4) < (16 : Int) := of_decide_eq_true zas
      have hx7 := bt_at (⟨#[48, 49, 50, 51, 52, 53, 54, 55, 56, 57, 97, 98, 99, 100, 101, 102]⟩ : ByteArray) (ji4)
      replace p7 := eq_true p7
      replace q7 := eq_true q7
      have p265 : 0 ≤ (x4_1 : Int) := of_decide_eq_true zas
      have q265 : x4_1 < (l0.length : Int) := of_decide_eq_true zas
      obtain ⟨ad265, e265, hx265_0⟩ := Kd.at_int HR0.out x4_1 p265 q265
      have hw265_0 := hx265_0
      obtain rfl : ad264 = ad265 := (by injection e265)
      replace hx265_0 := (HB.out.cell (World.block_lt_of_cell? w _ hx265_0)).trans hx265_0
      replace p265 := eq_true p265
      replace q265 := eq_true q265
      have p11 : 0 ≤ ((ji8) : Int) := of_decide_eq_true zas
      have q11 : (ji8) < (16 : Int) := of_decide_eq_true zas
      have hx11 := bt_at (⟨#[48, 49, 50, 51, 52, 53, 54, 55, 56, 57, 97, 98, 99, 100, 101, 102]⟩ : ByteArray) (ji8)
      replace p11 := eq_true p11
      replace q11 := eq_true q11
      refine start_ (n := 19) (S := fun w' => w'.cell? (ad264.add (x4_1).toNat) = some (.int .u8 (rd l0 x4_1)) ∧ w'.cell? (ad264.add (x4_1).toNat) = some (.int .u8 (rd l0 x4_1))) (ds := []) (bz 19 0) qW16x3 rfl qW16x3 ⟨((HB.out.cell (World.block_lt_of_cell? w _ hw264_0)).trans hw264_0), ((HB.out.cell (World.block_lt_of_cell? w _ hw265_0)).trans hw265_0)⟩ (fun hHeld => ?_); refine with_tabW pledgeref39_hex.tab5 pledgeref39_hex.bits5 (fun HT_ HW_ => ?_)
      generalize wr.drew = w13 at HB hx264_0 hx265_0 hHeld ⊢
      refine pureZ (some 11) (bz 19 1) (i := 0) (h := ?_); refine pureZ (some 12) (bz 19 3) (i := 1) (h := ?_); refine pureZ (some 13) (bz 19 7) (i := 2) (h := ?_); refine pureZ (some 14) (bz 19 15) (i := 3) (h := ?_); refine pureZ (some 19) (bz 19 271) (i := 8) (h := ?_); refine pureZ (some 20) (bz 19 783) (i := 9) (h := ?_); refine pureZ (some 21) (bz 19 1807) (i := 10) (h := ?_); refine takeZ (some 15) (bz 19 1823) (i := 4) (h := ?_); refine pureZ (some 16) (bz 19 1855) (i := 5) (h := ?_); refine pureZ (some 17) (bz 19 1919) (i := 6) (h := ?_); refine takeZ (some 18) (bz 19 2047) (i := 7) (h := ?_); refine takeZ (some 22) (bz 19 4095) (i := 11) (h := ?_); refine pureZ (some 23) (bz 19 8191) (i := 12) (h := ?_); refine pureZ (some 24) (bz 19 16383) (i := 13) (h := ?_); refine takeZ (some 25) (bz 19 32767) (i := 14) (h := ?_)
      refine one_ (i := 15) (N := some 26) (bz 19 65535) rfl rfl (one_of HT_.out qW16x3) (by decide) (fun K hK => ?_)
      refine Kd.R_lit_step (Kd.int .u8) _ 5 ?hg (N := 26) ?hd (xs := ([bt (⟨#[48, 49, 50, 51, 52, 53, 54, 55, 56, 57, 97, 98, 99, 100, 101, 102]⟩ : ByteArray) (ji4), bt (⟨#[48, 49, 50, 51, 52, 53, 54, 55, 56, 57, 97, 98, 99, 100, 101, 102]⟩ : ByteArray) (ji8)] : List Int)) (inner := [.int .u8 (bt (⟨#[48, 49, 50, 51, 52, 53, 54, 55, 56, 57, 97, 98, 99, 100, 101, 102]⟩ : ByteArray) (ji4)), .int .u8 (bt (⟨#[48, 49, 50, 51, 52, 53, 54, 55, 56, 57, 97, 98, 99, 100, 101, 102]⟩ : ByteArray) (ji8))]) (ok := fun _ => True) (okp := fun _ => True) ?hr ?hp (fun _ hk => hk) trivial (Below.refl _ _) (Nat.le_refl _) (by simp) ?_; (case hd => rfl); (case hg => rfl); (case hr => first | (go_simp; done) | (go_simp; rfl)); (case hp => exact (Reps.one (show Kd.M (Kd.int .u8) _ _ _ (bt (⟨#[48, 49, 50, 51, 52, 53, 54, 55, 56, 57, 97, 98, 99, 100, 101, 102]⟩ : ByteArray) (ji4)) [.int .u8 (bt (⟨#[48, 49, 50, 51, 52, 53, 54, 55, 56, 57, 97, 98, 99, 100, 101, 102]⟩ : ByteArray) (ji4))] from rfl) (Reps.one (show Kd.M (Kd.int .u8) _ _ _ (bt (⟨#[48, 49, 50, 51, 52, 53, 54, 55, 56, 57, 97, 98, 99, 100, 101, 102]⟩ : ByteArray) (ji8)) [.int .u8 (bt (⟨#[48, 49, 50, 51, 52, 53, 54, 55, 56, 57, 97, 98, 99, 100, 101, 102]⟩ : ByteArray) (ji8))] from rfl) (Reps.none _ _))))
      intro v267 w14 ho15 hb hg_ hnew_
      clear hg_ hnew_
      (first | rw [← Ny266.out] at ho15 | (simp only [Int.reduceToNat] at ho15; rw [← Ny266.out] at ho15))
      have HO268 := Aside0.mk (Kd.R_lower ho15 (below_size zB))
      replace HB := zH hb
      clear hb ho15
      refine hK.out _ _ ⟨((HB.out.cell (World.block_lt_of_cell? w _ hw264_0)).trans hw264_0), ((HB.out.cell (World.block_lt_of_cell? w _ hw265_0)).trans hw265_0)⟩ (fun hHeld => ?_)
      clear hK K
      refine norm_ (a' := ?_) ?_ ?_
      rotate_left
      · show Act.put _ (some 26) _ = _
        simp only [Act.put, List.setIfInBounds_toArray, List.set_cons_zero, List.set_cons_succ, i64_w, i32_w]
        rfl
      refine one_ (i := 16) (N := some 27) (bz 19 131071) rfl rfl (one_of HT_.out qW16x3) (by decide) (fun K hK => ?_)
      have hcv16 := own_string (P := Tryz.prog) Tryz.underlying23 Tryz.underlying5 Tryz.underlying9 (Kd.own_of_R HO268.out)
      refine value_ (w1 := ?_) (v := ?_) (by rfl) rfl ?_ ?_
      rotate_left 2
      · go_simp
        constructor
        · rfl
        · rfl
      clear hcv16
      refine hK.out _ _ ⟨((HB.out.cell (World.block_lt_of_cell? w _ hw264_0)).trans hw264_0), ((HB.out.cell (World.block_lt_of_cell? w _ hw265_0)).trans hw265_0)⟩ (fun hHeld => ?_)
      clear hK K
      refine norm_ (a' := ?_) ?_ ?_
      rotate_left
      · show Act.put _ (some 27) _ = _
        simp only [Act.put, List.setIfInBounds_toArray, List.set_cons_zero, List.set_cons_succ, i64_w, i32_w]
        rfl
      refine pureZ (some 28) (bz 19 262143) (i := 17) (h := ?_); refine pureZ (some 3) (bz 19 524287) (i := 18) (h := ?_)
      refine done_ (done_of HT_.out qW16x3) ?_
      try go_wp2
      go_roundg k1
      case measure => have := HK1.out; omega
      case rel => exact ⟨(x3_1 ++ (strOfNums y266)), (wrap64 (x4_1 + 1)), qW16x2, qW16x2, H', ⟨by have := HK1.out; omega⟩, ⟨zB⟩⟩

/-! ### pledgeref39_Line: function 11 -/
def pledgeref39_Line.f (k : Nat) (a0_0 : Int) (a0_1 : Int) (a0_2 : Int) (a0_3 : Int) (l0_4 : List Int) : Option (ByteArray) := (pledgeref38_Good.f a0_0 a0_1 a0_2 a0_3 l0_4).bind fun t270 => (if t270 = true then (if a0_0 = 1 then ((pledgeref34_Decode.f l0_4).bind fun bt271 => (if bt271.2.2.2.2.2.2.2.2 = 0 then ((pledgeref39_Ask.f k bt271.1 bt271.2.1 bt271.2.2.1 bt271.2.2.2.1 bt271.2.2.2.2.1 bt271.2.2.2.2.2.1 bt271.2.2.2.2.2.2.1 bt271.2.2.2.2.2.2.2.1).bind fun t283 => (some t283)) else (if (l0_4.length : Int) = 0 then (some (⟨#[97, 115, 107]⟩ : ByteArray)) else ((pledgeref39_hex.f k l0_4).bind fun t284 => (if 4 + t284.size ≤ 9223372036854775807 then (some ((⟨#[97, 115, 107, 32]⟩ : ByteArray) ++ t284)) else (none)))))) else (if a0_0 = 2 then ((pledgeref39_num.f k (wrap64 (a0_1))).bind fun t285 => (if 4 + t285.size ≤ 9223372036854775807 then (some ((⟨#[112, 105, 99, 107]⟩ : ByteArray) ++ t285)) else (none))) else (if a0_0 = 3 then ((pledgeref39_num.f k (wrap64 (a0_1))).bind fun t286 => (if 4 + t286.size ≤ 9223372036854775807 then (some ((⟨#[107, 105, 108, 108]⟩ : ByteArray) ++ t286)) else (none))) else (if a0_0 = 4 then (some (⟨#[119, 114, 105, 116, 101]⟩ : ByteArray)) else (if a0_0 = 5 then (some (⟨#[115, 121, 110, 99]⟩ : ByteArray)) else (if a0_0 = 6 then (some (⟨#[99, 107, 112, 116]⟩ : ByteArray)) else (if a0_0 = 7 then ((pledgeref39_num.f k a0_2).bind fun t287 => (if 5 + t287.size ≤ 9223372036854775807 then ((pledgeref39_num.f k a0_3).bind fun t288 => (if 5 + t287.size + t288.size ≤ 9223372036854775807 then (some (((⟨#[99, 114, 97, 115, 104]⟩ : ByteArray) ++ t287) ++ t288)) else (none))) else (none))) else (some (⟨#[98, 111, 111, 116]⟩ : ByteArray))))))))) else (some (⟨#[]⟩ : ByteArray)))
theorem pledgeref39_Line.mono : ∀ a0 a1 a2 a3 a4 k, LeO (pledgeref39_Line.f k a0 a1 a2 a3 a4) (pledgeref39_Line.f (k + 1) a0 a1 a2 a3 a4) := by
  intro a0 a1 a2 a3 a4 k
  unfold pledgeref39_Line.f
  repeat' first
      | (with_reducible exact pledgeref39_Ask.mono _ _ _ _ _ _ _ _ _)
      | (with_reducible exact pledgeref39_hex.mono _ _)
      | (with_reducible exact pledgeref39_num.mono _ _)
      | (with_reducible exact LeO.refl _)
      | (with_reducible exact LeO.none _)
      | (with_reducible refine LeO.ite ?_ ?_)
      | (with_reducible refine LeO.bind ?_ (fun _ => ?_))
      | exact pledgeref39_Ask.mono _ _ _ _ _ _ _ _ _
      | exact pledgeref39_hex.mono _ _
      | exact pledgeref39_num.mono _ _
      | exact LeO.none _
      | refine LeO.ite ?_ ?_
      | refine LeO.bind ?_ (fun _ => ?_)
def pledgeref39_Line.T22 : Bool × List (List Nat × List Nat) := (true, [([], []), ([0], [0]), ([1], [1]), ([2], [2]), ([], []), ([4], [4]), ([5, 2], [5]), ([3, 6], [3, 6]), ([7, 6, 0, 1, 2, 3, 4, 5, 6, 7], [7])])
def pledgeref39_Line.B22 : List Nat := [0, 1, 3, 7, 0, 16, 55, 127, 255]
theorem pledgeref39_Line.tab22 : rtab .any (opsOf Tryz.f11 22) = pledgeref39_Line.T22 := by kernel_rfl
theorem pledgeref39_Line.bits22 : waitsOk pledgeref39_Line.T22.2 pledgeref39_Line.B22 = true := by kernel_rfl
set_option maxHeartbeats 8000000 in
set_option maxRecDepth 100000 in
theorem pledgeref39_Line.calls (k : Nat) (a0_0 : Int) (a0_1 : Int) (a0_2 : Int) (a0_3 : Int) (A0_4 : Option Addr) (c0_4 : Nat) (l0_4 : List Int) (r : ByteArray) (w : World) (hr0_4 : Kd.C (Kd.int .u8) w A0_4 l0_4.length l0_4) (hc0_4 : l0_4.length ≤ c0_4) (h : pledgeref39_Line.f k a0_0 a0_1 a0_2 a0_3 l0_4 = some r) :
    Calls Tryz.prog 11 #[.agg #[.int .u8 a0_0, .int .u32 a0_1, .int .i64 a0_2, .int .i64 a0_3, .slice A0_4 l0_4.length c0_4]] w fun e w' => e = .returned (.string r) ∧ Below w.heap.size w w' := by
  have hu25 := Tryz.underlying25
  have hu51 := Tryz.underlying51
  have HR0_4 := Aside0.mk hr0_4
  have HC0_4 := Aside0.mk hc0_4
  clear hr0_4 hc0_4
  have HB := Aside0.mk (Below.refl w.heap.size w)
  have H : ((pledgeref38_Good.f a0_0 a0_1 a0_2 a0_3 l0_4).bind fun t270 => (if t270 = true then (if a0_0 = 1 then ((pledgeref34_Decode.f l0_4).bind fun bt271 => (if bt271.2.2.2.2.2.2.2.2 = 0 then ((pledgeref39_Ask.f k bt271.1 bt271.2.1 bt271.2.2.1 bt271.2.2.2.1 bt271.2.2.2.2.1 bt271.2.2.2.2.2.1 bt271.2.2.2.2.2.2.1 bt271.2.2.2.2.2.2.2.1).bind fun t283 => (some t283)) else (if (l0_4.length : Int) = 0 then (some (⟨#[97, 115, 107]⟩ : ByteArray)) else ((pledgeref39_hex.f k l0_4).bind fun t284 => (if 4 + t284.size ≤ 9223372036854775807 then (some ((⟨#[97, 115, 107, 32]⟩ : ByteArray) ++ t284)) else (none)))))) else (if a0_0 = 2 then ((pledgeref39_num.f k (wrap64 (a0_1))).bind fun t285 => (if 4 + t285.size ≤ 9223372036854775807 then (some ((⟨#[112, 105, 99, 107]⟩ : ByteArray) ++ t285)) else (none))) else (if a0_0 = 3 then ((pledgeref39_num.f k (wrap64 (a0_1))).bind fun t286 => (if 4 + t286.size ≤ 9223372036854775807 then (some ((⟨#[107, 105, 108, 108]⟩ : ByteArray) ++ t286)) else (none))) else (if a0_0 = 4 then (some (⟨#[119, 114, 105, 116, 101]⟩ : ByteArray)) else (if a0_0 = 5 then (some (⟨#[115, 121, 110, 99]⟩ : ByteArray)) else (if a0_0 = 6 then (some (⟨#[99, 107, 112, 116]⟩ : ByteArray)) else (if a0_0 = 7 then ((pledgeref39_num.f k a0_2).bind fun t287 => (if 5 + t287.size ≤ 9223372036854775807 then ((pledgeref39_num.f k a0_3).bind fun t288 => (if 5 + t287.size + t288.size ≤ 9223372036854775807 then (some (((⟨#[99, 114, 97, 115, 104]⟩ : ByteArray) ++ t287) ++ t288)) else (none))) else (none))) else (some (⟨#[98, 111, 111, 116]⟩ : ByteArray))))))))) else (some (⟨#[]⟩ : ByteArray)))) = some r := h
  clear h
  obtain ⟨t270, A2, H⟩ := zO H
  try dsimp only at H
  by_cases c3 : t270 = true
  focus
    subst c3
    have H1 : (if a0_0 = 1 then ((pledgeref34_Decode.f l0_4).bind fun bt271 => (if bt271.2.2.2.2.2.2.2.2 = 0 then ((pledgeref39_Ask.f k bt271.1 bt271.2.1 bt271.2.2.1 bt271.2.2.2.1 bt271.2.2.2.2.1 bt271.2.2.2.2.2.1 bt271.2.2.2.2.2.2.1 bt271.2.2.2.2.2.2.2.1).bind fun t283 => (some t283)) else (if (l0_4.length : Int) = 0 then (some (⟨#[97, 115, 107]⟩ : ByteArray)) else ((pledgeref39_hex.f k l0_4).bind fun t284 => (if 4 + t284.size ≤ 9223372036854775807 then (some ((⟨#[97, 115, 107, 32]⟩ : ByteArray) ++ t284)) else (none)))))) else (if a0_0 = 2 then ((pledgeref39_num.f k (wrap64 (a0_1))).bind fun t285 => (if 4 + t285.size ≤ 9223372036854775807 then (some ((⟨#[112, 105, 99, 107]⟩ : ByteArray) ++ t285)) else (none))) else (if a0_0 = 3 then ((pledgeref39_num.f k (wrap64 (a0_1))).bind fun t286 => (if 4 + t286.size ≤ 9223372036854775807 then (some ((⟨#[107, 105, 108, 108]⟩ : ByteArray) ++ t286)) else (none))) else (if a0_0 = 4 then (some (⟨#[119, 114, 105, 116, 101]⟩ : ByteArray)) else (if a0_0 = 5 then (some (⟨#[115, 121, 110, 99]⟩ : ByteArray)) else (if a0_0 = 6 then (some (⟨#[99, 107, 112, 116]⟩ : ByteArray)) else (if a0_0 = 7 then ((pledgeref39_num.f k a0_2).bind fun t287 => (if 5 + t287.size ≤ 9223372036854775807 then ((pledgeref39_num.f k a0_3).bind fun t288 => (if 5 + t287.size + t288.size ≤ 9223372036854775807 then (some (((⟨#[99, 114, 97, 115, 104]⟩ : ByteArray) ++ t287) ++ t288)) else (none))) else (none))) else (some (⟨#[98, 111, 111, 116]⟩ : ByteArray))))))))) = some r := by rw [if_pos rfl] at H; exact H
    clear H
    have H := H1
    clear H1
    by_cases c4 : a0_0 = 1
    focus
      rw [if_pos c4] at H
      obtain ⟨c4b0, c4b1⟩ := zeq c4
      clear c4
      obtain ⟨⟨t271, t272, t273, t274, t277, t278, t279, t280, t281⟩, A5, H⟩ := zO H
      try dsimp only at H
      by_cases c6 : t281 = 0
      focus
        rw [if_pos c6] at H
        obtain ⟨c6b0, c6b1⟩ := zeq c6
        clear c6
        obtain ⟨t283, A7, H⟩ := zO H
        try dsimp only at H
        obtain rfl := Option.some.inj H
      rotate_left
      rw [if_neg c6] at H
      obtain ⟨c6b0, c6b1⟩ := zne c6
      by_cases c18 : (l0_4.length : Int) = 0
      focus
        rw [if_pos c18] at H
        obtain ⟨c18b0, c18b1⟩ := zeq c18
        clear c18
        obtain rfl := Option.some.inj H
      rotate_left
      rw [if_neg c18] at H
      obtain ⟨c18b0, c18b1⟩ := zne c18
      have c18b2 : ¬ (l0_4 = []) := fun h_ => c18 (by rw [h_]; rfl)
      obtain ⟨t284, A29, H⟩ := zO H
      try dsimp only at H
      by_cases c30 : 4 + t284.size ≤ 9223372036854775807
      focus
        rw [if_pos c30] at H
        have c30b0 := eq_true c30
        have c30b1 := decide_eq_true c30
        try have c30b2 : (9223372036854775807 < 4 + t284.size) = False := eq_false (Nat.not_lt.2 c30)
        obtain rfl := Option.some.inj H
      rotate_left
      · rw [if_neg c30] at H
        exact absurd H (by simp)
    rotate_left 3
    rw [if_neg c4] at H
    obtain ⟨c4b0, c4b1⟩ := zne c4
    by_cases c42 : a0_0 = 2
    focus
      rw [if_pos c42] at H
      obtain ⟨c42b0, c42b1⟩ := zeq c42
      clear c42
      obtain ⟨t285, A43, H⟩ := zO H
      try dsimp only at H
      by_cases c44 : 4 + t285.size ≤ 9223372036854775807
      focus
        rw [if_pos c44] at H
        have c44b0 := eq_true c44
        have c44b1 := decide_eq_true c44
        try have c44b2 : (9223372036854775807 < 4 + t285.size) = False := eq_false (Nat.not_lt.2 c44)
        obtain rfl := Option.some.inj H
      rotate_left
      · rw [if_neg c44] at H
        exact absurd H (by simp)
    rotate_left
    rw [if_neg c42] at H
    obtain ⟨c42b0, c42b1⟩ := zne c42
    by_cases c50 : a0_0 = 3
    focus
      rw [if_pos c50] at H
      obtain ⟨c50b0, c50b1⟩ := zeq c50
      clear c50
      obtain ⟨t286, A51, H⟩ := zO H
      try dsimp only at H
      by_cases c52 : 4 + t286.size ≤ 9223372036854775807
      focus
        rw [if_pos c52] at H
        have c52b0 := eq_true c52
        have c52b1 := decide_eq_true c52
        try have c52b2 : (9223372036854775807 < 4 + t286.size) = False := eq_false (Nat.not_lt.2 c52)
        obtain rfl := Option.some.inj H
      rotate_left
      · rw [if_neg c52] at H
        exact absurd H (by simp)
    rotate_left
    rw [if_neg c50] at H
    obtain ⟨c50b0, c50b1⟩ := zne c50
    by_cases c58 : a0_0 = 4
    focus
      rw [if_pos c58] at H
      obtain ⟨c58b0, c58b1⟩ := zeq c58
      clear c58
      obtain rfl := Option.some.inj H
    rotate_left
    rw [if_neg c58] at H
    obtain ⟨c58b0, c58b1⟩ := zne c58
    by_cases c63 : a0_0 = 5
    focus
      rw [if_pos c63] at H
      obtain ⟨c63b0, c63b1⟩ := zeq c63
      clear c63
      obtain rfl := Option.some.inj H
    rotate_left
    rw [if_neg c63] at H
    obtain ⟨c63b0, c63b1⟩ := zne c63
    by_cases c68 : a0_0 = 6
    focus
      rw [if_pos c68] at H
      obtain ⟨c68b0, c68b1⟩ := zeq c68
      clear c68
      obtain rfl := Option.some.inj H
    rotate_left
    rw [if_neg c68] at H
    obtain ⟨c68b0, c68b1⟩ := zne c68
    by_cases c73 : a0_0 = 7
    · rw [if_pos c73] at H
      obtain ⟨c73b0, c73b1⟩ := zeq c73
      clear c73
      obtain ⟨t287, A74, H⟩ := zO H
      try dsimp only at H
      by_cases c75 : 5 + t287.size ≤ 9223372036854775807
      rotate_left
      · rw [if_neg c75] at H
        exact absurd H (by simp)
      rw [if_pos c75] at H
      have c75b0 := eq_true c75
      have c75b1 := decide_eq_true c75
      try have c75b2 : (9223372036854775807 < 5 + t287.size) = False := eq_false (Nat.not_lt.2 c75)
      obtain ⟨t288, A76, H⟩ := zO H
      try dsimp only at H
      by_cases c77 : 5 + t287.size + t288.size ≤ 9223372036854775807
      rotate_left
      · rw [if_neg c77] at H
        exact absurd H (by simp)
      rw [if_pos c77] at H
      have c77b0 := eq_true c77
      have c77b1 := decide_eq_true c77
      try have c77b2 : (9223372036854775807 < 5 + t287.size + t288.size) = False := eq_false (Nat.not_lt.2 c77)
      obtain rfl := Option.some.inj H
      go_enter Tryz.func11, Tryz.ntmps11
      try go_wp2_with (first | ((with_reducible refine gate_dst (N := 1) rfl ?_); refine zbox (N := 1) (cs := #[.int .u8 a0_0, .int .u32 a0_1, .int .i64 a0_2, .int .i64 a0_3, .slice A0_4 l0_4.length c0_4]) (t := 25) (h := ?_); intro gb269 hg w78 hbox hb; have BK269 := Aside0.mk (hbox); have GW269 := zG (p := w.heap.size ≤ gb269); have GE269 := GW269; replace HB := zH hb; clear hb hbox hg; have hcz79_0 := zcf5 BK269.out) | ((with_reducible refine gate_callee (f := 18) rfl ?_); refine goesZ (some 6) Tryz.func18 (args := #[.agg #[.int .u8 a0_0, .int .u32 a0_1, .int .i64 a0_2, .int .i64 a0_3, .slice A0_4 l0_4.length c0_4]]) (h := ?_); (with_reducible refine (pledgeref38_Good.calls a0_0 a0_1 a0_2 a0_3 _ _ l0_4 true _ ?side1 ?side2 A2.out).mono ?_); (case side1 => exact zC (Kd.C_below HR0_4.out HB.out)); (case side2 => exact HC0_4.out); rintro e w80 ⟨rfl, hb⟩; refine ⟨_, rfl, ?_⟩; replace BK269 := zJ BK269 hb; replace HB := zH hb; clear hb; have hcz81_0 := zcf5 BK269.out))
      replace BK269 := Aside0.mk (blk_drew BK269.out)
      replace HB := Aside0.mk (below_drew1 HB.out)
      refine start_ (n := 9) (S := fun w' => w'.cell? ⟨gb269, 0, none⟩ = some (.int .u8 a0_0) ∧ w'.cell? ⟨gb269, 1, none⟩ = some (.int .u32 a0_1) ∧ w'.cell? ⟨gb269, 2, none⟩ = some (.int .i64 a0_2) ∧ w'.cell? ⟨gb269, 3, none⟩ = some (.int .i64 a0_3) ∧ w'.cell? ⟨gb269, 4, none⟩ = some (.slice A0_4 l0_4.length c0_4)) (ds := []) (bz 9 0) qW16x3 rfl qW16x3 ⟨(blk_cell BK269.out 0).trans rfl, (blk_cell BK269.out 1).trans rfl, (blk_cell BK269.out 2).trans rfl, (blk_cell BK269.out 3).trans rfl, (blk_cell BK269.out 4).trans rfl⟩ (fun hHeld => ?_); refine with_tabW pledgeref39_Line.tab22 pledgeref39_Line.bits22 (fun HT_ HW_ => ?_)
      generalize w80.drew = w82 at BK269 HB hHeld ⊢
      refine pureZ (some 52) (bz 9 1) (i := 0) (h := ?_); refine pureZ (some 56) (bz 9 17) (i := 4) (h := ?_); refine takeZ (some 53) (bz 9 19) (i := 1) (h := ?_); refine takeZ (some 57) (bz 9 51) (i := 5) (h := ?_)
      refine one_ (i := 2) (N := some 54) (bz 9 55) rfl rfl (one_of HT_.out qW16x3) (by decide) (fun K hK => ?_)
      refine goes_ Tryz.func31 qW16x3 rfl #[.int .i64 a0_2] (by rfl) rfl rfl zA ?_
      with_reducible refine (pledgeref39_num.calls k a0_2 t287 _ A74.out).mono ?_
      rintro e w83 ⟨rfl, hb⟩
      refine ⟨_, rfl, ?_⟩
      replace BK269 := zJ BK269 hb
      replace HB := zH hb
      refine hK.out _ _ ⟨(blk_cell BK269.out 0).trans rfl, (blk_cell BK269.out 1).trans rfl, (blk_cell BK269.out 2).trans rfl, (blk_cell BK269.out 3).trans rfl, (blk_cell BK269.out 4).trans rfl⟩ (fun hHeld => ?_)
      clear hK K
      refine norm_ (a' := ?_) ?_ ?_
      rotate_left
      · show Act.put _ (some 54) _ = _
        simp only [Act.put, List.setIfInBounds_toArray, List.set_cons_zero, List.set_cons_succ, i64_w, i32_w]
        rfl
      refine pureZ (some 55) (bz 9 63) (i := 3) (h := ?_)
      refine one_ (i := 6) (N := some 58) (bz 9 127) rfl rfl (one_of HT_.out qW16x3) (by decide) (fun K hK => ?_)
      refine goes_ Tryz.func31 qW16x3 rfl #[.int .i64 a0_3] (by rfl) rfl rfl zA ?_
      with_reducible refine (pledgeref39_num.calls k a0_3 t288 _ A76.out).mono ?_
      rintro e w84 ⟨rfl, hb⟩
      refine ⟨_, rfl, ?_⟩
      replace BK269 := zJ BK269 hb
      replace HB := zH hb
      refine hK.out _ _ ⟨(blk_cell BK269.out 0).trans rfl, (blk_cell BK269.out 1).trans rfl, (blk_cell BK269.out 2).trans rfl, (blk_cell BK269.out 3).trans rfl, (blk_cell BK269.out 4).trans rfl⟩ (fun hHeld => ?_)
      clear hK K
      refine norm_ (a' := ?_) ?_ ?_
      rotate_left
      · show Act.put _ (some 58) _ = _
        simp only [Act.put, List.setIfInBounds_toArray, List.set_cons_zero, List.set_cons_succ, i64_w, i32_w]
        rfl
      refine pureZ (some 59) (bz 9 255) (i := 7) (h := ?_); refine pureZ (some 2) (bz 9 511) (i := 8) (h := ?_)
      refine done_ (done_of HT_.out qW16x3) ?_
      try go_wp2
      go_ret
      exact ⟨zer, zB⟩
    rw [if_neg c73] at H
    obtain ⟨c73b0, c73b1⟩ := zne c73
    obtain rfl := Option.some.inj H
  rotate_left 9
  replace c3 := Bool.eq_false_iff.mpr c3
  subst c3
  have H1 : (some (⟨#[]⟩ : ByteArray)) = some r := by rw [if_neg (show ¬ (false = true) by decide)] at H; exact H
  clear H
  have H := H1
  clear H1
  obtain rfl := Option.some.inj H
  all_goals go_enter Tryz.func11, Tryz.ntmps11
  all_goals go_wp2_with (first | ((with_reducible refine gate_dst (N := 1) rfl ?_); refine zbox (N := 1) (cs := #[.int .u8 a0_0, .int .u32 a0_1, .int .i64 a0_2, .int .i64 a0_3, .slice A0_4 l0_4.length c0_4]) (t := 25) (h := ?_); intro gb269 hg wx1 hbox hb; have BK269 := Aside0.mk (hbox); have GW269 := zG (p := w.heap.size ≤ gb269); have GE269 := GW269; replace HB := zH hb; clear hb hbox hg; have hczx1 := zcf5 BK269.out) | ((with_reducible refine gate_callee (f := 18) rfl ?_); refine goesZ (some 6) Tryz.func18 (args := #[.agg #[.int .u8 a0_0, .int .u32 a0_1, .int .i64 a0_2, .int .i64 a0_3, .slice A0_4 l0_4.length c0_4]]) (h := ?_); (with_reducible refine (pledgeref38_Good.calls a0_0 a0_1 a0_2 a0_3 _ _ l0_4 true _ ?side1 ?side2 A2.out).mono ?_); (case side1 => exact zC (Kd.C_below HR0_4.out HB.out)); (case side2 => exact HC0_4.out); rintro e wx2 ⟨rfl, hb⟩; refine ⟨_, rfl, ?_⟩; replace BK269 := zJ BK269 hb; replace HB := zH hb; clear hb; have hczx2 := zcf5 BK269.out) | ((with_reducible refine gate_callee (f := 18) rfl ?_); refine goesZ (some 6) Tryz.func18 (args := #[.agg #[.int .u8 a0_0, .int .u32 a0_1, .int .i64 a0_2, .int .i64 a0_3, .slice A0_4 l0_4.length c0_4]]) (h := ?_); (with_reducible refine (pledgeref38_Good.calls a0_0 a0_1 a0_2 a0_3 _ _ l0_4 false _ ?side1 ?side2 A2.out).mono ?_); (case side1 => exact zC (Kd.C_below HR0_4.out HB.out)); (case side2 => exact HC0_4.out); rintro e wx2 ⟨rfl, hb⟩; refine ⟨_, rfl, ?_⟩; replace BK269 := zJ BK269 hb; replace HB := zH hb; clear hb) | ((with_reducible refine gate_callee (f := 28) rfl ?_); refine goesZ (some 15) Tryz.func28 (args := #[.slice A0_4 l0_4.length c0_4]) (h := ?_); (with_reducible refine (pledgeref34_Decode.calls _ _ l0_4 t271 t272 t273 t274 t277 t278 t279 t280 t281 _ ?side1 ?side2 A5.out).mono ?_); (case side1 => exact zC (Kd.C_below HR0_4.out HB.out)); (case side2 => exact HC0_4.out); rintro e wx3 ⟨vx1, rfl, hox1, hb⟩; refine ⟨_, rfl, ?_⟩; have HOx1 := Aside0.mk (Kd.R_lower hox1 (below_size zB)); replace BK269 := zJ BK269 hb; replace HB := zH hb; clear hb hox1) | ((with_reducible refine gate_dst (N := 3) rfl ?_); refine zbox (N := 3) (cs := #[.int .u8 0, .int .u32 0, .int .u8 0, .slice none 0 0, .int .u8 0, .int .u8 0, .int .u8 0, .int .i64 0]) (t := 51) (h := ?_); intro gbx1 hg wx4 hbox hb; replace HOx1 := zP HOx1 hb; have BKx1 := Aside0.mk (hbox); have GWx1 := zG (p := w.heap.size ≤ gbx1); have GEx1 := GWx1; have NBx1 := zNlt BK269.out (p := gb269 ≠ gbx1); have NBx2 := zNgt BK269.out (p := gbx1 ≠ gb269); replace BK269 := zJ BK269 hb; replace HB := zH hb; clear hb hbox hg; have hnbx1 := NBx2.out; have hncx1 := NBx1.out; have hczx3 := zcf8 BKx1.out; obtain ⟨Aox1, cox1, eox1⟩ := Kd.R_slice HOx1.out; subst eox1; have hczx4 := zcf5 BK269.out) | ((with_reducible refine gate_dst (N := 3) rfl ?_); refine zbox (N := 3) (cs := #[.int .u8 0, .int .u32 0, .int .u8 0, .slice none 0 0, .int .u8 0, .int .u8 0, .int .u8 0, .int .i64 0]) (t := 51) (h := ?_); intro gbx1 hg wx4 hbox hb; replace HOx1 := zP HOx1 hb; have BKx1 := Aside0.mk (hbox); have GWx1 := zG (p := w.heap.size ≤ gbx1); have GEx1 := GWx1; have NBx1 := zNlt BK269.out (p := gb269 ≠ gbx1); have NBx2 := zNgt BK269.out (p := gbx1 ≠ gb269); replace BK269 := zJ BK269 hb; replace HB := zH hb; clear hb hbox hg; have hnbx1 := NBx2.out; have hncx1 := NBx1.out; have hczx3 := zcf8 BKx1.out; obtain ⟨Aox1, cox1, eox1⟩ := Kd.R_slice HOx1.out; subst eox1) | ((with_reducible refine gate_callee (f := 29) rfl ?_); refine goesZ (some 21) Tryz.func29 (args := #[.agg #[.int .u8 t271, .int .u32 t272, .int .u8 t273, .slice Aox1 t274.length cox1, .int .u8 t277, .int .u8 t278, .int .u8 t279, .int .i64 t280]]) (h := ?_); (with_reducible refine (pledgeref39_Ask.calls k t271 t272 t273 _ _ t274 t277 t278 t279 t280 t283 _ ?side1 ?side2 A7.out).mono ?_); (case side1 => refine (Kd.R_reads' (e := 90) (base := w.heap.size) (ok := fun k_ => True) (n := t274.length) (c := cox1) ?_).2.2; exact qW16x1); (case side2 => exact (Kd.R_reads' HOx1.out).2.1); rintro e wx5 ⟨rfl, hb⟩; refine ⟨_, rfl, ?_⟩; replace HOx1 := Aside0.mk (Kd.R_below qW16x1 hb); replace BK269 := Aside0.mk (blk_below (g := gb269) (o := .cells #[.int .u8 a0_0, .int .u32 a0_1, .int .i64 a0_2, .int .i64 a0_3, .slice A0_4 l0_4.length c0_4] 25 (0, 0)) (by (with_reducible repeat (first | refine blk_drewN ?_ _ | refine blk_drew ?_ | refine blk_alloc ?_ _)); refine blk_far ?_ NBx1.out _; (with_reducible repeat (first | refine blk_drewN ?_ _ | refine blk_drew ?_ | refine blk_alloc ?_ _)); refine blk_far ?_ NBx1.out _; (with_reducible repeat (first | refine blk_drewN ?_ _ | refine blk_drew ?_ | refine blk_alloc ?_ _)); refine blk_far ?_ NBx1.out _; (with_reducible repeat (first | refine blk_drewN ?_ _ | refine blk_drew ?_ | refine blk_alloc ?_ _)); refine blk_far ?_ NBx1.out _; (with_reducible repeat (first | refine blk_drewN ?_ _ | refine blk_drew ?_ | refine blk_alloc ?_ _)); refine blk_far ?_ NBx1.out _; (with_reducible repeat (first | refine blk_drewN ?_ _ | refine blk_drew ?_ | refine blk_alloc ?_ _)); refine blk_far ?_ NBx1.out _; (with_reducible repeat (first | refine blk_drewN ?_ _ | refine blk_drew ?_ | refine blk_alloc ?_ _)); refine blk_far ?_ NBx1.out _; (with_reducible repeat (first | refine blk_drewN ?_ _ | refine blk_drew ?_ | refine blk_alloc ?_ _)); refine blk_far ?_ NBx1.out _; (with_reducible repeat (first | refine blk_drewN ?_ _ | refine blk_drew ?_ | refine blk_alloc ?_ _)); exact BK269.out) hb); replace HB := zH hb; replace BKx1 := Aside0.mk (blk_below (g := gbx1) (o := .cells #[.int .u8 t271, .int .u32 t272, .int .u8 t273, .slice Aox1 t274.length cox1, .int .u8 t277, .int .u8 t278, .int .u8 t279, .int .i64 t280] 51 (0, 0)) (zQ BKx1.out) hb); clear hb) | ((with_reducible refine gate_callee (f := 30) rfl ?_); refine goesZ (some 28) Tryz.func30 (args := #[.slice A0_4 l0_4.length c0_4]) (h := ?_); (with_reducible refine (pledgeref39_hex.calls k _ _ l0_4 t284 _ ?side1 ?side2 A29.out).mono ?_); (case side1 => exact Kd.C_below HR0_4.out zB); (case side2 => exact HC0_4.out); rintro e wx5 ⟨rfl, hb⟩; refine ⟨_, rfl, ?_⟩; replace HOx1 := Aside0.mk (Kd.R_below qW16x1 hb); replace BK269 := Aside0.mk (blk_below (g := gb269) (o := .cells #[.int .u8 a0_0, .int .u32 a0_1, .int .i64 a0_2, .int .i64 a0_3, .slice A0_4 l0_4.length c0_4] 25 (0, 0)) (by (with_reducible repeat (first | refine blk_drewN ?_ _ | refine blk_drew ?_ | refine blk_alloc ?_ _)); refine blk_far ?_ NBx1.out _; (with_reducible repeat (first | refine blk_drewN ?_ _ | refine blk_drew ?_ | refine blk_alloc ?_ _)); refine blk_far ?_ NBx1.out _; (with_reducible repeat (first | refine blk_drewN ?_ _ | refine blk_drew ?_ | refine blk_alloc ?_ _)); refine blk_far ?_ NBx1.out _; (with_reducible repeat (first | refine blk_drewN ?_ _ | refine blk_drew ?_ | refine blk_alloc ?_ _)); refine blk_far ?_ NBx1.out _; (with_reducible repeat (first | refine blk_drewN ?_ _ | refine blk_drew ?_ | refine blk_alloc ?_ _)); refine blk_far ?_ NBx1.out _; (with_reducible repeat (first | refine blk_drewN ?_ _ | refine blk_drew ?_ | refine blk_alloc ?_ _)); refine blk_far ?_ NBx1.out _; (with_reducible repeat (first | refine blk_drewN ?_ _ | refine blk_drew ?_ | refine blk_alloc ?_ _)); refine blk_far ?_ NBx1.out _; (with_reducible repeat (first | refine blk_drewN ?_ _ | refine blk_drew ?_ | refine blk_alloc ?_ _)); refine blk_far ?_ NBx1.out _; (with_reducible repeat (first | refine blk_drewN ?_ _ | refine blk_drew ?_ | refine blk_alloc ?_ _)); exact BK269.out) hb); replace HB := zH hb; replace BKx1 := Aside0.mk (blk_below (g := gbx1) (o := .cells #[.int .u8 t271, .int .u32 t272, .int .u8 t273, .slice Aox1 t274.length cox1, .int .u8 t277, .int .u8 t278, .int .u8 t279, .int .i64 t280] 51 (0, 0)) (zQ BKx1.out) hb); clear hb) | ((with_reducible refine gate_callee (f := 31) rfl ?_); refine goesZ (some 35) Tryz.func31 (args := #[.int .i64 (wrap64 (a0_1))]) (h := ?_); (with_reducible refine (pledgeref39_num.calls k (wrap64 (a0_1)) t285 _ A43.out).mono ?_); rintro e wx3 ⟨rfl, hb⟩; refine ⟨_, rfl, ?_⟩; replace BK269 := zJ BK269 hb; replace HB := zH hb; clear hb) | ((with_reducible refine gate_callee (f := 31) rfl ?_); refine goesZ (some 42) Tryz.func31 (args := #[.int .i64 (wrap64 (a0_1))]) (h := ?_); (with_reducible refine (pledgeref39_num.calls k (wrap64 (a0_1)) t286 _ A51.out).mono ?_); rintro e wx3 ⟨rfl, hb⟩; refine ⟨_, rfl, ?_⟩; replace BK269 := zJ BK269 hb; replace HB := zH hb; clear hb))
  all_goals (go_ret; exact ⟨zer, zB⟩)

end Go.Proofs.YtpnehgajhpejjaaGreatDoor.W
