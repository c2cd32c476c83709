import Derived.Test.YtpnehgajhpejjaaGreatDoorSq
import Derived.Test.YtpnehgajhpejjaaGreatDoorW0
import Derived.Test.YtpnehgajhpejjaaGreatDoorW11
import Derived.Test.YtpnehgajhpejjaaGreatDoorW12
import Derived.Test.YtpnehgajhpejjaaGreatDoorW16
namespace Go.Proofs.YtpnehgajhpejjaaGreatDoor.W
open Go.RowKit Go.Proofs.YtpnehgajhpejjaaGreatDoorW.PrintWords Go.Proofs.YtpnehgajhpejjaaGreatDoorW.PrintLast Go.Proofs.YtpnehgajhpejjaaGreatDoorW.PrintMore
attribute [local go_sem] max2_int min2_int max_two min_two max_three min_three max_four min_four
set_option linter.unusedVariables false
set_option linter.unusedSimpArgs false
theorem qW23x1 {p : Prop} (h : p := by first | rfl | (simp; done) | (simp [*]; done)) : p := h
theorem qW23x2 {p : Prop} (h : p := by kernel_rfl) : p := h
/-! ### pledgeref39_Print: function 16 -/
/-! ### pledgeref38_SameAll: function 17 -/
def pledgeref38_SameAll.l0 : Nat → List (S25) → List (S25) → Int → Option (Bool)
  | 0, _, _, _ => none
  | k + 1, x0, x1, x5 => if x5 < (x0.length : Int) then (if 0 ≤ x5 then (if x5 < (x1.length : Int) then ((pledgeref38_Same.f ((rd_T25 x0 x5).f0) ((rd_T25 x0 x5).f1) ((rd_T25 x0 x5).f2) ((rd_T25 x0 x5).f3) ((rd_T25 x0 x5).f4) ((rd_T25 x1 x5).f0) ((rd_T25 x1 x5).f1) ((rd_T25 x1 x5).f2) ((rd_T25 x1 x5).f3) ((rd_T25 x1 x5).f4)).bind fun t459 => (if t459 = true then (pledgeref38_SameAll.l0 k x0 x1 (wrap64 (x5 + 1))) else (some false))) else (none)) else (none)) else (some true)
def pledgeref38_SameAll.f (k : Nat) (l0 : List (S25)) (l1 : List (S25)) : Option (Bool) := if (l0.length : Int) = (l1.length : Int) then (pledgeref38_SameAll.l0 k l0 l1 0) else (some false)
def pledgeref38_SameAll.T6 : Bool × List (List Nat × List Nat) := (true, [([], []), ([], []), ([0, 1], [0, 1]), ([2], [2]), ([], []), ([], []), ([4, 5], [4, 5]), ([6], [6]), ([3, 7], [3, 7]), ([8], [8])])
def pledgeref38_SameAll.B6 : List Nat := [0, 0, 3, 7, 0, 0, 48, 112, 255, 511]
theorem pledgeref38_SameAll.tab6 : rtab .any (opsOf Tryz.f17 6) = pledgeref38_SameAll.T6 := by kernel_rfl
theorem pledgeref38_SameAll.bits6 : waitsOk pledgeref38_SameAll.T6.2 pledgeref38_SameAll.B6 = true := by kernel_rfl
set_option maxHeartbeats 8000000 in
set_option maxRecDepth 100000 in
theorem pledgeref38_SameAll.calls (k : Nat) (A0 : Option Addr) (c0 : Nat) (l0 : List (S25)) (A1 : Option Addr) (c1 : Nat) (l1 : List (S25)) (r : Bool) (w : World) (hr0 : Kd.C k25 w A0 l0.length l0) (hc0 : l0.length ≤ c0) (hr1 : Kd.C k25 w A1 l1.length l1) (hc1 : l1.length ≤ c1) (h : pledgeref38_SameAll.f k l0 l1 = some r) :
    Calls Tryz.prog 17 #[.slice A0 l0.length c0, .slice A1 l1.length c1] w fun e w' => e = .returned (.bool r) ∧ Below w.heap.size w w' := by
  have hu25 := Tryz.underlying25
  have HR0 := Aside0.mk hr0
  have HC0 := Aside0.mk hc0
  clear hr0 hc0
  have HR1 := Aside0.mk hr1
  have HC1 := Aside0.mk hc1
  clear hr1 hc1
  have HB := Aside0.mk (Below.refl w.heap.size w)
  have H : (if (l0.length : Int) = (l1.length : Int) then (pledgeref38_SameAll.l0 k l0 l1 0) else (some false)) = some r := h
  clear h
  by_cases c3 : (l0.length : Int) = (l1.length : Int)
  rotate_left
  · rw [if_neg c3] at H
    obtain ⟨c3b0, c3b1⟩ := zne c3
    have c3b2 : (l0.length == l1.length) = false := by first | simpa using c3 | (simp at c3 ⊢; omega)
    obtain rfl := Option.some.inj H
    go_enter Tryz.func17, Tryz.ntmps17
    go_wp2
    go_ret
    exact ⟨zer, zB⟩
  rw [if_pos c3] at H
  obtain ⟨c3b0, c3b1⟩ := zeq c3
  have c3b2 : (l0.length == l1.length) = true := by first | simpa using c3 | (simp at c3 ⊢; omega)
  clear c3
  have H' := Aside0.mk H
  clear H
  go_enter Tryz.func17, Tryz.ntmps17
  go_wp2
  go_loopg [5] k (fun kq v5 w' => ∃ (x5_1 : Int), v5 = .int .i64 x5_1 ∧ Aside0 (pledgeref38_SameAll.l0 kq l0 l1 x5_1 = some r) ∧ Aside0 (kq ≤ k) ∧ Aside0 (Below w.heap.size w w'))
  case atStart => exact ⟨(0), qW23x1, H', ⟨Nat.le_refl _⟩, ⟨zB⟩⟩
  case round =>
    clear H'
    try clear c1
    try clear p2
    try clear c3
    try clear c3b0
    try clear c3b1
    try clear c3b2
    obtain ⟨x5_1, rfl, HA, HK1, HB⟩ := hrel
    cases gk with
    | zero => exact absurd HA.out (by simp [pledgeref38_SameAll.l0])
    | succ k1 =>
      have H := HA.out
      clear HA
      simp only [pledgeref38_SameAll.l0] at H
      by_cases c4 : x5_1 < (l0.length : Int)
      rotate_left
      · rw [if_neg c4] at H
        have c4b0 : decide (x5_1 < (l0.length : Int)) = false := decide_eq_false c4
        clear c4
        obtain rfl := Option.some.inj H
        go_wp2
        go_ret
        exact ⟨zer, zB⟩
      rw [if_pos c4] at H
      have c4b0 := decide_eq_true c4
      clear c4
      by_cases c5 : 0 ≤ x5_1
      rotate_left
      · rw [if_neg c5] at H
        exact absurd H (by simp)
      rw [if_pos c5] at H
      have c5b0 := decide_eq_true c5
      clear c5
      by_cases c6 : x5_1 < (l1.length : Int)
      rotate_left
      · rw [if_neg c6] at H
        exact absurd H (by simp)
      rw [if_pos c6] at H
      have c6b0 := decide_eq_true c6
      clear c6
      obtain ⟨t459, A7, H⟩ := zO H
      try dsimp only at H
      by_cases c8 : t459 = true
      rotate_left
      · replace c8 := Bool.eq_false_iff.mpr c8
        subst c8
        have H1 : (some false) = some r := by rw [if_neg (show ¬ (false = true) by decide)] at H; exact H
        clear H
        have H := H1
        clear H1
        obtain rfl := Option.some.inj H
        try go_wp2
        replace HB := Aside0.mk (below_drew1 HB.out)
        have p457 : 0 ≤ (x5_1 : Int) := of_decide_eq_true zas
        have q457 : x5_1 < (l0.length : Int) := of_decide_eq_true zas
        obtain ⟨ad457, A457_4, c457_4, e457, hx457_0, hx457_1, hx457_2, hx457_3, hx457_4, hl457_4, hi457_4⟩ := at_T25 HR0.out x5_1 p457 q457
        have hw457_4 := hx457_4
        have hw457_3 := hx457_3
        have hw457_2 := hx457_2
        have hw457_1 := hx457_1
        have hw457_0 := hx457_0
        cases e457
        replace hx457_0 := (HB.out.cell (World.block_lt_of_cell? w _ hx457_0)).trans hx457_0
        replace hx457_1 := (HB.out.cell (World.block_lt_of_cell? w _ hx457_1)).trans hx457_1
        replace hx457_2 := (HB.out.cell (World.block_lt_of_cell? w _ hx457_2)).trans hx457_2
        replace hx457_3 := (HB.out.cell (World.block_lt_of_cell? w _ hx457_3)).trans hx457_3
        replace hx457_4 := (HB.out.cell (World.block_lt_of_cell? w _ hx457_4)).trans hx457_4
        have HR457_4 := Aside0.mk hi457_4
        have HC457_4 := Aside0.mk hl457_4
        clear hi457_4 hl457_4
        replace p457 := eq_true p457
        replace q457 := eq_true q457
        have p458 : 0 ≤ (x5_1 : Int) := of_decide_eq_true zas
        have q458 : x5_1 < (l1.length : Int) := of_decide_eq_true zas
        obtain ⟨ad458, A458_4, c458_4, e458, hx458_0, hx458_1, hx458_2, hx458_3, hx458_4, hl458_4, hi458_4⟩ := at_T25 HR1.out x5_1 p458 q458
        have hw458_4 := hx458_4
        have hw458_3 := hx458_3
        have hw458_2 := hx458_2
        have hw458_1 := hx458_1
        have hw458_0 := hx458_0
        cases e458
        replace hx458_0 := (HB.out.cell (World.block_lt_of_cell? w _ hx458_0)).trans hx458_0
        replace hx458_1 := (HB.out.cell (World.block_lt_of_cell? w _ hx458_1)).trans hx458_1
        replace hx458_2 := (HB.out.cell (World.block_lt_of_cell? w _ hx458_2)).trans hx458_2
        replace hx458_3 := (HB.out.cell (World.block_lt_of_cell? w _ hx458_3)).trans hx458_3
        replace hx458_4 := (HB.out.cell (World.block_lt_of_cell? w _ hx458_4)).trans hx458_4
        have HR458_4 := Aside0.mk hi458_4
        have HC458_4 := Aside0.mk hl458_4
        clear hi458_4 hl458_4
        replace p458 := eq_true p458
        replace q458 := eq_true q458
        refine start_ (n := 10) (S := fun w' => w'.cell? (ad457.add ((x5_1).toNat * 5)) = some (.int .u8 ((rd_T25 l0 x5_1).f0)) ∧ w'.cell? ⟨(ad457.add ((x5_1).toNat * 5)).block, (ad457.add ((x5_1).toNat * 5)).off + 1, none⟩ = some (.int .u32 ((rd_T25 l0 x5_1).f1)) ∧ w'.cell? ⟨(ad457.add ((x5_1).toNat * 5)).block, (ad457.add ((x5_1).toNat * 5)).off + 2, none⟩ = some (.int .i64 ((rd_T25 l0 x5_1).f2)) ∧ w'.cell? ⟨(ad457.add ((x5_1).toNat * 5)).block, (ad457.add ((x5_1).toNat * 5)).off + 3, none⟩ = some (.int .i64 ((rd_T25 l0 x5_1).f3)) ∧ w'.cell? ⟨(ad457.add ((x5_1).toNat * 5)).block, (ad457.add ((x5_1).toNat * 5)).off + 4, none⟩ = some (.slice A457_4 ((rd_T25 l0 x5_1).f4).length c457_4) ∧ w'.cell? (ad458.add ((x5_1).toNat * 5)) = some (.int .u8 ((rd_T25 l1 x5_1).f0)) ∧ w'.cell? ⟨(ad458.add ((x5_1).toNat * 5)).block, (ad458.add ((x5_1).toNat * 5)).off + 1, none⟩ = some (.int .u32 ((rd_T25 l1 x5_1).f1)) ∧ w'.cell? ⟨(ad458.add ((x5_1).toNat * 5)).block, (ad458.add ((x5_1).toNat * 5)).off + 2, none⟩ = some (.int .i64 ((rd_T25 l1 x5_1).f2)) ∧ w'.cell? ⟨(ad458.add ((x5_1).toNat * 5)).block, (ad458.add ((x5_1).toNat * 5)).off + 3, none⟩ = some (.int .i64 ((rd_T25 l1 x5_1).f3)) ∧ w'.cell? ⟨(ad458.add ((x5_1).toNat * 5)).block, (ad458.add ((x5_1).toNat * 5)).off + 4, none⟩ = some (.slice A458_4 ((rd_T25 l1 x5_1).f4).length c458_4)) (ds := []) (bz 10 0) qW23x2 rfl qW23x2 ⟨((HB.out.cell (World.block_lt_of_cell? w _ hw457_0)).trans hw457_0), ((HB.out.cell (World.block_lt_of_cell? w _ hw457_1)).trans hw457_1), ((HB.out.cell (World.block_lt_of_cell? w _ hw457_2)).trans hw457_2), ((HB.out.cell (World.block_lt_of_cell? w _ hw457_3)).trans hw457_3), ((HB.out.cell (World.block_lt_of_cell? w _ hw457_4)).trans hw457_4), ((HB.out.cell (World.block_lt_of_cell? w _ hw458_0)).trans hw458_0), ((HB.out.cell (World.block_lt_of_cell? w _ hw458_1)).trans hw458_1), ((HB.out.cell (World.block_lt_of_cell? w _ hw458_2)).trans hw458_2), ((HB.out.cell (World.block_lt_of_cell? w _ hw458_3)).trans hw458_3), ((HB.out.cell (World.block_lt_of_cell? w _ hw458_4)).trans hw458_4)⟩ (fun hHeld => ?_); refine with_tabW pledgeref38_SameAll.tab6 pledgeref38_SameAll.bits6 (fun HT_ HW_ => ?_)
        generalize wr.drew = w11 at HB HR457_4 HR458_4 hx457_0 hx457_1 hx457_2 hx457_3 hx457_4 hx458_0 hx458_1 hx458_2 hx458_3 hx458_4 hHeld ⊢
        refine pureZ (some 17) (bz 10 1) (i := 0) (h := ?_); refine pureZ (some 18) (bz 10 3) (i := 1) (h := ?_); refine pureZ (some 19) (bz 10 7) (i := 2) (h := ?_); refine pureZ (some 21) (bz 10 23) (i := 4) (h := ?_); refine pureZ (some 22) (bz 10 55) (i := 5) (h := ?_); refine pureZ (some 23) (bz 10 119) (i := 6) (h := ?_); refine takeZ (some 20) (bz 10 127) (i := 3) (h := ?_); refine takeZ (some 24) (bz 10 255) (i := 7) (h := ?_)
        refine one_ (i := 8) (N := some 25) (bz 10 511) rfl rfl (one_of HT_.out qW23x2) (by decide) (fun K hK => ?_)
        refine goes_ Tryz.func12 qW23x2 rfl #[.agg #[.int .u8 ((rd_T25 l0 x5_1).f0), .int .u32 ((rd_T25 l0 x5_1).f1), .int .i64 ((rd_T25 l0 x5_1).f2), .int .i64 ((rd_T25 l0 x5_1).f3), .slice A457_4 ((rd_T25 l0 x5_1).f4).length c457_4], .agg #[.int .u8 ((rd_T25 l1 x5_1).f0), .int .u32 ((rd_T25 l1 x5_1).f1), .int .i64 ((rd_T25 l1 x5_1).f2), .int .i64 ((rd_T25 l1 x5_1).f3), .slice A458_4 ((rd_T25 l1 x5_1).f4).length c458_4]] (by rfl) rfl rfl zA ?_
        with_reducible refine (pledgeref38_Same.calls ((rd_T25 l0 x5_1).f0) ((rd_T25 l0 x5_1).f1) ((rd_T25 l0 x5_1).f2) ((rd_T25 l0 x5_1).f3) _ _ ((rd_T25 l0 x5_1).f4) ((rd_T25 l1 x5_1).f0) ((rd_T25 l1 x5_1).f1) ((rd_T25 l1 x5_1).f2) ((rd_T25 l1 x5_1).f3) _ _ ((rd_T25 l1 x5_1).f4) false _ ?side1 ?side2 ?side3 ?side4 A7.out).mono ?_
        (case side1 => exact zC (Kd.C_below HR457_4.out HB.out))
        (case side2 => exact HC457_4.out)
        (case side3 => exact zC (Kd.C_below HR458_4.out HB.out))
        (case side4 => exact HC458_4.out)
        rintro e w12 ⟨rfl, hb⟩
        refine ⟨_, rfl, ?_⟩
        replace HB := zH hb
        refine hK.out _ _ ⟨((HB.out.cell (World.block_lt_of_cell? w _ hw457_0)).trans hw457_0), ((HB.out.cell (World.block_lt_of_cell? w _ hw457_1)).trans hw457_1), ((HB.out.cell (World.block_lt_of_cell? w _ hw457_2)).trans hw457_2), ((HB.out.cell (World.block_lt_of_cell? w _ hw457_3)).trans hw457_3), ((HB.out.cell (World.block_lt_of_cell? w _ hw457_4)).trans hw457_4), ((HB.out.cell (World.block_lt_of_cell? w _ hw458_0)).trans hw458_0), ((HB.out.cell (World.block_lt_of_cell? w _ hw458_1)).trans hw458_1), ((HB.out.cell (World.block_lt_of_cell? w _ hw458_2)).trans hw458_2), ((HB.out.cell (World.block_lt_of_cell? w _ hw458_3)).trans hw458_3), ((HB.out.cell (World.block_lt_of_cell? w _ hw458_4)).trans hw458_4)⟩ (fun hHeld => ?_)
        clear hK K
        refine norm_ (a' := ?_) ?_ ?_
        rotate_left
        · show Act.put _ (some 25) _ = _
          simp only [Act.put, List.setIfInBounds_toArray, List.set_cons_zero, List.set_cons_succ, i64_w, i32_w]
          rfl
        refine pureZ (some 26) (bz 10 1023) (i := 9) (h := ?_)
        refine done_ (done_of HT_.out qW23x2) ?_
        try go_wp2
        go_ret
        exact ⟨zer, zB⟩
      subst c8
      have H1 : (pledgeref38_SameAll.l0 k1 l0 l1 (wrap64 (x5_1 + 1))) = some r := by rw [if_pos rfl] at H; exact H
      clear H
      have H := H1
      clear H1
      have H' := Aside0.mk H
      clear H
      try go_wp2
      replace HB := Aside0.mk (below_drew1 HB.out)
      have p457 : 0 ≤ (x5_1 : Int) := of_decide_eq_true zas
      have q457 : x5_1 < (l0.length : Int) := of_decide_eq_true zas
      obtain ⟨ad457, A457_4, c457_4, e457, hx457_0, hx457_1, hx457_2, hx457_3, hx457_4, hl457_4, hi457_4⟩ := at_T25 HR0.out x5_1 p457 q457
      have hw457_4 := hx457_4
      have hw457_3 := hx457_3
      have hw457_2 := hx457_2
      have hw457_1 := hx457_1
      have hw457_0 := hx457_0
      cases e457
      replace hx457_0 := (HB.out.cell (World.block_lt_of_cell? w _ hx457_0)).trans hx457_0
      replace hx457_1 := (HB.out.cell (World.block_lt_of_cell? w _ hx457_1)).trans hx457_1
      replace hx457_2 := (HB.out.cell (World.block_lt_of_cell? w _ hx457_2)).trans hx457_2
      replace hx457_3 := (HB.out.cell (World.block_lt_of_cell? w _ hx457_3)).trans hx457_3
      replace hx457_4 := (HB.out.cell (World.block_lt_of_cell? w _ hx457_4)).trans hx457_4
      have HR457_4 := Aside0.mk hi457_4
      have HC457_4 := Aside0.mk hl457_4
      clear hi457_4 hl457_4
      replace p457 := eq_true p457
      replace q457 := eq_true q457
      have p458 : 0 ≤ (x5_1 : Int) := of_decide_eq_true zas
      have q458 : x5_1 < (l1.length : Int) := of_decide_eq_true zas
      obtain ⟨ad458, A458_4, c458_4, e458, hx458_0, hx458_1, hx458_2, hx458_3, hx458_4, hl458_4, hi458_4⟩ := at_T25 HR1.out x5_1 p458 q458
      have hw458_4 := hx458_4
      have hw458_3 := hx458_3
      have hw458_2 := hx458_2
      have hw458_1 := hx458_1
      have hw458_0 := hx458_0
      cases e458
      replace hx458_0 := (HB.out.cell (World.block_lt_of_cell? w _ hx458_0)).trans hx458_0
      replace hx458_1 := (HB.out.cell (World.block_lt_of_cell? w _ hx458_1)).trans hx458_1
      replace hx458_2 := (HB.out.cell (World.block_lt_of_cell? w _ hx458_2)).trans hx458_2
      replace hx458_3 := (HB.out.cell (World.block_lt_of_cell? w _ hx458_3)).trans hx458_3
      replace hx458_4 := (HB.out.cell (World.block_lt_of_cell? w _ hx458_4)).trans hx458_4
      have HR458_4 := Aside0.mk hi458_4
      have HC458_4 := Aside0.mk hl458_4
      clear hi458_4 hl458_4
      replace p458 := eq_true p458
      replace q458 := eq_true q458
      refine start_ (n := 10) (S := fun w' => w'.cell? (ad457.add ((x5_1).toNat * 5)) = some (.int .u8 ((rd_T25 l0 x5_1).f0)) ∧ w'.cell? ⟨(ad457.add ((x5_1).toNat * 5)).block, (ad457.add ((x5_1).toNat * 5)).off + 1, none⟩ = some (.int .u32 ((rd_T25 l0 x5_1).f1)) ∧ w'.cell? ⟨(ad457.add ((x5_1).toNat * 5)).block, (ad457.add ((x5_1).toNat * 5)).off + 2, none⟩ = some (.int .i64 ((rd_T25 l0 x5_1).f2)) ∧ w'.cell? ⟨(ad457.add ((x5_1).toNat * 5)).block, (ad457.add ((x5_1).toNat * 5)).off + 3, none⟩ = some (.int .i64 ((rd_T25 l0 x5_1).f3)) ∧ w'.cell? ⟨(ad457.add ((x5_1).toNat * 5)).block, (ad457.add ((x5_1).toNat * 5)).off + 4, none⟩ = some (.slice A457_4 ((rd_T25 l0 x5_1).f4).length c457_4) ∧ w'.cell? (ad458.add ((x5_1).toNat * 5)) = some (.int .u8 ((rd_T25 l1 x5_1).f0)) ∧ w'.cell? ⟨(ad458.add ((x5_1).toNat * 5)).block, (ad458.add ((x5_1).toNat * 5)).off + 1, none⟩ = some (.int .u32 ((rd_T25 l1 x5_1).f1)) ∧ w'.cell? ⟨(ad458.add ((x5_1).toNat * 5)).block, (ad458.add ((x5_1).toNat * 5)).off + 2, none⟩ = some (.int .i64 ((rd_T25 l1 x5_1).f2)) ∧ w'.cell? ⟨(ad458.add ((x5_1).toNat * 5)).block, (ad458.add ((x5_1).toNat * 5)).off + 3, none⟩ = some (.int .i64 ((rd_T25 l1 x5_1).f3)) ∧ w'.cell? ⟨(ad458.add ((x5_1).toNat * 5)).block, (ad458.add ((x5_1).toNat * 5)).off + 4, none⟩ = some (.slice A458_4 ((rd_T25 l1 x5_1).f4).length c458_4)) (ds := []) (bz 10 0) qW23x2 rfl qW23x2 ⟨((HB.out.cell (World.block_lt_of_cell? w _ hw457_0)).trans hw457_0), ((HB.out.cell (World.block_lt_of_cell? w _ hw457_1)).trans hw457_1), ((HB.out.cell (World.block_lt_of_cell? w _ hw457_2)).trans hw457_2), ((HB.out.cell (World.block_lt_of_cell? w _ hw457_3)).trans hw457_3), ((HB.out.cell (World.block_lt_of_cell? w _ hw457_4)).trans hw457_4), ((HB.out.cell (World.block_lt_of_cell? w _ hw458_0)).trans hw458_0), ((HB.out.cell (World.block_lt_of_cell? w _ hw458_1)).trans hw458_1), ((HB.out.cell (World.block_lt_of_cell? w _ hw458_2)).trans hw458_2), ((HB.out.cell (World.block_lt_of_cell? w _ hw458_3)).trans hw458_3), ((HB.out.cell (World.block_lt_of_cell? w _ hw458_4)).trans hw458_4)⟩ (fun hHeld => ?_); refine with_tabW pledgeref38_SameAll.tab6 pledgeref38_SameAll.bits6 (fun HT_ HW_ => ?_)
      generalize wr.drew = w9 at HB HR457_4 HR458_4 hx457_0 hx457_1 hx457_2 hx457_3 hx457_4 hx458_0 hx458_1 hx458_2 hx458_3 hx458_4 hHeld ⊢
      refine pureZ (some 17) (bz 10 1) (i := 0) (h := ?_); refine pureZ (some 18) (bz 10 3) (i := 1) (h := ?_); refine pureZ (some 19) (bz 10 7) (i := 2) (h := ?_); refine pureZ (some 21) (bz 10 23) (i := 4) (h := ?_); refine pureZ (some 22) (bz 10 55) (i := 5) (h := ?_); refine pureZ (some 23) (bz 10 119) (i := 6) (h := ?_); refine takeZ (some 20) (bz 10 127) (i := 3) (h := ?_); refine takeZ (some 24) (bz 10 255) (i := 7) (h := ?_)
      refine one_ (i := 8) (N := some 25) (bz 10 511) rfl rfl (one_of HT_.out qW23x2) (by decide) (fun K hK => ?_)
      refine goes_ Tryz.func12 qW23x2 rfl #[.agg #[.int .u8 ((rd_T25 l0 x5_1).f0), .int .u32 ((rd_T25 l0 x5_1).f1), .int .i64 ((rd_T25 l0 x5_1).f2), .int .i64 ((rd_T25 l0 x5_1).f3), .slice A457_4 ((rd_T25 l0 x5_1).f4).length c457_4], .agg #[.int .u8 ((rd_T25 l1 x5_1).f0), .int .u32 ((rd_T25 l1 x5_1).f1), .int .i64 ((rd_T25 l1 x5_1).f2), .int .i64 ((rd_T25 l1 x5_1).f3), .slice A458_4 ((rd_T25 l1 x5_1).f4).length c458_4]] (by rfl) rfl rfl zA ?_
      with_reducible refine (pledgeref38_Same.calls ((rd_T25 l0 x5_1).f0) ((rd_T25 l0 x5_1).f1) ((rd_T25 l0 x5_1).f2) ((rd_T25 l0 x5_1).f3) _ _ ((rd_T25 l0 x5_1).f4) ((rd_T25 l1 x5_1).f0) ((rd_T25 l1 x5_1).f1) ((rd_T25 l1 x5_1).f2) ((rd_T25 l1 x5_1).f3) _ _ ((rd_T25 l1 x5_1).f4) true _ ?side1 ?side2 ?side3 ?side4 A7.out).mono ?_
      (case side1 => exact zC (Kd.C_below HR457_4.out HB.out))
      (case side2 => exact HC457_4.out)
      (case side3 => exact zC (Kd.C_below HR458_4.out HB.out))
      (case side4 => exact HC458_4.out)
      rintro e w10 ⟨rfl, hb⟩
      refine ⟨_, rfl, ?_⟩
      replace HB := zH hb
      refine hK.out _ _ ⟨((HB.out.cell (World.block_lt_of_cell? w _ hw457_0)).trans hw457_0), ((HB.out.cell (World.block_lt_of_cell? w _ hw457_1)).trans hw457_1), ((HB.out.cell (World.block_lt_of_cell? w _ hw457_2)).trans hw457_2), ((HB.out.cell (World.block_lt_of_cell? w _ hw457_3)).trans hw457_3), ((HB.out.cell (World.block_lt_of_cell? w _ hw457_4)).trans hw457_4), ((HB.out.cell (World.block_lt_of_cell? w _ hw458_0)).trans hw458_0), ((HB.out.cell (World.block_lt_of_cell? w _ hw458_1)).trans hw458_1), ((HB.out.cell (World.block_lt_of_cell? w _ hw458_2)).trans hw458_2), ((HB.out.cell (World.block_lt_of_cell? w _ hw458_3)).trans hw458_3), ((HB.out.cell (World.block_lt_of_cell? w _ hw458_4)).trans hw458_4)⟩ (fun hHeld => ?_)
      clear hK K
      refine norm_ (a' := ?_) ?_ ?_
      rotate_left
      · show Act.put _ (some 25) _ = _
        simp only [Act.put, List.setIfInBounds_toArray, List.set_cons_zero, List.set_cons_succ, i64_w, i32_w]
        rfl
      refine pureZ (some 26) (bz 10 1023) (i := 9) (h := ?_)
      refine done_ (done_of HT_.out qW23x2) ?_
      try go_wp2
      go_roundg k1
      case measure => have := HK1.out; omega
      case rel => exact ⟨(wrap64 (x5_1 + 1)), qW23x1, H', ⟨by have := HK1.out; omega⟩, ⟨zB⟩⟩
end Go.Proofs.YtpnehgajhpejjaaGreatDoor.W
