import Derived.Test.YtpnehgajhpejjaaDoorSq
import Derived.Test.YtpnehgajhpejjaaDoorW0
import Derived.Test.YtpnehgajhpejjaaDoorW10
namespace Go.Proofs.YtpnehgajhpejjaaDoor.W
open Go.RowKit Go.Proofs.YtpnehgajhpejjaaDoorW.PrintWords Go.Proofs.YtpnehgajhpejjaaDoorW.PrintLast Go.Proofs.YtpnehgajhpejjaaDoorW.PrintMore
attribute [local go_sem] max2_int min2_int max_two min_two max_three min_three max_four min_four
set_option linter.unusedVariables false
set_option linter.unusedSimpArgs false
theorem qW11x1 {p : Prop} (h : p := by kernel_rfl) : p := h
/-! ### pledgeref38_SameAll: function 28 -/
def pledgeref38_SameAll.l0 : Nat → List (S64) → List (S64) → Int → Option (Bool)
  | 0, _, _, _ => none
  | k + 1, x0, x1, x5 => if x5 < (x0.length : Int) then (if 0 ≤ x5 then (if x5 < (x1.length : Int) then ((pledgeref38_Same.f ((rd_T64 x0 x5).f0) ((rd_T64 x0 x5).f1) ((rd_T64 x0 x5).f2) ((rd_T64 x0 x5).f3) ((rd_T64 x0 x5).f4) ((rd_T64 x1 x5).f0) ((rd_T64 x1 x5).f1) ((rd_T64 x1 x5).f2) ((rd_T64 x1 x5).f3) ((rd_T64 x1 x5).f4)).bind fun t243 => (if t243 = true then (pledgeref38_SameAll.l0 k x0 x1 (wrap64 (x5 + 1))) else (some false))) else (none)) else (none)) else (some true)
def pledgeref38_SameAll.f (k : Nat) (l0 : List (S64)) (l1 : List (S64)) : Option (Bool) := if (l0.length : Int) = (l1.length : Int) then (pledgeref38_SameAll.l0 k l0 l1 0) else (some false)
def pledgeref38_SameAll.T6 : Bool × List (List Nat × List Nat) := (true, [([], []), ([], []), ([0, 1], [0, 1]), ([2], [2]), ([], []), ([], []), ([4, 5], [4, 5]), ([6], [6]), ([3, 7], [3, 7]), ([8], [8])])
def pledgeref38_SameAll.B6 : List Nat := [0, 0, 3, 7, 0, 0, 48, 112, 255, 511]
theorem pledgeref38_SameAll.tab6 : rtab .any (opsOf Tryd.f28 6) = pledgeref38_SameAll.T6 := by kernel_rfl
theorem pledgeref38_SameAll.bits6 : waitsOk pledgeref38_SameAll.T6.2 pledgeref38_SameAll.B6 = true := by kernel_rfl
set_option maxHeartbeats 8000000 in
set_option maxRecDepth 100000 in
theorem pledgeref38_SameAll.calls (k : Nat) (A0 : Option Addr) (c0 : Nat) (l0 : List (S64)) (A1 : Option Addr) (c1 : Nat) (l1 : List (S64)) (r : Bool) (w : World) (hr0 : Kd.C k64 w A0 l0.length l0) (hc0 : l0.length ≤ c0) (hr1 : Kd.C k64 w A1 l1.length l1) (hc1 : l1.length ≤ c1) (h : pledgeref38_SameAll.f k l0 l1 = some r) :
    Calls Tryd.prog 28 #[.slice A0 l0.length c0, .slice A1 l1.length c1] w fun e w' => e = .returned (.bool r) ∧ Below w.heap.size w w' := by
  have hu64 := Tryd.underlying64
  have HR0 := Aside0.mk hr0
  have HC0 := Aside0.mk hc0
  clear hr0 hc0
  have HR1 := Aside0.mk hr1
  have HC1 := Aside0.mk hc1
  clear hr1 hc1
  have HB := Aside0.mk (Below.refl w.heap.size w)
  have H : (if (l0.length : Int) = (l1.length : Int) then (pledgeref38_SameAll.l0 k l0 l1 0) else (some false)) = some r := h
  clear h
  by_cases c3 : (l0.length : Int) = (l1.length : Int)
  rotate_left
  · rw [if_neg c3] at H
    obtain ⟨c3b0, c3b1⟩ := zne c3
    have c3b2 : (l0.length == l1.length) = false := by first | simpa using c3 | (simp at c3 ⊢; omega)
    obtain rfl := Option.some.inj H
    go_enter Tryd.func28, Tryd.ntmps28
    go_wp2
    go_ret
    exact ⟨zer, zB⟩
  rw [if_pos c3] at H
  obtain ⟨c3b0, c3b1⟩ := zeq c3
  have c3b2 : (l0.length == l1.length) = true := by first | simpa using c3 | (simp at c3 ⊢; omega)
  clear c3
  have H' := Aside0.mk H
  clear H
  go_enter Tryd.func28, Tryd.ntmps28
  go_wp2
  go_loopg [5] k (fun kq v5 w' => ∃ (x5_1 : Int), v5 = .int .i64 x5_1 ∧ Aside0 (pledgeref38_SameAll.l0 kq l0 l1 x5_1 = some r) ∧ Aside0 (kq ≤ k) ∧ Aside0 (Below w.heap.size w w'))
  case atStart => exact ⟨(0), (by first | rfl | (simp; done) | (simp [*]; done)), H', ⟨Nat.le_refl _⟩, ⟨zB⟩⟩
  case round =>
    clear H'
    try clear c1
    try clear c2
    try clear p2
    try clear c3
    try clear c3b0
    try clear c3b1
    try clear c3b2
    obtain ⟨x5_1, rfl, HA, HK1, HB⟩ := hrel
    cases gk with
    | zero => exact absurd HA.out (by simp [pledgeref38_SameAll.l0])
    | succ k1 =>
      have H := HA.out
      clear HA
      simp only [pledgeref38_SameAll.l0] at H
      by_cases c4 : x5_1 < (l0.length : Int)
      rotate_left
      · rw [if_neg c4] at H
        have c4b0 : decide (x5_1 < (l0.length : Int)) = false := decide_eq_false c4
        clear c4
        obtain rfl := Option.some.inj H
        go_wp2
        go_ret
        exact ⟨zer, zB⟩
      rw [if_pos c4] at H
      have c4b0 := decide_eq_true c4
      clear c4
      by_cases c5 : 0 ≤ x5_1
      rotate_left
      · rw [if_neg c5] at H
        exact absurd H (by simp)
      rw [if_pos c5] at H
      have c5b0 := decide_eq_true c5
      clear c5
      by_cases c6 : x5_1 < (l1.length : Int)
      rotate_left
      · rw [if_neg c6] at H
        exact absurd H (by simp)
      rw [if_pos c6] at H
      have c6b0 := decide_eq_true c6
      clear c6
      obtain ⟨t243, A7, H⟩ := zO H
      try dsimp only at H
      by_cases c8 : t243 = true
      rotate_left
      · replace c8 := Bool.eq_false_iff.mpr c8
        subst c8
        have H1 : (some false) = some r := by rw [if_neg (show ¬ (false = true) by decide)] at H; exact H
        clear H
        have H := H1
        clear H1
        obtain rfl := Option.some.inj H
        try go_wp2
        replace HB := Aside0.mk (below_drew1 HB.out)
        have p241 : 0 ≤ (x5_1 : Int) := of_decide_eq_true zas
        have q241 : x5_1 < (l0.length : Int) := of_decide_eq_true zas
        obtain ⟨ad241, A241_4, c241_4, e241, hx241_0, hx241_1, hx241_2, hx241_3, hx241_4, hl241_4, hi241_4⟩ := at_T64 HR0.out x5_1 p241 q241
        have hw241_4 := hx241_4
        have hw241_3 := hx241_3
        have hw241_2 := hx241_2
        have hw241_1 := hx241_1
        have hw241_0 := hx241_0
        cases e241
        replace hx241_0 := (HB.out.cell (World.block_lt_of_cell? w _ hx241_0)).trans hx241_0
        replace hx241_1 := (HB.out.cell (World.block_lt_of_cell? w _ hx241_1)).trans hx241_1
        replace hx241_2 := (HB.out.cell (World.block_lt_of_cell? w _ hx241_2)).trans hx241_2
        replace hx241_3 := (HB.out.cell (World.block_lt_of_cell? w _ hx241_3)).trans hx241_3
        replace hx241_4 := (HB.out.cell (World.block_lt_of_cell? w _ hx241_4)).trans hx241_4
        have HR241_4 := Aside0.mk hi241_4
        have HC241_4 := Aside0.mk hl241_4
        clear hi241_4 hl241_4
        replace p241 := eq_true p241
        replace q241 := eq_true q241
        have p242 : 0 ≤ (x5_1 : Int) := of_decide_eq_true zas
        have q242 : x5_1 < (l1.length : Int) := of_decide_eq_true zas
        obtain ⟨ad242, A242_4, c242_4, e242, hx242_0, hx242_1, hx242_2, hx242_3, hx242_4, hl242_4, hi242_4⟩ := at_T64 HR1.out x5_1 p242 q242
        have hw242_4 := hx242_4
        have hw242_3 := hx242_3
        have hw242_2 := hx242_2
        have hw242_1 := hx242_1
        have hw242_0 := hx242_0
        cases e242
        replace hx242_0 := (HB.out.cell (World.block_lt_of_cell? w _ hx242_0)).trans hx242_0
        replace hx242_1 := (HB.out.cell (World.block_lt_of_cell? w _ hx242_1)).trans hx242_1
        replace hx242_2 := (HB.out.cell (World.block_lt_of_cell? w _ hx242_2)).trans hx242_2
        replace hx242_3 := (HB.out.cell (World.block_lt_of_cell? w _ hx242_3)).trans hx242_3
        replace hx242_4 := (HB.out.cell (World.block_lt_of_cell? w _ hx242_4)).trans hx242_4
        have HR242_4 := Aside0.mk hi242_4
        have HC242_4 := Aside0.mk hl242_4
        clear hi242_4 hl242_4
        replace p242 := eq_true p242
        replace q242 := eq_true q242
        refine start_ (n := 10) (S := fun w' => w'.cell? (ad241.add ((x5_1).toNat * 5)) = some (.int .u8 ((rd_T64 l0 x5_1).f0)) ∧ w'.cell? ⟨(ad241.add ((x5_1).toNat * 5)).block, (ad241.add ((x5_1).toNat * 5)).off + 1, none⟩ = some (.int .u32 ((rd_T64 l0 x5_1).f1)) ∧ w'.cell? ⟨(ad241.add ((x5_1).toNat * 5)).block, (ad241.add ((x5_1).toNat * 5)).off + 2, none⟩ = some (.int .i64 ((rd_T64 l0 x5_1).f2)) ∧ w'.cell? ⟨(ad241.add ((x5_1).toNat * 5)).block, (ad241.add ((x5_1).toNat * 5)).off + 3, none⟩ = some (.int .i64 ((rd_T64 l0 x5_1).f3)) ∧ w'.cell? ⟨(ad241.add ((x5_1).toNat * 5)).block, (ad241.add ((x5_1).toNat * 5)).off + 4, none⟩ = some (.slice A241_4 ((rd_T64 l0 x5_1).f4).length c241_4) ∧ w'.cell? (ad242.add ((x5_1).toNat * 5)) = some (.int .u8 ((rd_T64 l1 x5_1).f0)) ∧ w'.cell? ⟨(ad242.add ((x5_1).toNat * 5)).block, (ad242.add ((x5_1).toNat * 5)).off + 1, none⟩ = some (.int .u32 ((rd_T64 l1 x5_1).f1)) ∧ w'.cell? ⟨(ad242.add ((x5_1).toNat * 5)).block, (ad242.add ((x5_1).toNat * 5)).off + 2, none⟩ = some (.int .i64 ((rd_T64 l1 x5_1).f2)) ∧ w'.cell? ⟨(ad242.add ((x5_1).toNat * 5)).block, (ad242.add ((x5_1).toNat * 5)).off + 3, none⟩ = some (.int .i64 ((rd_T64 l1 x5_1).f3)) ∧ w'.cell? ⟨(ad242.add ((x5_1).toNat * 5)).block, (ad242.add ((x5_1).toNat * 5)).off + 4, none⟩ = some (.slice A242_4 ((rd_T64 l1 x5_1).f4).length c242_4)) (ds := []) (bz 10 0) qW11x1 rfl qW11x1 ⟨((HB.out.cell (World.block_lt_of_cell? w _ hw241_0)).trans hw241_0), ((HB.out.cell (World.block_lt_of_cell? w _ hw241_1)).trans hw241_1), ((HB.out.cell (World.block_lt_of_cell? w _ hw241_2)).trans hw241_2), ((HB.out.cell (World.block_lt_of_cell? w _ hw241_3)).trans hw241_3), ((HB.out.cell (World.block_lt_of_cell? w _ hw241_4)).trans hw241_4), ((HB.out.cell (World.block_lt_of_cell? w _ hw242_0)).trans hw242_0), ((HB.out.cell (World.block_lt_of_cell? w _ hw242_1)).trans hw242_1), ((HB.out.cell (World.block_lt_of_cell? w _ hw242_2)).trans hw242_2), ((HB.out.cell (World.block_lt_of_cell? w _ hw242_3)).trans hw242_3), ((HB.out.cell (World.block_lt_of_cell? w _ hw242_4)).trans hw242_4)⟩ (fun hHeld => ?_); refine with_tabW pledgeref38_SameAll.tab6 pledgeref38_SameAll.bits6 (fun HT_ HW_ => ?_)
        generalize wr.drew = w11 at HB HR241_4 HR242_4 hx241_0 hx241_1 hx241_2 hx241_3 hx241_4 hx242_0 hx242_1 hx242_2 hx242_3 hx242_4 hHeld ⊢
        refine pureZ (some 17) (bz 10 1) (i := 0) (h := ?_); refine pureZ (some 18) (bz 10 3) (i := 1) (h := ?_); refine pureZ (some 19) (bz 10 7) (i := 2) (h := ?_); refine pureZ (some 21) (bz 10 23) (i := 4) (h := ?_); refine pureZ (some 22) (bz 10 55) (i := 5) (h := ?_); refine pureZ (some 23) (bz 10 119) (i := 6) (h := ?_); refine takeZ (some 20) (bz 10 127) (i := 3) (h := ?_); refine takeZ (some 24) (bz 10 255) (i := 7) (h := ?_)
        refine one_ (i := 8) (N := some 25) (bz 10 511) rfl rfl (one_of HT_.out qW11x1) (by decide) (fun K hK => ?_)
        refine goes_ Tryd.func42 qW11x1 rfl #[.agg #[.int .u8 ((rd_T64 l0 x5_1).f0), .int .u32 ((rd_T64 l0 x5_1).f1), .int .i64 ((rd_T64 l0 x5_1).f2), .int .i64 ((rd_T64 l0 x5_1).f3), .slice A241_4 ((rd_T64 l0 x5_1).f4).length c241_4], .agg #[.int .u8 ((rd_T64 l1 x5_1).f0), .int .u32 ((rd_T64 l1 x5_1).f1), .int .i64 ((rd_T64 l1 x5_1).f2), .int .i64 ((rd_T64 l1 x5_1).f3), .slice A242_4 ((rd_T64 l1 x5_1).f4).length c242_4]] (by rfl) rfl rfl zA ?_
        with_reducible refine (pledgeref38_Same.calls ((rd_T64 l0 x5_1).f0) ((rd_T64 l0 x5_1).f1) ((rd_T64 l0 x5_1).f2) ((rd_T64 l0 x5_1).f3) _ _ ((rd_T64 l0 x5_1).f4) ((rd_T64 l1 x5_1).f0) ((rd_T64 l1 x5_1).f1) ((rd_T64 l1 x5_1).f2) ((rd_T64 l1 x5_1).f3) _ _ ((rd_T64 l1 x5_1).f4) false _ ?side1 ?side2 ?side3 ?side4 A7.out).mono ?_
        (case side1 => exact zC (Kd.C_below HR241_4.out HB.out))
        (case side2 => exact HC241_4.out)
        (case side3 => exact zC (Kd.C_below HR242_4.out HB.out))
        (case side4 => exact HC242_4.out)
        rintro e w12 ⟨rfl, hb⟩
        refine ⟨_, rfl, ?_⟩
        replace HB := zH hb
        refine hK.out _ _ ⟨((HB.out.cell (World.block_lt_of_cell? w _ hw241_0)).trans hw241_0), ((HB.out.cell (World.block_lt_of_cell? w _ hw241_1)).trans hw241_1), ((HB.out.cell (World.block_lt_of_cell? w _ hw241_2)).trans hw241_2), ((HB.out.cell (World.block_lt_of_cell? w _ hw241_3)).trans hw241_3), ((HB.out.cell (World.block_lt_of_cell? w _ hw241_4)).trans hw241_4), ((HB.out.cell (World.block_lt_of_cell? w _ hw242_0)).trans hw242_0), ((HB.out.cell (World.block_lt_of_cell? w _ hw242_1)).trans hw242_1), ((HB.out.cell (World.block_lt_of_cell? w _ hw242_2)).trans hw242_2), ((HB.out.cell (World.block_lt_of_cell? w _ hw242_3)).trans hw242_3), ((HB.out.cell (World.block_lt_of_cell? w _ hw242_4)).trans hw242_4)⟩ (fun hHeld => ?_)
        clear hK K
        refine norm_ (a' := ?_) ?_ ?_
        rotate_left
        · show Act.put _ (some 25) _ = _
          simp only [Act.put, List.setIfInBounds_toArray, List.set_cons_zero, List.set_cons_succ, i64_w, i32_w]
          rfl
        refine pureZ (some 26) (bz 10 1023) (i := 9) (h := ?_)
        refine done_ (done_of HT_.out qW11x1) ?_
        try go_wp2
        go_ret
        exact ⟨zer, zB⟩
      subst c8
      have H1 : (pledgeref38_SameAll.l0 k1 l0 l1 (wrap64 (x5_1 + 1))) = some r := by rw [if_pos rfl] at H; exact H
      clear H
      have H := H1
      clear H1
      have H' := Aside0.mk H
      clear H
      try go_wp2
      replace HB := Aside0.mk (below_drew1 HB.out)
      have p241 : 0 ≤ (x5_1 : Int) := of_decide_eq_true zas
      have q241 : x5_1 < (l0.length : Int) := of_decide_eq_true zas
      obtain ⟨ad241, A241_4, c241_4, e241, hx241_0, hx241_1, hx241_2, hx241_3, hx241_4, hl241_4, hi241_4⟩ := at_T64 HR0.out x5_1 p241 q241
      have hw241_4 := hx241_4
      have hw241_3 := hx241_3
      have hw241_2 := hx241_2
      have hw241_1 := hx241_1
      have hw241_0 := hx241_0
      cases e241
      replace hx241_0 := (HB.out.cell (World.block_lt_of_cell? w _ hx241_0)).trans hx241_0
      replace hx241_1 := (HB.out.cell (World.block_lt_of_cell? w _ hx241_1)).trans hx241_1
      replace hx241_2 := (HB.out.cell (World.block_lt_of_cell? w _ hx241_2)).trans hx241_2
      replace hx241_3 := (HB.out.cell (World.block_lt_of_cell? w _ hx241_3)).trans hx241_3
      replace hx241_4 := (HB.out.cell (World.block_lt_of_cell? w _ hx241_4)).trans hx241_4
      have HR241_4 := Aside0.mk hi241_4
      have HC241_4 := Aside0.mk hl241_4
      clear hi241_4 hl241_4
      replace p241 := eq_true p241
      replace q241 := eq_true q241
      have p242 : 0 ≤ (x5_1 : Int) := of_decide_eq_true zas
      have q242 : x5_1 < (l1.length : Int) := of_decide_eq_true zas
      obtain ⟨ad242, A242_4, c242_4, e242, hx242_0, hx242_1, hx242_2, hx242_3, hx242_4, hl242_4, hi242_4⟩ := at_T64 HR1.out x5_1 p242 q242
      have hw242_4 := hx242_4
      have hw242_3 := hx242_3
      have hw242_2 := hx242_2
      have hw242_1 := hx242_1
      have hw242_0 := hx242_0
      cases e242
      replace hx242_0 := (HB.out.cell (World.block_lt_of_cell? w _ hx242_0)).trans hx242_0
      replace hx242_1 := (HB.out.cell (World.block_lt_of_cell? w _ hx242_1)).trans hx242_1
      replace hx242_2 := (HB.out.cell (World.block_lt_of_cell? w _ hx242_2)).trans hx242_2
      replace hx242_3 := (HB.out.cell (World.block_lt_of_cell? w _ hx242_3)).trans hx242_3
      replace hx242_4 := (HB.out.cell (World.block_lt_of_cell? w _ hx242_4)).trans hx242_4
      have HR242_4 := Aside0.mk hi242_4
      have HC242_4 := Aside0.mk hl242_4
      clear hi242_4 hl242_4
      replace p242 := eq_true p242
      replace q242 := eq_true q242
      refine start_ (n := 10) (S := fun w' => w'.cell? (ad241.add ((x5_1).toNat * 5)) = some (.int .u8 ((rd_T64 l0 x5_1).f0)) ∧ w'.cell? ⟨(ad241.add ((x5_1).toNat * 5)).block, (ad241.add ((x5_1).toNat * 5)).off + 1, none⟩ = some (.int .u32 ((rd_T64 l0 x5_1).f1)) ∧ w'.cell? ⟨(ad241.add ((x5_1).toNat * 5)).block, (ad241.add ((x5_1).toNat * 5)).off + 2, none⟩ = some (.int .i64 ((rd_T64 l0 x5_1).f2)) ∧ w'.cell? ⟨(ad241.add ((x5_1).toNat * 5)).block, (ad241.add ((x5_1).toNat * 5)).off + 3, none⟩ = some (.int .i64 ((rd_T64 l0 x5_1).f3)) ∧ w'.cell? ⟨(ad241.add ((x5_1).toNat * 5)).block, (ad241.add ((x5_1).toNat * 5)).off + 4, none⟩ = some (.slice A241_4 ((rd_T64 l0 x5_1).f4).length c241_4) ∧ w'.cell? (ad242.add ((x5_1).toNat * 5)) = some (.int .u8 ((rd_T64 l1 x5_1).f0)) ∧ w'.cell? ⟨(ad242.add ((x5_1).toNat * 5)).block, (ad242.add ((x5_1).toNat * 5)).off + 1, none⟩ = some (.int .u32 ((rd_T64 l1 x5_1).f1)) ∧ w'.cell? ⟨(ad242.add ((x5_1).toNat * 5)).block, (ad242.add ((x5_1).toNat * 5)).off + 2, none⟩ = some (.int .i64 ((rd_T64 l1 x5_1).f2)) ∧ w'.cell? ⟨(ad242.add ((x5_1).toNat * 5)).block, (ad242.add ((x5_1).toNat * 5)).off + 3, none⟩ = some (.int .i64 ((rd_T64 l1 x5_1).f3)) ∧ w'.cell? ⟨(ad242.add ((x5_1).toNat * 5)).block, (ad242.add ((x5_1).toNat * 5)).off + 4, none⟩ = some (.slice A242_4 ((rd_T64 l1 x5_1).f4).length c242_4)) (ds := []) (bz 10 0) qW11x1 rfl qW11x1 ⟨((HB.out.cell (World.block_lt_of_cell? w _ hw241_0)).trans hw241_0), ((HB.out.cell (World.block_lt_of_cell? w _ hw241_1)).trans hw241_1), ((HB.out.cell (World.block_lt_of_cell? w _ hw241_2)).trans hw241_2), ((HB.out.cell (World.block_lt_of_cell? w _ hw241_3)).trans hw241_3), ((HB.out.cell (World.block_lt_of_cell? w _ hw241_4)).trans hw241_4), ((HB.out.cell (World.block_lt_of_cell? w _ hw242_0)).trans hw242_0), ((HB.out.cell (World.block_lt_of_cell? w _ hw242_1)).trans hw242_1), ((HB.out.cell (World.block_lt_of_cell? w _ hw242_2)).trans hw242_2), ((HB.out.cell (World.block_lt_of_cell? w _ hw242_3)).trans hw242_3), ((HB.out.cell (World.block_lt_of_cell? w _ hw242_4)).trans hw242_4)⟩ (fun hHeld => ?_); refine with_tabW pledgeref38_SameAll.tab6 pledgeref38_SameAll.bits6 (fun HT_ HW_ => ?_)
      generalize wr.drew = w9 at HB HR241_4 HR242_4 hx241_0 hx241_1 hx241_2 hx241_3 hx241_4 hx242_0 hx242_1 hx242_2 hx242_3 hx242_4 hHeld ⊢
      refine pureZ (some 17) (bz 10 1) (i := 0) (h := ?_); refine pureZ (some 18) (bz 10 3) (i := 1) (h := ?_); refine pureZ (some 19) (bz 10 7) (i := 2) (h := ?_); refine pureZ (some 21) (bz 10 23) (i := 4) (h := ?_); refine pureZ (some 22) (bz 10 55) (i := 5) (h := ?_); refine pureZ (some 23) (bz 10 119) (i := 6) (h := ?_); refine takeZ (some 20) (bz 10 127) (i := 3) (h := ?_); refine takeZ (some 24) (bz 10 255) (i := 7) (h := ?_)
      refine one_ (i := 8) (N := some 25) (bz 10 511) rfl rfl (one_of HT_.out qW11x1) (by decide) (fun K hK => ?_)
      refine goes_ Tryd.func42 qW11x1 rfl #[.agg #[.int .u8 ((rd_T64 l0 x5_1).f0), .int .u32 ((rd_T64 l0 x5_1).f1), .int .i64 ((rd_T64 l0 x5_1).f2), .int .i64 ((rd_T64 l0 x5_1).f3), .slice A241_4 ((rd_T64 l0 x5_1).f4).length c241_4], .agg #[.int .u8 ((rd_T64 l1 x5_1).f0), .int .u32 ((rd_T64 l1 x5_1).f1), .int .i64 ((rd_T64 l1 x5_1).f2), .int .i64 ((rd_T64 l1 x5_1).f3), .slice A242_4 ((rd_T64 l1 x5_1).f4).length c242_4]] (by rfl) rfl rfl zA ?_
      with_reducible refine (pledgeref38_Same.calls ((rd_T64 l0 x5_1).f0) ((rd_T64 l0 x5_1).f1) ((rd_T64 l0 x5_1).f2) ((rd_T64 l0 x5_1).f3) _ _ ((rd_T64 l0 x5_1).f4) ((rd_T64 l1 x5_1).f0) ((rd_T64 l1 x5_1).f1) ((rd_T64 l1 x5_1).f2) ((rd_T64 l1 x5_1).f3) _ _ ((rd_T64 l1 x5_1).f4) true _ ?side1 ?side2 ?side3 ?side4 A7.out).mono ?_
      (case side1 => exact zC (Kd.C_below HR241_4.out HB.out))
      (case side2 => exact HC241_4.out)
      (case side3 => exact zC (Kd.C_below HR242_4.out HB.out))
      (case side4 => exact HC242_4.out)
      rintro e w10 ⟨rfl, hb⟩
      refine ⟨_, rfl, ?_⟩
      replace HB := zH hb
      refine hK.out _ _ ⟨((HB.out.cell (World.block_lt_of_cell? w _ hw241_0)).trans hw241_0), ((HB.out.cell (World.block_lt_of_cell? w _ hw241_1)).trans hw241_1), ((HB.out.cell (World.block_lt_of_cell? w _ hw241_2)).trans hw241_2), ((HB.out.cell (World.block_lt_of_cell? w _ hw241_3)).trans hw241_3), ((HB.out.cell (World.block_lt_of_cell? w _ hw241_4)).trans hw241_4), ((HB.out.cell (World.block_lt_of_cell? w _ hw242_0)).trans hw242_0), ((HB.out.cell (World.block_lt_of_cell? w _ hw242_1)).trans hw242_1), ((HB.out.cell (World.block_lt_of_cell? w _ hw242_2)).trans hw242_2), ((HB.out.cell (World.block_lt_of_cell? w _ hw242_3)).trans hw242_3), ((HB.out.cell (World.block_lt_of_cell? w _ hw242_4)).trans hw242_4)⟩ (fun hHeld => ?_)
      clear hK K
      refine norm_ (a' := ?_) ?_ ?_
      rotate_left
      · show Act.put _ (some 25) _ = _
        simp only [Act.put, List.setIfInBounds_toArray, List.set_cons_zero, List.set_cons_succ, i64_w, i32_w]
        rfl
      refine pureZ (some 26) (bz 10 1023) (i := 9) (h := ?_)
      refine done_ (done_of HT_.out qW11x1) ?_
      try go_wp2
      go_roundg k1
      case measure => have := HK1.out; omega
      case rel => exact ⟨(wrap64 (x5_1 + 1)), (by first | rfl | (simp; done) | (simp [*]; done)), H', ⟨by have := HK1.out; omega⟩, ⟨zB⟩⟩
end Go.Proofs.YtpnehgajhpejjaaDoor.W
