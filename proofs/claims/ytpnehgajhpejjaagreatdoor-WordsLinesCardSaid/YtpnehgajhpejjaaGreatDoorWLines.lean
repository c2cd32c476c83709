import Derived.Test.YtpnehgajhpejjaaGreatDoorW24
import Derived.Test.YtpnehgajhpejjaaGreatDoorSq
/- WordsLines: the law's own walk. -/
namespace Go.Proofs.YtpnehgajhpejjaaGreatDoor.W
open Go.RowKit Go.Proofs.YtpnehgajhpejjaaGreatDoorW.PrintWords Go.Proofs.YtpnehgajhpejjaaGreatDoorW.PrintLast Go.Proofs.YtpnehgajhpejjaaGreatDoorW.PrintMore
set_option linter.unusedVariables false
set_option linter.unusedSimpArgs false
theorem ev_one {w : World} {g : Nat} {a b c d : Int} {A : Option Addr} {n : Nat} {l : List Int} (h : w.heap[g]? = some (.cells #[.int .u8 a, .int .u32 b, .int .i64 c, .int .i64 d, .slice A l.length n] 25 (0, 0))) (hn : l.length ≤ n) (hC : Kd.C (Kd.int .u8) w A l.length l) :
    Kd.C k25 w (some ⟨g, 0, none⟩) 1 [(⟨a, b, c, d, l⟩ : S25)] := by
  refine ⟨rfl, by decide, fun _ => ⟨_, rfl, fun j p hj => ?_⟩⟩
  cases j with
  | succ j => simp at hj
  | zero =>
    obtain rfl : (⟨a, b, c, d, l⟩ : S25) = p := by simpa using hj
    refine ⟨_, rfl, k25_mk w ⟨a, b, c, d, l⟩ hn hC, fun i u hu => ?_⟩
    have e : (⟨g, 0, none⟩ : Addr).add (0 * k25.sz + i) = ⟨g, i, none⟩  := by simp [Addr.add]; omega
    rw [e, blk_cell h i]
    simpa using hu
def pledgelaw39_WordsLines.f (k : Nat) (a0_0 a0_1 a0_2 a0_3 : Int) (l0_4 : List Int) (a1 : ByteArray) : Option Bool :=
  (pledgelaw39_few.f k [⟨a0_0, a0_1, a0_2, a0_3, l0_4⟩]).bind fun t => if t = true ∧ a1.size ≤ 1200 then ((words_Read.f k a1).bind fun x => (pledgeref39_Read.f k a1).bind fun y => (words_Line.f k a0_0 a0_1 a0_2 a0_3 l0_4).bind fun s => (pledgeref39_Line.f k a0_0 a0_1 a0_2 a0_3 l0_4).bind fun s' => (pledgeref38_Same.f x.1 x.2.1 x.2.2.1 x.2.2.2.1 x.2.2.2.2.1 y.1 y.2.1 y.2.2.1 y.2.2.2.1 y.2.2.2.2.1).bind fun b => if (s.toList == s'.toList) = true ∧ b = true ∧ x.2.2.2.2.2 = y.2.2.2.2.2 then pledgelaw39_works.f k else none) else pledgelaw39_works.f k
set_option maxHeartbeats 8000000 in
set_option maxRecDepth 100000 in
theorem pledgelaw39_WordsLines.calls (k : Nat) (a0_0 a0_1 a0_2 a0_3 : Int) (A0_4 : Option Addr) (c0_4 : Nat) (l0_4 : List Int) (a1 : ByteArray) (r : Bool) (w : World) (hG0 : Gl w) (hr0_4 : Kd.C (Kd.int .u8) w A0_4 l0_4.length l0_4) (hc0_4 : l0_4.length ≤ c0_4) (h : pledgelaw39_WordsLines.f k a0_0 a0_1 a0_2 a0_3 l0_4 a1 = some r) :
    Calls Tryz.prog 3 #[.agg #[.int .u8 a0_0, .int .u32 a0_1, .int .i64 a0_2, .int .i64 a0_3, .slice A0_4 l0_4.length c0_4], .string a1] w fun e w' => e = .returned (.bool r) ∧ Below w.heap.size w w' := by
  unfold pledgelaw39_WordsLines.f at h
  obtain ⟨t, HF, h⟩ := zO h
  have HG := Aside0.mk hG0
  have HC := Aside0.mk hr0_4
  have HN := Aside0.mk hc0_4
  have HH := Aside0.mk h
  clear h hG0 hr0_4 hc0_4
  go_enter Tryz.func3, Tryz.ntmps3
  go_wp2_with (first | fail)
  refine (pledgelaw39_few.calls k _ _ [⟨a0_0, a0_1, a0_2, a0_3, l0_4⟩] t _ ?s1 ?s2 HF.out).mono ?_
  (case s1 => exact ev_one (by have := heap_alloc_new (w.alloc (.cells #[.int .u8 a0_0, .int .u32 a0_1, .int .i64 a0_2, .int .i64 a0_3, .slice A0_4 l0_4.length c0_4] 25)) (.cells #[.int .u8 a0_0, .int .u32 a0_1, .int .i64 a0_2, .int .i64 a0_3, .slice A0_4 l0_4.length c0_4] 25); simpa using this) HN.out (Kd.C_alloc (Kd.C_alloc HC.out _) _))
  (case s2 => exact Nat.le_refl _)
  rintro e w1 ⟨rfl, nd, rfl⟩
  have B0 := Aside0.mk (blk_drewN (blk_alloc (heap_alloc_new w (.cells #[.int .u8 a0_0, .int .u32 a0_1, .int .i64 a0_2, .int .i64 a0_3, .slice A0_4 l0_4.length c0_4] 25)) (.cells #[.int .u8 a0_0, .int .u32 a0_1, .int .i64 a0_2, .int .i64 a0_3, .slice A0_4 l0_4.length c0_4] 25)) nd)
  have HB := Aside0.mk (pw_below_drewN (below_alloc (below_alloc (Below.refl w.heap.size w) (.cells #[.int .u8 a0_0, .int .u32 a0_1, .int .i64 a0_2, .int .i64 a0_3, .slice A0_4 l0_4.length c0_4] 25)) (.cells #[.int .u8 a0_0, .int .u32 a0_1, .int .i64 a0_2, .int .i64 a0_3, .slice A0_4 l0_4.length c0_4] 25)) nd)
  generalize World.drewN _ nd = W1 at *
  by_cases hcond : t = true ∧ a1.size ≤ 1200
  · obtain ⟨ht, hsz⟩ := hcond
    have h := HH.out
    rw [if_pos ⟨ht, hsz⟩] at h
    subst ht
    obtain ⟨⟨x0, x1, x2, x3, xl, xe⟩, HX, h⟩ := zO h
    obtain ⟨⟨y0, y1, y2, y3, yl, ye⟩, HY, h⟩ := zO h
    obtain ⟨s, HS, h⟩ := zO h
    obtain ⟨s', HS', h⟩ := zO h
    obtain ⟨b, HSM, hz⟩ := zO h
    clear h
    dsimp only at hz HSM
    by_cases hc : (s.toList == s'.toList) = true ∧ b = true ∧ xe = ye
    · rw [if_pos hc] at hz
      obtain ⟨hs, rfl, he⟩ := hc
      obtain rfl : xe = ye := he
      have HW := Aside0.mk hz
      clear hz HH HF
      have hsz2 : ¬ (1200 < (a1.size : Int)) := by omega
      go_wp2_with (first | fail)
      refine (words_Read.calls k a1 x0 x1 x2 x3 xl xe _ (Gl.below HG.out HB.out) HX.out).mono ?_
      rintro e w2 ⟨vx, rfl, hRx, hb⟩
      obtain ⟨Ax, cx, rfl⟩ := Kd.R_slice hRx
      have RX := Aside0.mk hRx
      have B1 := Aside0.mk (blk_below B0.out hb)
      have HB1 := Aside0.mk (below_step HB.out hb)
      clear hRx B0 HB hb
      go_wp2_with (first | fail)
      refine (pledgeref39_Read.calls k a1 y0 y1 y2 y3 yl xe _ HY.out).mono ?_
      rintro e w3 ⟨vy, rfl, hRy, hb⟩
      obtain ⟨Ay, cy, rfl⟩ := Kd.R_slice hRy
      have RY := Aside0.mk hRy
      replace B1 := Aside0.mk (blk_below (blk_alloc B1.out (.cells #[.int .u8 x0, .int .u32 x1, .int .i64 x2, .int .i64 x3, .slice Ax xl.length cx] 25)) hb)
      have BX := Aside0.mk (blk_below (heap_alloc_new w2 (.cells #[.int .u8 x0, .int .u32 x1, .int .i64 x2, .int .i64 x3, .slice Ax xl.length cx] 25)) hb)
      replace RX := Aside0.mk (Kd.R_below (Kd.R_alloc RX.out (.cells #[.int .u8 x0, .int .u32 x1, .int .i64 x2, .int .i64 x3, .slice Ax xl.length cx] 25)) hb)
      replace HB1 := Aside0.mk (below_step (below_alloc HB1.out (.cells #[.int .u8 x0, .int .u32 x1, .int .i64 x2, .int .i64 x3, .slice Ax xl.length cx] 25)) hb)
      clear hRy hb
      generalize w2.heap.size = gx at *
      go_wp2_with (first | fail)
      have B0 := Aside0.mk (show (w3.alloc (.cells #[.int .u8 y0, .int .u32 y1, .int .i64 y2, .int .i64 y3, .slice Ay yl.length cy] 25)).drew.heap[w.heap.size]? = some (.cells #[.int .u8 a0_0, .int .u32 a0_1, .int .i64 a0_2, .int .i64 a0_3, .slice A0_4 l0_4.length c0_4] 25 (0, 0)) from blk_drew (blk_alloc B1.out _))
      replace BX := Aside0.mk (show (w3.alloc (.cells #[.int .u8 y0, .int .u32 y1, .int .i64 y2, .int .i64 y3, .slice Ay yl.length cy] 25)).drew.heap[gx]? = some (.cells #[.int .u8 x0, .int .u32 x1, .int .i64 x2, .int .i64 x3, .slice Ax xl.length cx] 25 (0, 0)) from blk_drew (blk_alloc BX.out _))
      have BY := Aside0.mk (show (w3.alloc (.cells #[.int .u8 y0, .int .u32 y1, .int .i64 y2, .int .i64 y3, .slice Ay yl.length cy] 25)).drew.heap[w3.heap.size]? = some (.cells #[.int .u8 y0, .int .u32 y1, .int .i64 y2, .int .i64 y3, .slice Ay yl.length cy] 25 (0, 0)) from blk_drew (heap_alloc_new w3 _))
      replace RX := Aside0.mk (Kd.R_drew (Kd.R_alloc RX.out (.cells #[.int .u8 y0, .int .u32 y1, .int .i64 y2, .int .i64 y3, .slice Ay yl.length cy] 25)))
      replace RY := Aside0.mk (Kd.R_drew (Kd.R_alloc RY.out (.cells #[.int .u8 y0, .int .u32 y1, .int .i64 y2, .int .i64 y3, .slice Ay yl.length cy] 25)))
      have HB := Aside0.mk (below_drew1 (below_alloc HB1.out (.cells #[.int .u8 y0, .int .u32 y1, .int .i64 y2, .int .i64 y3, .slice Ay yl.length cy] 25)))
      clear B1 HB1
      generalize w3.heap.size = gy at *
      refine start_ (n := 19) (S := fun w' => w'.cell? ⟨w.heap.size, 0, none⟩ = some (.int .u8 a0_0) ∧ w'.cell? ⟨w.heap.size, 1, none⟩ = some (.int .u32 a0_1) ∧ w'.cell? ⟨w.heap.size, 2, none⟩ = some (.int .i64 a0_2) ∧ w'.cell? ⟨w.heap.size, 3, none⟩ = some (.int .i64 a0_3) ∧ w'.cell? ⟨w.heap.size, 4, none⟩ = some (.slice A0_4 l0_4.length c0_4) ∧ w'.cell? ⟨gx, 0, none⟩ = some (.int .u8 x0) ∧ w'.cell? ⟨gx, 1, none⟩ = some (.int .u32 x1) ∧ w'.cell? ⟨gx, 2, none⟩ = some (.int .i64 x2) ∧ w'.cell? ⟨gx, 3, none⟩ = some (.int .i64 x3) ∧ w'.cell? ⟨gx, 4, none⟩ = some (.slice Ax xl.length cx) ∧ w'.cell? ⟨gy, 0, none⟩ = some (.int .u8 y0) ∧ w'.cell? ⟨gy, 1, none⟩ = some (.int .u32 y1) ∧ w'.cell? ⟨gy, 2, none⟩ = some (.int .i64 y2) ∧ w'.cell? ⟨gy, 3, none⟩ = some (.int .i64 y3) ∧ w'.cell? ⟨gy, 4, none⟩ = some (.slice Ay yl.length cy)) (ds := []) (bz 19 0) (by kernel_rfl) rfl (by kernel_rfl) ⟨(blk_cell B0.out 0).trans rfl, (blk_cell B0.out 1).trans rfl, (blk_cell B0.out 2).trans rfl, (blk_cell B0.out 3).trans rfl, (blk_cell B0.out 4).trans rfl, (blk_cell BX.out 0).trans rfl, (blk_cell BX.out 1).trans rfl, (blk_cell BX.out 2).trans rfl, (blk_cell BX.out 3).trans rfl, (blk_cell BX.out 4).trans rfl, (blk_cell BY.out 0).trans rfl, (blk_cell BY.out 1).trans rfl, (blk_cell BY.out 2).trans rfl, (blk_cell BY.out 3).trans rfl, (blk_cell BY.out 4).trans rfl⟩ (fun hHeld => ?_)
      generalize (w3.alloc (.cells #[.int .u8 y0, .int .u32 y1, .int .i64 y2, .int .i64 y3, .slice Ay yl.length cy] 25)).drew = w4 at *
      refine takeZ (some 29) (bz 19 1) (i := 0) (hc := (by kernel_rfl)) (h := ?_)
      refine takeZ (some 31) (bz 19 5) (i := 2) (hc := (by kernel_rfl)) (h := ?_)
      refine one_ (i := 1) (N := some 30) (bz 19 7) rfl rfl (by kernel_rfl) (by decide) (fun K hK => ?_)
      refine goes_ Tryz.func10 (by kernel_rfl) rfl #[.agg #[.int .u8 a0_0, .int .u32 a0_1, .int .i64 a0_2, .int .i64 a0_3, .slice A0_4 l0_4.length c0_4]] (by rfl) rfl rfl zA ?_
      refine (words_Line.calls k a0_0 a0_1 a0_2 a0_3 _ _ l0_4 s _ (Gl.below HG.out HB.out) (Kd.C_below HC.out HB.out) HN.out HS.out).mono ?_
      rintro e w5 ⟨rfl, hb⟩
      refine ⟨_, rfl, ?_⟩
      replace B0 := Aside0.mk (blk_below B0.out hb)
      replace BX := Aside0.mk (blk_below BX.out hb)
      replace BY := Aside0.mk (blk_below BY.out hb)
      replace RX := Aside0.mk (Kd.R_below RX.out hb)
      replace RY := Aside0.mk (Kd.R_below RY.out hb)
      replace HB := Aside0.mk (below_step HB.out hb)
      clear hb
      refine hK.out _ _ ⟨(blk_cell B0.out 0).trans rfl, (blk_cell B0.out 1).trans rfl, (blk_cell B0.out 2).trans rfl, (blk_cell B0.out 3).trans rfl, (blk_cell B0.out 4).trans rfl, (blk_cell BX.out 0).trans rfl, (blk_cell BX.out 1).trans rfl, (blk_cell BX.out 2).trans rfl, (blk_cell BX.out 3).trans rfl, (blk_cell BX.out 4).trans rfl, (blk_cell BY.out 0).trans rfl, (blk_cell BY.out 1).trans rfl, (blk_cell BY.out 2).trans rfl, (blk_cell BY.out 3).trans rfl, (blk_cell BY.out 4).trans rfl⟩ (fun hHeld => ?_)
      clear hK K
      refine norm_ (a' := ?_) ?_ ?_
      rotate_left
      · show Act.put _ (some 30) _ = _
        simp only [Act.put, List.setIfInBounds_toArray, List.set_cons_zero, List.set_cons_succ, i64_w, i32_w]
        rfl
      refine one_ (i := 3) (N := some 32) (bz 19 15) rfl rfl (by kernel_rfl) (by decide) (fun K hK => ?_)
      refine goes_ Tryz.func11 (by kernel_rfl) rfl #[.agg #[.int .u8 a0_0, .int .u32 a0_1, .int .i64 a0_2, .int .i64 a0_3, .slice A0_4 l0_4.length c0_4]] (by rfl) rfl rfl zA ?_
      refine (pledgeref39_Line.calls k a0_0 a0_1 a0_2 a0_3 _ _ l0_4 s' _ (Kd.C_below HC.out HB.out) HN.out HS'.out).mono ?_
      rintro e w6 ⟨rfl, hb⟩
      refine ⟨_, rfl, ?_⟩
      replace B0 := Aside0.mk (blk_below B0.out hb)
      replace BX := Aside0.mk (blk_below BX.out hb)
      replace BY := Aside0.mk (blk_below BY.out hb)
      replace RX := Aside0.mk (Kd.R_below RX.out hb)
      replace RY := Aside0.mk (Kd.R_below RY.out hb)
      replace HB := Aside0.mk (below_step HB.out hb)
      clear hb
      refine hK.out _ _ ⟨(blk_cell B0.out 0).trans rfl, (blk_cell B0.out 1).trans rfl, (blk_cell B0.out 2).trans rfl, (blk_cell B0.out 3).trans rfl, (blk_cell B0.out 4).trans rfl, (blk_cell BX.out 0).trans rfl, (blk_cell BX.out 1).trans rfl, (blk_cell BX.out 2).trans rfl, (blk_cell BX.out 3).trans rfl, (blk_cell BX.out 4).trans rfl, (blk_cell BY.out 0).trans rfl, (blk_cell BY.out 1).trans rfl, (blk_cell BY.out 2).trans rfl, (blk_cell BY.out 3).trans rfl, (blk_cell BY.out 4).trans rfl⟩ (fun hHeld => ?_)
      clear hK K
      refine norm_ (a' := ?_) ?_ ?_
      rotate_left
      · show Act.put _ (some 32) _ = _
        simp only [Act.put, List.setIfInBounds_toArray, List.set_cons_zero, List.set_cons_succ, i64_w, i32_w]
        rfl
      refine pureZ (some 33) (bz 19 31) (i := 4) (hc := (by kernel_rfl)) (h := ?_)
      refine pureZ (some 34) (bz 19 63) (i := 5) (hc := (by kernel_rfl)) (h := ?_)
      refine takeZ (some 35) (bz 19 127) (i := 6) (hc := (by kernel_rfl)) (h := ?_)
      refine takeZ (some 36) (bz 19 255) (i := 7) (hc := (by kernel_rfl)) (h := ?_)
      refine one_ (i := 8) (N := some 37) (bz 19 511) rfl rfl (by kernel_rfl) (by decide) (fun K hK => ?_)
      refine goes_ Tryz.func12 (by kernel_rfl) rfl #[.agg #[.int .u8 x0, .int .u32 x1, .int .i64 x2, .int .i64 x3, .slice Ax xl.length cx], .agg #[.int .u8 y0, .int .u32 y1, .int .i64 y2, .int .i64 y3, .slice Ay yl.length cy]] (by rfl) rfl rfl zA ?_
      refine (pledgeref38_Same.calls x0 x1 x2 x3 _ _ xl y0 y1 y2 y3 _ _ yl true _ (Kd.R_reads' RX.out).2.2 (Kd.R_reads' RX.out).2.1 (Kd.R_reads' RY.out).2.2 (Kd.R_reads' RY.out).2.1 HSM.out).mono ?_
      rintro e w7 ⟨rfl, hb⟩
      refine ⟨_, rfl, ?_⟩
      replace B0 := Aside0.mk (blk_below B0.out hb)
      replace BX := Aside0.mk (blk_below BX.out hb)
      replace BY := Aside0.mk (blk_below BY.out hb)
      replace RX := Aside0.mk (Kd.R_below RX.out hb)
      replace RY := Aside0.mk (Kd.R_below RY.out hb)
      replace HB := Aside0.mk (below_step HB.out hb)
      clear hb
      refine hK.out _ _ ⟨(blk_cell B0.out 0).trans rfl, (blk_cell B0.out 1).trans rfl, (blk_cell B0.out 2).trans rfl, (blk_cell B0.out 3).trans rfl, (blk_cell B0.out 4).trans rfl, (blk_cell BX.out 0).trans rfl, (blk_cell BX.out 1).trans rfl, (blk_cell BX.out 2).trans rfl, (blk_cell BX.out 3).trans rfl, (blk_cell BX.out 4).trans rfl, (blk_cell BY.out 0).trans rfl, (blk_cell BY.out 1).trans rfl, (blk_cell BY.out 2).trans rfl, (blk_cell BY.out 3).trans rfl, (blk_cell BY.out 4).trans rfl⟩ (fun hHeld => ?_)
      clear hK K
      refine norm_ (a' := ?_) ?_ ?_
      rotate_left
      · show Act.put _ (some 37) _ = _
        simp only [Act.put, List.setIfInBounds_toArray, List.set_cons_zero, List.set_cons_succ, i64_w, i32_w]
        rfl
      refine pureZ (some 38) (bz 19 1023) (i := 9) (hc := (by kernel_rfl)) (h := ?_)
      refine pureZ (some 39) (bz 19 2047) (i := 10) (hc := (by kernel_rfl)) (h := ?_)
      refine pureZ (some 40) (bz 19 4095) (i := 11) (hc := (by kernel_rfl)) (h := ?_)
      refine pureZ (some 41) (bz 19 8191) (i := 12) (hc := (by kernel_rfl)) (h := ?_)
      refine pureZ (some 42) (bz 19 16383) (i := 13) (hc := (by kernel_rfl)) (h := ?_)
      refine pureZ (some 43) (bz 19 32767) (i := 14) (hc := (by kernel_rfl)) (h := ?_)
      refine pureZ (some 44) (bz 19 65535) (i := 15) (hc := (by kernel_rfl)) (h := ?_)
      refine one_ (i := 16) (N := some 45) (bz 19 131071) rfl rfl (by kernel_rfl) (by decide) (fun K hK => ?_)
      refine goes_ Tryz.func7 (by kernel_rfl) rfl #[] (by rfl) rfl rfl zA ?_
      refine (pledgelaw39_works.calls k r _ (Gl.below HG.out HB.out) HW.out).mono ?_
      rintro e w8 ⟨rfl, hb⟩
      refine ⟨_, rfl, ?_⟩
      replace B0 := Aside0.mk (blk_below B0.out hb)
      replace BX := Aside0.mk (blk_below BX.out hb)
      replace BY := Aside0.mk (blk_below BY.out hb)
      replace RX := Aside0.mk (Kd.R_below RX.out hb)
      replace RY := Aside0.mk (Kd.R_below RY.out hb)
      replace HB := Aside0.mk (below_step HB.out hb)
      clear hb
      refine hK.out _ _ ⟨(blk_cell B0.out 0).trans rfl, (blk_cell B0.out 1).trans rfl, (blk_cell B0.out 2).trans rfl, (blk_cell B0.out 3).trans rfl, (blk_cell B0.out 4).trans rfl, (blk_cell BX.out 0).trans rfl, (blk_cell BX.out 1).trans rfl, (blk_cell BX.out 2).trans rfl, (blk_cell BX.out 3).trans rfl, (blk_cell BX.out 4).trans rfl, (blk_cell BY.out 0).trans rfl, (blk_cell BY.out 1).trans rfl, (blk_cell BY.out 2).trans rfl, (blk_cell BY.out 3).trans rfl, (blk_cell BY.out 4).trans rfl⟩ (fun hHeld => ?_)
      clear hK K
      refine norm_ (a' := ?_) ?_ ?_
      rotate_left
      · show Act.put _ (some 45) _ = _
        simp only [Act.put, List.setIfInBounds_toArray, List.set_cons_zero, List.set_cons_succ, i64_w, i32_w]
        rfl
      refine pureZ (some 46) (bz 19 262143) (i := 17) (hc := (by kernel_rfl)) (h := ?_)
      refine pureZ (some 4) (bz 19 524287) (i := 18) (hc := (by kernel_rfl)) (h := ?_)
      refine done_ (by kernel_rfl) ?_
      go_wp2_with (first | fail)
      go_ret
      exact ⟨rfl, HB.out⟩
    · rw [if_neg hc] at hz
      cases hz
  · have h := HH.out
    rw [if_neg hcond] at h
    have HW := Aside0.mk h
    clear h HH
    cases t with
    | false =>
      go_wp2_with (first | fail)
      refine (pledgelaw39_works.calls k r _ (Gl.below HG.out HB.out) HW.out).mono ?_
      rintro e w2 ⟨rfl, hb⟩
      have HB2 := Aside0.mk (below_step HB.out hb)
      go_wp2_with (first | fail)
      go_ret
      exact ⟨rfl, HB2.out⟩
    | true =>
      have hsz : (1200 : Int) < (a1.size : Int) := by have h2 : ¬ a1.size ≤ 1200 := fun h => hcond ⟨rfl, h⟩; omega
      go_wp2_with (first | fail)
      refine (pledgelaw39_works.calls k r _ (Gl.below HG.out HB.out) HW.out).mono ?_
      rintro e w2 ⟨rfl, hb⟩
      have HB2 := Aside0.mk (below_step HB.out hb)
      go_wp2_with (first | fail)
      go_ret
      exact ⟨rfl, HB2.out⟩
end Go.Proofs.YtpnehgajhpejjaaGreatDoor.W
