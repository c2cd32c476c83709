-- PRINTED by print.py (a twelfth state) out of the translation. Not trusted: Lean checks it.
import Derived.Test.YtpnehgajhpejjaaDoorS0
import Derived.Test.YtpnehgajhpejjaaDoorS4
namespace Go.Proofs.YtpnehgajhpejjaaDoor.S
open Go.RowKit Go.Proofs.YtpnehgajhpejjaaDoorW.PrintWords Go.Proofs.YtpnehgajhpejjaaDoorW.PrintLast Go.Proofs.YtpnehgajhpejjaaDoorW.PrintMore
attribute [local go_sem] max2_int min2_int max_two min_two max_three min_three max_four min_four   -- for this text's walks alone
set_option linter.unusedVariables false
set_option linter.unusedSimpArgs false

/-! ### key_Set: function 24 (by hand) -/
section
open Go.Shelf Go.Lib Go.Sort Go.Maps
def cf1 (a b : Int) : Int := if a < b then -1 else if b < a then 1 else 0
def cfK (x y : S23) : Int := if x.f0 < y.f0 then -1 else if y.f0 < x.f0 then 1 else if x.f1 < y.f1 then -1 else if y.f1 < x.f1 then 1 else cf1 x.f2 y.f2
theorem cmp_is (a b : Int) : cmp_Compare_uint8.f a b = some (cf1 a b) := by
  simp only [cmp_Compare_uint8.f, cmp_isNaN_uint8.f, cf1]
  simp
  split <;> simp_all
  split <;> simp_all
theorem or_is (x y : S23) : cmp_Or_int.f 9 [cf1 x.f0 y.f0, cf1 x.f1 y.f1, cf1 x.f2 y.f2] = some (cfK x y) := by
  have h : ∀ a b : Int, cf1 a b = -1 ∧ a < b ∨ cf1 a b = 0 ∧ ¬ a < b ∧ ¬ b < a ∨ cf1 a b = 1 ∧ ¬ a < b ∧ b < a := fun a b => by
    unfold cf1
    (repeat' split) <;> omega
  unfold cfK
  rcases h x.f0 y.f0 with ⟨e0, h0⟩ | ⟨e0, h0, g0⟩ | ⟨e0, h0, g0⟩ <;> rcases h x.f1 y.f1 with ⟨e1, h1⟩ | ⟨e1, h1, g1⟩ | ⟨e1, h1, g1⟩ <;> rcases h x.f2 y.f2 with ⟨e2, h2⟩ | ⟨e2, h2, g2⟩ | ⟨e2, h2, g2⟩ <;> rw [e0, e1, e2] <;> simp only [h0, h1, *, if_true, if_false] <;> decide +kernel

def cmpT : Bool × List (List Nat × List Nat) := (true, [([], []), ([0], [0]), ([], []), ([2], [2]), ([1, 3], [1, 3]), ([], []), ([5], [5]), ([], []), ([7], [7]), ([6, 8, 4], [6, 8]), ([], []), ([10], [10]), ([], []), ([12], [12]), ([11, 13, 9], [11, 13]), ([4, 9, 14], [4, 9, 14]), ([15, 14], [15]), ([16, 16, 0, 1, 2, 3, 4, 5, 6, 7, 8, 9, 10, 11, 12, 13, 14, 15, 16], [16])])
def cmpB : List Nat := [0, 1, 0, 4, 15, 0, 32, 0, 128, 511, 0, 1024, 0, 4096, 16383, 32767, 65535, 131071]
theorem cmpTab : rtab .any (opsOf Tryd.f22 1) = cmpT := by kernel_rfl
theorem cmpBits : waitsOk cmpT.2 cmpB = true := by kernel_rfl
theorem lit_C (w : World) (a b c : Int) : Kd.C (Kd.int .i64) (w.alloc (.cells #[.int .i64 a, .int .i64 b, .int .i64 c] 3)) (some ⟨w.heap.size, 0, none⟩) 3 [a, b, c] := by
  have h := World.ownsRow_lit (base := w.heap.size) (e := 3) (size := 1) w #[.int .i64 a, .int .i64 b, .int .i64 c] 3 (Nat.le_refl _) (by simp [maxLen]) (by simp)
  exact (Kd.R_reads' (Kd.R_of_own (xs := [a, b, c]) (enc := Value.int .i64) (h1 := fun _ => rfl) (ok := fun _ => True) (show w.alloc _ |>.ownsRow w.heap.size 3 1 (.slice (some ⟨w.heap.size, 0, none⟩) 3 3) 3 _ from h) (fun _ _ => trivial))).2.2
set_option maxHeartbeats 8000000 in
set_option maxRecDepth 100000 in
theorem cmpW (x y : S23) (w : World) :
    Calls Tryd.prog 22 #[.agg #[.int .u8 x.f0, .int .u8 x.f1, .int .u8 x.f2], .agg #[.int .u8 y.f0, .int .u8 y.f1, .int .u8 y.f2]] w fun e w' => e = .returned (.int .i64 (cfK x y)) ∧ Gd w w' := by
  obtain ⟨a0, a1, a2⟩ := x
  obtain ⟨b0, b1, b2⟩ := y
  have h0 := cmp_is a0 b0
  have h1 := cmp_is a1 b1
  have h2 := cmp_is a2 b2
  have hr := or_is ⟨a0, a1, a2⟩ ⟨b0, b1, b2⟩
  simp only at *
  generalize cfK ⟨a0, a1, a2⟩ ⟨b0, b1, b2⟩ = r at *
  generalize cf1 a0 b0 = t133 at *
  generalize cf1 a1 b1 = t134 at *
  generalize cf1 a2 b2 = t135 at *
  go_enter Tryd.func22, Tryd.ntmps22
  go_wp2
  have hsz0 : ((w.alloc (.cells #[.int .u8 a0, .int .u8 a1, .int .u8 a2] 23)).alloc (.cells #[.int .u8 b0, .int .u8 b1, .int .u8 b2] 23)).heap.size = w.heap.size + 1 + 1 := by simp
  have BK131 := Aside0.mk (show ((w.alloc (.cells #[.int .u8 a0, .int .u8 a1, .int .u8 a2] 23)).alloc (.cells #[.int .u8 b0, .int .u8 b1, .int .u8 b2] 23)).drew.heap[w.heap.size]? = some (.cells #[.int .u8 a0, .int .u8 a1, .int .u8 a2] 23 (0, 0)) from blk_drew (blk_alloc (heap_alloc_new w _) _))
  have BK132 := Aside0.mk (show ((w.alloc (.cells #[.int .u8 a0, .int .u8 a1, .int .u8 a2] 23)).alloc (.cells #[.int .u8 b0, .int .u8 b1, .int .u8 b2] 23)).drew.heap[w.heap.size + 1]? = some (.cells #[.int .u8 b0, .int .u8 b1, .int .u8 b2] 23 (0, 0)) from blk_drew (by simpa using heap_alloc_new (w.alloc (.cells #[.int .u8 a0, .int .u8 a1, .int .u8 a2] 23)) (.cells #[.int .u8 b0, .int .u8 b1, .int .u8 b2] 23)))
  generalize hW8 : ((w.alloc (.cells #[.int .u8 a0, .int .u8 a1, .int .u8 a2] 23)).alloc (.cells #[.int .u8 b0, .int .u8 b1, .int .u8 b2] 23)) = w8 at *
  refine start_ (n := 18) (S := fun w' => w'.cell? ⟨w.heap.size, 0, none⟩ = some (.int .u8 a0) ∧ w'.cell? ⟨w.heap.size, 1, none⟩ = some (.int .u8 a1) ∧ w'.cell? ⟨w.heap.size, 2, none⟩ = some (.int .u8 a2) ∧ w'.cell? ⟨(w.heap.size + 1), 0, none⟩ = some (.int .u8 b0) ∧ w'.cell? ⟨(w.heap.size + 1), 1, none⟩ = some (.int .u8 b1) ∧ w'.cell? ⟨(w.heap.size + 1), 2, none⟩ = some (.int .u8 b2)) (ds := []) #[false, false, false, false, false, false, false, false, false, false, false, false, false, false, false, false, false, false] (by kernel_rfl) rfl rfl ⟨(blk_cell BK131.out 0).trans rfl, (blk_cell BK131.out 1).trans rfl, (blk_cell BK131.out 2).trans rfl, (blk_cell BK132.out 0).trans rfl, (blk_cell BK132.out 1).trans rfl, (blk_cell BK132.out 2).trans rfl⟩ (fun hHeld => ?_); refine with_tabW cmpTab cmpBits (fun HT_ HW_ => ?_)
  generalize hW9 : w8.drew = w9 at BK131 BK132 hHeld ⊢
  refine pure_ (i := 0) (N := some 5) (v := ?_) (a' := ?_) #[true, false, false, false, false, false, false, false, false, false, false, false, false, false, false, false, false, false] rfl rfl (any_of HT_.out (by kernel_rfl)) (fun _ _ _ h => h) (Or.inl ⟨by rfl, ?_⟩) ?_ ?_
  rotate_left
  · intro w'
    go_simp
    with_reducible rfl
  rotate_left
  · simp only [Act.put, List.setIfInBounds_toArray, List.set_cons_zero, List.set_cons_succ, i64_w, i32_w]
    rfl
  refine pure_ (i := 2) (N := some 7) (v := ?_) (a' := ?_) #[true, false, true, false, false, false, false, false, false, false, false, false, false, false, false, false, false, false] rfl rfl (any_of HT_.out (by kernel_rfl)) (fun _ _ _ h => h) (Or.inl ⟨by rfl, ?_⟩) ?_ ?_
  rotate_left
  · intro w'
    go_simp
    with_reducible rfl
  rotate_left
  · simp only [Act.put, List.setIfInBounds_toArray, List.set_cons_zero, List.set_cons_succ, i64_w, i32_w]
    rfl
  refine pure_ (i := 5) (N := some 10) (v := ?_) (a' := ?_) #[true, false, true, false, false, true, false, false, false, false, false, false, false, false, false, false, false, false] rfl rfl (any_of HT_.out (by kernel_rfl)) (fun _ _ _ h => h) (Or.inl ⟨by rfl, ?_⟩) ?_ ?_
  rotate_left
  · intro w'
    go_simp
    with_reducible rfl
  rotate_left
  · simp only [Act.put, List.setIfInBounds_toArray, List.set_cons_zero, List.set_cons_succ, i64_w, i32_w]
    rfl
  refine pure_ (i := 7) (N := some 12) (v := ?_) (a' := ?_) #[true, false, true, false, false, true, false, true, false, false, false, false, false, false, false, false, false, false] rfl rfl (any_of HT_.out (by kernel_rfl)) (fun _ _ _ h => h) (Or.inl ⟨by rfl, ?_⟩) ?_ ?_
  rotate_left
  · intro w'
    go_simp
    with_reducible rfl
  rotate_left
  · simp only [Act.put, List.setIfInBounds_toArray, List.set_cons_zero, List.set_cons_succ, i64_w, i32_w]
    rfl
  refine pure_ (i := 10) (N := some 15) (v := ?_) (a' := ?_) #[true, false, true, false, false, true, false, true, false, false, true, false, false, false, false, false, false, false] rfl rfl (any_of HT_.out (by kernel_rfl)) (fun _ _ _ h => h) (Or.inl ⟨by rfl, ?_⟩) ?_ ?_
  rotate_left
  · intro w'
    go_simp
    with_reducible rfl
  rotate_left
  · simp only [Act.put, List.setIfInBounds_toArray, List.set_cons_zero, List.set_cons_succ, i64_w, i32_w]
    rfl
  refine pure_ (i := 12) (N := some 17) (v := ?_) (a' := ?_) #[true, false, true, false, false, true, false, true, false, false, true, false, true, false, false, false, false, false] rfl rfl (any_of HT_.out (by kernel_rfl)) (fun _ _ _ h => h) (Or.inl ⟨by rfl, ?_⟩) ?_ ?_
  rotate_left
  · intro w'
    go_simp
    with_reducible rfl
  rotate_left
  · simp only [Act.put, List.setIfInBounds_toArray, List.set_cons_zero, List.set_cons_succ, i64_w, i32_w]
    rfl
  refine take_ (i := 1) (N := some 6) (v := ?_) (a' := ?_) #[true, true, true, false, false, true, false, true, false, false, true, false, true, false, false, false, false, false] rfl rfl (take_ofW HT_.out HW_.out (by kernel_rfl)) (fun _ _ _ h => h) (Or.inl ⟨by rfl, ?_⟩) hHeld ?_ ?_
  rotate_left
  · rintro w' ⟨s0, s1, s2, s3, s4, s5⟩
    go_simp
    with_reducible rfl
  rotate_left
  · simp only [Act.put, List.setIfInBounds_toArray, List.set_cons_zero, List.set_cons_succ, i64_w, i32_w]
    rfl
  refine take_ (i := 3) (N := some 8) (v := ?_) (a' := ?_) #[true, true, true, true, false, true, false, true, false, false, true, false, true, false, false, false, false, false] rfl rfl (take_ofW HT_.out HW_.out (by kernel_rfl)) (fun _ _ _ h => h) (Or.inl ⟨by rfl, ?_⟩) hHeld ?_ ?_
  rotate_left
  · rintro w' ⟨s0, s1, s2, s3, s4, s5⟩
    go_simp
    with_reducible rfl
  rotate_left
  · simp only [Act.put, List.setIfInBounds_toArray, List.set_cons_zero, List.set_cons_succ, i64_w, i32_w]
    rfl
  refine take_ (i := 6) (N := some 11) (v := ?_) (a' := ?_) #[true, true, true, true, false, true, true, true, false, false, true, false, true, false, false, false, false, false] rfl rfl (take_ofW HT_.out HW_.out (by kernel_rfl)) (fun _ _ _ h => h) (Or.inl ⟨by rfl, ?_⟩) hHeld ?_ ?_
  rotate_left
  · rintro w' ⟨s0, s1, s2, s3, s4, s5⟩
    go_simp
    with_reducible rfl
  rotate_left
  · simp only [Act.put, List.setIfInBounds_toArray, List.set_cons_zero, List.set_cons_succ, i64_w, i32_w]
    rfl
  refine take_ (i := 8) (N := some 13) (v := ?_) (a' := ?_) #[true, true, true, true, false, true, true, true, true, false, true, false, true, false, false, false, false, false] rfl rfl (take_ofW HT_.out HW_.out (by kernel_rfl)) (fun _ _ _ h => h) (Or.inl ⟨by rfl, ?_⟩) hHeld ?_ ?_
  rotate_left
  · rintro w' ⟨s0, s1, s2, s3, s4, s5⟩
    go_simp
    with_reducible rfl
  rotate_left
  · simp only [Act.put, List.setIfInBounds_toArray, List.set_cons_zero, List.set_cons_succ, i64_w, i32_w]
    rfl
  refine take_ (i := 11) (N := some 16) (v := ?_) (a' := ?_) #[true, true, true, true, false, true, true, true, true, false, true, true, true, false, false, false, false, false] rfl rfl (take_ofW HT_.out HW_.out (by kernel_rfl)) (fun _ _ _ h => h) (Or.inl ⟨by rfl, ?_⟩) hHeld ?_ ?_
  rotate_left
  · rintro w' ⟨s0, s1, s2, s3, s4, s5⟩
    go_simp
    with_reducible rfl
  rotate_left
  · simp only [Act.put, List.setIfInBounds_toArray, List.set_cons_zero, List.set_cons_succ, i64_w, i32_w]
    rfl
  refine take_ (i := 13) (N := some 18) (v := ?_) (a' := ?_) #[true, true, true, true, false, true, true, true, true, false, true, true, true, true, false, false, false, false] rfl rfl (take_ofW HT_.out HW_.out (by kernel_rfl)) (fun _ _ _ h => h) (Or.inl ⟨by rfl, ?_⟩) hHeld ?_ ?_
  rotate_left
  · rintro w' ⟨s0, s1, s2, s3, s4, s5⟩
    go_simp
    with_reducible rfl
  rotate_left
  · simp only [Act.put, List.setIfInBounds_toArray, List.set_cons_zero, List.set_cons_succ, i64_w, i32_w]
    rfl
  refine one_ (i := 4) (N := some 9) #[true, true, true, true, true, true, true, true, true, false, true, true, true, true, false, false, false, false] rfl rfl (one_of HT_.out (by kernel_rfl)) (by decide) (fun K hK => ?_)
  refine goes_ Tryd.func37 (by kernel_rfl) rfl #[.int .u8 a0, .int .u8 b0] (by rfl) rfl rfl (by (try simp only [List.map_toArray, List.map_cons, List.map_nil]); first | done | rfl | (simp only [List.length_drop, List.length_take]; rfl)) ?_
  with_reducible refine (cmp_Compare_uint8.calls a0 b0 t133 _ h0).mono ?_
  rintro e w' ⟨rfl, ⟨nd0, rfl⟩⟩
  refine ⟨_, rfl, ?_⟩
  refine hK.out _ _ ⟨(blk_cell BK131.out 0).trans rfl, (blk_cell BK131.out 1).trans rfl, (blk_cell BK131.out 2).trans rfl, (blk_cell BK132.out 0).trans rfl, (blk_cell BK132.out 1).trans rfl, (blk_cell BK132.out 2).trans rfl⟩ (fun hHeld => ?_)
  clear hK K
  refine norm_ (a' := ?_) ?_ ?_
  rotate_left
  · show Act.put _ (some 9) _ = _
    simp only [Act.put, List.setIfInBounds_toArray, List.set_cons_zero, List.set_cons_succ, i64_w, i32_w]
    rfl
  refine one_ (i := 9) (N := some 14) #[true, true, true, true, true, true, true, true, true, true, true, true, true, true, false, false, false, false] rfl rfl (one_of HT_.out (by kernel_rfl)) (by decide) (fun K hK => ?_)
  refine goes_ Tryd.func37 (by kernel_rfl) rfl #[.int .u8 a1, .int .u8 b1] (by rfl) rfl rfl (by (try simp only [List.map_toArray, List.map_cons, List.map_nil]); first | done | rfl | (simp only [List.length_drop, List.length_take]; rfl)) ?_
  with_reducible refine (cmp_Compare_uint8.calls a1 b1 t134 _ h1).mono ?_
  rintro e w' ⟨rfl, ⟨nd1, rfl⟩⟩
  refine ⟨_, rfl, ?_⟩
  refine hK.out _ _ ⟨(blk_cell BK131.out 0).trans rfl, (blk_cell BK131.out 1).trans rfl, (blk_cell BK131.out 2).trans rfl, (blk_cell BK132.out 0).trans rfl, (blk_cell BK132.out 1).trans rfl, (blk_cell BK132.out 2).trans rfl⟩ (fun hHeld => ?_)
  clear hK K
  refine norm_ (a' := ?_) ?_ ?_
  rotate_left
  · show Act.put _ (some 14) _ = _
    simp only [Act.put, List.setIfInBounds_toArray, List.set_cons_zero, List.set_cons_succ, i64_w, i32_w]
    rfl
  refine one_ (i := 14) (N := some 19) #[true, true, true, true, true, true, true, true, true, true, true, true, true, true, true, false, false, false] rfl rfl (one_of HT_.out (by kernel_rfl)) (by decide) (fun K hK => ?_)
  refine goes_ Tryd.func37 (by kernel_rfl) rfl #[.int .u8 a2, .int .u8 b2] (by rfl) rfl rfl (by (try simp only [List.map_toArray, List.map_cons, List.map_nil]); first | done | rfl | (simp only [List.length_drop, List.length_take]; rfl)) ?_
  with_reducible refine (cmp_Compare_uint8.calls a2 b2 t135 _ h2).mono ?_
  rintro e w' ⟨rfl, ⟨nd2, rfl⟩⟩
  refine ⟨_, rfl, ?_⟩
  refine hK.out _ _ ⟨(blk_cell BK131.out 0).trans rfl, (blk_cell BK131.out 1).trans rfl, (blk_cell BK131.out 2).trans rfl, (blk_cell BK132.out 0).trans rfl, (blk_cell BK132.out 1).trans rfl, (blk_cell BK132.out 2).trans rfl⟩ (fun hHeld => ?_)
  clear hK K
  refine norm_ (a' := ?_) ?_ ?_
  rotate_left
  · show Act.put _ (some 19) _ = _
    simp only [Act.put, List.setIfInBounds_toArray, List.set_cons_zero, List.set_cons_succ, i64_w, i32_w]
    rfl
  refine one_ (i := 15) (N := some 20) #[true, true, true, true, true, true, true, true, true, true, true, true, true, true, true, true, false, false] rfl rfl (one_of HT_.out (by kernel_rfl)) (by decide) (fun K hK => ?_)
  refine value_ (w1 := ?_) (v := ?_) (by rfl) rfl ?_ ?_
  rotate_left 2
  · go_simp
    constructor
    · rfl
    · rfl
  try replace BK131 := Aside0.mk (blk_alloc (blk_drewN (blk_drewN (blk_drewN BK131.out nd0) nd1) nd2) (.cells #[.int .i64 t133, .int .i64 t134, .int .i64 t135] 3))
  try replace BK132 := Aside0.mk (blk_alloc (blk_drewN (blk_drewN (blk_drewN BK132.out nd0) nd1) nd2) (.cells #[.int .i64 t133, .int .i64 t134, .int .i64 t135] 3))
  refine hK.out _ _ ⟨(blk_cell BK131.out 0).trans rfl, (blk_cell BK131.out 1).trans rfl, (blk_cell BK131.out 2).trans rfl, (blk_cell BK132.out 0).trans rfl, (blk_cell BK132.out 1).trans rfl, (blk_cell BK132.out 2).trans rfl⟩ (fun hHeld => ?_)
  clear hK K
  refine norm_ (a' := ?_) ?_ ?_
  rotate_left
  · show Act.put _ (some 20) _ = _
    simp only [Act.put, List.setIfInBounds_toArray, List.set_cons_zero, List.set_cons_succ, i64_w, i32_w]
    rfl
  refine one_ (i := 16) (N := some 21) #[true, true, true, true, true, true, true, true, true, true, true, true, true, true, true, true, true, false] rfl rfl (one_of HT_.out (by kernel_rfl)) (by decide) (fun K hK => ?_)
  refine goes_ Tryd.func36 (by kernel_rfl) rfl #[.slice (some ⟨w9.heap.size, 0, none⟩) [t133, t134, t135].length 3] (by rfl) rfl rfl (by (try simp only [List.map_toArray, List.map_cons, List.map_nil]); first | done | rfl | (simp only [List.length_drop, List.length_take]; rfl)) ?_
  with_reducible refine (cmp_Or_int.calls 9 _ _ [t133, t134, t135] r _ ?side1 ?side2 hr).mono ?_
  (case side1 => exact lit_C _ _ _ _)
  (case side2 => exact Nat.le_refl _)
  rintro e w' ⟨rfl, ⟨nd3, rfl⟩⟩
  refine ⟨_, rfl, ?_⟩
  refine hK.out _ _ ⟨(blk_cell BK131.out 0).trans rfl, (blk_cell BK131.out 1).trans rfl, (blk_cell BK131.out 2).trans rfl, (blk_cell BK132.out 0).trans rfl, (blk_cell BK132.out 1).trans rfl, (blk_cell BK132.out 2).trans rfl⟩ (fun hHeld => ?_)
  clear hK K
  refine norm_ (a' := ?_) ?_ ?_
  rotate_left
  · show Act.put _ (some 21) _ = _
    simp only [Act.put, List.setIfInBounds_toArray, List.set_cons_zero, List.set_cons_succ, i64_w, i32_w]
    rfl
  refine pure_ (i := 17) (N := some 4) (v := ?_) (a' := ?_) #[true, true, true, true, true, true, true, true, true, true, true, true, true, true, true, true, true, true] rfl rfl (any_of HT_.out (by kernel_rfl)) (fun _ _ _ h => h) (Or.inl ⟨by rfl, ?_⟩) ?_ ?_
  rotate_left
  · intro w'
    go_simp
    with_reducible rfl
  rotate_left
  · simp only [Act.put, List.setIfInBounds_toArray, List.set_cons_zero, List.set_cons_succ, i64_w, i32_w]
    rfl
  refine done_ (done_of HT_.out (by kernel_rfl)) ?_
  try go_wp2
  go_ret
  refine ⟨rfl, ?_⟩
  rw [← hW9, ← hW8]
  (repeat' first | exact Gd.refl _ | apply Gd.drewN | apply Gd.alloc | apply Gd.drew)
instance : Inhabited S23 := ⟨z23⟩
def ltK (x y : S23) : Bool := decide (x.f0 < y.f0) || (decide (x.f0 = y.f0) && (decide (x.f1 < y.f1) || (decide (x.f1 = y.f1) && decide (x.f2 < y.f2))))
theorem ltOf_cfK (x y : S23) : ltOf cfK x y = ltK x y := by
  unfold ltOf cfK cf1 ltK
  (repeat' split) <;> simp <;> omega
theorem ltK_iff (x y : S23) : ltK x y = true ↔ x.f0 < y.f0 ∨ x.f0 = y.f0 ∧ (x.f1 < y.f1 ∨ x.f1 = y.f1 ∧ x.f2 < y.f2) := by simp [ltK]
theorem swoK : SWO (ltOf cfK) where
  irrefl x := by rw [ltOf_cfK]; simp [ltK]
  trans x y z h1 h2 := by rw [ltOf_cfK] at *; rw [ltK_iff] at *; omega
  ntrans x y z h1 h2 := by
    rw [ltOf_cfK] at *
    simp only [← Bool.not_eq_true, ltK_iff] at *
    omega
theorem totK (x y : S23) (h1 : ltOf cfK x y = false) (h2 : ltOf cfK y x = false) : x = y := by
  rw [ltOf_cfK] at *
  simp only [← Bool.not_eq_true, ltK_iff] at *
  obtain ⟨a, b, c⟩ := x
  obtain ⟨a', b', c'⟩ := y
  simp only [S23.mk.injEq] at *
  omega
def encK (x : S23) : List Value := [.int .u8 x.f0, .int .u8 x.f1, .int .u8 x.f2]
theorem flat_seg (d : Array S23) (j : Nat) (hj : j < d.size) : ((flatK encK 3 d).toList.drop (j * 3)).take 3 = encK d[j] := by
  have hs : (flatK encK 3 d).size = d.size * 3 := size_flatK _ _ _
  have g : ∀ c, c < 3 → (flatK encK 3 d).toList[j * 3 + c]? = some ((encK d[j])[c]!) := fun c hc => by
    have hlt : j * 3 + c < d.size * 3 := by omega
    have h := get_flatK encK 3 d (j * 3 + c) hlt
    have e1 : (j * 3 + c) / 3 = j := by omega
    have e2 : (j * 3 + c) % 3 = c := by omega
    rw [e1, e2, getElem!_pos d j hj, getElem!_pos _ _ (by rw [hs]; exact hlt)] at h
    rw [Array.getElem?_toList, Array.getElem?_eq_getElem (by rw [hs]; exact hlt), h]
  apply List.ext_getElem?
  intro c
  rw [List.getElem?_take]
  split
  · rename_i hc
    rw [List.getElem?_drop, g c hc]
    have : c = 0 ∨ c = 1 ∨ c = 2 := by omega
    rcases this with rfl | rfl | rfl <;> rfl
  · rename_i hc
    simp [encK]
    omega
def sortK (l : List S23) : List S23 := l.mergeSort fun x y => !(ltK y x)
theorem put_R {w : World} {g cap : Nat} {base : Nat} {ok : Nat → Prop} {xs ys : List S23} (n : Nat) (os : Array Obj) (h : Kd.R k23 23 w base ok (.slice (some ⟨g, 0, none⟩) xs.length cap) xs) (hl : ys.length = xs.length) (hp : 0 < xs.length) :
    Kd.R k23 23 (sortWorldK encK 3 w g 0 n ys.toArray os) base ok (.slice (some ⟨g, 0, none⟩) xs.length cap) ys ∧ w.grownBy (sortWorldK encK 3 w g 0 n ys.toArray os) (some g) := by
  obtain ⟨hok, inner, ⟨ho1, ho2⟩, hr⟩ := h
  rcases ho2 with ⟨hv, _⟩ | ⟨g', cap', cur, hv, hb, hh, hnc, hcm, hcs, ht⟩
  · cases hv
  injection hv with ha _ hc
  injection ha with ha
  injection ha with hg
  subst hg; subst hc
  have hlt : g < w.heap.size := (Array.getElem?_eq_some_iff.1 hh).1
  have hF : (flatK encK 3 ys.toArray).size = xs.length * 3 := by rw [size_flatK]; simp [hl]
  have hcap : xs.length * 3 ≤ cap * 3 := Nat.mul_le_mul_right _ hnc
  have hheap : (sortWorldK encK 3 w g 0 n ys.toArray os).heap[g]? = some (.cells (putCells id 0 (flatK encK 3 ys.toArray) cur) 23 (0, 0)) := by
    unfold sortWorldK grow putRowK putRow mapBlock Sort.ahead
    simp only
    rw [Array.getElem?_append_left (by simpa using hlt), Array.getElem?_modify, if_pos rfl, hh]
    rfl
  have hother : ∀ k, k < w.heap.size → k ≠ g → (sortWorldK encK 3 w g 0 n ys.toArray os).heap[k]? = w.heap[k]? := fun k hk hne => by
    unfold sortWorldK grow putRowK putRow mapBlock Sort.ahead
    simp only
    rw [Array.getElem?_append_left (by simpa using hk), Array.getElem?_modify, if_neg (fun h => hne h.symm)]
  refine ⟨⟨hok, (flatK encK 3 ys.toArray).toList, ⟨by rw [Array.length_toList, hF, hl]; rfl, Or.inr ⟨g, cap, _, by rw [hl], hb, hheap, by rw [hl]; exact hnc, hcm, by simpa [putCells] using hcs, ?_⟩⟩, by rw [Array.length_toList, hF, hl]; rfl, fun j p hj => ?_⟩, ⟨rfl, rfl, rfl, ?_, fun k hk hne => hother k hk (fun e => hne (by rw [e]))⟩⟩
  · apply List.ext_getElem?
    intro c
    rw [List.getElem?_take]
    split
    · rename_i hc
      have hc' : c < xs.length * 3 := by rw [← hl]; exact hc
      have hcc : c < cur.size := by rw [hcs]; exact Nat.lt_of_lt_of_le hc' hcap
      rw [Array.getElem?_toList, Array.getElem?_toList]
      unfold putCells
      rw [Array.getElem?_mapIdx, Array.getElem?_eq_getElem hcc]
      simp only [Option.map_some, Nat.zero_le, Nat.zero_add, true_and, hF, hc', if_true, Nat.sub_zero, id]
      rw [Array.getElem?_eq_getElem (by rw [hF]; exact hc'), getElem!_pos _ _ (by rw [hF]; exact hc')]
    · rename_i hc
      rw [List.getElem?_eq_none]
      rw [Array.length_toList, hF, ← hl]
      exact Nat.not_lt.1 hc
  · have hlt := (List.getElem?_eq_some_iff.1 hj).1
    have e := flat_seg ys.toArray j (by simpa using hlt)
    rw [show k23.sz = 3 from rfl, e]
    have : ys.toArray[j]'(by simpa using hlt) = p := by simpa using (List.getElem?_eq_some_iff.1 hj).2
    rw [this]
    exact k23_mkM _ _ _ p
  · unfold sortWorldK grow putRowK putRow mapBlock Sort.ahead
    simp
theorem holds_R {w : World} {g cap : Nat} {base : Nat} {ok : Nat → Prop} {xs : List S23} (h : Kd.R k23 23 w base ok (.slice (some ⟨g, 0, none⟩) xs.length cap) xs) : HoldsK encK 3 w g 0 xs.toArray := by
  intro t ht
  rw [size_flatK] at ht
  have ht' : t < xs.length * 3 := by simpa using ht
  have hj : t / 3 < xs.length := by omega
  obtain ⟨c, hcl, hM, hcells, hfz⟩ := Kd.R_elem h z23 (t / 3 : Nat) (by omega) (by omega)
  simp only [Int.toNat_natCast] at *
  rw [get_flatK _ _ _ _ (by simpa using ht')]
  obtain rfl := k23_openM hM
  have hz : xs.toArray[t / 3]! = xs.getD (t / 3) z23 := by
    rw [getElem!_pos _ _ (by simpa using hj), List.getD_eq_getElem?_getD, List.getElem?_eq_getElem hj]
    simp
  rw [hz]
  have hm : t = t / 3 * 3 + t % 3 := by omega
  have h3 : t % 3 = 0 ∨ t % 3 = 1 ∨ t % 3 = 2 := by omega
  rw [Nat.zero_add]
  refine ⟨?_, ?_⟩
  · conv => lhs; rw [hm]
    rcases h3 with h3 | h3 | h3 <;> rw [h3] <;> exact hcells _ _ rfl
  · have := hfz (t % 3)
    rwa [show t / 3 * k23.sz + t % 3 = t from (by rw [show k23.sz = 3 from rfl]; omega)] at this
theorem sortW {w : World} {base : Nat} {ok : Nat → Prop} {A : Option Addr} {c : Nat} {xs : List S23} (h : Kd.R k23 23 w base ok (.slice A xs.length c) xs) (hb : base ≤ w.heap.size) (hx : xs.length < 4611686018427387904) :
    Calls Tryd.prog 38 #[.slice A xs.length c, .func (.func 22) #[] #[]] w fun e w' => e = .returned (.tuple #[]) ∧ Kd.R k23 23 w' base ok (.slice A xs.length c) (sortK xs) ∧ Below base w w' := by
  rcases Nat.eq_zero_or_pos xs.length with h0 | hp
  · have hS := AnyF.slices_SortFunc_none (P := Tryd.prog) (ρ := Tryd.sortK_ren) { Tryd.sortK with } A c (.func (.func 22) #[] #[]) w
    change Calls Tryd.prog 38 _ _ _ at hS
    rw [h0]
    refine hS.mono ?_
    rintro e w' ⟨rfl, rfl⟩
    obtain rfl : xs = [] := List.eq_nil_of_length_eq_zero h0
    refine ⟨rfl, ?_, Below.refl _ _⟩
    show Kd.R k23 23 w' base ok _ (List.mergeSort [] _)
    simpa using h
  · obtain ⟨g, cap, he, hbg, hlt, cells, hcells⟩ := Kd.R_form h hp
    injection he with ha _ hc
    subst ha; subst hc
    have eg : ∀ args w, (callFunc 22 args).run Tryd.prog w = .ok (.enter 22 args) w := enters_of Tryd.func22 (by kernel_rfl) rfl
    have hS := AnyQ.slices_SortFunc_total (P := Tryd.prog) (ρ := Tryd.sortK_ren) Tryd.sortK 3 (fun w => by kernel_rfl) (fun w => by kernel_rfl) encK (fun _ => rfl) (fun x v hv => by simp [encK] at hv; rcases hv with rfl | rfl | rfl <;> rfl) cfK swoK 22 #[] g 0 c xs.toArray w eg
      (fun m os dk hdk x y => by have h := cmpW x y (sortWorldK encK 3 w g 0 m dk os); unfold Gd at h; simpa [encK] using h) (holds_R h) hlt (by simpa using hx) totK
    change Calls Tryd.prog 38 _ _ _ at hS
    simp only [List.size_toArray] at hS
    refine hS.mono ?_
    rintro e w' ⟨rfl, n, os, rfl⟩
    have hperm : (xs.mergeSort fun x y => !(ltOf cfK) y x).length = xs.length := List.length_mergeSort ..
    have hk : sortK xs = xs.mergeSort fun x y => !(ltOf cfK) y x := by
      unfold sortK
      congr
      funext x y
      rw [ltOf_cfK]
    obtain ⟨hR, hG⟩ := put_R n os h hperm hp
    rw [hk]
    exact ⟨rfl, hR, ⟨hG.os, hG.tape, hG.output, hG.size, fun k hk => hG.block k (Nat.lt_of_lt_of_le hk hb) (fun e => by cases e; omega)⟩⟩
deriving instance DecidableEq for S23
def wfK (x : S23) : Bool := (Lit.int .u8 x.f0).wf && (Lit.int .u8 x.f1).wf && (Lit.int .u8 x.f2).wf
theorem lawK : Keyed Tryd.prog 23 := Keyed.of_law (deep_law_gate (by kernel_rfl) (of_decide_eq_true (by kernel_rfl)) (of_decide_eq_true (by kernel_rfl)) (by kernel_rfl) (by kernel_rfl))
def valK (x : S23) : Value := .agg #[.int .u8 x.f0, .int .u8 x.f1, .int .u8 x.f2]
theorem key_ok (x : S23) (h : wfK x = true) : ∃ kl, keyOf Tryd.prog 23 (valK x) = some kl := by
  have h0 : 0 < Tryd.prog.types.size := of_decide_eq_true (by kernel_rfl)
  obtain ⟨m, hm⟩ := Nat.exists_eq_add_of_lt h0
  rw [Nat.zero_add] at hm
  simp only [wfK, Bool.and_eq_true] at h
  have hk : Tryd.prog.keyType 23 = true := by kernel_rfl
  have hc : Tryd.prog.cellsOf 23 = 3 := by kernel_rfl
  have hc5 : Tryd.prog.cellsOf 5 = 1 := by kernel_rfl
  have hu5 : Tryd.prog.underlying 5 = some (.int .u8) := by kernel_rfl
  have hl : Tryd.prog.keyLits (Tryd.prog.types.size + 1) 23 (valK x).cells.toList = some [.int .u8 x.f0, .int .u8 x.f1, .int .u8 x.f2] := by
    rw [hm]
    unfold Program.keyLits
    rw [Tryd.underlying23]
    simp [valK, Value.cells, hc, hc5, Program.keyLits, hu5, h]
  have hf : (valK x).formed Tryd.prog 23 = true := by
    simp [valK, Value.formed, Tryd.underlying23, hc]
  exact ⟨.string (keyBytes [.int .u8 x.f0, .int .u8 x.f1, .int .u8 x.f2]), by unfold keyOf; rw [Tryd.underlying23]; simp only [hk, hf, Bool.and_self, if_true, hl, Option.map_some]⟩
def inK (l : List S23) (x : S23) : Bool := decide (x ∈ l)
def ddK (l : List S23) : Nat → List S23
  | 0 => []
  | j + 1 => if inK (l.take j) (rd_T23 l j) = true then ddK l j else ddK l j ++ [rd_T23 l j]
def Cnt {H : Type} (D : DataW H) (l : List S23) : Prop := ∀ x kl, keyOf Tryd.prog 23 (valK x) = some kl → D.atKey kl (.lit (.int .i64 0)) = .lit (.int .i64 (l.count x))
theorem zero3 (w : World) : (zeroValue 3).run Tryd.prog w = .ok (.int .i64 0) w := by kernel_rfl
theorem rd_at (l : List S23) (j : Nat) (h : j < l.length) : rd_T23 l (j : Int) = l[j] := by
  simp [rd_T23, List.getD_eq_getElem?_getD, List.getElem?_eq_getElem h]
theorem ddK_len (l : List S23) : ∀ j, (ddK l j).length ≤ j
  | 0 => by simp [ddK]
  | j + 1 => by
    have := ddK_len l j
    unfold ddK
    split <;> simp <;> omega
theorem lawKL : Go.WideMaps.KeyLaw Tryd.prog 23 := deep_law_gate (by kernel_rfl) (of_decide_eq_true (by kernel_rfl)) (of_decide_eq_true (by kernel_rfl)) (by kernel_rfl) (by kernel_rfl)
theorem load23 {w : World} {g : Nat} {a b c : Value} (h : w.heap[g]? = some (.cells #[a, b, c] 23 (0, 0))) : w.cell? ⟨g, 0, none⟩ = some a ∧ w.cell? ⟨g, 1, none⟩ = some b ∧ w.cell? ⟨g, 2, none⟩ = some c := ⟨(blk_cell h 0).trans rfl, (blk_cell h 1).trans rfl, (blk_cell h 2).trans rfl⟩
set_option maxHeartbeats 4000000 in
set_option maxRecDepth 100000 in
theorem setW (A0 : Option Addr) (c0 : Nat) (l0 : List S23) (w : World) (hr0 : Kd.C k23 w A0 l0.length l0) (hc0 : l0.length ≤ c0) (hlen : l0.length < 46912496118442) (hwf : ∀ x ∈ l0, wfK x = true) :
    Calls Tryd.prog 24 #[.slice A0 l0.length c0] w fun e w' => ∃ v0_ : Value, e = .returned (v0_) ∧ Kd.R k23 23 w' w.heap.size (fun _ => True) v0_ (sortK (ddK l0 l0.length)) ∧ Below w.heap.size w w' := by
  have hu23 := Tryd.underlying23
  have HR0 := Aside0.mk hr0
  have HC0 := Aside0.mk hc0
  clear hr0 hc0
  have hmm := @run_makeMap Tryd.prog
  go_enter Tryd.func24, Tryd.ntmps24
  go_wp2
  go_loopw [4, 10] (fun v4 i wr => ∃ j : Nat, j ≤ l0.length ∧ i = .int .i64 j ∧ Aside0 (Kd.R k23 23 wr w.heap.size (fun k_ => k_ ≠ w.heap.size) v4 (ddK l0 j)) ∧ Aside0 (∃ D : DataW Unit, wr.ownsMap Tryd.prog 23 (plainElem Tryd.prog 3) w.heap.size j D ∧ Cnt D (l0.take j)) ∧ Aside0 (Below w.heap.size w wr) ∧ w.heap.size < wr.heap.size)
    (fun _ i _ => l0.length - (intOf i).toNat)
  case atStart => exact ⟨0, Nat.zero_le _, rfl, ⟨Kd.R_nil _ _ _ _ _⟩, ⟨⟨.map [], World.ownsMap_made _ _ _ _, fun x kl _ => by simp [DataW.atKey]⟩⟩, ⟨(Below.refl _ _).alloc (Nat.le_refl _) _⟩, by simp⟩
  case round =>
    obtain ⟨j, hj, rfl, HO, HM, HB, hsz⟩ := hrel
    by_cases hlt : j < l0.length
    · obtain ⟨ad, e1, hx0, hx1, hx2⟩ := at_T23 HR0.out (j : Int) (by omega) (by omega)
      cases e1
      replace hx0 := (HB.out.cell (World.block_lt_of_cell? w _ hx0)).trans hx0
      replace hx1 := (HB.out.cell (World.block_lt_of_cell? w _ hx1)).trans hx1
      replace hx2 := (HB.out.cell (World.block_lt_of_cell? w _ hx2)).trans hx2
      simp only [Int.toNat_natCast] at hx0 hx1 hx2
      have hmem : rd_T23 l0 (j : Int) ∈ l0 := by rw [rd_at l0 j hlt]; exact List.getElem_mem hlt
      have hstep : ddK l0 (j + 1) = if inK (l0.take j) (rd_T23 l0 j) = true then ddK l0 j else ddK l0 j ++ [rd_T23 l0 j] := rfl
      have htake : l0.take (j + 1) = l0.take j ++ [rd_T23 l0 j] := by rw [rd_at l0 j hlt, List.take_append_getElem]
      generalize rd_T23 l0 (j : Int) = e at hx0 hx1 hx2 hmem hstep htake
      obtain ⟨D, hown, hcnt⟩ := HM.out
      obtain ⟨kl, hkey⟩ := key_ok e (hwf e hmem)
      clear HM
      have p1 : (0 : Int) ≤ (j : Int) := by omega
      have p2 : (j : Int) < (l0.length : Int) := by omega
      go_wp2
      have HO1 := Aside0.mk (Kd.R_drew (Kd.R_alloc HO.out (.cells #[.int .u8 e.f0, .int .u8 e.f1, .int .u8 e.f2] 23)))
      have HB1 := Aside0.mk (below_drew1 (below_alloc HB.out (.cells #[.int .u8 e.f0, .int .u8 e.f1, .int .u8 e.f2] 23)))
      have BK1 := Aside0.mk (blk_drew (heap_alloc_new wr (.cells #[.int .u8 e.f0, .int .u8 e.f1, .int .u8 e.f2] 23)))
      have hown1 := (hown.alloc (.cells #[.int .u8 e.f0, .int .u8 e.f1, .int .u8 e.f2] 23)).drew
      have hsz1 : wr.heap.size < (wr.alloc (.cells #[.int .u8 e.f0, .int .u8 e.f1, .int .u8 e.f2] 23)).drew.heap.size := by simp
      clear hx0 hx1 hx2 hown HO HB
      generalize hg : wr.heap.size = g at *
      generalize wr.alloc (.cells #[.int .u8 e.f0, .int .u8 e.f1, .int .u8 e.f2] 23) = w5 at *
      obtain ⟨c, v0, st, w6, hat, hl1, hl2, hent, hg6, hsto⟩ := Go.WideElems.entry_parts hown1 lawKL Tryd.underlying58 Tryd.underlying3 zero3 (by unfold maxLen; omega) hkey
      obtain ⟨w7, hst, hown7, hg7⟩ := hsto (wrap64 (c + 1)) (wrap64_wf _)
      clear hsto
      have BK6 := blkG BK1.out hg6 (by intro h; omega)
      have BK7 := blkG BK1.out hg7 (by intro h; omega)
      have hld5 := load23 BK1.out
      have hld6 := load23 BK6
      simp only [valK] at hl1 hl2 hent hkey
      rw [show goInt (st : Int) = Value.int .i64 st from rfl] at hent hst
      have hc : c = ((List.count e (l0.take j) : Nat) : Int) := by
        have h := hcnt e kl hkey
        rw [hat] at h
        simpa using h
      have hcl : List.count e (l0.take j) ≤ j := Nat.le_trans List.count_le_length (by simp; omega)
      have hw1 : wrap64 (c + 1) = c + 1 := wrap64_in _ (by omega) (by omega)
      rw [hw1] at hst hown7
      have hcw := hw1
      obtain ⟨c7, hl7, hat7, _⟩ := hown7.lookup_int (Keyed.of_law lawKL) Tryd.underlying58 Tryd.underlying3 (zero3 _) hkey
      have hisM : IsMap D := hown1.isMap
      have hkl : WideAt.IsKeyLit kl := lawK.key hkey
      have hc7 : c7 = c + 1 := by
        rw [atKey_put_same hisM hkl] at hat7
        simpa using hat7.symm
      subst hc7
      have hcnt7 : Cnt (D.put kl (.lit (.int .i64 (c + 1)))) (l0.take (j + 1)) := by
        intro x kx hx
        rw [htake, List.count_append]
        by_cases hxe : x = e
        · subst hxe
          obtain rfl : kx = kl := Option.some.inj (hx.symm.trans hkey)
          rw [atKey_put_same hisM hkl, hc]
          simp
        · have hne : kx ≠ kl := fun he => hxe (by
            subst he
            have := lawK.inj hx hkey
            obtain ⟨a, b, c⟩ := x
            obtain ⟨a', b', c'⟩ := e
            simp [valK] at this
            simp [this])
          rw [atKey_put_other hne, hcnt x kx hx]
          have : List.count x [e] = 0 := by simp [List.count_cons, Ne.symm hxe]
          rw [this, Nat.add_zero]
      have HO7 := Aside0.mk (Kd.R_grown HO1.out hg7 (fun k hk he => hk (Option.some.inj he)))
      have HB7 := Aside0.mk (HB1.out.grown hg7 HB1.out.size (fun j hj => by cases hj; exact Nat.le_refl _))
      have HM7 := Aside0.mk (⟨_, hown7, hcnt7⟩ : ∃ D : DataW Unit, w7.ownsMap Tryd.prog 23 (plainElem Tryd.prog 3) w.heap.size (j + 1) D ∧ Cnt D (l0.take (j + 1)))
      have HK7 := Aside0.mk BK7
      have hld7 := load23 BK7
      have hsz7 : w.heap.size < w7.heap.size := Nat.lt_of_lt_of_le (by omega) hg7.size
      have hdl : (ddK l0 j).length ≤ j := ddK_len l0 j
      clear hown1 hown7 hcnt hcnt7 hat hat7 hkl hisM HO1 HB1 BK1 BK6 BK7 hg6 hg7
      by_cases hin : e ∈ l0.take j
      · have h1 : c + 1 ≠ 1 := by
          have := List.count_pos_iff.2 hin
          omega
        have h1b : (c + 1 == 1) = false := beq_eq_false_iff_ne.2 h1
        have hs2 : ddK l0 (j + 1) = ddK l0 j := by rw [hstep, if_pos (by simpa [inK] using hin)]
        clear hc hcl hin hstep htake hmem
        go_region
        all_goals go_wp2
        all_goals go_roundw
        all_goals first
          | exact ⟨j + 1, by omega, by go_num, ⟨by rw [hs2]; exact HO7.out⟩, HM7, HB7, hsz7⟩
          | (simp [intOf]; omega)
      · have h1 : c = 0 := by
          have := List.count_eq_zero.2 hin
          omega
        have hs2 : ddK l0 (j + 1) = ddK l0 j ++ [e] := by rw [hstep, if_neg (by simpa [inK] using hin)]
        obtain ⟨A4, c4, e4⟩ := Kd.R_slice HO7.out
        subst e4
        clear hw1 hcw
        rw [h1] at hst hl1 hl2 hl7
        rw [Int.zero_add] at hst hl7
        clear h1
        clear hc hcl hin hstep htake hmem
        go_region
        all_goals go_wp2_with (first | ((with_reducible refine gate_builtin (b := .append) (xs := #[.tmp 24, .tmp 26]) rfl ?_); at_builtin; refine Kd.R_append k23 (w0 := w) w.heap.size rfl (.tmp 24) (.tmp 26) 29 23 (.agg #[(.int .u8 0), (.int .u8 0), (.int .u8 0)]) 3 rfl Tryd.underlying29 info23 rfl (by decide) (by omega) (.slice A4 (ddK l0 j).length c4) (ddK l0 j) e [.int .u8 e.f0, .int .u8 e.f1, .int .u8 e.f2] (fun k_ => k_ ≠ w.heap.size) (fun _ => False) rfl rfl ?aP (fun _ hk => hk.elim) ?aF ?aO ?aB ?aS ?aL ?_; (case aP => exact k23_mkM _ _ _ e); (case aB => exact (by repeat (first | (with_reducible first | exact HB7.out | apply below_alloc | apply pw_below_drewN | apply below_drew1) | exact HB7.out))); (case aF => exact (fun k_ hk => by intro he; omega)); (case aO => exact (by (with_reducible repeat (first | apply Kd.R_alloc | apply Kd.R_drewN | apply Kd.R_drew)); exact HO7.out)); (case aS => omega); (case aL => omega); intro v152 w19 ho hb hgA hatA))
        all_goals go_roundw
        all_goals first
          | exact ⟨j + 1, by omega, by go_num, ⟨by rw [hs2]; exact ho⟩, ⟨by obtain ⟨D', h1, h2⟩ := HM7.out; exact ⟨D', h1.kept hgA (Kd.R_away HO7.out (fun _ hk => hk)), h2⟩⟩, ⟨hb⟩, Nat.lt_of_lt_of_le hsz7 hgA.size⟩
          | (simp [intOf]; omega)
    · obtain rfl : j = l0.length := by omega
      have hx : ¬ ((l0.length : Int) < (l0.length : Int)) := by omega
      have hdl : (ddK l0 l0.length).length ≤ l0.length := ddK_len l0 _
      clear HM
      obtain ⟨A4, c4, e4⟩ := Kd.R_slice HO.out
      subst e4
      go_wp2_with (first | (go_at_call 38; refine (sortW HO.out (Nat.le_of_lt hsz) (by omega)).mono ?_; rintro e w' ⟨rfl, hR, hb⟩))
      go_ret
      exact ⟨_, rfl, Kd.R_mono hR (fun _ _ => trivial), HB.out.trans hb⟩

def key_Set.f (l0 : List S23) : Option (List S23) := if l0.length < 46912496118442 ∧ l0.all wfK = true then some (sortK (ddK l0 l0.length)) else none
theorem key_Set.calls (A0 : Option Addr) (c0 : Nat) (l0 : List S23) (r : List S23) (w : World) (hr0 : Kd.C k23 w A0 l0.length l0) (hc0 : l0.length ≤ c0) (h : key_Set.f l0 = some r) :
    Calls Tryd.prog 24 #[.slice A0 l0.length c0] w fun e w' => ∃ v0_ : Value, e = .returned (v0_) ∧ Kd.R k23 23 w' w.heap.size (fun _ => True) v0_ r ∧ Below w.heap.size w w' := by
  unfold key_Set.f at h
  split at h
  · rename_i hb
    obtain rfl := Option.some.inj h
    exact setW A0 c0 l0 w hr0 hc0 hb.1 (fun x hx => List.all_eq_true.1 hb.2 x hx)
  · exact absurd h (by simp)
end

/-! ### pledgeref04_Less: function 23 -/
def pledgeref04_Less.f (a0_0 : Int) (a0_1 : Int) (a0_2 : Int) (a1_0 : Int) (a1_1 : Int) (a1_2 : Int) : Option (Bool) := if a0_0 = a1_0 then (if a0_1 = a1_1 then (some (decide (a0_2 < a1_2))) else (some (decide (a0_1 < a1_1)))) else (some (decide (a0_0 < a1_0)))
set_option maxHeartbeats 8000000 in
set_option maxRecDepth 100000 in
theorem pledgeref04_Less.calls (a0_0 : Int) (a0_1 : Int) (a0_2 : Int) (a1_0 : Int) (a1_1 : Int) (a1_2 : Int) (r : Bool) (w : World) (h : pledgeref04_Less.f a0_0 a0_1 a0_2 a1_0 a1_1 a1_2 = some r) :
    Calls Tryd.prog 23 #[.agg #[.int .u8 a0_0, .int .u8 a0_1, .int .u8 a0_2], .agg #[.int .u8 a1_0, .int .u8 a1_1, .int .u8 a1_2]] w fun e w' => e = .returned (.bool r) ∧ Below w.heap.size w w' := by
  have hu23 := Tryd.underlying23
  have HB := Aside0.mk (Below.refl w.heap.size w)
  have H : (if a0_0 = a1_0 then (if a0_1 = a1_1 then (some (decide (a0_2 < a1_2))) else (some (decide (a0_1 < a1_1)))) else (some (decide (a0_0 < a1_0)))) = some r := h
  clear h
  by_cases c3 : a0_0 = a1_0
  · rw [if_pos c3] at H
    have c3b0 : (a0_0 == a1_0) = true := beq_iff_eq.mpr c3
    have c3b1 : (a0_0 != a1_0) = false := bne_eq_false_iff_eq.mpr c3
    clear c3
    by_cases c4 : a0_1 = a1_1
    · rw [if_pos c4] at H
      have c4b0 : (a0_1 == a1_1) = true := beq_iff_eq.mpr c4
      have c4b1 : (a0_1 != a1_1) = false := bne_eq_false_iff_eq.mpr c4
      clear c4
      obtain rfl := Option.some.inj H
      go_enter Tryd.func23, Tryd.ntmps23
      go_wp2_with (first | ((with_reducible refine gate_dst (N := 2) rfl ?_); refine box_event ?hg (N := 2) ?hd (cs := #[.int .u8 a0_0, .int .u8 a0_1, .int .u8 a0_2]) (t := 23) ?hr ?_; (case hd => rfl); (case hg => rfl); (case hr => first | (go_simp; done) | (go_simp; rfl)); intro gb133 hg w5 hbox hb; have n0_ := Aside0.mk (below_step (by repeat (first | (with_reducible first | exact HB.out | apply below_alloc | apply pw_below_drewN | apply below_drew1) | exact HB.out)) hb); have n1_ := Aside0.mk (hbox); have n2_ := Aside0.mk ((by rw [hg]; exact (below_size (by repeat (first | (with_reducible first | exact HB.out | apply below_alloc | apply pw_below_drewN | apply below_drew1) | exact HB.out))) : w.heap.size ≤ gb133)); have n3_ := Aside0.mk ((by rw [hg]; exact (below_size (by repeat (first | (with_reducible first | exact HB.out | apply below_alloc | apply pw_below_drewN | apply below_drew1) | exact HB.out))) : w.heap.size ≤ gb133)); clear HB; have HB := n0_; have BK133 := n1_; have GW133 := n2_; have GE133 := n3_; clear n0_ n1_ n2_ n3_; clear hb hbox hg) | ((with_reducible refine gate_dst (N := 3) rfl ?_); refine box_event ?hg (N := 3) ?hd (cs := #[.int .u8 a1_0, .int .u8 a1_1, .int .u8 a1_2]) (t := 23) ?hr ?_; (case hd => rfl); (case hg => rfl); (case hr => first | (go_simp; done) | (go_simp; rfl)); intro gb134 hg w6 hbox hb; have n0_ := Aside0.mk (blk_below (g := gb133) (o := .cells #[.int .u8 a0_0, .int .u8 a0_1, .int .u8 a0_2] 23 (0, 0)) (by (with_reducible repeat (first | refine blk_drewN ?_ _ | refine blk_drew ?_ | refine blk_alloc ?_ _)); exact BK133.out) hb); have n1_ := Aside0.mk (below_step (by repeat (first | (with_reducible first | exact HB.out | apply below_alloc | apply pw_below_drewN | apply below_drew1 | refine below_set ?_ GE133.out) | exact HB.out)) hb); have n2_ := Aside0.mk (hbox); have n3_ := Aside0.mk ((by rw [hg]; exact (below_size (by repeat (first | (with_reducible first | exact HB.out | apply below_alloc | apply pw_below_drewN | apply below_drew1 | refine below_set ?_ GE133.out) | exact HB.out))) : w.heap.size ≤ gb134)); have n4_ := Aside0.mk ((by rw [hg]; exact (below_size (by repeat (first | (with_reducible first | exact HB.out | apply below_alloc | apply pw_below_drewN | apply below_drew1 | refine below_set ?_ GE133.out) | exact HB.out))) : w.heap.size ≤ gb134)); have n5_ := Aside0.mk ((by rw [hg]; exact Nat.ne_of_lt (blk_lt (g := gb133) (o := .cells #[.int .u8 a0_0, .int .u8 a0_1, .int .u8 a0_2] 23 (0, 0)) (by (with_reducible repeat (first | refine blk_drewN ?_ _ | refine blk_drew ?_ | refine blk_alloc ?_ _)); exact BK133.out)) : gb133 ≠ gb134)); have n6_ := Aside0.mk ((by rw [hg]; exact Nat.ne_of_gt (blk_lt (g := gb133) (o := .cells #[.int .u8 a0_0, .int .u8 a0_1, .int .u8 a0_2] 23 (0, 0)) (by (with_reducible repeat (first | refine blk_drewN ?_ _ | refine blk_drew ?_ | refine blk_alloc ?_ _)); exact BK133.out)) : gb134 ≠ gb133)); clear BK133; clear HB; have BK133 := n0_; have HB := n1_; have BK134 := n2_; have GW134 := n3_; have GE134 := n4_; have NB133_134 := n5_; have NB134_133 := n6_; clear n0_ n1_ n2_ n3_ n4_ n5_ n6_; clear hb hbox hg; have hnb7 := NB133_134.out; have hnc7 := NB134_133.out; have hcz8_0 : w6.cell? ⟨gb133, 0, none⟩ = some (.int .u8 a0_0) := (blk_cell BK133.out 0).trans rfl; have hcz8_1 : w6.cell? ⟨gb133, 1, none⟩ = some (.int .u8 a0_1) := (blk_cell BK133.out 1).trans rfl; have hcz8_2 : w6.cell? ⟨gb133, 2, none⟩ = some (.int .u8 a0_2) := (blk_cell BK133.out 2).trans rfl; have hfz8_0 := blk_frozen BK133.out 0; have hfz8_1 := blk_frozen BK133.out 1; have hfz8_2 := blk_frozen BK133.out 2; have hcz9_0 : w6.cell? ⟨gb134, 0, none⟩ = some (.int .u8 a1_0) := (blk_cell BK134.out 0).trans rfl; have hcz9_1 : w6.cell? ⟨gb134, 1, none⟩ = some (.int .u8 a1_1) := (blk_cell BK134.out 1).trans rfl; have hcz9_2 : w6.cell? ⟨gb134, 2, none⟩ = some (.int .u8 a1_2) := (blk_cell BK134.out 2).trans rfl; have hfz9_0 := blk_frozen BK134.out 0; have hfz9_1 := blk_frozen BK134.out 1; have hfz9_2 := blk_frozen BK134.out 2))
      go_ret
      exact ⟨by first | rfl | (simp [errW_none, errW_some] <;> rfl) | (simp [*, errW_none, errW_some] <;> rfl), by repeat (first | (with_reducible first | exact HB.out | apply below_alloc | apply pw_below_drewN | apply below_drew1 | refine below_set ?_ GE133.out | refine below_set ?_ GE134.out) | exact HB.out)⟩
    · rw [if_neg c4] at H
      have c4b0 : (a0_1 == a1_1) = false := beq_eq_false_iff_ne.mpr c4
      have c4b1 : (a0_1 != a1_1) = true := bne_iff_ne.mpr c4
      obtain rfl := Option.some.inj H
      go_enter Tryd.func23, Tryd.ntmps23
      go_wp2_with (first | ((with_reducible refine gate_dst (N := 2) rfl ?_); refine box_event ?hg (N := 2) ?hd (cs := #[.int .u8 a0_0, .int .u8 a0_1, .int .u8 a0_2]) (t := 23) ?hr ?_; (case hd => rfl); (case hg => rfl); (case hr => first | (go_simp; done) | (go_simp; rfl)); intro gb133 hg w10 hbox hb; have n0_ := Aside0.mk (below_step (by repeat (first | (with_reducible first | exact HB.out | apply below_alloc | apply pw_below_drewN | apply below_drew1) | exact HB.out)) hb); have n1_ := Aside0.mk (hbox); have n2_ := Aside0.mk ((by rw [hg]; exact (below_size (by repeat (first | (with_reducible first | exact HB.out | apply below_alloc | apply pw_below_drewN | apply below_drew1) | exact HB.out))) : w.heap.size ≤ gb133)); have n3_ := Aside0.mk ((by rw [hg]; exact (below_size (by repeat (first | (with_reducible first | exact HB.out | apply below_alloc | apply pw_below_drewN | apply below_drew1) | exact HB.out))) : w.heap.size ≤ gb133)); clear HB; have HB := n0_; have BK133 := n1_; have GW133 := n2_; have GE133 := n3_; clear n0_ n1_ n2_ n3_; clear hb hbox hg) | ((with_reducible refine gate_dst (N := 3) rfl ?_); refine box_event ?hg (N := 3) ?hd (cs := #[.int .u8 a1_0, .int .u8 a1_1, .int .u8 a1_2]) (t := 23) ?hr ?_; (case hd => rfl); (case hg => rfl); (case hr => first | (go_simp; done) | (go_simp; rfl)); intro gb134 hg w11 hbox hb; have n0_ := Aside0.mk (blk_below (g := gb133) (o := .cells #[.int .u8 a0_0, .int .u8 a0_1, .int .u8 a0_2] 23 (0, 0)) (by (with_reducible repeat (first | refine blk_drewN ?_ _ | refine blk_drew ?_ | refine blk_alloc ?_ _)); exact BK133.out) hb); have n1_ := Aside0.mk (below_step (by repeat (first | (with_reducible first | exact HB.out | apply below_alloc | apply pw_below_drewN | apply below_drew1 | refine below_set ?_ GE133.out) | exact HB.out)) hb); have n2_ := Aside0.mk (hbox); have n3_ := Aside0.mk ((by rw [hg]; exact (below_size (by repeat (first | (with_reducible first | exact HB.out | apply below_alloc | apply pw_below_drewN | apply below_drew1 | refine below_set ?_ GE133.out) | exact HB.out))) : w.heap.size ≤ gb134)); have n4_ := Aside0.mk ((by rw [hg]; exact (below_size (by repeat (first | (with_reducible first | exact HB.out | apply below_alloc | apply pw_below_drewN | apply below_drew1 | refine below_set ?_ GE133.out) | exact HB.out))) : w.heap.size ≤ gb134)); have n5_ := Aside0.mk ((by rw [hg]; exact Nat.ne_of_lt (blk_lt (g := gb133) (o := .cells #[.int .u8 a0_0, .int .u8 a0_1, .int .u8 a0_2] 23 (0, 0)) (by (with_reducible repeat (first | refine blk_drewN ?_ _ | refine blk_drew ?_ | refine blk_alloc ?_ _)); exact BK133.out)) : gb133 ≠ gb134)); have n6_ := Aside0.mk ((by rw [hg]; exact Nat.ne_of_gt (blk_lt (g := gb133) (o := .cells #[.int .u8 a0_0, .int .u8 a0_1, .int .u8 a0_2] 23 (0, 0)) (by (with_reducible repeat (first | refine blk_drewN ?_ _ | refine blk_drew ?_ | refine blk_alloc ?_ _)); exact BK133.out)) : gb134 ≠ gb133)); clear BK133; clear HB; have BK133 := n0_; have HB := n1_; have BK134 := n2_; have GW134 := n3_; have GE134 := n4_; have NB133_134 := n5_; have NB134_133 := n6_; clear n0_ n1_ n2_ n3_ n4_ n5_ n6_; clear hb hbox hg; have hnb12 := NB133_134.out; have hnc12 := NB134_133.out; have hcz13_0 : w11.cell? ⟨gb133, 0, none⟩ = some (.int .u8 a0_0) := (blk_cell BK133.out 0).trans rfl; have hcz13_1 : w11.cell? ⟨gb133, 1, none⟩ = some (.int .u8 a0_1) := (blk_cell BK133.out 1).trans rfl; have hcz13_2 : w11.cell? ⟨gb133, 2, none⟩ = some (.int .u8 a0_2) := (blk_cell BK133.out 2).trans rfl; have hfz13_0 := blk_frozen BK133.out 0; have hfz13_1 := blk_frozen BK133.out 1; have hfz13_2 := blk_frozen BK133.out 2; have hcz14_0 : w11.cell? ⟨gb134, 0, none⟩ = some (.int .u8 a1_0) := (blk_cell BK134.out 0).trans rfl; have hcz14_1 : w11.cell? ⟨gb134, 1, none⟩ = some (.int .u8 a1_1) := (blk_cell BK134.out 1).trans rfl; have hcz14_2 : w11.cell? ⟨gb134, 2, none⟩ = some (.int .u8 a1_2) := (blk_cell BK134.out 2).trans rfl; have hfz14_0 := blk_frozen BK134.out 0; have hfz14_1 := blk_frozen BK134.out 1; have hfz14_2 := blk_frozen BK134.out 2))
      go_ret
      exact ⟨by first | rfl | (simp [errW_none, errW_some] <;> rfl) | (simp [*, errW_none, errW_some] <;> rfl), by repeat (first | (with_reducible first | exact HB.out | apply below_alloc | apply pw_below_drewN | apply below_drew1 | refine below_set ?_ GE133.out | refine below_set ?_ GE134.out) | exact HB.out)⟩
  · rw [if_neg c3] at H
    have c3b0 : (a0_0 == a1_0) = false := beq_eq_false_iff_ne.mpr c3
    have c3b1 : (a0_0 != a1_0) = true := bne_iff_ne.mpr c3
    obtain rfl := Option.some.inj H
    go_enter Tryd.func23, Tryd.ntmps23
    go_wp2_with (first | ((with_reducible refine gate_dst (N := 2) rfl ?_); refine box_event ?hg (N := 2) ?hd (cs := #[.int .u8 a0_0, .int .u8 a0_1, .int .u8 a0_2]) (t := 23) ?hr ?_; (case hd => rfl); (case hg => rfl); (case hr => first | (go_simp; done) | (go_simp; rfl)); intro gb133 hg w15 hbox hb; have n0_ := Aside0.mk (below_step (by repeat (first | (with_reducible first | exact HB.out | apply below_alloc | apply pw_below_drewN | apply below_drew1) | exact HB.out)) hb); have n1_ := Aside0.mk (hbox); have n2_ := Aside0.mk ((by rw [hg]; exact (below_size (by repeat (first | (with_reducible first | exact HB.out | apply below_alloc | apply pw_below_drewN | apply below_drew1) | exact HB.out))) : w.heap.size ≤ gb133)); have n3_ := Aside0.mk ((by rw [hg]; exact (below_size (by repeat (first | (with_reducible first | exact HB.out | apply below_alloc | apply pw_below_drewN | apply below_drew1) | exact HB.out))) : w.heap.size ≤ gb133)); clear HB; have HB := n0_; have BK133 := n1_; have GW133 := n2_; have GE133 := n3_; clear n0_ n1_ n2_ n3_; clear hb hbox hg) | ((with_reducible refine gate_dst (N := 3) rfl ?_); refine box_event ?hg (N := 3) ?hd (cs := #[.int .u8 a1_0, .int .u8 a1_1, .int .u8 a1_2]) (t := 23) ?hr ?_; (case hd => rfl); (case hg => rfl); (case hr => first | (go_simp; done) | (go_simp; rfl)); intro gb134 hg w16 hbox hb; have n0_ := Aside0.mk (blk_below (g := gb133) (o := .cells #[.int .u8 a0_0, .int .u8 a0_1, .int .u8 a0_2] 23 (0, 0)) (by (with_reducible repeat (first | refine blk_drewN ?_ _ | refine blk_drew ?_ | refine blk_alloc ?_ _)); exact BK133.out) hb); have n1_ := Aside0.mk (below_step (by repeat (first | (with_reducible first | exact HB.out | apply below_alloc | apply pw_below_drewN | apply below_drew1 | refine below_set ?_ GE133.out) | exact HB.out)) hb); have n2_ := Aside0.mk (hbox); have n3_ := Aside0.mk ((by rw [hg]; exact (below_size (by repeat (first | (with_reducible first | exact HB.out | apply below_alloc | apply pw_below_drewN | apply below_drew1 | refine below_set ?_ GE133.out) | exact HB.out))) : w.heap.size ≤ gb134)); have n4_ := Aside0.mk ((by rw [hg]; exact (below_size (by repeat (first | (with_reducible first | exact HB.out | apply below_alloc | apply pw_below_drewN | apply below_drew1 | refine below_set ?_ GE133.out) | exact HB.out))) : w.heap.size ≤ gb134)); have n5_ := Aside0.mk ((by rw [hg]; exact Nat.ne_of_lt (blk_lt (g := gb133) (o := .cells #[.int .u8 a0_0, .int .u8 a0_1, .int .u8 a0_2] 23 (0, 0)) (by (with_reducible repeat (first | refine blk_drewN ?_ _ | refine blk_drew ?_ | refine blk_alloc ?_ _)); exact BK133.out)) : gb133 ≠ gb134)); have n6_ := Aside0.mk ((by rw [hg]; exact Nat.ne_of_gt (blk_lt (g := gb133) (o := .cells #[.int .u8 a0_0, .int .u8 a0_1, .int .u8 a0_2] 23 (0, 0)) (by (with_reducible repeat (first | refine blk_drewN ?_ _ | refine blk_drew ?_ | refine blk_alloc ?_ _)); exact BK133.out)) : gb134 ≠ gb133)); clear BK133; clear HB; have BK133 := n0_; have HB := n1_; have BK134 := n2_; have GW134 := n3_; have GE134 := n4_; have NB133_134 := n5_; have NB134_133 := n6_; clear n0_ n1_ n2_ n3_ n4_ n5_ n6_; clear hb hbox hg; have hnb17 := NB133_134.out; have hnc17 := NB134_133.out; have hcz18_0 : w16.cell? ⟨gb133, 0, none⟩ = some (.int .u8 a0_0) := (blk_cell BK133.out 0).trans rfl; have hcz18_1 : w16.cell? ⟨gb133, 1, none⟩ = some (.int .u8 a0_1) := (blk_cell BK133.out 1).trans rfl; have hcz18_2 : w16.cell? ⟨gb133, 2, none⟩ = some (.int .u8 a0_2) := (blk_cell BK133.out 2).trans rfl; have hfz18_0 := blk_frozen BK133.out 0; have hfz18_1 := blk_frozen BK133.out 1; have hfz18_2 := blk_frozen BK133.out 2; have hcz19_0 : w16.cell? ⟨gb134, 0, none⟩ = some (.int .u8 a1_0) := (blk_cell BK134.out 0).trans rfl; have hcz19_1 : w16.cell? ⟨gb134, 1, none⟩ = some (.int .u8 a1_1) := (blk_cell BK134.out 1).trans rfl; have hcz19_2 : w16.cell? ⟨gb134, 2, none⟩ = some (.int .u8 a1_2) := (blk_cell BK134.out 2).trans rfl; have hfz19_0 := blk_frozen BK134.out 0; have hfz19_1 := blk_frozen BK134.out 1; have hfz19_2 := blk_frozen BK134.out 2))
    go_ret
    exact ⟨by first | rfl | (simp [errW_none, errW_some] <;> rfl) | (simp [*, errW_none, errW_some] <;> rfl), by repeat (first | (with_reducible first | exact HB.out | apply below_alloc | apply pw_below_drewN | apply below_drew1 | refine below_set ?_ GE133.out | refine below_set ?_ GE134.out) | exact HB.out)⟩

end Go.Proofs.YtpnehgajhpejjaaDoor.S
