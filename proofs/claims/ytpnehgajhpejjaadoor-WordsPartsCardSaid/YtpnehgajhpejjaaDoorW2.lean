import Derived.Test.YtpnehgajhpejjaaDoorSq
import Derived.Test.YtpnehgajhpejjaaDoorW0
namespace Go.Proofs.YtpnehgajhpejjaaDoor.W
open Go.RowKit Go.Proofs.YtpnehgajhpejjaaDoorW.PrintWords Go.Proofs.YtpnehgajhpejjaaDoorW.PrintLast Go.Proofs.YtpnehgajhpejjaaDoorW.PrintMore
attribute [local go_sem] max2_int min2_int max_two min_two max_three min_three max_four min_four
set_option linter.unusedVariables false
set_option linter.unusedSimpArgs false
theorem qW2x1 {p : Prop} (h : p := by exact Aside0.mk ((show Below w.heap.size w _ from by first | exact HB.out | exact HB.out.setCell (by have h1_ := HGX.out; have h2_ := HG2.out; show w.heap.size ≤ gx; omega) _).grown hG (by first | exact HB.out.size | exact (HB.out.setCell (by have h1_ := HGX.out; have h2_ := HG2.out; show w.heap.size ≤ gx; omega) _).size) (fun k_ hk_ => by cases hk_; have := HG2.out; omega))) : p := h
theorem qW2x2 {p : Prop} (h : p := by exact Aside0.mk (blk_grown (g := w.heap.size) (by first | exact B2.out | exact blk_far B2.out (by have h1_ := HGX.out; have h2_ := HG2.out; intro e_; simp only [] at e_; omega) _) hG (by have := HG2.out; intro e_; injection e_ with e_; omega))) : p := h
theorem qW2x3 {p : Prop} (h : p := by exact Aside0.mk (blk_grown (g := gx) (BX.out) hG (by have := HGX.out; intro e_; injection e_ with e_; omega))) : p := h
theorem qW2x4 {p : Prop} (h : p := by exact Aside0.mk (blk_alloc (blk_below (heap_alloc_new w (.cells #[.int .u8 0, .int .u32 0, .int .u8 0, .slice none 0 0, .int .u8 0, .int .u8 0, .int .u8 0, .int .i64 0] 78)) hb) (.cells #[.int .u8 0, .int .u32 0, .int .u8 0, .slice none 0 0, .int .u8 0, .int .u8 0, .int .u8 0, .int .i64 0] 78))) : p := h
theorem qW2x5 {p : Prop} (h : p := by have h1_ := HGX.out; have h2_ := HG2.out; intro e_; simp only [] at e_; omega) : p := h
theorem qW2x6 {p : Prop} (h : p := by exact Aside0.mk (((Below.refl w.heap.size w).alloc (Nat.le_refl _) _).trans ((hb.mono (by simp)).alloc (by have := hR.lt; omega) (.cells #[.int .u8 0, .int .u32 0, .int .u8 0, .slice none 0 0, .int .u8 0, .int .u8 0, .int .u8 0, .int .i64 0] 78)))) : p := h
theorem qW2x7 {p : Prop} (h : p := by first | exact HR.out | exact HR.out.far HGX.out _) : p := h
theorem qW2x8 {p : Prop} (h : p := by have h1_ := HGX.out; have h2_ := HG2.out; show w.heap.size ≤ gx; omega) : p := h
theorem qW2x9 {p : Prop} (h : p := by (repeat (refine Below.setCell ?_ (by show w.heap.size ≤ w.heap.size; omega) _)); exact HB.out) : p := h
theorem qW2x10 {p : Prop} (h : p := by exact Aside0.mk (heap_alloc_new w1 (.cells #[.int .u8 0, .int .u32 0, .int .u8 0, .slice none 0 0, .int .u8 0, .int .u8 0, .int .u8 0, .int .i64 0] 78))) : p := h
theorem qW2x11 {p : Prop} (h : p := by exact Aside0.mk (hR.alloc (.cells #[.int .u8 0, .int .u32 0, .int .u8 0, .slice none 0 0, .int .u8 0, .int .u8 0, .int .u8 0, .int .i64 0] 78))) : p := h
theorem qW2x12 {p : Prop} (h : p := by kernel_rfl) : p := h
theorem qW2x13 {p : Prop} (h : p := by exact Aside0.mk (blk_set BX.out 0 _)) : p := h
theorem qW2x14 {p : Prop} (h : p := by exact Aside0.mk (blk_far B2.out (p := ⟨gx, 1, none⟩) qW2x5 (.int .u32 (o % 4294967296)))) : p := h
theorem qW2x15 {p : Prop} (h : p := by exact Aside0.mk (HB.out.setCell (p := ⟨gx, 1, none⟩) qW2x8 (.int .u32 (o % 4294967296)))) : p := h
theorem qW2x16 {p : Prop} (h : p := by exact Aside0.mk (HR.out.far HGX.out (p := ⟨gx, 1, none⟩) (.int .u32 (o % 4294967296)))) : p := h
theorem qW2x17 {p : Prop} (h : p := by exact Aside0.mk (blk_far B2.out (p := ⟨gx, 4, none⟩) qW2x5 (.int .u8 (p % 256)))) : p := h
theorem qW2x18 {p : Prop} (h : p := by exact Aside0.mk (HB.out.setCell (p := ⟨gx, 4, none⟩) qW2x8 (.int .u8 (p % 256)))) : p := h
theorem qW2x19 {p : Prop} (h : p := by exact Aside0.mk (HR.out.far HGX.out (p := ⟨gx, 4, none⟩) (.int .u8 (p % 256)))) : p := h
/-! ### request_Decode: function 50 (by hand) -/
def request_Decode.ordF (k : Int) : Bool := decide (1 ≤ k) && decide (k ≤ 4)
def request_Decode.movF (k : Int) : Bool := decide (k = 5) || decide (k = 6)
def request_Decode.rLines : Nat → Int × List Int → List S109 × (Int × List Int)
  | 0, s => ([], s)
  | n + 1, s => (⟨(rNum 1 s).1 % 256, wrap64 (rNum 8 (rNum 1 s).2).1⟩ :: (request_Decode.rLines n (rNum 8 (rNum 1 s).2).2).1, (request_Decode.rLines n (rNum 8 (rNum 1 s).2).2).2)
theorem request_Decode.num_calls3 {g : Nat} {err : Int} {bs : List Int} {sz : Int} {size : Nat} {x e : Int} {l : List Int} (hs : sz = (size : Int)) (hq : rNum size (err, bs) = (x, (e, l))) (h1 : 1 ≤ size) (h8 : size ≤ 8) (hall : ∀ b ∈ bs, 0 ≤ b ∧ b < 256) {w : World} (h : RdAt w g err bs) :
    Calls Tryd.prog 75 #[.pointer (some ⟨g, 0, none⟩), .int .i64 sz] w fun r w' => r = .returned (.int .u64 x) ∧ RdAt w' g e l ∧ w.grownBy w' (some g) := by
  subst hs
  exact num_calls2 hq h1 h8 hall h
theorem request_Decode.rLines_len : ∀ (n : Nat) (s : Int × List Int), (request_Decode.rLines n s).1.length = n
  | 0, s => rfl
  | n + 1, s => by simp [request_Decode.rLines, request_Decode.rLines_len n]
theorem request_Decode.rd_R {w w1 : World} {base : Nat} {v : Value} {xs : List S109} {g : Nat} {er : Int} {b : List Int} (h : Kd.R k109 109 w base (fun _ => True) v xs) (hr : RdAt w g er b) (hG : w.grownBy w1 (some g)) : Kd.R k109 109 w1 base (fun _ => True) v xs := by
  obtain ⟨A, c, hb, _⟩ := hr
  exact Kd.R_mono (Kd.R_grown (Kd.R_types h hb (by decide)) hG (fun k hk e => hk.2 (Option.some.inj e))) (fun _ _ => trivial)
theorem request_Decode.rd_under {w w' : World} {g : Nat} {err : Int} {bs : List Int} (h : RdAt w g err bs) (hb : Below (g + 1) w w') : RdAt w' g err bs := by
  obtain ⟨A, c, hk, hl, hC, hne⟩ := h
  exact ⟨A, c, by rw [hb.block g (by omega)]; exact hk, hl, C_block hC (fun a e => hb.block _ (by have := hne a e; omega)), hne⟩
def request_Decode.dec_T : Bool × List (List Nat × List Nat) := (true, [([], []), ([0], [0]), ([], []), ([2], [2]), ([3], [3]), ([], []), ([5, 3], [5]), ([4, 6], [4, 6]), ([7], [7]), ([1, 8, 6], [1, 8]), ([0, 1, 2, 3, 4, 5, 6, 7, 8, 9], []), ([10, 9, 9, 0, 1, 2, 3, 4, 5, 6, 7, 8, 9], [9, 10])])
def request_Decode.dec_B : List Nat := [0, 1, 0, 4, 12, 0, 44, 124, 252, 511, 1023, 2047]
theorem request_Decode.dec_tab : rtab .any (opsOf Tryd.f50 15) = request_Decode.dec_T := by kernel_rfl
theorem request_Decode.dec_bits : waitsOk request_Decode.dec_T.2 request_Decode.dec_B = true := by kernel_rfl
theorem request_Decode.ord_calls (k : Int) (w : World) : Calls Tryd.prog 77 #[.int .u8 k] w fun e w' => e = .returned (.bool (request_Decode.ordF k)) ∧ w' = w := by
  by_cases c : 1 ≤ k
  · have c1 : decide (1 ≤ k) = true := decide_eq_true c
    have e : request_Decode.ordF k = decide (k ≤ 4) := by simp [request_Decode.ordF, c]
    rw [e]
    clear e c
    go_enter Tryd.func77, Tryd.ntmps77
    go_wp2
    go_ret
    exact ⟨by first | rfl | (simp; done) | (simp [*]; done), rfl⟩
  have c1 : decide (1 ≤ k) = false := decide_eq_false c
  have e : request_Decode.ordF k = false := by simp [request_Decode.ordF, c]
  rw [e]
  clear e c
  go_enter Tryd.func77, Tryd.ntmps77
  go_wp2
  go_ret
  exact ⟨by first | rfl | (simp; done) | (simp [*]; done), rfl⟩
theorem request_Decode.mov_calls (k : Int) (w : World) : Calls Tryd.prog 79 #[.int .u8 k] w fun e w' => e = .returned (.bool (request_Decode.movF k)) ∧ w' = w := by
  by_cases c : k = 5
  · subst c
    have e : request_Decode.movF 5 = true := rfl
    rw [e]
    clear e
    go_enter Tryd.func79, Tryd.ntmps79
    go_wp2
    go_ret
    exact ⟨by first | rfl | (simp; done) | (simp [*]; done), rfl⟩
  have c1 : (k == 5) = false := beq_eq_false_iff_ne.2 c
  have e : request_Decode.movF k = (k == 6) := by simp only [request_Decode.movF, c, decide_false, Bool.false_or]; by_cases h : k = 6 <;> simp [h]
  rw [e]
  clear e c
  go_enter Tryd.func79, Tryd.ntmps79
  go_wp2
  go_ret
  exact ⟨by first | rfl | (simp; done) | (simp [*]; done), rfl⟩
set_option maxHeartbeats 8000000 in
set_option maxRecDepth 100000 in
theorem request_Decode.dec_p24 (A0 : Option Addr) (c0 : Nat) (bs : List Int) (hl : bs.length ≤ 1000000) (hc0 : bs.length ≤ c0) (hwf : ∀ b ∈ bs, 0 ≤ b ∧ b < 256) (w : World) (hC : Kd.C (Kd.int .u8) w A0 bs.length bs) {k er1 o er2 : Int} {b1 b2 : List Int} (E1 : rNum 1 (0, bs) = (k, (er1, b1))) (E2 : rNum 4 (er1, b1) = (o, (er2, b2))) (he : er1 = 0) (hk2 : 2 ≤ k) (hk4 : k ≤ 4) :
    Calls Tryd.prog 50 #[.slice A0 bs.length c0] w fun e w' => ∃ v3_ : Value, e = .returned (.tuple #[.agg (if rEnd (er2, b2) = 0 then #[.int .u8 k, .int .u32 (o % 4294967296), .int .u8 0, v3_, .int .u8 0, .int .u8 0, .int .u8 0, .int .i64 0] else #[.int .u8 0, .int .u32 0, .int .u8 0, v3_, .int .u8 0, .int .u8 0, .int .u8 0, .int .i64 0]), .int .i64 (rEnd (er2, b2))]) ∧ Kd.R k109 109 w' w.heap.size (fun _ => True) v3_ [] ∧ Below w.heap.size w w' := by
  have hread := read_calls A0 c0 bs hl hc0 _ (Kd.C_alloc hC (.cells #[.int .u8 0, .int .u32 0, .int .u8 0, .slice none 0 0, .int .u8 0, .int .u8 0, .int .u8 0, .int .i64 0] 78))
  have hw1 := rNum_wf E1 hwf
  have hw2 := rNum_wf E2 hw1
  subst he
  have hku : IntKind.u8.wrap k = k := by rw [IntKind.wrap_u8]; omega
  have hkm : k % 256 = k := by omega
  have k1 : ¬ (k < 1) := by omega
  have k7 : ¬ (7 < k) := by omega
  have kp : ¬ (k = 1) := by omega
  have kt : ¬ (k = 6) := by omega
  have kpb : (k == 1) = false := beq_eq_false_iff_ne.2 kp
  have ktb : (k == 6) = false := beq_eq_false_iff_ne.2 kt
  have ko : request_Decode.ordF k = true := by simp [request_Decode.ordF]; omega
  have km : request_Decode.movF k = false := by simp [request_Decode.movF]; omega
  obtain ⟨ee, hee⟩ : ∃ ee, ee = rEnd (er2, b2) := ⟨_, rfl⟩
  rw [← hee]
  have HE := Aside0.mk hee
  clear hC hee
  go_enter Tryd.func50, Tryd.ntmps50
  go_wp2_with (first | (go_at_call 74; refine hread.mono ?_; rintro e w1 ⟨g, rfl, hR, hge, hb⟩))
  have hge2 : w.heap.size < g := by simp at hge; omega
  have BX := qW2x10
  have B2 := qW2x4
  have HGX := Aside0.mk hR.lt
  have HG2 := Aside0.mk hge2
  have HB := qW2x6
  have HR := qW2x11
  clear hR hb hge hge2
  generalize hgx : w1.heap.size = gx at *
  generalize w1.alloc (.cells #[.int .u8 0, .int .u32 0, .int .u8 0, .slice none 0 0, .int .u8 0, .int .u8 0, .int .u8 0, .int .i64 0] 78) = w2 at *
  clear hgx hread
  have c0_ := zcf8 BX.out
  go_wp2_with (first | (go_at_call 75; (with_reducible refine (request_Decode.num_calls3 (sz := 1) (size := 1) ?h1 E1 ?h2 ?h3 hwf ?h4).mono ?_); (case h1 => rfl); (case h2 => omega); (case h3 => omega); (case h4 => exact qW2x7); rintro e w9 ⟨rfl, hR, hG⟩; have r_ := Aside0.mk hR; have x_ : Aside0 (w9.heap[gx]? = some (.cells #[.int .u8 0, .int .u32 0, .int .u8 0, .slice none 0 0, .int .u8 0, .int .u8 0, .int .u8 0, .int .i64 0] 78 (0, 0))) := qW2x3; have y_ : Aside0 (w9.heap[w.heap.size]? = some (.cells #[.int .u8 0, .int .u32 0, .int .u8 0, .slice none 0 0, .int .u8 0, .int .u8 0, .int .u8 0, .int .i64 0] 78 (0, 0))) := qW2x2; have b_ : Aside0 (Below w.heap.size w w9) := qW2x1; clear HR BX B2 HB hR hG c0_; have HR := r_; have BX := x_; have B2 := y_; have HB := b_; clear r_ x_ y_ b_; have c0_ := zcf8 BX.out))
  have r_ := Aside0.mk (HR.out.far HGX.out (p := ⟨gx, 0, none⟩) (.int .u8 k))
  have x_ : Aside0 ((w9.setCell ⟨gx, 0, none⟩ (.int .u8 k)).heap[gx]? = some (.cells #[.int .u8 k, .int .u32 0, .int .u8 0, .slice none 0 0, .int .u8 0, .int .u8 0, .int .u8 0, .int .i64 0] 78 (0, 0))) := qW2x13
  have y_ := Aside0.mk (blk_far B2.out (p := ⟨gx, 0, none⟩) qW2x5 (.int .u8 k))
  have b_ := Aside0.mk (HB.out.setCell (p := ⟨gx, 0, none⟩) qW2x8 (.int .u8 k))
  clear HR BX B2 HB c0_
  have HR := r_
  have BX := x_
  have B2 := y_
  have HB := b_
  clear r_ x_ y_ b_
  generalize w9.setCell ⟨gx, 0, none⟩ (.int .u8 k) = w10 at *
  have c0_ := zcf8 BX.out
  go_wp2_with (first | (go_at_call 76; refine (err_calls g _ _ _ qW2x7).mono ?_; rintro e w9 ⟨rfl, rfl⟩) | (go_at_call 77; refine (request_Decode.ord_calls _ _).mono ?_; rw [ko]; rintro e w9 ⟨rfl, rfl⟩) | (go_at_call 75; (with_reducible refine (request_Decode.num_calls3 (sz := 4) (size := 4) ?h1 E2 ?h2 ?h3 hw1 ?h4).mono ?_); (case h1 => rfl); (case h2 => omega); (case h3 => omega); (case h4 => exact qW2x7); rintro e w9 ⟨rfl, hR, hG⟩; have r_ := Aside0.mk hR; have x_ : Aside0 (w9.heap[gx]? = some (.cells #[.int .u8 k, .int .u32 0, .int .u8 0, .slice none 0 0, .int .u8 0, .int .u8 0, .int .u8 0, .int .i64 0] 78 (0, 0))) := qW2x3; have y_ : Aside0 (w9.heap[w.heap.size]? = some (.cells #[.int .u8 0, .int .u32 0, .int .u8 0, .slice none 0 0, .int .u8 0, .int .u8 0, .int .u8 0, .int .i64 0] 78 (0, 0))) := qW2x2; have b_ : Aside0 (Below w.heap.size w w9) := qW2x1; clear HR BX B2 HB hR hG c0_; have HR := r_; have BX := x_; have B2 := y_; have HB := b_; clear r_ x_ y_ b_; have c0_ := zcf8 BX.out))
  have r_ := qW2x16
  have x_ : Aside0 ((w9.setCell ⟨gx, 1, none⟩ (.int .u32 (o % 4294967296))).heap[gx]? = some (.cells #[.int .u8 k, .int .u32 (o % 4294967296), .int .u8 0, .slice none 0 0, .int .u8 0, .int .u8 0, .int .u8 0, .int .i64 0] 78 (0, 0))) := Aside0.mk (blk_set BX.out 1 _)
  have y_ := qW2x14
  have b_ := qW2x15
  clear HR BX B2 HB c0_
  have HR := r_
  have BX := x_
  have B2 := y_
  have HB := b_
  clear r_ x_ y_ b_
  generalize w9.setCell ⟨gx, 1, none⟩ (.int .u32 (o % 4294967296)) = w11 at *
  have c0_ := zcf8 BX.out
  have d0_ := zcf8 B2.out
  have hgne : ¬ (w.heap.size = gx) := by have h1_ := HGX.out; have h2_ := HG2.out; omega
  have hgne2 : ¬ (gx = w.heap.size) := by have h1_ := HGX.out; have h2_ := HG2.out; omega
  have hend := end_calls g er2 b2 w11 HR.out
  rw [← HE.out] at hend
  by_cases hz : ee = 0
  · subst hz
    go_wp2_with (first | (go_at_call 79; refine (request_Decode.mov_calls _ _).mono ?_; rw [km]; rintro e w9 ⟨rfl, rfl⟩) | (go_at_call 80; refine hend.mono ?_; rintro e w9 ⟨rfl, rfl⟩))
    refine bodyPost_ret (results_ct rfl _ _ w.heap.size 78 #[.int .u8 k, .int .u32 (o % 4294967296), .int .u8 0, .slice none 0 0, .int .u8 0, .int .u8 0, .int .u8 0, .int .i64 0] (0, 0) _ rfl (zQ B2.out) Tryd.underlying78 rfl qW2x12) rfl ?_
    exact ⟨.slice none 0 0, by first | rfl | (simp [hz]; done) | (simp [hzz.out]; done), Kd.R_nil _ _ _ _ _, qW2x9⟩
  have hzb : (ee == 0) = false := beq_eq_false_iff_ne.2 hz
  have hzb2 : (ee != 0) = true := bne_iff_ne.2 hz
  go_wp2_with (first | (go_at_call 79; refine (request_Decode.mov_calls _ _).mono ?_; rw [km]; rintro e w9 ⟨rfl, rfl⟩) | (go_at_call 80; refine hend.mono ?_; rintro e w9 ⟨rfl, rfl⟩))
  refine bodyPost_ret (results_ct rfl _ _ w.heap.size 78 #[.int .u8 0, .int .u32 0, .int .u8 0, .slice none 0 0, .int .u8 0, .int .u8 0, .int .u8 0, .int .i64 0] (0, 0) _ rfl (zQ B2.out) Tryd.underlying78 rfl qW2x12) rfl ?_
  exact ⟨.slice none 0 0, by first | rfl | (simp [hz]; done) | (simp [hzz.out]; done), Kd.R_nil _ _ _ _ _, qW2x9⟩
set_option maxHeartbeats 8000000 in
set_option maxRecDepth 100000 in
theorem request_Decode.dec_p7 (A0 : Option Addr) (c0 : Nat) (bs : List Int) (hl : bs.length ≤ 1000000) (hc0 : bs.length ≤ c0) (hwf : ∀ b ∈ bs, 0 ≤ b ∧ b < 256) (w : World) (hC : Kd.C (Kd.int .u8) w A0 bs.length bs) {er1 p er2 : Int} {b1 b2 : List Int} (E1 : rNum 1 (0, bs) = (7, (er1, b1))) (E2 : rNum 1 (er1, b1) = (p, (er2, b2))) (he : er1 = 0) :
    Calls Tryd.prog 50 #[.slice A0 bs.length c0] w fun e w' => ∃ v3_ : Value, e = .returned (.tuple #[.agg (if rEnd (er2, b2) = 0 then #[.int .u8 7, .int .u32 0, .int .u8 0, v3_, .int .u8 (p % 256), .int .u8 0, .int .u8 0, .int .i64 0] else #[.int .u8 0, .int .u32 0, .int .u8 0, v3_, .int .u8 0, .int .u8 0, .int .u8 0, .int .i64 0]), .int .i64 (rEnd (er2, b2))]) ∧ Kd.R k109 109 w' w.heap.size (fun _ => True) v3_ [] ∧ Below w.heap.size w w' := by
  have hread := read_calls A0 c0 bs hl hc0 _ (Kd.C_alloc hC (.cells #[.int .u8 0, .int .u32 0, .int .u8 0, .slice none 0 0, .int .u8 0, .int .u8 0, .int .u8 0, .int .i64 0] 78))
  have hw1 := rNum_wf E1 hwf
  have hw2 := rNum_wf E2 hw1
  subst he
  have ko : request_Decode.ordF 7 = false := rfl
  have km : request_Decode.movF 7 = false := rfl
  obtain ⟨ee, hee⟩ : ∃ ee, ee = rEnd (er2, b2) := ⟨_, rfl⟩
  rw [← hee]
  have HE := Aside0.mk hee
  clear hC hee
  go_enter Tryd.func50, Tryd.ntmps50
  go_wp2_with (first | (go_at_call 74; refine hread.mono ?_; rintro e w1 ⟨g, rfl, hR, hge, hb⟩))
  have hge2 : w.heap.size < g := by simp at hge; omega
  have BX := qW2x10
  have B2 := qW2x4
  have HGX := Aside0.mk hR.lt
  have HG2 := Aside0.mk hge2
  have HB := qW2x6
  have HR := qW2x11
  clear hR hb hge hge2
  generalize hgx : w1.heap.size = gx at *
  generalize w1.alloc (.cells #[.int .u8 0, .int .u32 0, .int .u8 0, .slice none 0 0, .int .u8 0, .int .u8 0, .int .u8 0, .int .i64 0] 78) = w2 at *
  clear hgx hread
  have c0_ := zcf8 BX.out
  go_wp2_with (first | (go_at_call 75; (with_reducible refine (request_Decode.num_calls3 (sz := 1) (size := 1) ?h1 E1 ?h2 ?h3 hwf ?h4).mono ?_); (case h1 => rfl); (case h2 => omega); (case h3 => omega); (case h4 => exact qW2x7); rintro e w9 ⟨rfl, hR, hG⟩; have r_ := Aside0.mk hR; have x_ : Aside0 (w9.heap[gx]? = some (.cells #[.int .u8 0, .int .u32 0, .int .u8 0, .slice none 0 0, .int .u8 0, .int .u8 0, .int .u8 0, .int .i64 0] 78 (0, 0))) := qW2x3; have y_ : Aside0 (w9.heap[w.heap.size]? = some (.cells #[.int .u8 0, .int .u32 0, .int .u8 0, .slice none 0 0, .int .u8 0, .int .u8 0, .int .u8 0, .int .i64 0] 78 (0, 0))) := qW2x2; have b_ : Aside0 (Below w.heap.size w w9) := qW2x1; clear HR BX B2 HB hR hG c0_; have HR := r_; have BX := x_; have B2 := y_; have HB := b_; clear r_ x_ y_ b_; have c0_ := zcf8 BX.out))
  have r_ := Aside0.mk (HR.out.far HGX.out (p := ⟨gx, 0, none⟩) (.int .u8 7))
  have x_ : Aside0 ((w9.setCell ⟨gx, 0, none⟩ (.int .u8 7)).heap[gx]? = some (.cells #[.int .u8 7, .int .u32 0, .int .u8 0, .slice none 0 0, .int .u8 0, .int .u8 0, .int .u8 0, .int .i64 0] 78 (0, 0))) := qW2x13
  have y_ := Aside0.mk (blk_far B2.out (p := ⟨gx, 0, none⟩) qW2x5 (.int .u8 7))
  have b_ := Aside0.mk (HB.out.setCell (p := ⟨gx, 0, none⟩) qW2x8 (.int .u8 7))
  clear HR BX B2 HB c0_
  have HR := r_
  have BX := x_
  have B2 := y_
  have HB := b_
  clear r_ x_ y_ b_
  generalize w9.setCell ⟨gx, 0, none⟩ (.int .u8 7) = w10 at *
  have c0_ := zcf8 BX.out
  go_wp2_with (first | (go_at_call 76; refine (err_calls g _ _ _ qW2x7).mono ?_; rintro e w9 ⟨rfl, rfl⟩) | (go_at_call 77; refine (request_Decode.ord_calls _ _).mono ?_; rw [ko]; rintro e w9 ⟨rfl, rfl⟩) | (go_at_call 75; (with_reducible refine (request_Decode.num_calls3 (sz := 1) (size := 1) ?h1 E2 ?h2 ?h3 hw1 ?h4).mono ?_); (case h1 => rfl); (case h2 => omega); (case h3 => omega); (case h4 => exact qW2x7); rintro e w9 ⟨rfl, hR, hG⟩; have r_ := Aside0.mk hR; have x_ : Aside0 (w9.heap[gx]? = some (.cells #[.int .u8 7, .int .u32 0, .int .u8 0, .slice none 0 0, .int .u8 0, .int .u8 0, .int .u8 0, .int .i64 0] 78 (0, 0))) := qW2x3; have y_ : Aside0 (w9.heap[w.heap.size]? = some (.cells #[.int .u8 0, .int .u32 0, .int .u8 0, .slice none 0 0, .int .u8 0, .int .u8 0, .int .u8 0, .int .i64 0] 78 (0, 0))) := qW2x2; have b_ : Aside0 (Below w.heap.size w w9) := qW2x1; clear HR BX B2 HB hR hG c0_; have HR := r_; have BX := x_; have B2 := y_; have HB := b_; clear r_ x_ y_ b_; have c0_ := zcf8 BX.out))
  have r_ := qW2x19
  have x_ : Aside0 ((w9.setCell ⟨gx, 4, none⟩ (.int .u8 (p % 256))).heap[gx]? = some (.cells #[.int .u8 7, .int .u32 0, .int .u8 0, .slice none 0 0, .int .u8 (p % 256), .int .u8 0, .int .u8 0, .int .i64 0] 78 (0, 0))) := Aside0.mk (blk_set BX.out 4 _)
  have y_ := qW2x17
  have b_ := qW2x18
  clear HR BX B2 HB c0_
  have HR := r_
  have BX := x_
  have B2 := y_
  have HB := b_
  clear r_ x_ y_ b_
  generalize w9.setCell ⟨gx, 4, none⟩ (.int .u8 (p % 256)) = w11 at *
  have c0_ := zcf8 BX.out
  have d0_ := zcf8 B2.out
  have hgne : ¬ (w.heap.size = gx) := by have h1_ := HGX.out; have h2_ := HG2.out; omega
  have hgne2 : ¬ (gx = w.heap.size) := by have h1_ := HGX.out; have h2_ := HG2.out; omega
  have hend := end_calls g er2 b2 w11 HR.out
  rw [← HE.out] at hend
  by_cases hz : ee = 0
  · subst hz
    go_wp2_with (first | (go_at_call 79; refine (request_Decode.mov_calls _ _).mono ?_; rw [km]; rintro e w9 ⟨rfl, rfl⟩) | (go_at_call 80; refine hend.mono ?_; rintro e w9 ⟨rfl, rfl⟩))
    refine bodyPost_ret (results_ct rfl _ _ w.heap.size 78 #[.int .u8 7, .int .u32 0, .int .u8 0, .slice none 0 0, .int .u8 (p % 256), .int .u8 0, .int .u8 0, .int .i64 0] (0, 0) _ rfl (zQ B2.out) Tryd.underlying78 rfl qW2x12) rfl ?_
    exact ⟨.slice none 0 0, by first | rfl | (simp [hz]; done) | (simp [hzz.out]; done), Kd.R_nil _ _ _ _ _, qW2x9⟩
  have hzb : (ee == 0) = false := beq_eq_false_iff_ne.2 hz
  have hzb2 : (ee != 0) = true := bne_iff_ne.2 hz
  go_wp2_with (first | (go_at_call 79; refine (request_Decode.mov_calls _ _).mono ?_; rw [km]; rintro e w9 ⟨rfl, rfl⟩) | (go_at_call 80; refine hend.mono ?_; rintro e w9 ⟨rfl, rfl⟩))
  refine bodyPost_ret (results_ct rfl _ _ w.heap.size 78 #[.int .u8 0, .int .u32 0, .int .u8 0, .slice none 0 0, .int .u8 0, .int .u8 0, .int .u8 0, .int .i64 0] (0, 0) _ rfl (zQ B2.out) Tryd.underlying78 rfl qW2x12) rfl ?_
  exact ⟨.slice none 0 0, by first | rfl | (simp [hz]; done) | (simp [hzz.out]; done), Kd.R_nil _ _ _ _ _, qW2x9⟩
set_option maxHeartbeats 8000000 in
set_option maxRecDepth 100000 in
theorem request_Decode.dec_p5 (A0 : Option Addr) (c0 : Nat) (bs : List Int) (hl : bs.length ≤ 1000000) (hc0 : bs.length ≤ c0) (hwf : ∀ b ∈ bs, 0 ≤ b ∧ b < 256) (w : World) (hC : Kd.C (Kd.int .u8) w A0 bs.length bs) {er1 p er2 : Int} {b1 b2 : List Int} {sd er3 xx er4 : Int} {b3 b4 : List Int} (E1 : rNum 1 (0, bs) = (5, (er1, b1))) (E2 : rNum 1 (er1, b1) = (p, (er2, b2))) (he : er1 = 0) (E3 : rNum 1 (er2, b2) = (sd, (er3, b3))) (E4 : rNum 8 (er3, b3) = (xx, (er4, b4))) :
    Calls Tryd.prog 50 #[.slice A0 bs.length c0] w fun e w' => ∃ v3_ : Value, e = .returned (.tuple #[.agg (if rEnd (er4, b4) = 0 then #[.int .u8 5, .int .u32 0, .int .u8 0, v3_, .int .u8 (p % 256), .int .u8 0, .int .u8 (sd % 256), .int .i64 (wrap64 xx)] else #[.int .u8 0, .int .u32 0, .int .u8 0, v3_, .int .u8 0, .int .u8 0, .int .u8 0, .int .i64 0]), .int .i64 (rEnd (er4, b4))]) ∧ Kd.R k109 109 w' w.heap.size (fun _ => True) v3_ [] ∧ Below w.heap.size w w' := by
  have hread := read_calls A0 c0 bs hl hc0 _ (Kd.C_alloc hC (.cells #[.int .u8 0, .int .u32 0, .int .u8 0, .slice none 0 0, .int .u8 0, .int .u8 0, .int .u8 0, .int .i64 0] 78))
  have hw1 := rNum_wf E1 hwf
  have hw2 := rNum_wf E2 hw1
  have hw3 := rNum_wf E3 hw2
  have hw4 := rNum_wf E4 hw3
  subst he
  have ko : request_Decode.ordF 5 = false := rfl
  have km : request_Decode.movF 5 = true := rfl
  obtain ⟨ee, hee⟩ : ∃ ee, ee = rEnd (er4, b4) := ⟨_, rfl⟩
  rw [← hee]
  have HE := Aside0.mk hee
  clear hC hee
  go_enter Tryd.func50, Tryd.ntmps50
  go_wp2_with (first | (go_at_call 74; refine hread.mono ?_; rintro e w1 ⟨g, rfl, hR, hge, hb⟩))
  have hge2 : w.heap.size < g := by simp at hge; omega
  have BX := qW2x10
  have B2 := qW2x4
  have HGX := Aside0.mk hR.lt
  have HG2 := Aside0.mk hge2
  have HB := qW2x6
  have HR := qW2x11
  clear hR hb hge hge2
  generalize hgx : w1.heap.size = gx at *
  generalize w1.alloc (.cells #[.int .u8 0, .int .u32 0, .int .u8 0, .slice none 0 0, .int .u8 0, .int .u8 0, .int .u8 0, .int .i64 0] 78) = w2 at *
  clear hgx hread
  have c0_ := zcf8 BX.out
  go_wp2_with (first | (go_at_call 75; (with_reducible refine (request_Decode.num_calls3 (sz := 1) (size := 1) ?h1 E1 ?h2 ?h3 hwf ?h4).mono ?_); (case h1 => rfl); (case h2 => omega); (case h3 => omega); (case h4 => exact qW2x7); rintro e w9 ⟨rfl, hR, hG⟩; have r_ := Aside0.mk hR; have x_ : Aside0 (w9.heap[gx]? = some (.cells #[.int .u8 0, .int .u32 0, .int .u8 0, .slice none 0 0, .int .u8 0, .int .u8 0, .int .u8 0, .int .i64 0] 78 (0, 0))) := qW2x3; have y_ : Aside0 (w9.heap[w.heap.size]? = some (.cells #[.int .u8 0, .int .u32 0, .int .u8 0, .slice none 0 0, .int .u8 0, .int .u8 0, .int .u8 0, .int .i64 0] 78 (0, 0))) := qW2x2; have b_ : Aside0 (Below w.heap.size w w9) := qW2x1; clear HR BX B2 HB hR hG c0_; have HR := r_; have BX := x_; have B2 := y_; have HB := b_; clear r_ x_ y_ b_; have c0_ := zcf8 BX.out))
  have r_ := Aside0.mk (HR.out.far HGX.out (p := ⟨gx, 0, none⟩) (.int .u8 5))
  have x_ : Aside0 ((w9.setCell ⟨gx, 0, none⟩ (.int .u8 5)).heap[gx]? = some (.cells #[.int .u8 5, .int .u32 0, .int .u8 0, .slice none 0 0, .int .u8 0, .int .u8 0, .int .u8 0, .int .i64 0] 78 (0, 0))) := qW2x13
  have y_ := Aside0.mk (blk_far B2.out (p := ⟨gx, 0, none⟩) qW2x5 (.int .u8 5))
  have b_ := Aside0.mk (HB.out.setCell (p := ⟨gx, 0, none⟩) qW2x8 (.int .u8 5))
  clear HR BX B2 HB c0_
  have HR := r_
  have BX := x_
  have B2 := y_
  have HB := b_
  clear r_ x_ y_ b_
  generalize w9.setCell ⟨gx, 0, none⟩ (.int .u8 5) = w10 at *
  have c0_ := zcf8 BX.out
  go_wp2_with (first | (go_at_call 76; refine (err_calls g _ _ _ qW2x7).mono ?_; rintro e w9 ⟨rfl, rfl⟩) | (go_at_call 77; refine (request_Decode.ord_calls _ _).mono ?_; rw [ko]; rintro e w9 ⟨rfl, rfl⟩) | (go_at_call 75; (with_reducible refine (request_Decode.num_calls3 (sz := 1) (size := 1) ?h1 E2 ?h2 ?h3 hw1 ?h4).mono ?_); (case h1 => rfl); (case h2 => omega); (case h3 => omega); (case h4 => exact qW2x7); rintro e w9 ⟨rfl, hR, hG⟩; have r_ := Aside0.mk hR; have x_ : Aside0 (w9.heap[gx]? = some (.cells #[.int .u8 5, .int .u32 0, .int .u8 0, .slice none 0 0, .int .u8 0, .int .u8 0, .int .u8 0, .int .i64 0] 78 (0, 0))) := qW2x3; have y_ : Aside0 (w9.heap[w.heap.size]? = some (.cells #[.int .u8 0, .int .u32 0, .int .u8 0, .slice none 0 0, .int .u8 0, .int .u8 0, .int .u8 0, .int .i64 0] 78 (0, 0))) := qW2x2; have b_ : Aside0 (Below w.heap.size w w9) := qW2x1; clear HR BX B2 HB hR hG c0_; have HR := r_; have BX := x_; have B2 := y_; have HB := b_; clear r_ x_ y_ b_; have c0_ := zcf8 BX.out))
  have r_ := qW2x19
  have x_ : Aside0 ((w9.setCell ⟨gx, 4, none⟩ (.int .u8 (p % 256))).heap[gx]? = some (.cells #[.int .u8 5, .int .u32 0, .int .u8 0, .slice none 0 0, .int .u8 (p % 256), .int .u8 0, .int .u8 0, .int .i64 0] 78 (0, 0))) := Aside0.mk (blk_set BX.out 4 _)
  have y_ := qW2x17
  have b_ := qW2x18
  clear HR BX B2 HB c0_
  have HR := r_
  have BX := x_
  have B2 := y_
  have HB := b_
  clear r_ x_ y_ b_
  generalize w9.setCell ⟨gx, 4, none⟩ (.int .u8 (p % 256)) = w11 at *
  have c0_ := zcf8 BX.out
  go_wp2_with (first | (go_at_call 79; refine (request_Decode.mov_calls _ _).mono ?_; rw [km]; rintro e w9 ⟨rfl, rfl⟩) | (go_at_call 75; (with_reducible refine (request_Decode.num_calls3 (sz := 1) (size := 1) ?h1 E3 ?h2 ?h3 hw2 ?h4).mono ?_); (case h1 => rfl); (case h2 => omega); (case h3 => omega); (case h4 => exact qW2x7); rintro e w9 ⟨rfl, hR, hG⟩; have r_ := Aside0.mk hR; have x_ : Aside0 (w9.heap[gx]? = some (.cells #[.int .u8 5, .int .u32 0, .int .u8 0, .slice none 0 0, .int .u8 (p % 256), .int .u8 0, .int .u8 0, .int .i64 0] 78 (0, 0))) := qW2x3; have y_ : Aside0 (w9.heap[w.heap.size]? = some (.cells #[.int .u8 0, .int .u32 0, .int .u8 0, .slice none 0 0, .int .u8 0, .int .u8 0, .int .u8 0, .int .i64 0] 78 (0, 0))) := qW2x2; have b_ : Aside0 (Below w.heap.size w w9) := qW2x1; clear HR BX B2 HB hR hG c0_; have HR := r_; have BX := x_; have B2 := y_; have HB := b_; clear r_ x_ y_ b_; have c0_ := zcf8 BX.out) | (go_at_call 78; refine (int_calls2 E4 hw3 qW2x7).mono ?_; rintro e w9 ⟨rfl, hR, hG⟩; have r_ := Aside0.mk hR; have x_ : Aside0 (w9.heap[gx]? = some (.cells #[.int .u8 5, .int .u32 0, .int .u8 0, .slice none 0 0, .int .u8 (p % 256), .int .u8 0, .int .u8 0, .int .i64 0] 78 (0, 0))) := qW2x3; have y_ : Aside0 (w9.heap[w.heap.size]? = some (.cells #[.int .u8 0, .int .u32 0, .int .u8 0, .slice none 0 0, .int .u8 0, .int .u8 0, .int .u8 0, .int .i64 0] 78 (0, 0))) := qW2x2; have b_ : Aside0 (Below w.heap.size w w9) := qW2x1; clear HR BX B2 HB hR hG c0_; have HR := r_; have BX := x_; have B2 := y_; have HB := b_; clear r_ x_ y_ b_; have c0_ := zcf8 BX.out))
  have r_ := Aside0.mk ((HR.out.far HGX.out (p := ⟨gx, 6, none⟩) (.int .u8 (sd % 256))).far HGX.out (p := ⟨gx, 7, none⟩) (.int .i64 (wrap64 xx)))
  have x_ : Aside0 (((w9.setCell ⟨gx, 6, none⟩ (.int .u8 (sd % 256))).setCell ⟨gx, 7, none⟩ (.int .i64 (wrap64 xx))).heap[gx]? = some (.cells #[.int .u8 5, .int .u32 0, .int .u8 0, .slice none 0 0, .int .u8 (p % 256), .int .u8 0, .int .u8 (sd % 256), .int .i64 (wrap64 xx)] 78 (0, 0))) := Aside0.mk (blk_set (blk_set BX.out 6 _) 7 _)
  have y_ := Aside0.mk (blk_far (blk_far B2.out (p := ⟨gx, 6, none⟩) qW2x5 (.int .u8 (sd % 256))) (p := ⟨gx, 7, none⟩) qW2x5 (.int .i64 (wrap64 xx)))
  have b_ := Aside0.mk ((HB.out.setCell (p := ⟨gx, 6, none⟩) qW2x8 (.int .u8 (sd % 256))).setCell (p := ⟨gx, 7, none⟩) qW2x8 (.int .i64 (wrap64 xx)))
  clear HR BX B2 HB c0_
  have HR := r_
  have BX := x_
  have B2 := y_
  have HB := b_
  clear r_ x_ y_ b_
  generalize (w9.setCell ⟨gx, 6, none⟩ (.int .u8 (sd % 256))).setCell ⟨gx, 7, none⟩ (.int .i64 (wrap64 xx)) = w20 at *
  have c0_ := zcf8 BX.out
  have d0_ := zcf8 B2.out
  have hgne : ¬ (w.heap.size = gx) := by have h1_ := HGX.out; have h2_ := HG2.out; omega
  have hgne2 : ¬ (gx = w.heap.size) := by have h1_ := HGX.out; have h2_ := HG2.out; omega
  have hend := end_calls g er4 b4 w20 HR.out
  rw [← HE.out] at hend
  by_cases hz : ee = 0
  · subst hz
    go_wp2_with (first | (go_at_call 80; refine hend.mono ?_; rintro e w9 ⟨rfl, rfl⟩))
    refine bodyPost_ret (results_ct rfl _ _ w.heap.size 78 #[.int .u8 5, .int .u32 0, .int .u8 0, .slice none 0 0, .int .u8 (p % 256), .int .u8 0, .int .u8 (sd % 256), .int .i64 (wrap64 xx)] (0, 0) _ rfl (zQ B2.out) Tryd.underlying78 rfl qW2x12) rfl ?_
    exact ⟨.slice none 0 0, by first | rfl | (simp [hz]; done) | (simp [hzz.out]; done), Kd.R_nil _ _ _ _ _, qW2x9⟩
  have hzb : (ee == 0) = false := beq_eq_false_iff_ne.2 hz
  have hzb2 : (ee != 0) = true := bne_iff_ne.2 hz
  go_wp2_with (first | (go_at_call 80; refine hend.mono ?_; rintro e w9 ⟨rfl, rfl⟩))
  refine bodyPost_ret (results_ct rfl _ _ w.heap.size 78 #[.int .u8 0, .int .u32 0, .int .u8 0, .slice none 0 0, .int .u8 0, .int .u8 0, .int .u8 0, .int .i64 0] (0, 0) _ rfl (zQ B2.out) Tryd.underlying78 rfl qW2x12) rfl ?_
  exact ⟨.slice none 0 0, by first | rfl | (simp [hz]; done) | (simp [hzz.out]; done), Kd.R_nil _ _ _ _ _, qW2x9⟩
set_option maxHeartbeats 8000000 in
set_option maxRecDepth 100000 in
theorem request_Decode.dec_p6 (A0 : Option Addr) (c0 : Nat) (bs : List Int) (hl : bs.length ≤ 1000000) (hc0 : bs.length ≤ c0) (hwf : ∀ b ∈ bs, 0 ≤ b ∧ b < 256) (w : World) (hC : Kd.C (Kd.int .u8) w A0 bs.length bs) {er1 p er2 q er3 : Int} {b1 b2 b3 : List Int} {sd er4 xx er5 : Int} {b4 b5 : List Int} (E1 : rNum 1 (0, bs) = (6, (er1, b1))) (E2 : rNum 1 (er1, b1) = (p, (er2, b2))) (he : er1 = 0) (E3 : rNum 1 (er2, b2) = (q, (er3, b3))) (E4 : rNum 1 (er3, b3) = (sd, (er4, b4))) (E5 : rNum 8 (er4, b4) = (xx, (er5, b5))) :
    Calls Tryd.prog 50 #[.slice A0 bs.length c0] w fun e w' => ∃ v3_ : Value, e = .returned (.tuple #[.agg (if rEnd (er5, b5) = 0 then #[.int .u8 6, .int .u32 0, .int .u8 0, v3_, .int .u8 (p % 256), .int .u8 (q % 256), .int .u8 (sd % 256), .int .i64 (wrap64 xx)] else #[.int .u8 0, .int .u32 0, .int .u8 0, v3_, .int .u8 0, .int .u8 0, .int .u8 0, .int .i64 0]), .int .i64 (rEnd (er5, b5))]) ∧ Kd.R k109 109 w' w.heap.size (fun _ => True) v3_ [] ∧ Below w.heap.size w w' := by
  have hread := read_calls A0 c0 bs hl hc0 _ (Kd.C_alloc hC (.cells #[.int .u8 0, .int .u32 0, .int .u8 0, .slice none 0 0, .int .u8 0, .int .u8 0, .int .u8 0, .int .i64 0] 78))
  have hw1 := rNum_wf E1 hwf
  have hw2 := rNum_wf E2 hw1
  have hw3 := rNum_wf E3 hw2
  have hw4 := rNum_wf E4 hw3
  have hw5 := rNum_wf E5 hw4
  subst he
  have ko : request_Decode.ordF 6 = false := rfl
  have km : request_Decode.movF 6 = true := rfl
  obtain ⟨ee, hee⟩ : ∃ ee, ee = rEnd (er5, b5) := ⟨_, rfl⟩
  rw [← hee]
  have HE := Aside0.mk hee
  clear hC hee
  go_enter Tryd.func50, Tryd.ntmps50
  go_wp2_with (first | (go_at_call 74; refine hread.mono ?_; rintro e w1 ⟨g, rfl, hR, hge, hb⟩))
  have hge2 : w.heap.size < g := by simp at hge; omega
  have BX := qW2x10
  have B2 := qW2x4
  have HGX := Aside0.mk hR.lt
  have HG2 := Aside0.mk hge2
  have HB := qW2x6
  have HR := qW2x11
  clear hR hb hge hge2
  generalize hgx : w1.heap.size = gx at *
  generalize w1.alloc (.cells #[.int .u8 0, .int .u32 0, .int .u8 0, .slice none 0 0, .int .u8 0, .int .u8 0, .int .u8 0, .int .i64 0] 78) = w2 at *
  clear hgx hread
  have c0_ := zcf8 BX.out
  go_wp2_with (first | (go_at_call 75; (with_reducible refine (request_Decode.num_calls3 (sz := 1) (size := 1) ?h1 E1 ?h2 ?h3 hwf ?h4).mono ?_); (case h1 => rfl); (case h2 => omega); (case h3 => omega); (case h4 => exact qW2x7); rintro e w9 ⟨rfl, hR, hG⟩; have r_ := Aside0.mk hR; have x_ : Aside0 (w9.heap[gx]? = some (.cells #[.int .u8 0, .int .u32 0, .int .u8 0, .slice none 0 0, .int .u8 0, .int .u8 0, .int .u8 0, .int .i64 0] 78 (0, 0))) := qW2x3; have y_ : Aside0 (w9.heap[w.heap.size]? = some (.cells #[.int .u8 0, .int .u32 0, .int .u8 0, .slice none 0 0, .int .u8 0, .int .u8 0, .int .u8 0, .int .i64 0] 78 (0, 0))) := qW2x2; have b_ : Aside0 (Below w.heap.size w w9) := qW2x1; clear HR BX B2 HB hR hG c0_; have HR := r_; have BX := x_; have B2 := y_; have HB := b_; clear r_ x_ y_ b_; have c0_ := zcf8 BX.out))
  have r_ := Aside0.mk (HR.out.far HGX.out (p := ⟨gx, 0, none⟩) (.int .u8 6))
  have x_ : Aside0 ((w9.setCell ⟨gx, 0, none⟩ (.int .u8 6)).heap[gx]? = some (.cells #[.int .u8 6, .int .u32 0, .int .u8 0, .slice none 0 0, .int .u8 0, .int .u8 0, .int .u8 0, .int .i64 0] 78 (0, 0))) := qW2x13
  have y_ := Aside0.mk (blk_far B2.out (p := ⟨gx, 0, none⟩) qW2x5 (.int .u8 6))
  have b_ := Aside0.mk (HB.out.setCell (p := ⟨gx, 0, none⟩) qW2x8 (.int .u8 6))
  clear HR BX B2 HB c0_
  have HR := r_
  have BX := x_
  have B2 := y_
  have HB := b_
  clear r_ x_ y_ b_
  generalize w9.setCell ⟨gx, 0, none⟩ (.int .u8 6) = w10 at *
  have c0_ := zcf8 BX.out
  go_wp2_with (first | (go_at_call 76; refine (err_calls g _ _ _ qW2x7).mono ?_; rintro e w9 ⟨rfl, rfl⟩) | (go_at_call 77; refine (request_Decode.ord_calls _ _).mono ?_; rw [ko]; rintro e w9 ⟨rfl, rfl⟩) | (go_at_call 75; (with_reducible refine (request_Decode.num_calls3 (sz := 1) (size := 1) ?h1 E2 ?h2 ?h3 hw1 ?h4).mono ?_); (case h1 => rfl); (case h2 => omega); (case h3 => omega); (case h4 => exact qW2x7); rintro e w9 ⟨rfl, hR, hG⟩; have r_ := Aside0.mk hR; have x_ : Aside0 (w9.heap[gx]? = some (.cells #[.int .u8 6, .int .u32 0, .int .u8 0, .slice none 0 0, .int .u8 0, .int .u8 0, .int .u8 0, .int .i64 0] 78 (0, 0))) := qW2x3; have y_ : Aside0 (w9.heap[w.heap.size]? = some (.cells #[.int .u8 0, .int .u32 0, .int .u8 0, .slice none 0 0, .int .u8 0, .int .u8 0, .int .u8 0, .int .i64 0] 78 (0, 0))) := qW2x2; have b_ : Aside0 (Below w.heap.size w w9) := qW2x1; clear HR BX B2 HB hR hG c0_; have HR := r_; have BX := x_; have B2 := y_; have HB := b_; clear r_ x_ y_ b_; have c0_ := zcf8 BX.out))
  have r_ := qW2x19
  have x_ : Aside0 ((w9.setCell ⟨gx, 4, none⟩ (.int .u8 (p % 256))).heap[gx]? = some (.cells #[.int .u8 6, .int .u32 0, .int .u8 0, .slice none 0 0, .int .u8 (p % 256), .int .u8 0, .int .u8 0, .int .i64 0] 78 (0, 0))) := Aside0.mk (blk_set BX.out 4 _)
  have y_ := qW2x17
  have b_ := qW2x18
  clear HR BX B2 HB c0_
  have HR := r_
  have BX := x_
  have B2 := y_
  have HB := b_
  clear r_ x_ y_ b_
  generalize w9.setCell ⟨gx, 4, none⟩ (.int .u8 (p % 256)) = w11 at *
  have c0_ := zcf8 BX.out
  go_wp2_with (first | (go_at_call 75; (with_reducible refine (request_Decode.num_calls3 (sz := 1) (size := 1) ?h1 E3 ?h2 ?h3 hw2 ?h4).mono ?_); (case h1 => rfl); (case h2 => omega); (case h3 => omega); (case h4 => exact qW2x7); rintro e w9 ⟨rfl, hR, hG⟩; have r_ := Aside0.mk hR; have x_ : Aside0 (w9.heap[gx]? = some (.cells #[.int .u8 6, .int .u32 0, .int .u8 0, .slice none 0 0, .int .u8 (p % 256), .int .u8 0, .int .u8 0, .int .i64 0] 78 (0, 0))) := qW2x3; have y_ : Aside0 (w9.heap[w.heap.size]? = some (.cells #[.int .u8 0, .int .u32 0, .int .u8 0, .slice none 0 0, .int .u8 0, .int .u8 0, .int .u8 0, .int .i64 0] 78 (0, 0))) := qW2x2; have b_ : Aside0 (Below w.heap.size w w9) := qW2x1; clear HR BX B2 HB hR hG c0_; have HR := r_; have BX := x_; have B2 := y_; have HB := b_; clear r_ x_ y_ b_; have c0_ := zcf8 BX.out))
  have r_ := Aside0.mk (HR.out.far HGX.out (p := ⟨gx, 5, none⟩) (.int .u8 (q % 256)))
  have x_ : Aside0 ((w9.setCell ⟨gx, 5, none⟩ (.int .u8 (q % 256))).heap[gx]? = some (.cells #[.int .u8 6, .int .u32 0, .int .u8 0, .slice none 0 0, .int .u8 (p % 256), .int .u8 (q % 256), .int .u8 0, .int .i64 0] 78 (0, 0))) := Aside0.mk (blk_set BX.out 5 _)
  have y_ := Aside0.mk (blk_far B2.out (p := ⟨gx, 5, none⟩) qW2x5 (.int .u8 (q % 256)))
  have b_ := Aside0.mk (HB.out.setCell (p := ⟨gx, 5, none⟩) qW2x8 (.int .u8 (q % 256)))
  clear HR BX B2 HB c0_
  have HR := r_
  have BX := x_
  have B2 := y_
  have HB := b_
  clear r_ x_ y_ b_
  generalize w9.setCell ⟨gx, 5, none⟩ (.int .u8 (q % 256)) = w12 at *
  have c0_ := zcf8 BX.out
  go_wp2_with (first | (go_at_call 79; refine (request_Decode.mov_calls _ _).mono ?_; rw [km]; rintro e w9 ⟨rfl, rfl⟩) | (go_at_call 75; (with_reducible refine (request_Decode.num_calls3 (sz := 1) (size := 1) ?h1 E4 ?h2 ?h3 hw3 ?h4).mono ?_); (case h1 => rfl); (case h2 => omega); (case h3 => omega); (case h4 => exact qW2x7); rintro e w9 ⟨rfl, hR, hG⟩; have r_ := Aside0.mk hR; have x_ : Aside0 (w9.heap[gx]? = some (.cells #[.int .u8 6, .int .u32 0, .int .u8 0, .slice none 0 0, .int .u8 (p % 256), .int .u8 (q % 256), .int .u8 0, .int .i64 0] 78 (0, 0))) := qW2x3; have y_ : Aside0 (w9.heap[w.heap.size]? = some (.cells #[.int .u8 0, .int .u32 0, .int .u8 0, .slice none 0 0, .int .u8 0, .int .u8 0, .int .u8 0, .int .i64 0] 78 (0, 0))) := qW2x2; have b_ : Aside0 (Below w.heap.size w w9) := qW2x1; clear HR BX B2 HB hR hG c0_; have HR := r_; have BX := x_; have B2 := y_; have HB := b_; clear r_ x_ y_ b_; have c0_ := zcf8 BX.out) | (go_at_call 78; refine (int_calls2 E5 hw4 qW2x7).mono ?_; rintro e w9 ⟨rfl, hR, hG⟩; have r_ := Aside0.mk hR; have x_ : Aside0 (w9.heap[gx]? = some (.cells #[.int .u8 6, .int .u32 0, .int .u8 0, .slice none 0 0, .int .u8 (p % 256), .int .u8 (q % 256), .int .u8 0, .int .i64 0] 78 (0, 0))) := qW2x3; have y_ : Aside0 (w9.heap[w.heap.size]? = some (.cells #[.int .u8 0, .int .u32 0, .int .u8 0, .slice none 0 0, .int .u8 0, .int .u8 0, .int .u8 0, .int .i64 0] 78 (0, 0))) := qW2x2; have b_ : Aside0 (Below w.heap.size w w9) := qW2x1; clear HR BX B2 HB hR hG c0_; have HR := r_; have BX := x_; have B2 := y_; have HB := b_; clear r_ x_ y_ b_; have c0_ := zcf8 BX.out))
  have r_ := Aside0.mk ((HR.out.far HGX.out (p := ⟨gx, 6, none⟩) (.int .u8 (sd % 256))).far HGX.out (p := ⟨gx, 7, none⟩) (.int .i64 (wrap64 xx)))
  have x_ : Aside0 (((w9.setCell ⟨gx, 6, none⟩ (.int .u8 (sd % 256))).setCell ⟨gx, 7, none⟩ (.int .i64 (wrap64 xx))).heap[gx]? = some (.cells #[.int .u8 6, .int .u32 0, .int .u8 0, .slice none 0 0, .int .u8 (p % 256), .int .u8 (q % 256), .int .u8 (sd % 256), .int .i64 (wrap64 xx)] 78 (0, 0))) := Aside0.mk (blk_set (blk_set BX.out 6 _) 7 _)
  have y_ := Aside0.mk (blk_far (blk_far B2.out (p := ⟨gx, 6, none⟩) qW2x5 (.int .u8 (sd % 256))) (p := ⟨gx, 7, none⟩) qW2x5 (.int .i64 (wrap64 xx)))
  have b_ := Aside0.mk ((HB.out.setCell (p := ⟨gx, 6, none⟩) qW2x8 (.int .u8 (sd % 256))).setCell (p := ⟨gx, 7, none⟩) qW2x8 (.int .i64 (wrap64 xx)))
  clear HR BX B2 HB c0_
  have HR := r_
  have BX := x_
  have B2 := y_
  have HB := b_
  clear r_ x_ y_ b_
  generalize (w9.setCell ⟨gx, 6, none⟩ (.int .u8 (sd % 256))).setCell ⟨gx, 7, none⟩ (.int .i64 (wrap64 xx)) = w20 at *
  have c0_ := zcf8 BX.out
  have d0_ := zcf8 B2.out
  have hgne : ¬ (w.heap.size = gx) := by have h1_ := HGX.out; have h2_ := HG2.out; omega
  have hgne2 : ¬ (gx = w.heap.size) := by have h1_ := HGX.out; have h2_ := HG2.out; omega
  have hend := end_calls g er5 b5 w20 HR.out
  rw [← HE.out] at hend
  by_cases hz : ee = 0
  · subst hz
    go_wp2_with (first | (go_at_call 80; refine hend.mono ?_; rintro e w9 ⟨rfl, rfl⟩))
    refine bodyPost_ret (results_ct rfl _ _ w.heap.size 78 #[.int .u8 6, .int .u32 0, .int .u8 0, .slice none 0 0, .int .u8 (p % 256), .int .u8 (q % 256), .int .u8 (sd % 256), .int .i64 (wrap64 xx)] (0, 0) _ rfl (zQ B2.out) Tryd.underlying78 rfl qW2x12) rfl ?_
    exact ⟨.slice none 0 0, by first | rfl | (simp [hz]; done) | (simp [hzz.out]; done), Kd.R_nil _ _ _ _ _, qW2x9⟩
  have hzb : (ee == 0) = false := beq_eq_false_iff_ne.2 hz
  have hzb2 : (ee != 0) = true := bne_iff_ne.2 hz
  go_wp2_with (first | (go_at_call 80; refine hend.mono ?_; rintro e w9 ⟨rfl, rfl⟩))
  refine bodyPost_ret (results_ct rfl _ _ w.heap.size 78 #[.int .u8 0, .int .u32 0, .int .u8 0, .slice none 0 0, .int .u8 0, .int .u8 0, .int .u8 0, .int .i64 0] (0, 0) _ rfl (zQ B2.out) Tryd.underlying78 rfl qW2x12) rfl ?_
  exact ⟨.slice none 0 0, by first | rfl | (simp [hz]; done) | (simp [hzz.out]; done), Kd.R_nil _ _ _ _ _, qW2x9⟩
set_option maxHeartbeats 8000000 in
set_option maxRecDepth 100000 in
theorem request_Decode.dec_p0 (A0 : Option Addr) (c0 : Nat) (bs : List Int) (hl : bs.length ≤ 1000000) (hc0 : bs.length ≤ c0) (hwf : ∀ b ∈ bs, 0 ≤ b ∧ b < 256) (w : World) (hC : Kd.C (Kd.int .u8) w A0 bs.length bs) {er1 : Int} {b1 : List Int} (E1 : rNum 1 (0, bs) = (0, (er1, b1))) (he : er1 ≠ 0) :
    Calls Tryd.prog 50 #[.slice A0 bs.length c0] w fun e w' => ∃ v3_ : Value, e = .returned (.tuple #[.agg (#[.int .u8 0, .int .u32 0, .int .u8 0, v3_, .int .u8 0, .int .u8 0, .int .u8 0, .int .i64 0]), .int .i64 er1]) ∧ Kd.R k109 109 w' w.heap.size (fun _ => True) v3_ [] ∧ Below w.heap.size w w' := by
  have hread := read_calls A0 c0 bs hl hc0 _ (Kd.C_alloc hC (.cells #[.int .u8 0, .int .u32 0, .int .u8 0, .slice none 0 0, .int .u8 0, .int .u8 0, .int .u8 0, .int .i64 0] 78))
  have hw1 := rNum_wf E1 hwf
  have E2 : rNum 1 (er1, b1) = (0, (er1, b1)) := by simp [rNum, he]
  have ko : request_Decode.ordF 0 = false := rfl
  have km : request_Decode.movF 0 = false := rfl
  have heb : (er1 == 0) = false := beq_eq_false_iff_ne.2 he
  obtain ⟨ee, hee⟩ : ∃ ee, ee = rEnd (er1, b1) := ⟨_, rfl⟩
  have hee2 : ee = er1 := by rw [hee]; simp [rEnd, he]
  rw [← hee2]
  have hzz := Aside0.mk hee2
  have HE := Aside0.mk hee
  clear hC hee
  go_enter Tryd.func50, Tryd.ntmps50
  go_wp2_with (first | (go_at_call 74; refine hread.mono ?_; rintro e w1 ⟨g, rfl, hR, hge, hb⟩))
  have hge2 : w.heap.size < g := by simp at hge; omega
  have BX := qW2x10
  have B2 := qW2x4
  have HGX := Aside0.mk hR.lt
  have HG2 := Aside0.mk hge2
  have HB := qW2x6
  have HR := qW2x11
  clear hR hb hge hge2
  generalize hgx : w1.heap.size = gx at *
  generalize w1.alloc (.cells #[.int .u8 0, .int .u32 0, .int .u8 0, .slice none 0 0, .int .u8 0, .int .u8 0, .int .u8 0, .int .i64 0] 78) = w2 at *
  clear hgx hread
  have c0_ := zcf8 BX.out
  go_wp2_with (first | (go_at_call 75; (with_reducible refine (request_Decode.num_calls3 (sz := 1) (size := 1) ?h1 E1 ?h2 ?h3 hwf ?h4).mono ?_); (case h1 => rfl); (case h2 => omega); (case h3 => omega); (case h4 => exact qW2x7); rintro e w9 ⟨rfl, hR, hG⟩; have r_ := Aside0.mk hR; have x_ : Aside0 (w9.heap[gx]? = some (.cells #[.int .u8 0, .int .u32 0, .int .u8 0, .slice none 0 0, .int .u8 0, .int .u8 0, .int .u8 0, .int .i64 0] 78 (0, 0))) := qW2x3; have y_ : Aside0 (w9.heap[w.heap.size]? = some (.cells #[.int .u8 0, .int .u32 0, .int .u8 0, .slice none 0 0, .int .u8 0, .int .u8 0, .int .u8 0, .int .i64 0] 78 (0, 0))) := qW2x2; have b_ : Aside0 (Below w.heap.size w w9) := qW2x1; clear HR BX B2 HB hR hG c0_; have HR := r_; have BX := x_; have B2 := y_; have HB := b_; clear r_ x_ y_ b_; have c0_ := zcf8 BX.out))
  have r_ := Aside0.mk (HR.out.far HGX.out (p := ⟨gx, 0, none⟩) (.int .u8 0))
  have x_ : Aside0 ((w9.setCell ⟨gx, 0, none⟩ (.int .u8 0)).heap[gx]? = some (.cells #[.int .u8 0, .int .u32 0, .int .u8 0, .slice none 0 0, .int .u8 0, .int .u8 0, .int .u8 0, .int .i64 0] 78 (0, 0))) := qW2x13
  have y_ := Aside0.mk (blk_far B2.out (p := ⟨gx, 0, none⟩) qW2x5 (.int .u8 0))
  have b_ := Aside0.mk (HB.out.setCell (p := ⟨gx, 0, none⟩) qW2x8 (.int .u8 0))
  clear HR BX B2 HB c0_
  have HR := r_
  have BX := x_
  have B2 := y_
  have HB := b_
  clear r_ x_ y_ b_
  generalize w9.setCell ⟨gx, 0, none⟩ (.int .u8 0) = w10 at *
  have c0_ := zcf8 BX.out
  go_wp2_with (first | (go_at_call 76; refine (err_calls g _ _ _ qW2x7).mono ?_; rintro e w9 ⟨rfl, rfl⟩) | (go_at_call 77; refine (request_Decode.ord_calls _ _).mono ?_; rw [ko]; rintro e w9 ⟨rfl, rfl⟩) | (go_at_call 75; (with_reducible refine (request_Decode.num_calls3 (sz := 1) (size := 1) ?h1 E2 ?h2 ?h3 hw1 ?h4).mono ?_); (case h1 => rfl); (case h2 => omega); (case h3 => omega); (case h4 => exact qW2x7); rintro e w9 ⟨rfl, hR, hG⟩; have r_ := Aside0.mk hR; have x_ : Aside0 (w9.heap[gx]? = some (.cells #[.int .u8 0, .int .u32 0, .int .u8 0, .slice none 0 0, .int .u8 0, .int .u8 0, .int .u8 0, .int .i64 0] 78 (0, 0))) := qW2x3; have y_ : Aside0 (w9.heap[w.heap.size]? = some (.cells #[.int .u8 0, .int .u32 0, .int .u8 0, .slice none 0 0, .int .u8 0, .int .u8 0, .int .u8 0, .int .i64 0] 78 (0, 0))) := qW2x2; have b_ : Aside0 (Below w.heap.size w w9) := qW2x1; clear HR BX B2 HB hR hG c0_; have HR := r_; have BX := x_; have B2 := y_; have HB := b_; clear r_ x_ y_ b_; have c0_ := zcf8 BX.out))
  have r_ := Aside0.mk (HR.out.far HGX.out (p := ⟨gx, 4, none⟩) (.int .u8 0))
  have x_ : Aside0 ((w9.setCell ⟨gx, 4, none⟩ (.int .u8 0)).heap[gx]? = some (.cells #[.int .u8 0, .int .u32 0, .int .u8 0, .slice none 0 0, .int .u8 0, .int .u8 0, .int .u8 0, .int .i64 0] 78 (0, 0))) := Aside0.mk (blk_set BX.out 4 _)
  have y_ := Aside0.mk (blk_far B2.out (p := ⟨gx, 4, none⟩) qW2x5 (.int .u8 0))
  have b_ := Aside0.mk (HB.out.setCell (p := ⟨gx, 4, none⟩) qW2x8 (.int .u8 0))
  clear HR BX B2 HB c0_
  have HR := r_
  have BX := x_
  have B2 := y_
  have HB := b_
  clear r_ x_ y_ b_
  generalize w9.setCell ⟨gx, 4, none⟩ (.int .u8 0) = w11 at *
  have c0_ := zcf8 BX.out
  have d0_ := zcf8 B2.out
  have hgne : ¬ (w.heap.size = gx) := by have h1_ := HGX.out; have h2_ := HG2.out; omega
  have hgne2 : ¬ (gx = w.heap.size) := by have h1_ := HGX.out; have h2_ := HG2.out; omega
  have hend := end_calls g er1 b1 w11 HR.out
  rw [← HE.out] at hend
  have hz : ¬ (ee = 0) := by rw [hzz.out]; exact he
  have hzb : (ee == 0) = false := beq_eq_false_iff_ne.2 hz
  have hzb2 : (ee != 0) = true := bne_iff_ne.2 hz
  go_wp2_with (first | (go_at_call 79; refine (request_Decode.mov_calls _ _).mono ?_; rw [km]; rintro e w9 ⟨rfl, rfl⟩) | (go_at_call 80; refine hend.mono ?_; rintro e w9 ⟨rfl, rfl⟩))
  refine bodyPost_ret (results_ct rfl _ _ w.heap.size 78 #[.int .u8 0, .int .u32 0, .int .u8 0, .slice none 0 0, .int .u8 0, .int .u8 0, .int .u8 0, .int .i64 0] (0, 0) _ rfl (zQ B2.out) Tryd.underlying78 rfl qW2x12) rfl ?_
  exact ⟨.slice none 0 0, by first | rfl | (simp [hz]; done) | (simp [hzz.out]; done), Kd.R_nil _ _ _ _ _, qW2x9⟩
set_option maxHeartbeats 8000000 in
set_option maxRecDepth 100000 in
theorem request_Decode.dec_p1big (A0 : Option Addr) (c0 : Nat) (bs : List Int) (hl : bs.length ≤ 1000000) (hc0 : bs.length ≤ c0) (hwf : ∀ b ∈ bs, 0 ≤ b ∧ b < 256) (w : World) (hC : Kd.C (Kd.int .u8) w A0 bs.length bs) {er1 o er2 p er3 n er4 : Int} {b1 b2 b3 b4 : List Int} (E1 : rNum 1 (0, bs) = (1, (er1, b1))) (E2 : rNum 4 (er1, b1) = (o, (er2, b2))) (E3 : rNum 1 (er2, b2) = (p, (er3, b3))) (E4 : rNum 1 (er3, b3) = (n, (er4, b4))) (he : er1 = 0) (hn : 3 < n) (hn2 : n < 256) :
    Calls Tryd.prog 50 #[.slice A0 bs.length c0] w fun e w' => ∃ v3_ : Value, e = .returned (.tuple #[.agg (#[.int .u8 0, .int .u32 0, .int .u8 0, v3_, .int .u8 0, .int .u8 0, .int .u8 0, .int .i64 0]), .int .i64 8]) ∧ Kd.R k109 109 w' w.heap.size (fun _ => True) v3_ [] ∧ Below w.heap.size w w' := by
  have hread := read_calls A0 c0 bs hl hc0 _ (Kd.C_alloc hC (.cells #[.int .u8 0, .int .u32 0, .int .u8 0, .slice none 0 0, .int .u8 0, .int .u8 0, .int .u8 0, .int .i64 0] 78))
  have hw1 := rNum_wf E1 hwf
  have hw2 := rNum_wf E2 hw1
  have hw3 := rNum_wf E3 hw2
  have hw4 := rNum_wf E4 hw3
  subst he
  have ko : request_Decode.ordF 1 = true := rfl
  have nw : IntKind.i64.wrap n = n := by rw [IntKind.wrap_i64]; omega
  have nw2 : wrap64 n = n := by simp only [wrap64]; omega
  obtain ⟨ee, hee⟩ : ∃ ee, ee = (8 : Int) := ⟨_, rfl⟩
  have HE := Aside0.mk hee
  clear hC hee
  go_enter Tryd.func50, Tryd.ntmps50
  go_wp2_with (first | (go_at_call 74; refine hread.mono ?_; rintro e w1 ⟨g, rfl, hR, hge, hb⟩))
  have hge2 : w.heap.size < g := by simp at hge; omega
  have BX := qW2x10
  have B2 := qW2x4
  have HGX := Aside0.mk hR.lt
  have HG2 := Aside0.mk hge2
  have HB := qW2x6
  have HR := qW2x11
  clear hR hb hge hge2
  generalize hgx : w1.heap.size = gx at *
  generalize w1.alloc (.cells #[.int .u8 0, .int .u32 0, .int .u8 0, .slice none 0 0, .int .u8 0, .int .u8 0, .int .u8 0, .int .i64 0] 78) = w2 at *
  clear hgx hread
  have c0_ := zcf8 BX.out
  go_wp2_with (first | (go_at_call 75; (with_reducible refine (request_Decode.num_calls3 (sz := 1) (size := 1) ?h1 E1 ?h2 ?h3 hwf ?h4).mono ?_); (case h1 => rfl); (case h2 => omega); (case h3 => omega); (case h4 => exact qW2x7); rintro e w9 ⟨rfl, hR, hG⟩; have r_ := Aside0.mk hR; have x_ : Aside0 (w9.heap[gx]? = some (.cells #[.int .u8 0, .int .u32 0, .int .u8 0, .slice none 0 0, .int .u8 0, .int .u8 0, .int .u8 0, .int .i64 0] 78 (0, 0))) := qW2x3; have y_ : Aside0 (w9.heap[w.heap.size]? = some (.cells #[.int .u8 0, .int .u32 0, .int .u8 0, .slice none 0 0, .int .u8 0, .int .u8 0, .int .u8 0, .int .i64 0] 78 (0, 0))) := qW2x2; have b_ : Aside0 (Below w.heap.size w w9) := qW2x1; clear HR BX B2 HB hR hG c0_; have HR := r_; have BX := x_; have B2 := y_; have HB := b_; clear r_ x_ y_ b_; have c0_ := zcf8 BX.out))
  have r_ := Aside0.mk (HR.out.far HGX.out (p := ⟨gx, 0, none⟩) (.int .u8 1))
  have x_ : Aside0 ((w9.setCell ⟨gx, 0, none⟩ (.int .u8 1)).heap[gx]? = some (.cells #[.int .u8 1, .int .u32 0, .int .u8 0, .slice none 0 0, .int .u8 0, .int .u8 0, .int .u8 0, .int .i64 0] 78 (0, 0))) := qW2x13
  have y_ := Aside0.mk (blk_far B2.out (p := ⟨gx, 0, none⟩) qW2x5 (.int .u8 1))
  have b_ := Aside0.mk (HB.out.setCell (p := ⟨gx, 0, none⟩) qW2x8 (.int .u8 1))
  clear HR BX B2 HB c0_
  have HR := r_
  have BX := x_
  have B2 := y_
  have HB := b_
  clear r_ x_ y_ b_
  generalize w9.setCell ⟨gx, 0, none⟩ (.int .u8 1) = w10 at *
  have c0_ := zcf8 BX.out
  go_wp2_with (first | (go_at_call 76; refine (err_calls g _ _ _ qW2x7).mono ?_; rintro e w9 ⟨rfl, rfl⟩) | (go_at_call 77; refine (request_Decode.ord_calls _ _).mono ?_; rw [ko]; rintro e w9 ⟨rfl, rfl⟩) | (go_at_call 75; (with_reducible refine (request_Decode.num_calls3 (sz := 4) (size := 4) ?h1 E2 ?h2 ?h3 hw1 ?h4).mono ?_); (case h1 => rfl); (case h2 => omega); (case h3 => omega); (case h4 => exact qW2x7); rintro e w9 ⟨rfl, hR, hG⟩; have r_ := Aside0.mk hR; have x_ : Aside0 (w9.heap[gx]? = some (.cells #[.int .u8 1, .int .u32 0, .int .u8 0, .slice none 0 0, .int .u8 0, .int .u8 0, .int .u8 0, .int .i64 0] 78 (0, 0))) := qW2x3; have y_ : Aside0 (w9.heap[w.heap.size]? = some (.cells #[.int .u8 0, .int .u32 0, .int .u8 0, .slice none 0 0, .int .u8 0, .int .u8 0, .int .u8 0, .int .i64 0] 78 (0, 0))) := qW2x2; have b_ : Aside0 (Below w.heap.size w w9) := qW2x1; clear HR BX B2 HB hR hG c0_; have HR := r_; have BX := x_; have B2 := y_; have HB := b_; clear r_ x_ y_ b_; have c0_ := zcf8 BX.out))
  have r_ := qW2x16
  have x_ : Aside0 ((w9.setCell ⟨gx, 1, none⟩ (.int .u32 (o % 4294967296))).heap[gx]? = some (.cells #[.int .u8 1, .int .u32 (o % 4294967296), .int .u8 0, .slice none 0 0, .int .u8 0, .int .u8 0, .int .u8 0, .int .i64 0] 78 (0, 0))) := Aside0.mk (blk_set BX.out 1 _)
  have y_ := qW2x14
  have b_ := qW2x15
  clear HR BX B2 HB c0_
  have HR := r_
  have BX := x_
  have B2 := y_
  have HB := b_
  clear r_ x_ y_ b_
  generalize w9.setCell ⟨gx, 1, none⟩ (.int .u32 (o % 4294967296)) = w11 at *
  have c0_ := zcf8 BX.out
  go_wp2_with (first | (go_at_call 75; (with_reducible refine (request_Decode.num_calls3 (sz := 1) (size := 1) ?h1 E3 ?h2 ?h3 hw2 ?h4).mono ?_); (case h1 => rfl); (case h2 => omega); (case h3 => omega); (case h4 => exact qW2x7); rintro e w9 ⟨rfl, hR, hG⟩; have r_ := Aside0.mk hR; have x_ : Aside0 (w9.heap[gx]? = some (.cells #[.int .u8 1, .int .u32 (o % 4294967296), .int .u8 0, .slice none 0 0, .int .u8 0, .int .u8 0, .int .u8 0, .int .i64 0] 78 (0, 0))) := qW2x3; have y_ : Aside0 (w9.heap[w.heap.size]? = some (.cells #[.int .u8 0, .int .u32 0, .int .u8 0, .slice none 0 0, .int .u8 0, .int .u8 0, .int .u8 0, .int .i64 0] 78 (0, 0))) := qW2x2; have b_ : Aside0 (Below w.heap.size w w9) := qW2x1; clear HR BX B2 HB hR hG c0_; have HR := r_; have BX := x_; have B2 := y_; have HB := b_; clear r_ x_ y_ b_; have c0_ := zcf8 BX.out))
  have r_ := Aside0.mk (HR.out.far HGX.out (p := ⟨gx, 2, none⟩) (.int .u8 (p % 256)))
  have x_ : Aside0 ((w9.setCell ⟨gx, 2, none⟩ (.int .u8 (p % 256))).heap[gx]? = some (.cells #[.int .u8 1, .int .u32 (o % 4294967296), .int .u8 (p % 256), .slice none 0 0, .int .u8 0, .int .u8 0, .int .u8 0, .int .i64 0] 78 (0, 0))) := Aside0.mk (blk_set BX.out 2 _)
  have y_ := Aside0.mk (blk_far B2.out (p := ⟨gx, 2, none⟩) qW2x5 (.int .u8 (p % 256)))
  have b_ := Aside0.mk (HB.out.setCell (p := ⟨gx, 2, none⟩) qW2x8 (.int .u8 (p % 256)))
  clear HR BX B2 HB c0_
  have HR := r_
  have BX := x_
  have B2 := y_
  have HB := b_
  clear r_ x_ y_ b_
  generalize w9.setCell ⟨gx, 2, none⟩ (.int .u8 (p % 256)) = w12 at *
  have c0_ := zcf8 BX.out
  have d0_ := zcf8 B2.out
  have hgne : ¬ (w.heap.size = gx) := by have h1_ := HGX.out; have h2_ := HG2.out; omega
  have hgne2 : ¬ (gx = w.heap.size) := by have h1_ := HGX.out; have h2_ := HG2.out; omega
  clear d0_
  go_wp2_with (first | (go_at_call 75; (with_reducible refine (request_Decode.num_calls3 (sz := 1) (size := 1) ?h1 E4 ?h2 ?h3 hw3 ?h4).mono ?_); (case h1 => rfl); (case h2 => omega); (case h3 => omega); (case h4 => exact qW2x7); rintro e w9 ⟨rfl, hR, hG⟩; have r_ := Aside0.mk hR; have x_ : Aside0 (w9.heap[gx]? = some (.cells #[.int .u8 1, .int .u32 (o % 4294967296), .int .u8 (p % 256), .slice none 0 0, .int .u8 0, .int .u8 0, .int .u8 0, .int .i64 0] 78 (0, 0))) := qW2x3; have y_ : Aside0 (w9.heap[w.heap.size]? = some (.cells #[.int .u8 0, .int .u32 0, .int .u8 0, .slice none 0 0, .int .u8 0, .int .u8 0, .int .u8 0, .int .i64 0] 78 (0, 0))) := qW2x2; have b_ : Aside0 (Below w.heap.size w w9) := qW2x1; clear HR BX B2 HB hR hG c0_; have HR := r_; have BX := x_; have B2 := y_; have HB := b_; clear r_ x_ y_ b_; have c0_ := zcf8 BX.out; have d0_ := zcf8 B2.out))
  refine bodyPost_ret (results_ct rfl _ _ w.heap.size 78 #[.int .u8 0, .int .u32 0, .int .u8 0, .slice none 0 0, .int .u8 0, .int .u8 0, .int .u8 0, .int .i64 0] (0, 0) _ rfl (zQ B2.out) Tryd.underlying78 rfl qW2x12) rfl ?_
  exact ⟨.slice none 0 0, by first | rfl | (simp [hz]; done) | (simp [hzz.out]; done), Kd.R_nil _ _ _ _ _, qW2x9⟩
set_option maxHeartbeats 8000000 in
set_option maxRecDepth 100000 in
theorem request_Decode.dec_p1 (A0 : Option Addr) (c0 : Nat) (bs : List Int) (hl : bs.length ≤ 1000000) (hc0 : bs.length ≤ c0) (hwf : ∀ b ∈ bs, 0 ≤ b ∧ b < 256) (w : World) (hC : Kd.C (Kd.int .u8) w A0 bs.length bs) {er1 o er2 p er3 n er4 : Int} {b1 b2 b3 b4 : List Int} (E1 : rNum 1 (0, bs) = (1, (er1, b1))) (E2 : rNum 4 (er1, b1) = (o, (er2, b2))) (E3 : rNum 1 (er2, b2) = (p, (er3, b3))) (E4 : rNum 1 (er3, b3) = (n, (er4, b4))) (he : er1 = 0) (hn0 : 0 ≤ n) (hn : n ≤ 3) :
    Calls Tryd.prog 50 #[.slice A0 bs.length c0] w fun e w' => ∃ v3_ : Value, e = .returned (.tuple #[.agg (if rEnd (request_Decode.rLines n.toNat (er4, b4)).2 = 0 then #[.int .u8 1, .int .u32 (o % 4294967296), .int .u8 (p % 256), v3_, .int .u8 0, .int .u8 0, .int .u8 0, .int .i64 0] else #[.int .u8 0, .int .u32 0, .int .u8 0, v3_, .int .u8 0, .int .u8 0, .int .u8 0, .int .i64 0]), .int .i64 (rEnd (request_Decode.rLines n.toNat (er4, b4)).2)]) ∧ Kd.R k109 109 w' w.heap.size (fun _ => True) v3_ (if rEnd (request_Decode.rLines n.toNat (er4, b4)).2 = 0 then (request_Decode.rLines n.toNat (er4, b4)).1 else []) ∧ Below w.heap.size w w' := by
  have hread := read_calls A0 c0 bs hl hc0 _ (Kd.C_alloc hC (.cells #[.int .u8 0, .int .u32 0, .int .u8 0, .slice none 0 0, .int .u8 0, .int .u8 0, .int .u8 0, .int .i64 0] 78))
  have hw1 := rNum_wf E1 hwf
  have hw2 := rNum_wf E2 hw1
  have hw3 := rNum_wf E3 hw2
  have hw4 := rNum_wf E4 hw3
  subst he
  have ko : request_Decode.ordF 1 = true := rfl
  have km : request_Decode.movF 1 = false := rfl
  have nw : IntKind.i64.wrap n = n := by rw [IntKind.wrap_i64]; omega
  have nw2 : wrap64 n = n := by simp only [wrap64]; omega
  have hn3 : ¬ (3 < n) := by omega
  obtain ⟨res, hres⟩ : ∃ res, res = request_Decode.rLines n.toNat (er4, b4) := ⟨_, rfl⟩
  rw [← hres]
  have HRES := Aside0.mk hres
  clear hres
  obtain ⟨ls, er9, b9⟩ := res
  obtain ⟨ee, hee⟩ : ∃ ee, ee = (rEnd (er9, b9) : Int) := ⟨_, rfl⟩
  dsimp only
  rw [← hee]
  have HE := Aside0.mk hee
  clear hC hee
  go_enter Tryd.func50, Tryd.ntmps50
  go_wp2_with (first | (go_at_call 74; refine hread.mono ?_; rintro e w1 ⟨g, rfl, hR, hge, hb⟩))
  have hge2 : w.heap.size < g := by simp at hge; omega
  have BX := qW2x10
  have B2 := qW2x4
  have HGX := Aside0.mk hR.lt
  have HG2 := Aside0.mk hge2
  have HB := qW2x6
  have HR := qW2x11
  clear hR hb hge hge2
  generalize hgx : w1.heap.size = gx at *
  generalize w1.alloc (.cells #[.int .u8 0, .int .u32 0, .int .u8 0, .slice none 0 0, .int .u8 0, .int .u8 0, .int .u8 0, .int .i64 0] 78) = w2 at *
  clear hgx hread
  have c0_ := zcf8 BX.out
  go_wp2_with (first | (go_at_call 75; (with_reducible refine (request_Decode.num_calls3 (sz := 1) (size := 1) ?h1 E1 ?h2 ?h3 hwf ?h4).mono ?_); (case h1 => rfl); (case h2 => omega); (case h3 => omega); (case h4 => exact qW2x7); rintro e w9 ⟨rfl, hR, hG⟩; have r_ := Aside0.mk hR; have x_ : Aside0 (w9.heap[gx]? = some (.cells #[.int .u8 0, .int .u32 0, .int .u8 0, .slice none 0 0, .int .u8 0, .int .u8 0, .int .u8 0, .int .i64 0] 78 (0, 0))) := qW2x3; have y_ : Aside0 (w9.heap[w.heap.size]? = some (.cells #[.int .u8 0, .int .u32 0, .int .u8 0, .slice none 0 0, .int .u8 0, .int .u8 0, .int .u8 0, .int .i64 0] 78 (0, 0))) := qW2x2; have b_ : Aside0 (Below w.heap.size w w9) := qW2x1; clear HR BX B2 HB hR hG c0_; have HR := r_; have BX := x_; have B2 := y_; have HB := b_; clear r_ x_ y_ b_; have c0_ := zcf8 BX.out))
  have r_ := Aside0.mk (HR.out.far HGX.out (p := ⟨gx, 0, none⟩) (.int .u8 1))
  have x_ : Aside0 ((w9.setCell ⟨gx, 0, none⟩ (.int .u8 1)).heap[gx]? = some (.cells #[.int .u8 1, .int .u32 0, .int .u8 0, .slice none 0 0, .int .u8 0, .int .u8 0, .int .u8 0, .int .i64 0] 78 (0, 0))) := qW2x13
  have y_ := Aside0.mk (blk_far B2.out (p := ⟨gx, 0, none⟩) qW2x5 (.int .u8 1))
  have b_ := Aside0.mk (HB.out.setCell (p := ⟨gx, 0, none⟩) qW2x8 (.int .u8 1))
  clear HR BX B2 HB c0_
  have HR := r_
  have BX := x_
  have B2 := y_
  have HB := b_
  clear r_ x_ y_ b_
  generalize w9.setCell ⟨gx, 0, none⟩ (.int .u8 1) = w10 at *
  have c0_ := zcf8 BX.out
  go_wp2_with (first | (go_at_call 76; refine (err_calls g _ _ _ qW2x7).mono ?_; rintro e w9 ⟨rfl, rfl⟩) | (go_at_call 77; refine (request_Decode.ord_calls _ _).mono ?_; rw [ko]; rintro e w9 ⟨rfl, rfl⟩) | (go_at_call 75; (with_reducible refine (request_Decode.num_calls3 (sz := 4) (size := 4) ?h1 E2 ?h2 ?h3 hw1 ?h4).mono ?_); (case h1 => rfl); (case h2 => omega); (case h3 => omega); (case h4 => exact qW2x7); rintro e w9 ⟨rfl, hR, hG⟩; have r_ := Aside0.mk hR; have x_ : Aside0 (w9.heap[gx]? = some (.cells #[.int .u8 1, .int .u32 0, .int .u8 0, .slice none 0 0, .int .u8 0, .int .u8 0, .int .u8 0, .int .i64 0] 78 (0, 0))) := qW2x3; have y_ : Aside0 (w9.heap[w.heap.size]? = some (.cells #[.int .u8 0, .int .u32 0, .int .u8 0, .slice none 0 0, .int .u8 0, .int .u8 0, .int .u8 0, .int .i64 0] 78 (0, 0))) := qW2x2; have b_ : Aside0 (Below w.heap.size w w9) := qW2x1; clear HR BX B2 HB hR hG c0_; have HR := r_; have BX := x_; have B2 := y_; have HB := b_; clear r_ x_ y_ b_; have c0_ := zcf8 BX.out))
  have r_ := qW2x16
  have x_ : Aside0 ((w9.setCell ⟨gx, 1, none⟩ (.int .u32 (o % 4294967296))).heap[gx]? = some (.cells #[.int .u8 1, .int .u32 (o % 4294967296), .int .u8 0, .slice none 0 0, .int .u8 0, .int .u8 0, .int .u8 0, .int .i64 0] 78 (0, 0))) := Aside0.mk (blk_set BX.out 1 _)
  have y_ := qW2x14
  have b_ := qW2x15
  clear HR BX B2 HB c0_
  have HR := r_
  have BX := x_
  have B2 := y_
  have HB := b_
  clear r_ x_ y_ b_
  generalize w9.setCell ⟨gx, 1, none⟩ (.int .u32 (o % 4294967296)) = w11 at *
  have c0_ := zcf8 BX.out
  go_wp2_with (first | (go_at_call 75; (with_reducible refine (request_Decode.num_calls3 (sz := 1) (size := 1) ?h1 E3 ?h2 ?h3 hw2 ?h4).mono ?_); (case h1 => rfl); (case h2 => omega); (case h3 => omega); (case h4 => exact qW2x7); rintro e w9 ⟨rfl, hR, hG⟩; have r_ := Aside0.mk hR; have x_ : Aside0 (w9.heap[gx]? = some (.cells #[.int .u8 1, .int .u32 (o % 4294967296), .int .u8 0, .slice none 0 0, .int .u8 0, .int .u8 0, .int .u8 0, .int .i64 0] 78 (0, 0))) := qW2x3; have y_ : Aside0 (w9.heap[w.heap.size]? = some (.cells #[.int .u8 0, .int .u32 0, .int .u8 0, .slice none 0 0, .int .u8 0, .int .u8 0, .int .u8 0, .int .i64 0] 78 (0, 0))) := qW2x2; have b_ : Aside0 (Below w.heap.size w w9) := qW2x1; clear HR BX B2 HB hR hG c0_; have HR := r_; have BX := x_; have B2 := y_; have HB := b_; clear r_ x_ y_ b_; have c0_ := zcf8 BX.out))
  have r_ := Aside0.mk (HR.out.far HGX.out (p := ⟨gx, 2, none⟩) (.int .u8 (p % 256)))
  have x_ : Aside0 ((w9.setCell ⟨gx, 2, none⟩ (.int .u8 (p % 256))).heap[gx]? = some (.cells #[.int .u8 1, .int .u32 (o % 4294967296), .int .u8 (p % 256), .slice none 0 0, .int .u8 0, .int .u8 0, .int .u8 0, .int .i64 0] 78 (0, 0))) := Aside0.mk (blk_set BX.out 2 _)
  have y_ := Aside0.mk (blk_far B2.out (p := ⟨gx, 2, none⟩) qW2x5 (.int .u8 (p % 256)))
  have b_ := Aside0.mk (HB.out.setCell (p := ⟨gx, 2, none⟩) qW2x8 (.int .u8 (p % 256)))
  clear HR BX B2 HB c0_
  have HR := r_
  have BX := x_
  have B2 := y_
  have HB := b_
  clear r_ x_ y_ b_
  generalize w9.setCell ⟨gx, 2, none⟩ (.int .u8 (p % 256)) = w12 at *
  have c0_ := zcf8 BX.out
  go_wp2_with (first | (go_at_call 75; (with_reducible refine (request_Decode.num_calls3 (sz := 1) (size := 1) ?h1 E4 ?h2 ?h3 hw3 ?h4).mono ?_); (case h1 => rfl); (case h2 => omega); (case h3 => omega); (case h4 => exact qW2x7); rintro e w9 ⟨rfl, hR, hG⟩; have r_ := Aside0.mk hR; have x_ : Aside0 (w9.heap[gx]? = some (.cells #[.int .u8 1, .int .u32 (o % 4294967296), .int .u8 (p % 256), .slice none 0 0, .int .u8 0, .int .u8 0, .int .u8 0, .int .i64 0] 78 (0, 0))) := qW2x3; have y_ : Aside0 (w9.heap[w.heap.size]? = some (.cells #[.int .u8 0, .int .u32 0, .int .u8 0, .slice none 0 0, .int .u8 0, .int .u8 0, .int .u8 0, .int .i64 0] 78 (0, 0))) := qW2x2; have b_ : Aside0 (Below w.heap.size w w9) := qW2x1; clear HR BX B2 HB hR hG c0_; have HR := r_; have BX := x_; have B2 := y_; have HB := b_; clear r_ x_ y_ b_; have c0_ := zcf8 BX.out))
  have HQ : Aside0 (Kd.R k109 109 w9 (g + 1) (fun _ => True) (.slice none 0 0) []) := Aside0.mk (Kd.R_nil _ _ _ _ _)
  clear c0_
  go_loopw [54] (fun v54 wr => ∃ (m : Nat) (acc : List S109) (u : Value) (er : Int) (b : List Int), m ≤ n.toNat ∧ v54 = .int .i64 (m : Int) ∧ Aside0 (RdAt wr g er b ∧ wr.heap[gx]? = some (.cells #[.int .u8 1, .int .u32 (o % 4294967296), .int .u8 (p % 256), u, .int .u8 0, .int .u8 0, .int .u8 0, .int .i64 0] 78 (0, 0)) ∧ wr.heap[w.heap.size]? = some (.cells #[.int .u8 0, .int .u32 0, .int .u8 0, .slice none 0 0, .int .u8 0, .int .u8 0, .int .u8 0, .int .i64 0] 78 (0, 0)) ∧ Below w.heap.size w wr ∧ Kd.R k109 109 wr (g + 1) (fun _ => True) u acc ∧ (∀ x ∈ b, 0 ≤ x ∧ x < 256) ∧ acc ++ (request_Decode.rLines (n.toNat - m) (er, b)).1 = ls ∧ (request_Decode.rLines (n.toNat - m) (er, b)).2 = (er9, b9))) (fun i _ => n.toNat - (RowKit.intOf i).toNat)
  case atStart => exact ⟨0, [], .slice none 0 0, er4, b4, Nat.zero_le _, rfl, Aside0.mk ⟨HR.out, BX.out, B2.out, HB.out, HQ.out, hw4, by rw [Nat.sub_zero, ← HRES.out]; rfl, by rw [Nat.sub_zero, ← HRES.out]⟩⟩
  case round =>
    clear HR BX B2 HB HQ
    obtain ⟨m, acc, u, er, b, hm, rfl, HI⟩ := hrel
    obtain ⟨hR, hX, h2, hB, hQ, hwb, hL1, hL2⟩ := HI.out
    clear HI
    have HR := Aside0.mk hR
    have BX := Aside0.mk hX
    have B2 := Aside0.mk h2
    have HB := Aside0.mk hB
    have HQ := Aside0.mk hQ
    have HL1 := Aside0.mk hL1
    have HL2 := Aside0.mk hL2
    clear hR hX h2 hB hQ hL1 hL2
    by_cases hlt : m < n.toNat
    rotate_left
    · have hlt2 : ¬ ((m : Int) < n) := by omega
      obtain rfl : m = n.toNat := by omega
      have hL1 := HL1.out
      have hL2 := HL2.out
      rw [Nat.sub_self] at hL1 hL2
      simp only [request_Decode.rLines, List.append_nil] at hL1 hL2
      obtain rfl := hL1
      cases hL2
      clear HL1 HL2
      obtain ⟨Au, cu_, rfl⟩ := Kd.R_slice HQ.out
      have c0_ := zcf8 BX.out
      have d0_ := zcf8 B2.out
      have hgne : ¬ (w.heap.size = gx) := by have h1_ := HGX.out; have h2_ := HG2.out; omega
      have hgne2 : ¬ (gx = w.heap.size) := by have h1_ := HGX.out; have h2_ := HG2.out; omega
      have hend := end_calls g er9 b9 wr HR.out
      rw [← HE.out] at hend
      by_cases hz : ee = 0
      rotate_left
      · have hzb : (ee == 0) = false := beq_eq_false_iff_ne.2 hz
        have hzb2 : (ee != 0) = true := bne_iff_ne.2 hz
        go_wp2_with (first | (go_at_call 79; refine (request_Decode.mov_calls _ _).mono ?_; rw [km]; rintro e w9 ⟨rfl, rfl⟩) | (go_at_call 80; refine hend.mono ?_; rintro e w9 ⟨rfl, rfl⟩))
        refine bodyPost_ret (results_ct rfl _ _ w.heap.size 78 #[.int .u8 0, .int .u32 0, .int .u8 0, .slice none 0 0, .int .u8 0, .int .u8 0, .int .u8 0, .int .i64 0] (0, 0) _ rfl (zQ B2.out) Tryd.underlying78 rfl qW2x12) rfl ?_
        exact ⟨.slice none 0 0, by first | rfl | (simp [hz]; done) | (simp [hzz.out]; done), Kd.R_nil _ _ _ _ _, qW2x9⟩
      subst hz
      go_wp2_with (first | (go_at_call 79; refine (request_Decode.mov_calls _ _).mono ?_; rw [km]; rintro e w9 ⟨rfl, rfl⟩) | (go_at_call 80; refine hend.mono ?_; rintro e w9 ⟨rfl, rfl⟩))
      refine bodyPost_ret (results_ct rfl _ _ w.heap.size 78 #[.int .u8 1, .int .u32 (o % 4294967296), .int .u8 (p % 256), .slice Au acc.length cu_, .int .u8 0, .int .u8 0, .int .u8 0, .int .i64 0] (0, 0) _ rfl (zQ B2.out) Tryd.underlying78 rfl qW2x12) rfl ?_
      refine ⟨.slice Au acc.length cu_, by first | rfl | (simp [hz]; done) | (simp [hzz.out]; done), ?_, qW2x9⟩
      refine Kd.R_mono (ok := fun k => True ∧ k ≠ w.heap.size) ?_ (fun _ _ => trivial)
      repeat (refine Kd.R_far ?_ (fun _ hk => hk.2) _)
      exact Kd.R_lower (Kd.R_types HQ.out B2.out (by decide)) (by have h2_ := HG2.out; omega)
    have hlt2 : (m : Int) < n := by omega
    obtain ⟨k0, hk0⟩ : ∃ k0, n.toNat - m = k0 + 1 := ⟨n.toNat - m - 1, by omega⟩
    obtain ⟨x5, e5, b5, E5⟩ : ∃ x e l, rNum 1 (er, b) = (x, (e, l)) := ⟨_, _, _, rfl⟩
    obtain ⟨x6, e6, b6, E6⟩ : ∃ x e l, rNum 8 (e5, b5) = (x, (e, l)) := ⟨_, _, _, rfl⟩
    have hw5 := rNum_wf E5 hwb
    have hw6 := rNum_wf E6 hw5
    obtain ⟨Au, cu_, rfl⟩ := Kd.R_slice HQ.out
    have hkl : acc.length ≤ 3 := by
      have h1 := congrArg List.length HL1.out
      have h3 : ls.length = n.toNat := by
        have := congrArg (fun z => z.1.length) HRES.out
        rw [request_Decode.rLines_len] at this
        exact this
      rw [List.length_append] at h1
      omega
    have HKL := Aside0.mk hkl
    clear hkl
    go_wp2
    refine start_ (n := 12) (S := fun w' => w'.cell? ⟨gx, 3, none⟩ = some (.slice Au acc.length cu_)) (ds := [11]) (bz 12 0) qW2x12 rfl qW2x12 ((blk_cell BX.out 3).trans rfl) (fun hHeld => ?_); refine with_tabW request_Decode.dec_tab request_Decode.dec_bits (fun HT_ HW_ => ?_)
    replace HR := Aside0.mk HR.out.drew
    replace BX := Aside0.mk (blk_drew BX.out)
    replace B2 := Aside0.mk (blk_drew B2.out)
    replace HB := Aside0.mk (below_drew1 HB.out)
    replace HQ := Aside0.mk (Kd.R_drew HQ.out)
    generalize wr.drew = w15 at HR BX B2 HB HQ hHeld ⊢
    refine pureZ (some 56) (bz 12 1) (i := 0) (h := ?_); refine pureZ (some 58) (bz 12 5) (i := 2) (h := ?_); refine pureZ (some 61) (bz 12 37) (i := 5) (h := ?_)
    refine take_ (i := 1) (N := some 57) (v := ?_) (a' := ?_) (bz 12 39) rfl rfl (take_ofW HT_.out HW_.out qW2x12) (fun _ _ _ h => h) (Or.inl ⟨by rfl, ?_⟩) hHeld ?_ ?_
    rotate_left
    · rintro w' s0
      go_simp
      with_reducible rfl
    rotate_left
    · simp only [Act.put, List.setIfInBounds_toArray, List.set_cons_zero, List.set_cons_succ, i64_w, i32_w]
      rfl
    refine one_ (i := 3) (N := some 59) (bz 12 47) rfl rfl (one_of HT_.out qW2x12) (by decide) (fun K hK => ?_)
    refine goes_ Tryd.func75 qW2x12 rfl #[.pointer (some ⟨g, 0, none⟩), .int .i64 1] (by rfl) rfl rfl (by (try simp only [List.map_toArray, List.map_cons, List.map_nil]); first | done | rfl) ?_
    refine (request_Decode.num_calls3 (sz := 1) (size := 1) rfl E5 (by omega) (by omega) hwb HR.out).mono ?_
    rintro e w16 ⟨rfl, hR, hG⟩
    refine ⟨_, rfl, ?_⟩
    replace BX := Aside0.mk (blk_grown (g := gx) BX.out hG (by have := HGX.out; intro e_; injection e_ with e_; omega))
    replace B2 := Aside0.mk (blk_grown (g := w.heap.size) B2.out hG (by have := HG2.out; intro e_; injection e_ with e_; omega))
    replace HB := Aside0.mk (HB.out.grown hG HB.out.size (fun k_ hk_ => by cases hk_; have := HG2.out; omega))
    replace HQ := Aside0.mk (request_Decode.rd_R HQ.out HR.out hG)
    replace HR := Aside0.mk hR
    clear hR hG
    refine hK.out _ _ ((blk_cell BX.out 3).trans rfl) (fun hHeld => ?_)
    clear hK K
    refine norm_ (a' := ?_) ?_ ?_
    rotate_left
    · show Act.put _ (some 59) _ = _
      simp only [Act.put, List.setIfInBounds_toArray, List.set_cons_zero, List.set_cons_succ, i64_w, i32_w]
      rfl
    refine pureZ (some 60) (bz 12 63) (i := 4) (h := ?_)
    refine one_ (i := 6) (N := some 62) (bz 12 127) rfl rfl (one_of HT_.out qW2x12) (by decide) (fun K hK => ?_)
    refine goes_ Tryd.func78 qW2x12 rfl #[.pointer (some ⟨g, 0, none⟩)] (by rfl) rfl rfl (by (try simp only [List.map_toArray, List.map_cons, List.map_nil]); first | done | rfl) ?_
    refine (int_calls2 E6 hw5 HR.out).mono ?_
    rintro e w17 ⟨rfl, hR, hG⟩
    refine ⟨_, rfl, ?_⟩
    replace BX := Aside0.mk (blk_grown (g := gx) BX.out hG (by have := HGX.out; intro e_; injection e_ with e_; omega))
    replace B2 := Aside0.mk (blk_grown (g := w.heap.size) B2.out hG (by have := HG2.out; intro e_; injection e_ with e_; omega))
    replace HB := Aside0.mk (HB.out.grown hG HB.out.size (fun k_ hk_ => by cases hk_; have := HG2.out; omega))
    replace HQ := Aside0.mk (request_Decode.rd_R HQ.out HR.out hG)
    replace HR := Aside0.mk hR
    clear hR hG
    refine hK.out _ _ ((blk_cell BX.out 3).trans rfl) (fun hHeld => ?_)
    clear hK K
    refine norm_ (a' := ?_) ?_ ?_
    rotate_left
    · show Act.put _ (some 62) _ = _
      simp only [Act.put, List.setIfInBounds_toArray, List.set_cons_zero, List.set_cons_succ, i64_w, i32_w]
      rfl
    refine pureZ (some 63) (bz 12 255) (i := 7) (h := ?_)
    refine one_ (i := 8) (N := some 64) (bz 12 511) rfl rfl (one_of HT_.out qW2x12) (by decide) (fun K hK => ?_)
    refine value_ (w1 := ?_) (v := ?_) (by rfl) rfl ?_ ?_
    rotate_left 2
    · go_simp
      constructor
      · rfl
      · rfl
    refine hK.out _ _ ((blk_cell (blk_alloc BX.out _) 3).trans rfl) (fun hHeld => ?_)
    clear hK K
    refine norm_ (a' := ?_) ?_ ?_
    rotate_left
    · show Act.put _ (some 64) _ = _
      simp only [Act.put, List.setIfInBounds_toArray, List.set_cons_zero, List.set_cons_succ, i64_w, i32_w]
      rfl
    refine one_ (i := 9) (N := some 65) (bz 12 1023) rfl rfl (one_of HT_.out qW2x12) (by decide) (fun K hK => ?_)
    refine Kd.R_append_step k109 (w0 := w17) (g + 1) (by rfl) (.tmp 57) (.tmp 64) 76 109 (.agg #[(.int .u8 0), (.int .i64 0)]) 16 rfl Tryd.underlying76 info109 rfl (by decide) (by omega) (.slice Au acc.length cu_) acc (⟨x5 % 256, wrap64 x6⟩ : S109) [.int .u8 (x5 % 256), .int .i64 (wrap64 x6)] (fun _ => True) (fun _ => False) rfl rfl ?aP (fun _ hk => hk.elim) ?aF ?aO ?aB ?aS ?aL ?_
    (case aP => exact k109_mkM _ _ _ (⟨x5 % 256, wrap64 x6⟩ : S109))
    (case aB => exact Below.refl _ _)
    (case aF => exact (fun _ _ => trivial))
    (case aO => exact HQ.out)
    (case aS => have := HR.out.lt; omega)
    (case aL => have := HKL.out; omega)
    intro v18 w18 ho hb hg hat
    replace HR := Aside0.mk (request_Decode.rd_under HR.out hb)
    replace BX := Aside0.mk (blk_grown (g := gx) BX.out hg (Kd.R_ne HQ.out BX.out (by decide)))
    replace B2 := Aside0.mk (blk_grown (g := w.heap.size) B2.out hg (Kd.R_ne HQ.out B2.out (by decide)))
    replace HB := Aside0.mk (HB.out.trans (hb.mono (by have h2_ := HG2.out; omega)))
    replace HQ := Aside0.mk ho
    clear ho hb hg hat
    obtain ⟨Av, cv_, rfl⟩ := Kd.R_slice HQ.out
    refine hK.out _ _ ((blk_cell BX.out 3).trans rfl) (fun hHeld => ?_)
    clear hK K
    refine norm_ (a' := ?_) ?_ ?_
    rotate_left
    · show Act.put _ (some 65) _ = _
      simp only [Act.put, List.setIfInBounds_toArray, List.set_cons_zero, List.set_cons_succ, i64_w, i32_w]
      rfl
    refine pureZ (some 66) (bz 12 2047) (i := 10) (h := ?_)
    refine last_ (i := 11) (N := none) (bz 12 4095) rfl rfl (one_of HT_.out qW2x12) (by decide) (fun K hK => ?_)
    have hs32 : w18.cell? ⟨gx, 3, none⟩ = some (.slice Au acc.length cu_) := (blk_cell BX.out 3).trans rfl
    have hfs32 := blk_frozen BX.out 3
    refine skip_ (w1 := ?_) (by rfl) rfl ?_ ?_
    rotate_left
    · go_simp
      rfl
    refine hK.out _ _ ?_
    clear hK K
    refine done_ (done_of HT_.out qW2x12) ?_
    try go_wp2
    go_roundw
    case measure => simp [RowKit.intOf]; omega
    case rel =>
      have hQ := HQ.out
      rw [show (acc ++ [(⟨x5 % 256, wrap64 x6⟩ : S109)]).length = acc.length + 1 from by simp] at hQ
      have hL1 := HL1.out
      have hL2 := HL2.out
      rw [hk0] at hL1 hL2
      refine ⟨m + 1, acc ++ [⟨x5 % 256, wrap64 x6⟩], .slice Av (acc.length + 1) cv_, e6, b6, by omega, by go_num, Aside0.mk ⟨HR.out.far HGX.out (p := ⟨gx, 3, none⟩) _, ?_, ?_, ?_, ?_, hw6, ?_, ?_⟩⟩
      · exact blk_put (cs := #[.int .u8 1, .int .u32 (o % 4294967296), .int .u8 (p % 256), .slice Au acc.length cu_, .int .u8 0, .int .u8 0, .int .u8 0, .int .i64 0]) BX.out 3 _ rfl
      · exact blk_far B2.out (p := ⟨gx, 3, none⟩) qW2x5 _
      · exact HB.out.setCell (p := ⟨gx, 3, none⟩) qW2x8 _
      · exact Kd.R_mono (Kd.R_far (p := ⟨gx, 3, none⟩) (Kd.R_types hQ BX.out (by decide)) (fun _ hk => hk.2) _) (fun _ hk => trivial)
      · have h := hL1
        simp only [request_Decode.rLines, E5, E6] at h
        rw [show n.toNat - (m + 1) = k0 from by omega, List.append_assoc]
        exact h
      · have h := hL2
        simp only [request_Decode.rLines, E5, E6] at h
        rw [show n.toNat - (m + 1) = k0 from by omega]
        exact h
set_option maxHeartbeats 8000000 in
set_option maxRecDepth 100000 in
theorem request_Decode.dec_pbad (A0 : Option Addr) (c0 : Nat) (bs : List Int) (hl : bs.length ≤ 1000000) (hc0 : bs.length ≤ c0) (hwf : ∀ b ∈ bs, 0 ≤ b ∧ b < 256) (w : World) (hC : Kd.C (Kd.int .u8) w A0 bs.length bs) {k er1 : Int} {b1 : List Int} (E1 : rNum 1 (0, bs) = (k, (er1, b1))) (he : er1 = 0) (hk0 : 0 ≤ k) (hk1 : k < 256) (hk : k < 1 ∨ 7 < k) :
    Calls Tryd.prog 50 #[.slice A0 bs.length c0] w fun e w' => ∃ v3_ : Value, e = .returned (.tuple #[.agg (#[.int .u8 0, .int .u32 0, .int .u8 0, v3_, .int .u8 0, .int .u8 0, .int .u8 0, .int .i64 0]), .int .i64 8]) ∧ Kd.R k109 109 w' w.heap.size (fun _ => True) v3_ [] ∧ Below w.heap.size w w' := by
  have hread := read_calls A0 c0 bs hl hc0 _ (Kd.C_alloc hC (.cells #[.int .u8 0, .int .u32 0, .int .u8 0, .slice none 0 0, .int .u8 0, .int .u8 0, .int .u8 0, .int .i64 0] 78))
  have hw1 := rNum_wf E1 hwf
  subst he
  have hku : IntKind.u8.wrap k = k := by rw [IntKind.wrap_u8]; omega
  have hkm : k % 256 = k := by omega
  obtain ⟨ee, hee⟩ : ∃ ee, ee = (8 : Int) := ⟨_, rfl⟩
  have HE := Aside0.mk hee
  clear hC hee
  go_enter Tryd.func50, Tryd.ntmps50
  go_wp2_with (first | (go_at_call 74; refine hread.mono ?_; rintro e w1 ⟨g, rfl, hR, hge, hb⟩))
  have hge2 : w.heap.size < g := by simp at hge; omega
  have BX := qW2x10
  have B2 := qW2x4
  have HGX := Aside0.mk hR.lt
  have HG2 := Aside0.mk hge2
  have HB := qW2x6
  have HR := qW2x11
  clear hR hb hge hge2
  generalize hgx : w1.heap.size = gx at *
  generalize w1.alloc (.cells #[.int .u8 0, .int .u32 0, .int .u8 0, .slice none 0 0, .int .u8 0, .int .u8 0, .int .u8 0, .int .i64 0] 78) = w2 at *
  clear hgx hread
  have c0_ := zcf8 BX.out
  go_wp2_with (first | (go_at_call 75; (with_reducible refine (request_Decode.num_calls3 (sz := 1) (size := 1) ?h1 E1 ?h2 ?h3 hwf ?h4).mono ?_); (case h1 => rfl); (case h2 => omega); (case h3 => omega); (case h4 => exact qW2x7); rintro e w9 ⟨rfl, hR, hG⟩; have r_ := Aside0.mk hR; have x_ : Aside0 (w9.heap[gx]? = some (.cells #[.int .u8 0, .int .u32 0, .int .u8 0, .slice none 0 0, .int .u8 0, .int .u8 0, .int .u8 0, .int .i64 0] 78 (0, 0))) := qW2x3; have y_ : Aside0 (w9.heap[w.heap.size]? = some (.cells #[.int .u8 0, .int .u32 0, .int .u8 0, .slice none 0 0, .int .u8 0, .int .u8 0, .int .u8 0, .int .i64 0] 78 (0, 0))) := qW2x2; have b_ : Aside0 (Below w.heap.size w w9) := qW2x1; clear HR BX B2 HB hR hG c0_; have HR := r_; have BX := x_; have B2 := y_; have HB := b_; clear r_ x_ y_ b_; have c0_ := zcf8 BX.out))
  have r_ := Aside0.mk (HR.out.far HGX.out (p := ⟨gx, 0, none⟩) (.int .u8 k))
  have x_ : Aside0 ((w9.setCell ⟨gx, 0, none⟩ (.int .u8 k)).heap[gx]? = some (.cells #[.int .u8 k, .int .u32 0, .int .u8 0, .slice none 0 0, .int .u8 0, .int .u8 0, .int .u8 0, .int .i64 0] 78 (0, 0))) := qW2x13
  have y_ := Aside0.mk (blk_far B2.out (p := ⟨gx, 0, none⟩) qW2x5 (.int .u8 k))
  have b_ := Aside0.mk (HB.out.setCell (p := ⟨gx, 0, none⟩) qW2x8 (.int .u8 k))
  clear HR BX B2 HB c0_
  have HR := r_
  have BX := x_
  have B2 := y_
  have HB := b_
  clear r_ x_ y_ b_
  generalize w9.setCell ⟨gx, 0, none⟩ (.int .u8 k) = w10 at *
  have c0_ := zcf8 BX.out
  have d0_ := zcf8 B2.out
  have hgne : ¬ (w.heap.size = gx) := by have h1_ := HGX.out; have h2_ := HG2.out; omega
  have hgne2 : ¬ (gx = w.heap.size) := by have h1_ := HGX.out; have h2_ := HG2.out; omega
  by_cases k1 : k < 1
  · have k7 : ¬ (7 < k) := by omega
    go_wp2_with (first | (go_at_call 76; refine (err_calls g _ _ _ qW2x7).mono ?_; rintro e w9 ⟨rfl, rfl⟩))
    refine bodyPost_ret (results_ct rfl _ _ w.heap.size 78 #[.int .u8 0, .int .u32 0, .int .u8 0, .slice none 0 0, .int .u8 0, .int .u8 0, .int .u8 0, .int .i64 0] (0, 0) _ rfl (zQ B2.out) Tryd.underlying78 rfl qW2x12) rfl ?_
    exact ⟨.slice none 0 0, by first | rfl | (simp [hz]; done) | (simp [hzz.out]; done), Kd.R_nil _ _ _ _ _, qW2x9⟩
  have k7 : 7 < k := by omega
  go_wp2_with (first | (go_at_call 76; refine (err_calls g _ _ _ qW2x7).mono ?_; rintro e w9 ⟨rfl, rfl⟩))
  refine bodyPost_ret (results_ct rfl _ _ w.heap.size 78 #[.int .u8 0, .int .u32 0, .int .u8 0, .slice none 0 0, .int .u8 0, .int .u8 0, .int .u8 0, .int .i64 0] (0, 0) _ rfl (zQ B2.out) Tryd.underlying78 rfl qW2x12) rfl ?_
  exact ⟨.slice none 0 0, by first | rfl | (simp [hz]; done) | (simp [hzz.out]; done), Kd.R_nil _ _ _ _ _, qW2x9⟩
def request_Decode.fin (s : Int × List Int) (a b c : Int) (l : List S109) (d e f g : Int) : Int × Int × Int × List S109 × Int × Int × Int × Int × Int := if rEnd s = 0 then (a, b, c, l, d, e, f, g, 0) else (0, 0, 0, [], 0, 0, 0, 0, rEnd s)
/-- The request that bytes tell. -/
def request_Decode.decF (bs : List Int) : Int × Int × Int × List S109 × Int × Int × Int × Int × Int :=
  if (rNum 1 (0, bs)).2.1 ≠ 0 then (0, 0, 0, [], 0, 0, 0, 0, (rNum 1 (0, bs)).2.1)
  else if (rNum 1 (0, bs)).1 < 1 ∨ 7 < (rNum 1 (0, bs)).1 then (0, 0, 0, [], 0, 0, 0, 0, 8)
  else if (rNum 1 (0, bs)).1 = 1 then
    if 3 < (rNum 1 (rNum 1 (rNum 4 (rNum 1 (0, bs)).2).2).2).1 then (0, 0, 0, [], 0, 0, 0, 0, 8)
    else request_Decode.fin (request_Decode.rLines (rNum 1 (rNum 1 (rNum 4 (rNum 1 (0, bs)).2).2).2).1.toNat (rNum 1 (rNum 1 (rNum 4 (rNum 1 (0, bs)).2).2).2).2).2 1 ((rNum 4 (rNum 1 (0, bs)).2).1 % 4294967296) ((rNum 1 (rNum 4 (rNum 1 (0, bs)).2).2).1 % 256) (request_Decode.rLines (rNum 1 (rNum 1 (rNum 4 (rNum 1 (0, bs)).2).2).2).1.toNat (rNum 1 (rNum 1 (rNum 4 (rNum 1 (0, bs)).2).2).2).2).1 0 0 0 0
  else if (rNum 1 (0, bs)).1 ≤ 4 then request_Decode.fin (rNum 4 (rNum 1 (0, bs)).2).2 (rNum 1 (0, bs)).1 ((rNum 4 (rNum 1 (0, bs)).2).1 % 4294967296) 0 [] 0 0 0 0
  else if (rNum 1 (0, bs)).1 = 5 then request_Decode.fin (rNum 8 (rNum 1 (rNum 1 (rNum 1 (0, bs)).2).2).2).2 5 0 0 [] ((rNum 1 (rNum 1 (0, bs)).2).1 % 256) 0 ((rNum 1 (rNum 1 (rNum 1 (0, bs)).2).2).1 % 256) (wrap64 (rNum 8 (rNum 1 (rNum 1 (rNum 1 (0, bs)).2).2).2).1)
  else if (rNum 1 (0, bs)).1 = 6 then request_Decode.fin (rNum 8 (rNum 1 (rNum 1 (rNum 1 (rNum 1 (0, bs)).2).2).2).2).2 6 0 0 [] ((rNum 1 (rNum 1 (0, bs)).2).1 % 256) ((rNum 1 (rNum 1 (rNum 1 (0, bs)).2).2).1 % 256) ((rNum 1 (rNum 1 (rNum 1 (rNum 1 (0, bs)).2).2).2).1 % 256) (wrap64 (rNum 8 (rNum 1 (rNum 1 (rNum 1 (rNum 1 (0, bs)).2).2).2).2).1)
  else request_Decode.fin (rNum 1 (rNum 1 (0, bs)).2).2 7 0 0 [] ((rNum 1 (rNum 1 (0, bs)).2).1 % 256) 0 0 0
theorem request_Decode.num_range {n : Nat} {s : Int × List Int} (h : ∀ b ∈ s.2, 0 ≤ b ∧ b < 256) (hn : n = 1) : 0 ≤ (rNum n s).1 ∧ (rNum n s).1 < 256 := by
  subst hn
  unfold rNum
  split
  · simp
  · split
    · simp
    · have := leN_range (s.2.take 1) (fun b hb => h b (List.mem_of_mem_take hb))
      have hl : (s.2.take 1).length = 1 := by rw [List.length_take]; omega
      rw [hl] at this
      simpa using this
def request_Decode.Res (w : World) (q : Int × Int × Int × List S109 × Int × Int × Int × Int × Int) (e : Ending) (w' : World) : Prop :=
  ∃ v3_ : Value, e = .returned (.tuple #[.agg #[.int .u8 q.1, .int .u32 q.2.1, .int .u8 q.2.2.1, v3_, .int .u8 q.2.2.2.2.1, .int .u8 q.2.2.2.2.2.1, .int .u8 q.2.2.2.2.2.2.1, .int .i64 q.2.2.2.2.2.2.2.1], .int .i64 q.2.2.2.2.2.2.2.2]) ∧ Kd.R k109 109 w' w.heap.size (fun _ => True) v3_ q.2.2.2.1 ∧ Below w.heap.size w w'
theorem request_Decode.res_fin {w w' : World} {e : Ending} {s : Int × List Int} {a b c : Int} {l : List S109} {d f g h : Int} (hr : ∃ v3_ : Value, e = .returned (.tuple #[.agg (if rEnd s = 0 then #[.int .u8 a, .int .u32 b, .int .u8 c, v3_, .int .u8 d, .int .u8 f, .int .u8 g, .int .i64 h] else #[.int .u8 0, .int .u32 0, .int .u8 0, v3_, .int .u8 0, .int .u8 0, .int .u8 0, .int .i64 0]), .int .i64 (rEnd s)]) ∧ Kd.R k109 109 w' w.heap.size (fun _ => True) v3_ (if rEnd s = 0 then l else []) ∧ Below w.heap.size w w') : request_Decode.Res w (request_Decode.fin s a b c l d f g h) e w' := by
  obtain ⟨v, he, hR, hB⟩ := hr
  unfold request_Decode.fin
  by_cases hz : rEnd s = 0
  rotate_left
  · rw [if_neg hz] at he hR ⊢
    exact ⟨v, he, hR, hB⟩
  rw [if_pos hz] at he hR ⊢
  rw [hz] at he
  exact ⟨v, he, hR, hB⟩
set_option maxHeartbeats 4000000 in
theorem request_Decode.dec (A0 : Option Addr) (c0 : Nat) (bs : List Int) (hl : bs.length ≤ 1000000) (hc0 : bs.length ≤ c0) (hwf : ∀ b ∈ bs, 0 ≤ b ∧ b < 256) (w : World) (hC : Kd.C (Kd.int .u8) w A0 bs.length bs) :
    Calls Tryd.prog 50 #[.slice A0 bs.length c0] w fun e w' => request_Decode.Res w (request_Decode.decF bs) e w' := by
  unfold request_Decode.decF
  have hk := request_Decode.num_range (n := 1) (s := (0, bs)) hwf rfl
  obtain ⟨k, er1, b1, E1⟩ : ∃ k e l, rNum 1 (0, bs) = (k, (e, l)) := ⟨_, _, _, rfl⟩
  have hw1 := rNum_wf E1 hwf
  have hkz : er1 ≠ 0 → k = 0 := by
    intro h
    have := congrArg (fun z => z) E1
    unfold rNum at this
    split at this
    · rename_i h0; exact absurd rfl h0
    · split at this
      · exact ((Prod.mk.inj this).1).symm
      · exact absurd (Prod.mk.inj (Prod.mk.inj this).2).1.symm h
  rw [E1] at hk ⊢
  dsimp only at hk ⊢
  by_cases he : er1 = 0
  rotate_left
  · rw [if_pos he]
    obtain rfl := hkz he
    refine (request_Decode.dec_p0 A0 c0 bs hl hc0 hwf w hC E1 he).mono ?_
    exact fun e w' h => h
  rw [if_neg (fun h => h he)]
  by_cases hb : k < 1 ∨ 7 < k
  · rw [if_pos hb]
    refine (request_Decode.dec_pbad A0 c0 bs hl hc0 hwf w hC E1 he hk.1 hk.2 hb).mono ?_
    exact fun e w' h => h
  rw [if_neg hb]
  by_cases h1 : k = 1
  · subst h1
    rw [if_pos rfl]
    obtain ⟨o, er2, b2, E2⟩ : ∃ k e l, rNum 4 (er1, b1) = (k, (e, l)) := ⟨_, _, _, rfl⟩
    have hw2 := rNum_wf E2 hw1
    rw [E2]
    dsimp only
    obtain ⟨p, er3, b3, E3⟩ : ∃ k e l, rNum 1 (er2, b2) = (k, (e, l)) := ⟨_, _, _, rfl⟩
    have hw3 := rNum_wf E3 hw2
    rw [E3]
    dsimp only
    have hn := request_Decode.num_range (n := 1) (s := (er3, b3)) hw3 rfl
    obtain ⟨n, er4, b4, E4⟩ : ∃ k e l, rNum 1 (er3, b3) = (k, (e, l)) := ⟨_, _, _, rfl⟩
    rw [E4] at hn ⊢
    dsimp only at hn ⊢
    by_cases h3 : 3 < n
    · rw [if_pos h3]
      refine (request_Decode.dec_p1big A0 c0 bs hl hc0 hwf w hC E1 E2 E3 E4 he h3 hn.2).mono ?_
      exact fun e w' h => h
    rw [if_neg h3]
    refine (request_Decode.dec_p1 A0 c0 bs hl hc0 hwf w hC E1 E2 E3 E4 he hn.1 (by omega)).mono ?_
    intro e w' h
    exact request_Decode.res_fin h
  rw [if_neg h1]
  by_cases h4 : k ≤ 4
  · rw [if_pos h4]
    obtain ⟨o, er2, b2, E2⟩ : ∃ k e l, rNum 4 (er1, b1) = (k, (e, l)) := ⟨_, _, _, rfl⟩
    rw [E2]
    dsimp only
    refine (request_Decode.dec_p24 A0 c0 bs hl hc0 hwf w hC E1 E2 he (by omega) h4).mono ?_
    intro e w' h
    exact request_Decode.res_fin (by rw [ite_self]; exact h)
  rw [if_neg h4]
  obtain ⟨p, er2, b2, E2⟩ : ∃ k e l, rNum 1 (er1, b1) = (k, (e, l)) := ⟨_, _, _, rfl⟩
  rw [E2]
  dsimp only
  by_cases h5 : k = 5
  · subst h5
    rw [if_pos rfl]
    obtain ⟨q, er3, b3, E3⟩ : ∃ k e l, rNum 1 (er2, b2) = (k, (e, l)) := ⟨_, _, _, rfl⟩
    rw [E3]
    dsimp only
    obtain ⟨x, er4, b4, E4⟩ : ∃ k e l, rNum 8 (er3, b3) = (k, (e, l)) := ⟨_, _, _, rfl⟩
    rw [E4]
    dsimp only
    refine (request_Decode.dec_p5 A0 c0 bs hl hc0 hwf w hC E1 E2 he E3 E4).mono ?_
    intro e w' h
    exact request_Decode.res_fin (by rw [ite_self]; exact h)
  rw [if_neg h5]
  by_cases h6 : k = 6
  rotate_left
  · rw [if_neg h6]
    obtain rfl : k = 7 := by omega
    refine (request_Decode.dec_p7 A0 c0 bs hl hc0 hwf w hC E1 E2 he).mono ?_
    intro e w' h
    exact request_Decode.res_fin (by rw [ite_self]; exact h)
  subst h6
  rw [if_pos rfl]
  obtain ⟨q, er3, b3, E3⟩ : ∃ k e l, rNum 1 (er2, b2) = (k, (e, l)) := ⟨_, _, _, rfl⟩
  rw [E3]
  dsimp only
  obtain ⟨y, er4, b4, E4⟩ : ∃ k e l, rNum 1 (er3, b3) = (k, (e, l)) := ⟨_, _, _, rfl⟩
  rw [E4]
  dsimp only
  obtain ⟨x, er5, b5, E5⟩ : ∃ k e l, rNum 8 (er4, b4) = (k, (e, l)) := ⟨_, _, _, rfl⟩
  rw [E5]
  dsimp only
  refine (request_Decode.dec_p6 A0 c0 bs hl hc0 hwf w hC E1 E2 he E3 E4 E5).mono ?_
  intro e w' h
  exact request_Decode.res_fin (by rw [ite_self]; exact h)
def request_Decode.f (l0 : List Int) : Option (Int × Int × Int × List (S109) × Int × Int × Int × Int × Int) := if l0.length ≤ 1000000 ∧ l0.all (fun x => decide (0 ≤ x ∧ x < 256)) = true then some (request_Decode.decF l0) else none
theorem request_Decode.calls (A0 : Option Addr) (c0 : Nat) (l0 : List Int) (r1 : Int) (r2 : Int) (r3 : Int) (r4 : List (S109)) (r5 : Int) (r6 : Int) (r7 : Int) (r8 : Int) (r9 : Int) (w : World) (hr0 : Kd.C (Kd.int .u8) w A0 l0.length l0) (hc0 : l0.length ≤ c0) (h : request_Decode.f l0 = some (r1, r2, r3, r4, r5, r6, r7, r8, r9)) :
    Calls Tryd.prog 50 #[.slice A0 l0.length c0] w fun e w' => ∃ v3_ : Value, e = .returned (.tuple #[.agg #[.int .u8 r1, .int .u32 r2, .int .u8 r3, v3_, .int .u8 r5, .int .u8 r6, .int .u8 r7, .int .i64 r8], .int .i64 r9]) ∧ Kd.R k109 109 w' w.heap.size (fun _ => True) v3_ r4 ∧ Below w.heap.size w w' := by
  unfold request_Decode.f at h
  split at h
  · rename_i hb
    have h := Option.some.inj h
    have hd := request_Decode.dec A0 c0 l0 hb.1 hc0 (fun x hx => by simpa using List.all_eq_true.1 hb.2 x hx) w hr0
    rw [h] at hd
    exact hd
  · exact absurd h (by simp)
end Go.Proofs.YtpnehgajhpejjaaDoor.W
