import Derived.Test.YtpnehgajhpejjaaDoorSq
import Derived.Test.YtpnehgajhpejjaaDoorW0
import Derived.Test.YtpnehgajhpejjaaDoorW6
namespace Go.Proofs.YtpnehgajhpejjaaDoor.W
open Go.RowKit Go.Proofs.YtpnehgajhpejjaaDoorW.PrintWords Go.Proofs.YtpnehgajhpejjaaDoorW.PrintLast Go.Proofs.YtpnehgajhpejjaaDoorW.PrintMore
attribute [local go_sem] max2_int min2_int max_two min_two max_three min_three max_four min_four
set_option linter.unusedVariables false
set_option linter.unusedSimpArgs false
theorem qW7x1 {p : Prop} (h : p := by exact Aside0.mk (hK _ _ (by first | exact BX.out | exact blk_alloc BX.out _) (by have := HG.out; intro e_; injection e_ with e_; omega) (by intro c_ f_ e_; injection e_ with _ h_ _; revert h_; decide))) : p := h
theorem qW7x2 {p : Prop} (h : p := by exact Aside0.mk (by first | exact HB.out.trans hB | exact (below_alloc HB.out _).trans hB)) : p := h
theorem qW7x3 {p : Prop} (h : p := by exact Aside0.mk (show w.heap.size < w1.heap.size from by have := hb.size; simp at this; omega)) : p := h
theorem qW7x4 {p : Prop} (h : p := by exact Aside0.mk (below_step (below_alloc (Below.refl _ _) _) hb)) : p := h
theorem qW7x5 {p : Prop} (h : p := by exact Aside0.mk (by rw [hw9]; exact new_at w1 w.heap.size HB.out.size 512)) : p := h
theorem qW7x6 {p : Prop} (h : p := by exact Aside0.mk (by rw [hw9]; exact below_alloc HB.out _)) : p := h
theorem qW7x7 {p : Prop} (h : p := by exact Aside0.mk (by rw [hw9]; exact blk_alloc BX.out _)) : p := h
theorem qW7x8 {p : Prop} (h : p := by intro c_ f_ e_; injection e_ with _ h_ _; revert h_; decide) : p := h
/-! ### request_Encode: function 71 (by hand) -/
def request_Encode.ordF (k : Int) : Bool := decide (1 ≤ k) && decide (k ≤ 4)
def request_Encode.movF (k : Int) : Bool := decide (k = 5) || decide (k = 6)
theorem request_Encode.ord_calls (k : Int) (w : World) : Calls Tryd.prog 77 #[.int .u8 k] w fun e w' => e = .returned (.bool (request_Encode.ordF k)) ∧ w' = w := by
  by_cases c : 1 ≤ k
  · have c1 : decide (1 ≤ k) = true := decide_eq_true c
    have e : request_Encode.ordF k = decide (k ≤ 4) := by simp [request_Encode.ordF, c]
    rw [e]
    clear e c
    go_enter Tryd.func77, Tryd.ntmps77
    go_wp2
    go_ret
    exact ⟨by first | rfl | (simp; done) | (simp [*]; done), rfl⟩
  have c1 : decide (1 ≤ k) = false := decide_eq_false c
  have e : request_Encode.ordF k = false := by simp [request_Encode.ordF, c]
  rw [e]
  clear e c
  go_enter Tryd.func77, Tryd.ntmps77
  go_wp2
  go_ret
  exact ⟨by first | rfl | (simp; done) | (simp [*]; done), rfl⟩
theorem request_Encode.mov_calls (k : Int) (w : World) : Calls Tryd.prog 79 #[.int .u8 k] w fun e w' => e = .returned (.bool (request_Encode.movF k)) ∧ w' = w := by
  by_cases c : k = 5
  · subst c
    have e : request_Encode.movF 5 = true := rfl
    rw [e]
    clear e
    go_enter Tryd.func79, Tryd.ntmps79
    go_wp2
    go_ret
    exact ⟨by first | rfl | (simp; done) | (simp [*]; done), rfl⟩
  have c1 : (k == 5) = false := beq_eq_false_iff_ne.2 c
  have e : request_Encode.movF k = (k == 6) := by simp only [request_Encode.movF, c, decide_false, Bool.false_or]; by_cases h : k = 6 <;> simp [h]
  rw [e]
  clear e c
  go_enter Tryd.func79, Tryd.ntmps79
  go_wp2
  go_ret
  exact ⟨by first | rfl | (simp; done) | (simp [*]; done), rfl⟩
theorem request_Encode.raw1 {base g : Nat} {bs : List Int} {x : Int} {k : Nat} {w : World} (h1 : w.heap[k]? = some (.cells #[.int .u8 x] 5 (0, 0))) (h2 : WrAt w base g bs 512) (h3 : bs.length + 1 ≤ 512) :
    Calls Tryd.prog 104 #[.pointer (some ⟨g, 0, none⟩), .slice (some ⟨k, 0, none⟩) 1 1] w fun r w' => r = .returned (.tuple #[]) ∧ WrAt w' base g (bs ++ [x]) 512 ∧ Below base w w' ∧ Lib.OthersKept 5 (some g) w w' :=
  raw_calls base g bs 512 (some ⟨k, 0, none⟩) 1 [x] (by simp) (by simp; omega) (by omega) w h2 (C_cells h1 [x] (by simp) (fun j y hj => by match j, hj with | 0, hj => simp at hj; subst hj; rfl))
theorem request_Encode.raw2 {base g : Nat} {bs : List Int} {x y : Int} {k : Nat} {w : World} (h1 : w.heap[k]? = some (.cells #[.int .u8 x, .int .u8 y] 5 (0, 0))) (h2 : WrAt w base g bs 512) (h3 : bs.length + 2 ≤ 512) :
    Calls Tryd.prog 104 #[.pointer (some ⟨g, 0, none⟩), .slice (some ⟨k, 0, none⟩) 2 2] w fun r w' => r = .returned (.tuple #[]) ∧ WrAt w' base g (bs ++ [x, y]) 512 ∧ Below base w w' ∧ Lib.OthersKept 5 (some g) w w' :=
  raw_calls base g bs 512 (some ⟨k, 0, none⟩) 2 [x, y] (by simp) (by simp; omega) (by omega) w h2 (C_cells h1 [x, y] (by simp) (fun j z hj => by match j, hj with | 0, hj => simp at hj; subst hj; rfl | 1, hj => simp at hj; subst hj; rfl))
theorem request_Encode.num4 {base g : Nat} {bs : List Int} {x : Int} {w : World} (x0 : 0 ≤ x) (x1 : x < 4294967296) (h2 : WrAt w base g bs 512) (h3 : bs.length + 4 ≤ 512) :
    Calls Tryd.prog 105 #[.pointer (some ⟨g, 0, none⟩), .int .u64 x, .int .i64 4] w fun r w' => r = .returned (.tuple #[]) ∧ WrAt w' base g (bs ++ wB x 4) 512 ∧ Below base w w' ∧ Lib.OthersKept 5 (some g) w w' :=
  wnum_calls base g bs 512 x 4 (by omega) (by omega) x0 (by omega) (by omega) (by omega) w h2
theorem request_Encode.int8 {base g : Nat} {bs : List Int} {x : Int} {w : World} (h2 : WrAt w base g bs 512) (h3 : bs.length + 8 ≤ 512) :
    Calls Tryd.prog 106 #[.pointer (some ⟨g, 0, none⟩), .int .i64 x] w fun r w' => r = .returned (.tuple #[]) ∧ WrAt w' base g (bs ++ wB (x % 18446744073709551616) 8) 512 ∧ Below base w w' ∧ Lib.OthersKept 5 (some g) w w' :=
  wint_calls base g bs 512 x (by omega) (by omega) w h2
theorem request_Encode.done1 {base g : Nat} {bs : List Int} {w : World} (h2 : WrAt w base g bs 512) (h0 : 0 < bs.length) (hl : bs.length ≤ 1000000) :
    Calls Tryd.prog 107 #[.pointer (some ⟨g, 0, none⟩)] w fun r w' => ∃ v, r = .returned (.tuple #[v, .int .i64 0]) ∧ Kd.R (Kd.int .u8) 5 w' w.heap.size (fun _ => True) v bs ∧ Below w.heap.size w w' :=
  done_calls base g bs 512 h0 hl w h2
theorem request_Encode.plain_lines {k o p s f t q : Int} {l : List S109} (h : request_Plain.f 2 k o p l s f t q = some true) : 1 ≤ k ∧ k ≤ 7 ∧ l.length ≤ 3 := by
  unfold request_Plain.f at h
  by_cases h1 : k < 1
  · rw [if_pos h1] at h; simp [request_Plain.j0] at h
  rw [if_neg h1] at h
  by_cases h7 : k > 7
  · rw [if_pos h7] at h; simp [request_Plain.j0] at h
  rw [if_neg h7] at h
  by_cases h3 : (l.length : Int) > 3
  · rw [decide_eq_true h3] at h; simp [request_Plain.j0] at h
  omega
set_option maxHeartbeats 8000000 in
set_option maxRecDepth 100000 in
theorem request_Encode.enc24 (k : Int) (o p s f t q : Int) (A0 : Option Addr) (c0 : Nat) (l : List S109) (hp : request_Plain.f 2 k o p l s f t q = some true) (ho : 0 ≤ o ∧ o < 4294967296) (w : World) (hr0 : Kd.C k109 w A0 l.length l) (hc0 : l.length ≤ c0) (hk2 : 2 ≤ k) (hk4 : k ≤ 4) :
    Calls Tryd.prog 71 #[.agg #[.int .u8 k, .int .u32 o, .int .u8 p, .slice A0 l.length c0, .int .u8 s, .int .u8 f, .int .u8 t, .int .i64 q]] w fun e w' => ∃ v0_ : Value, e = .returned (.tuple #[v0_, .int .i64 0]) ∧ Kd.R (Kd.int .u8) 5 w' w.heap.size (fun _ => True) v0_ ((([] ++ [k] : List Int) ++ wB o 4)) ∧ Below w.heap.size w w' := by
  have hplain := fun (W : World) (h : Below w.heap.size w W) => request_Plain.calls 2 k o p A0 c0 l s f t q true W (Kd.C_below hr0 h) hc0 hp
  have ko : request_Encode.ordF k = true := by simp [request_Encode.ordF]; omega
  have km : request_Encode.movF k = false := by simp [request_Encode.movF]; omega
  have HP := Aside0.mk hp
  have HC := Aside0.mk hr0
  have kp : ¬ (k = 1) := by omega
  have kt : ¬ (k = 6) := by omega
  have kpb : (k == 1) = false := beq_eq_false_iff_ne.2 kp
  have ktb : (k == 6) = false := beq_eq_false_iff_ne.2 kt
  clear hp hr0
  go_enter Tryd.func71, Tryd.ntmps71
  go_wp2_with (first | (go_at_call 102; refine (hplain _ (below_alloc (Below.refl _ _) _)).mono ?_; rintro e w1 ⟨rfl, hb⟩; have BX := Aside0.mk (blk_below (heap_alloc_new w (.cells #[.int .u8 k, .int .u32 o, .int .u8 p, .slice A0 l.length c0, .int .u8 s, .int .u8 f, .int .u8 t, .int .i64 q] 78)) hb); have HB := qW7x4; have HG := qW7x3; clear hb hplain; have c0_ := zc8 BX.out) | (go_at_call 103; refine (new_calls 512 (by omega) _).mono ?_; rintro e w9 ⟨rfl, hw9⟩; have X_ : Aside0 (w9.heap[w.heap.size]? = some (.cells #[.int .u8 k, .int .u32 o, .int .u8 p, .slice A0 l.length c0, .int .u8 s, .int .u8 f, .int .u8 t, .int .i64 q] 78 (0, 0))) := qW7x7; have B_ : Aside0 (Below w.heap.size w w9) := qW7x6; have HW : Aside0 (WrAt w9 w.heap.size w1.heap.size [] 512) := qW7x5; clear hw9 BX HB c0_; have BX := X_; have HB := B_; clear X_ B_; have c0_ := zc8 BX.out))
  go_wp2_with (first | (go_at_call 104; (with_reducible refine (request_Encode.raw1 (base := w.heap.size) (g := w1.heap.size) (bs := []) (x := k) ?h1 ?h2 ?h3).mono ?_); (case h1 => exact heap_alloc_new _ _); (case h2 => exact HW.out.alloc _); (case h3 => first | (simp [wB_length]; done) | (simp [wB_length]; omega)); rintro e w9 ⟨rfl, hW, hB, hK⟩; have X_ : Aside0 (w9.heap[w.heap.size]? = some (.cells #[.int .u8 k, .int .u32 o, .int .u8 p, .slice A0 l.length c0, .int .u8 s, .int .u8 f, .int .u8 t, .int .i64 q] 78 (0, 0))) := qW7x1; have W_ := Aside0.mk hW; have B_ : Aside0 (Below w.heap.size w w9) := qW7x2; clear BX HW HB hW hB hK c0_; have BX := X_; have HW := W_; have HB := B_; clear X_ W_ B_; have c0_ := zc8 BX.out))
  go_wp2_with (first | (go_at_call 77; refine (request_Encode.ord_calls _ _).mono ?_; rw [ko]; rintro e w8 ⟨rfl, rfl⟩) | (go_at_call 105; (with_reducible refine (request_Encode.num4 (base := w.heap.size) (g := w1.heap.size) (bs := ([] ++ [k] : List Int)) (x := o) ho.1 ho.2 ?h1 ?h2).mono ?_); (case h1 => exact HW.out); (case h2 => first | (simp [wB_length]; done) | (simp [wB_length]; omega)); rintro e w9 ⟨rfl, hW, hB, hK⟩; have X_ : Aside0 (w9.heap[w.heap.size]? = some (.cells #[.int .u8 k, .int .u32 o, .int .u8 p, .slice A0 l.length c0, .int .u8 s, .int .u8 f, .int .u8 t, .int .i64 q] 78 (0, 0))) := qW7x1; have W_ := Aside0.mk hW; have B_ : Aside0 (Below w.heap.size w w9) := qW7x2; clear BX HW HB hW hB hK c0_; have BX := X_; have HW := W_; have HB := B_; clear X_ W_ B_; have c0_ := zc8 BX.out))
  go_wp2_with (first | (go_at_call 79; refine (request_Encode.mov_calls _ _).mono ?_; rw [km]; rintro e w8 ⟨rfl, rfl⟩) | (go_at_call 107; (with_reducible refine (request_Encode.done1 (base := w.heap.size) (g := w1.heap.size) (bs := (([] ++ [k] : List Int) ++ wB o 4)) ?h1 ?h2 ?h3).mono ?_); (case h1 => exact HW.out); (case h2 => first | (simp [wB_length]; done) | (simp [wB_length]; omega)); (case h3 => first | (simp [wB_length]; done) | (simp [wB_length]; omega)); rintro e w9 ⟨v, rfl, hR, hB⟩))
  go_ret2
  exact ⟨v, rfl, Kd.R_lower hR HB.out.size, HB.out.trans (hB.mono HB.out.size)⟩
set_option maxHeartbeats 8000000 in
set_option maxRecDepth 100000 in
theorem request_Encode.enc7 (o p s f t q : Int) (A0 : Option Addr) (c0 : Nat) (l : List S109) (hp : request_Plain.f 2 7 o p l s f t q = some true) (ho : 0 ≤ o ∧ o < 4294967296) (w : World) (hr0 : Kd.C k109 w A0 l.length l) (hc0 : l.length ≤ c0) :
    Calls Tryd.prog 71 #[.agg #[.int .u8 7, .int .u32 o, .int .u8 p, .slice A0 l.length c0, .int .u8 s, .int .u8 f, .int .u8 t, .int .i64 q]] w fun e w' => ∃ v0_ : Value, e = .returned (.tuple #[v0_, .int .i64 0]) ∧ Kd.R (Kd.int .u8) 5 w' w.heap.size (fun _ => True) v0_ ((([] ++ [7] : List Int) ++ [s])) ∧ Below w.heap.size w w' := by
  have hplain := fun (W : World) (h : Below w.heap.size w W) => request_Plain.calls 2 7 o p A0 c0 l s f t q true W (Kd.C_below hr0 h) hc0 hp
  have ko : request_Encode.ordF 7 = false := rfl
  have km : request_Encode.movF 7 = false := rfl
  have HP := Aside0.mk hp
  have HC := Aside0.mk hr0
  clear hp hr0
  go_enter Tryd.func71, Tryd.ntmps71
  go_wp2_with (first | (go_at_call 102; refine (hplain _ (below_alloc (Below.refl _ _) _)).mono ?_; rintro e w1 ⟨rfl, hb⟩; have BX := Aside0.mk (blk_below (heap_alloc_new w (.cells #[.int .u8 7, .int .u32 o, .int .u8 p, .slice A0 l.length c0, .int .u8 s, .int .u8 f, .int .u8 t, .int .i64 q] 78)) hb); have HB := qW7x4; have HG := qW7x3; clear hb hplain; have c0_ := zc8 BX.out) | (go_at_call 103; refine (new_calls 512 (by omega) _).mono ?_; rintro e w9 ⟨rfl, hw9⟩; have X_ : Aside0 (w9.heap[w.heap.size]? = some (.cells #[.int .u8 7, .int .u32 o, .int .u8 p, .slice A0 l.length c0, .int .u8 s, .int .u8 f, .int .u8 t, .int .i64 q] 78 (0, 0))) := qW7x7; have B_ : Aside0 (Below w.heap.size w w9) := qW7x6; have HW : Aside0 (WrAt w9 w.heap.size w1.heap.size [] 512) := qW7x5; clear hw9 BX HB c0_; have BX := X_; have HB := B_; clear X_ B_; have c0_ := zc8 BX.out))
  go_wp2_with (first | (go_at_call 104; (with_reducible refine (request_Encode.raw1 (base := w.heap.size) (g := w1.heap.size) (bs := []) (x := 7) ?h1 ?h2 ?h3).mono ?_); (case h1 => exact heap_alloc_new _ _); (case h2 => exact HW.out.alloc _); (case h3 => first | (simp [wB_length]; done) | (simp [wB_length]; omega)); rintro e w9 ⟨rfl, hW, hB, hK⟩; have X_ : Aside0 (w9.heap[w.heap.size]? = some (.cells #[.int .u8 7, .int .u32 o, .int .u8 p, .slice A0 l.length c0, .int .u8 s, .int .u8 f, .int .u8 t, .int .i64 q] 78 (0, 0))) := qW7x1; have W_ := Aside0.mk hW; have B_ : Aside0 (Below w.heap.size w w9) := qW7x2; clear BX HW HB hW hB hK c0_; have BX := X_; have HW := W_; have HB := B_; clear X_ W_ B_; have c0_ := zc8 BX.out))
  go_wp2_with (first | (go_at_call 77; refine (request_Encode.ord_calls _ _).mono ?_; rw [ko]; rintro e w8 ⟨rfl, rfl⟩) | (go_at_call 104; (with_reducible refine (request_Encode.raw1 (base := w.heap.size) (g := w1.heap.size) (bs := ([] ++ [7] : List Int)) (x := s) ?h1 ?h2 ?h3).mono ?_); (case h1 => exact heap_alloc_new _ _); (case h2 => exact HW.out.alloc _); (case h3 => first | (simp [wB_length]; done) | (simp [wB_length]; omega)); rintro e w9 ⟨rfl, hW, hB, hK⟩; have X_ : Aside0 (w9.heap[w.heap.size]? = some (.cells #[.int .u8 7, .int .u32 o, .int .u8 p, .slice A0 l.length c0, .int .u8 s, .int .u8 f, .int .u8 t, .int .i64 q] 78 (0, 0))) := qW7x1; have W_ := Aside0.mk hW; have B_ : Aside0 (Below w.heap.size w w9) := qW7x2; clear BX HW HB hW hB hK c0_; have BX := X_; have HW := W_; have HB := B_; clear X_ W_ B_; have c0_ := zc8 BX.out))
  go_wp2_with (first | (go_at_call 79; refine (request_Encode.mov_calls _ _).mono ?_; rw [km]; rintro e w8 ⟨rfl, rfl⟩) | (go_at_call 107; (with_reducible refine (request_Encode.done1 (base := w.heap.size) (g := w1.heap.size) (bs := (([] ++ [7] : List Int) ++ [s])) ?h1 ?h2 ?h3).mono ?_); (case h1 => exact HW.out); (case h2 => first | (simp [wB_length]; done) | (simp [wB_length]; omega)); (case h3 => first | (simp [wB_length]; done) | (simp [wB_length]; omega)); rintro e w9 ⟨v, rfl, hR, hB⟩))
  go_ret2
  exact ⟨v, rfl, Kd.R_lower hR HB.out.size, HB.out.trans (hB.mono HB.out.size)⟩
set_option maxHeartbeats 8000000 in
set_option maxRecDepth 100000 in
theorem request_Encode.enc5 (o p s f t q : Int) (A0 : Option Addr) (c0 : Nat) (l : List S109) (hp : request_Plain.f 2 5 o p l s f t q = some true) (ho : 0 ≤ o ∧ o < 4294967296) (w : World) (hr0 : Kd.C k109 w A0 l.length l) (hc0 : l.length ≤ c0) :
    Calls Tryd.prog 71 #[.agg #[.int .u8 5, .int .u32 o, .int .u8 p, .slice A0 l.length c0, .int .u8 s, .int .u8 f, .int .u8 t, .int .i64 q]] w fun e w' => ∃ v0_ : Value, e = .returned (.tuple #[v0_, .int .i64 0]) ∧ Kd.R (Kd.int .u8) 5 w' w.heap.size (fun _ => True) v0_ ((((([] ++ [5] : List Int) ++ [s]) ++ [t]) ++ wB (q % 18446744073709551616) 8)) ∧ Below w.heap.size w w' := by
  have hplain := fun (W : World) (h : Below w.heap.size w W) => request_Plain.calls 2 5 o p A0 c0 l s f t q true W (Kd.C_below hr0 h) hc0 hp
  have ko : request_Encode.ordF 5 = false := rfl
  have km : request_Encode.movF 5 = true := rfl
  have HP := Aside0.mk hp
  have HC := Aside0.mk hr0
  clear hp hr0
  go_enter Tryd.func71, Tryd.ntmps71
  go_wp2_with (first | (go_at_call 102; refine (hplain _ (below_alloc (Below.refl _ _) _)).mono ?_; rintro e w1 ⟨rfl, hb⟩; have BX := Aside0.mk (blk_below (heap_alloc_new w (.cells #[.int .u8 5, .int .u32 o, .int .u8 p, .slice A0 l.length c0, .int .u8 s, .int .u8 f, .int .u8 t, .int .i64 q] 78)) hb); have HB := qW7x4; have HG := qW7x3; clear hb hplain; have c0_ := zc8 BX.out) | (go_at_call 103; refine (new_calls 512 (by omega) _).mono ?_; rintro e w9 ⟨rfl, hw9⟩; have X_ : Aside0 (w9.heap[w.heap.size]? = some (.cells #[.int .u8 5, .int .u32 o, .int .u8 p, .slice A0 l.length c0, .int .u8 s, .int .u8 f, .int .u8 t, .int .i64 q] 78 (0, 0))) := qW7x7; have B_ : Aside0 (Below w.heap.size w w9) := qW7x6; have HW : Aside0 (WrAt w9 w.heap.size w1.heap.size [] 512) := qW7x5; clear hw9 BX HB c0_; have BX := X_; have HB := B_; clear X_ B_; have c0_ := zc8 BX.out))
  go_wp2_with (first | (go_at_call 104; (with_reducible refine (request_Encode.raw1 (base := w.heap.size) (g := w1.heap.size) (bs := []) (x := 5) ?h1 ?h2 ?h3).mono ?_); (case h1 => exact heap_alloc_new _ _); (case h2 => exact HW.out.alloc _); (case h3 => first | (simp [wB_length]; done) | (simp [wB_length]; omega)); rintro e w9 ⟨rfl, hW, hB, hK⟩; have X_ : Aside0 (w9.heap[w.heap.size]? = some (.cells #[.int .u8 5, .int .u32 o, .int .u8 p, .slice A0 l.length c0, .int .u8 s, .int .u8 f, .int .u8 t, .int .i64 q] 78 (0, 0))) := qW7x1; have W_ := Aside0.mk hW; have B_ : Aside0 (Below w.heap.size w w9) := qW7x2; clear BX HW HB hW hB hK c0_; have BX := X_; have HW := W_; have HB := B_; clear X_ W_ B_; have c0_ := zc8 BX.out))
  go_wp2_with (first | (go_at_call 77; refine (request_Encode.ord_calls _ _).mono ?_; rw [ko]; rintro e w8 ⟨rfl, rfl⟩) | (go_at_call 104; (with_reducible refine (request_Encode.raw1 (base := w.heap.size) (g := w1.heap.size) (bs := ([] ++ [5] : List Int)) (x := s) ?h1 ?h2 ?h3).mono ?_); (case h1 => exact heap_alloc_new _ _); (case h2 => exact HW.out.alloc _); (case h3 => first | (simp [wB_length]; done) | (simp [wB_length]; omega)); rintro e w9 ⟨rfl, hW, hB, hK⟩; have X_ : Aside0 (w9.heap[w.heap.size]? = some (.cells #[.int .u8 5, .int .u32 o, .int .u8 p, .slice A0 l.length c0, .int .u8 s, .int .u8 f, .int .u8 t, .int .i64 q] 78 (0, 0))) := qW7x1; have W_ := Aside0.mk hW; have B_ : Aside0 (Below w.heap.size w w9) := qW7x2; clear BX HW HB hW hB hK c0_; have BX := X_; have HW := W_; have HB := B_; clear X_ W_ B_; have c0_ := zc8 BX.out))
  go_wp2_with (first | (go_at_call 79; refine (request_Encode.mov_calls _ _).mono ?_; rw [km]; rintro e w8 ⟨rfl, rfl⟩) | (go_at_call 104; (with_reducible refine (request_Encode.raw1 (base := w.heap.size) (g := w1.heap.size) (bs := (([] ++ [5] : List Int) ++ [s])) (x := t) ?h1 ?h2 ?h3).mono ?_); (case h1 => exact heap_alloc_new _ _); (case h2 => exact HW.out.alloc _); (case h3 => first | (simp [wB_length]; done) | (simp [wB_length]; omega)); rintro e w9 ⟨rfl, hW, hB, hK⟩; have X_ : Aside0 (w9.heap[w.heap.size]? = some (.cells #[.int .u8 5, .int .u32 o, .int .u8 p, .slice A0 l.length c0, .int .u8 s, .int .u8 f, .int .u8 t, .int .i64 q] 78 (0, 0))) := qW7x1; have W_ := Aside0.mk hW; have B_ : Aside0 (Below w.heap.size w w9) := qW7x2; clear BX HW HB hW hB hK c0_; have BX := X_; have HW := W_; have HB := B_; clear X_ W_ B_; have c0_ := zc8 BX.out))
  go_wp2_with (first | (go_at_call 106; (with_reducible refine (request_Encode.int8 (base := w.heap.size) (g := w1.heap.size) (bs := ((([] ++ [5] : List Int) ++ [s]) ++ [t])) (x := q) ?h1 ?h2).mono ?_); (case h1 => exact HW.out); (case h2 => first | (simp [wB_length]; done) | (simp [wB_length]; omega)); rintro e w9 ⟨rfl, hW, hB, hK⟩; have X_ : Aside0 (w9.heap[w.heap.size]? = some (.cells #[.int .u8 5, .int .u32 o, .int .u8 p, .slice A0 l.length c0, .int .u8 s, .int .u8 f, .int .u8 t, .int .i64 q] 78 (0, 0))) := qW7x1; have W_ := Aside0.mk hW; have B_ : Aside0 (Below w.heap.size w w9) := qW7x2; clear BX HW HB hW hB hK c0_; have BX := X_; have HW := W_; have HB := B_; clear X_ W_ B_; have c0_ := zc8 BX.out))
  go_wp2_with (first | (go_at_call 107; (with_reducible refine (request_Encode.done1 (base := w.heap.size) (g := w1.heap.size) (bs := (((([] ++ [5] : List Int) ++ [s]) ++ [t]) ++ wB (q % 18446744073709551616) 8)) ?h1 ?h2 ?h3).mono ?_); (case h1 => exact HW.out); (case h2 => first | (simp [wB_length]; done) | (simp [wB_length]; omega)); (case h3 => first | (simp [wB_length]; done) | (simp [wB_length]; omega)); rintro e w9 ⟨v, rfl, hR, hB⟩))
  go_ret2
  exact ⟨v, rfl, Kd.R_lower hR HB.out.size, HB.out.trans (hB.mono HB.out.size)⟩
set_option maxHeartbeats 8000000 in
set_option maxRecDepth 100000 in
theorem request_Encode.enc6 (o p s f t q : Int) (A0 : Option Addr) (c0 : Nat) (l : List S109) (hp : request_Plain.f 2 6 o p l s f t q = some true) (ho : 0 ≤ o ∧ o < 4294967296) (w : World) (hr0 : Kd.C k109 w A0 l.length l) (hc0 : l.length ≤ c0) :
    Calls Tryd.prog 71 #[.agg #[.int .u8 6, .int .u32 o, .int .u8 p, .slice A0 l.length c0, .int .u8 s, .int .u8 f, .int .u8 t, .int .i64 q]] w fun e w' => ∃ v0_ : Value, e = .returned (.tuple #[v0_, .int .i64 0]) ∧ Kd.R (Kd.int .u8) 5 w' w.heap.size (fun _ => True) v0_ (((((([] ++ [6] : List Int) ++ [s]) ++ [f]) ++ [t]) ++ wB (q % 18446744073709551616) 8)) ∧ Below w.heap.size w w' := by
  have hplain := fun (W : World) (h : Below w.heap.size w W) => request_Plain.calls 2 6 o p A0 c0 l s f t q true W (Kd.C_below hr0 h) hc0 hp
  have ko : request_Encode.ordF 6 = false := rfl
  have km : request_Encode.movF 6 = true := rfl
  have HP := Aside0.mk hp
  have HC := Aside0.mk hr0
  clear hp hr0
  go_enter Tryd.func71, Tryd.ntmps71
  go_wp2_with (first | (go_at_call 102; refine (hplain _ (below_alloc (Below.refl _ _) _)).mono ?_; rintro e w1 ⟨rfl, hb⟩; have BX := Aside0.mk (blk_below (heap_alloc_new w (.cells #[.int .u8 6, .int .u32 o, .int .u8 p, .slice A0 l.length c0, .int .u8 s, .int .u8 f, .int .u8 t, .int .i64 q] 78)) hb); have HB := qW7x4; have HG := qW7x3; clear hb hplain; have c0_ := zc8 BX.out) | (go_at_call 103; refine (new_calls 512 (by omega) _).mono ?_; rintro e w9 ⟨rfl, hw9⟩; have X_ : Aside0 (w9.heap[w.heap.size]? = some (.cells #[.int .u8 6, .int .u32 o, .int .u8 p, .slice A0 l.length c0, .int .u8 s, .int .u8 f, .int .u8 t, .int .i64 q] 78 (0, 0))) := qW7x7; have B_ : Aside0 (Below w.heap.size w w9) := qW7x6; have HW : Aside0 (WrAt w9 w.heap.size w1.heap.size [] 512) := qW7x5; clear hw9 BX HB c0_; have BX := X_; have HB := B_; clear X_ B_; have c0_ := zc8 BX.out))
  go_wp2_with (first | (go_at_call 104; (with_reducible refine (request_Encode.raw1 (base := w.heap.size) (g := w1.heap.size) (bs := []) (x := 6) ?h1 ?h2 ?h3).mono ?_); (case h1 => exact heap_alloc_new _ _); (case h2 => exact HW.out.alloc _); (case h3 => first | (simp [wB_length]; done) | (simp [wB_length]; omega)); rintro e w9 ⟨rfl, hW, hB, hK⟩; have X_ : Aside0 (w9.heap[w.heap.size]? = some (.cells #[.int .u8 6, .int .u32 o, .int .u8 p, .slice A0 l.length c0, .int .u8 s, .int .u8 f, .int .u8 t, .int .i64 q] 78 (0, 0))) := qW7x1; have W_ := Aside0.mk hW; have B_ : Aside0 (Below w.heap.size w w9) := qW7x2; clear BX HW HB hW hB hK c0_; have BX := X_; have HW := W_; have HB := B_; clear X_ W_ B_; have c0_ := zc8 BX.out))
  go_wp2_with (first | (go_at_call 77; refine (request_Encode.ord_calls _ _).mono ?_; rw [ko]; rintro e w8 ⟨rfl, rfl⟩) | (go_at_call 104; (with_reducible refine (request_Encode.raw1 (base := w.heap.size) (g := w1.heap.size) (bs := ([] ++ [6] : List Int)) (x := s) ?h1 ?h2 ?h3).mono ?_); (case h1 => exact heap_alloc_new _ _); (case h2 => exact HW.out.alloc _); (case h3 => first | (simp [wB_length]; done) | (simp [wB_length]; omega)); rintro e w9 ⟨rfl, hW, hB, hK⟩; have X_ : Aside0 (w9.heap[w.heap.size]? = some (.cells #[.int .u8 6, .int .u32 o, .int .u8 p, .slice A0 l.length c0, .int .u8 s, .int .u8 f, .int .u8 t, .int .i64 q] 78 (0, 0))) := qW7x1; have W_ := Aside0.mk hW; have B_ : Aside0 (Below w.heap.size w w9) := qW7x2; clear BX HW HB hW hB hK c0_; have BX := X_; have HW := W_; have HB := B_; clear X_ W_ B_; have c0_ := zc8 BX.out))
  go_wp2_with (first | (go_at_call 104; (with_reducible refine (request_Encode.raw1 (base := w.heap.size) (g := w1.heap.size) (bs := (([] ++ [6] : List Int) ++ [s])) (x := f) ?h1 ?h2 ?h3).mono ?_); (case h1 => exact heap_alloc_new _ _); (case h2 => exact HW.out.alloc _); (case h3 => first | (simp [wB_length]; done) | (simp [wB_length]; omega)); rintro e w9 ⟨rfl, hW, hB, hK⟩; have X_ : Aside0 (w9.heap[w.heap.size]? = some (.cells #[.int .u8 6, .int .u32 o, .int .u8 p, .slice A0 l.length c0, .int .u8 s, .int .u8 f, .int .u8 t, .int .i64 q] 78 (0, 0))) := qW7x1; have W_ := Aside0.mk hW; have B_ : Aside0 (Below w.heap.size w w9) := qW7x2; clear BX HW HB hW hB hK c0_; have BX := X_; have HW := W_; have HB := B_; clear X_ W_ B_; have c0_ := zc8 BX.out))
  go_wp2_with (first | (go_at_call 79; refine (request_Encode.mov_calls _ _).mono ?_; rw [km]; rintro e w8 ⟨rfl, rfl⟩) | (go_at_call 104; (with_reducible refine (request_Encode.raw1 (base := w.heap.size) (g := w1.heap.size) (bs := ((([] ++ [6] : List Int) ++ [s]) ++ [f])) (x := t) ?h1 ?h2 ?h3).mono ?_); (case h1 => exact heap_alloc_new _ _); (case h2 => exact HW.out.alloc _); (case h3 => first | (simp [wB_length]; done) | (simp [wB_length]; omega)); rintro e w9 ⟨rfl, hW, hB, hK⟩; have X_ : Aside0 (w9.heap[w.heap.size]? = some (.cells #[.int .u8 6, .int .u32 o, .int .u8 p, .slice A0 l.length c0, .int .u8 s, .int .u8 f, .int .u8 t, .int .i64 q] 78 (0, 0))) := qW7x1; have W_ := Aside0.mk hW; have B_ : Aside0 (Below w.heap.size w w9) := qW7x2; clear BX HW HB hW hB hK c0_; have BX := X_; have HW := W_; have HB := B_; clear X_ W_ B_; have c0_ := zc8 BX.out))
  go_wp2_with (first | (go_at_call 106; (with_reducible refine (request_Encode.int8 (base := w.heap.size) (g := w1.heap.size) (bs := (((([] ++ [6] : List Int) ++ [s]) ++ [f]) ++ [t])) (x := q) ?h1 ?h2).mono ?_); (case h1 => exact HW.out); (case h2 => first | (simp [wB_length]; done) | (simp [wB_length]; omega)); rintro e w9 ⟨rfl, hW, hB, hK⟩; have X_ : Aside0 (w9.heap[w.heap.size]? = some (.cells #[.int .u8 6, .int .u32 o, .int .u8 p, .slice A0 l.length c0, .int .u8 s, .int .u8 f, .int .u8 t, .int .i64 q] 78 (0, 0))) := qW7x1; have W_ := Aside0.mk hW; have B_ : Aside0 (Below w.heap.size w w9) := qW7x2; clear BX HW HB hW hB hK c0_; have BX := X_; have HW := W_; have HB := B_; clear X_ W_ B_; have c0_ := zc8 BX.out))
  go_wp2_with (first | (go_at_call 107; (with_reducible refine (request_Encode.done1 (base := w.heap.size) (g := w1.heap.size) (bs := ((((([] ++ [6] : List Int) ++ [s]) ++ [f]) ++ [t]) ++ wB (q % 18446744073709551616) 8)) ?h1 ?h2 ?h3).mono ?_); (case h1 => exact HW.out); (case h2 => first | (simp [wB_length]; done) | (simp [wB_length]; omega)); (case h3 => first | (simp [wB_length]; done) | (simp [wB_length]; omega)); rintro e w9 ⟨v, rfl, hR, hB⟩))
  go_ret2
  exact ⟨v, rfl, Kd.R_lower hR HB.out.size, HB.out.trans (hB.mono HB.out.size)⟩
/-- The items' bytes. -/
def request_Encode.lnB (l : List S109) : List Int := l.flatMap fun x => x.f0 :: wB (x.f1 % 18446744073709551616) 8
theorem request_Encode.lnB_step (l : List S109) (i : Nat) (h : i < l.length) : request_Encode.lnB (l.take (i + 1)) = request_Encode.lnB (l.take i) ++ ([l[i].f0] ++ wB (l[i].f1 % 18446744073709551616) 8) := by
  have e : l.take (i + 1) = l.take i ++ [l[i]] := by rw [List.take_append_getElem]
  unfold request_Encode.lnB
  rw [e, List.flatMap_append]
  simp
theorem request_Encode.lnB_len : ∀ (l : List S109), (request_Encode.lnB l).length = 9 * l.length
  | [] => rfl
  | x :: l => by
    have ih := request_Encode.lnB_len l
    unfold request_Encode.lnB at ih ⊢
    rw [List.flatMap_cons, List.length_append, ih, List.length_cons, List.length_cons, wB_length]
    omega
set_option maxHeartbeats 8000000 in
set_option maxRecDepth 100000 in
theorem request_Encode.enc1 (o p s f t q : Int) (A0 : Option Addr) (c0 : Nat) (l : List S109) (hp : request_Plain.f 2 1 o p l s f t q = some true) (ho : 0 ≤ o ∧ o < 4294967296) (w : World) (hr0 : Kd.C k109 w A0 l.length l) (hc0 : l.length ≤ c0) :
    Calls Tryd.prog 71 #[.agg #[.int .u8 1, .int .u32 o, .int .u8 p, .slice A0 l.length c0, .int .u8 s, .int .u8 f, .int .u8 t, .int .i64 q]] w fun e w' => ∃ v0_ : Value, e = .returned (.tuple #[v0_, .int .i64 0]) ∧ Kd.R (Kd.int .u8) 5 w' w.heap.size (fun _ => True) v0_ ((((([] ++ [1] : List Int) ++ wB o 4) ++ [p, (l.length : Int)]) ++ request_Encode.lnB l)) ∧ Below w.heap.size w w' := by
  have hplain := fun (W : World) (h : Below w.heap.size w W) => request_Plain.calls 2 1 o p A0 c0 l s f t q true W (Kd.C_below hr0 h) hc0 hp
  have ko : request_Encode.ordF 1 = true := rfl
  have km : request_Encode.movF 1 = false := rfl
  have HP := Aside0.mk hp
  have HC := Aside0.mk hr0
  have hl3 := (request_Encode.plain_lines hp).2.2
  clear hp hr0
  go_enter Tryd.func71, Tryd.ntmps71
  go_wp2_with (first | (go_at_call 102; refine (hplain _ (below_alloc (Below.refl _ _) _)).mono ?_; rintro e w1 ⟨rfl, hb⟩; have BX := Aside0.mk (blk_below (heap_alloc_new w (.cells #[.int .u8 1, .int .u32 o, .int .u8 p, .slice A0 l.length c0, .int .u8 s, .int .u8 f, .int .u8 t, .int .i64 q] 78)) hb); have HB := qW7x4; have HG := qW7x3; clear hb hplain; have c0_ := zc8 BX.out) | (go_at_call 103; refine (new_calls 512 (by omega) _).mono ?_; rintro e w9 ⟨rfl, hw9⟩; have X_ : Aside0 (w9.heap[w.heap.size]? = some (.cells #[.int .u8 1, .int .u32 o, .int .u8 p, .slice A0 l.length c0, .int .u8 s, .int .u8 f, .int .u8 t, .int .i64 q] 78 (0, 0))) := qW7x7; have B_ : Aside0 (Below w.heap.size w w9) := qW7x6; have HW : Aside0 (WrAt w9 w.heap.size w1.heap.size [] 512) := qW7x5; clear hw9 BX HB c0_; have BX := X_; have HB := B_; clear X_ B_; have c0_ := zc8 BX.out))
  go_wp2_with (first | (go_at_call 104; (with_reducible refine (request_Encode.raw1 (base := w.heap.size) (g := w1.heap.size) (bs := []) (x := 1) ?h1 ?h2 ?h3).mono ?_); (case h1 => exact heap_alloc_new _ _); (case h2 => exact HW.out.alloc _); (case h3 => first | (simp [wB_length]; done) | (simp [wB_length]; omega)); rintro e w9 ⟨rfl, hW, hB, hK⟩; have X_ : Aside0 (w9.heap[w.heap.size]? = some (.cells #[.int .u8 1, .int .u32 o, .int .u8 p, .slice A0 l.length c0, .int .u8 s, .int .u8 f, .int .u8 t, .int .i64 q] 78 (0, 0))) := qW7x1; have W_ := Aside0.mk hW; have B_ : Aside0 (Below w.heap.size w w9) := qW7x2; clear BX HW HB hW hB hK c0_; have BX := X_; have HW := W_; have HB := B_; clear X_ W_ B_; have c0_ := zc8 BX.out))
  go_wp2_with (first | (go_at_call 77; refine (request_Encode.ord_calls _ _).mono ?_; rw [ko]; rintro e w8 ⟨rfl, rfl⟩) | (go_at_call 105; (with_reducible refine (request_Encode.num4 (base := w.heap.size) (g := w1.heap.size) (bs := ([] ++ [1] : List Int)) (x := o) ho.1 ho.2 ?h1 ?h2).mono ?_); (case h1 => exact HW.out); (case h2 => first | (simp [wB_length]; done) | (simp [wB_length]; omega)); rintro e w9 ⟨rfl, hW, hB, hK⟩; have X_ : Aside0 (w9.heap[w.heap.size]? = some (.cells #[.int .u8 1, .int .u32 o, .int .u8 p, .slice A0 l.length c0, .int .u8 s, .int .u8 f, .int .u8 t, .int .i64 q] 78 (0, 0))) := qW7x1; have W_ := Aside0.mk hW; have B_ : Aside0 (Below w.heap.size w w9) := qW7x2; clear BX HW HB hW hB hK c0_; have BX := X_; have HW := W_; have HB := B_; clear X_ W_ B_; have c0_ := zc8 BX.out))
  go_wp2_with (first | (go_at_call 104; (with_reducible refine (request_Encode.raw2 (base := w.heap.size) (g := w1.heap.size) (bs := (([] ++ [1] : List Int) ++ wB o 4)) (x := p) (y := (l.length : Int)) ?h1 ?h2 ?h3).mono ?_); (case h1 => exact heap_alloc_new _ _); (case h2 => exact HW.out.alloc _); (case h3 => first | (simp [wB_length]; done) | (simp [wB_length]; omega)); rintro e w9 ⟨rfl, hW, hB, hK⟩; have X_ : Aside0 (w9.heap[w.heap.size]? = some (.cells #[.int .u8 1, .int .u32 o, .int .u8 p, .slice A0 l.length c0, .int .u8 s, .int .u8 f, .int .u8 t, .int .i64 q] 78 (0, 0))) := qW7x1; have W_ := Aside0.mk hW; have B_ : Aside0 (Below w.heap.size w w9) := qW7x2; clear BX HW HB hW hB hK c0_; have BX := X_; have HW := W_; have HB := B_; clear X_ W_ B_; have c0_ := zc8 BX.out))
  go_loopw [44] (fun v44 wr => ∃ i : Nat, i ≤ l.length ∧ v44 = .int .i64 (i : Int) ∧ Aside0 (wr.heap[w.heap.size]? = some (.cells #[.int .u8 1, .int .u32 o, .int .u8 p, .slice A0 l.length c0, .int .u8 s, .int .u8 f, .int .u8 t, .int .i64 q] 78 (0, 0)) ∧ WrAt wr w.heap.size w1.heap.size (((([] ++ [1] : List Int) ++ wB o 4) ++ [p, (l.length : Int)]) ++ request_Encode.lnB (l.take i)) 512 ∧ Below w.heap.size w wr)) (fun v _ => l.length - (RowKit.intOf v).toNat)
  case atStart => exact ⟨0, Nat.zero_le _, rfl, Aside0.mk ⟨BX.out, by simpa [request_Encode.lnB] using HW.out, HB.out⟩⟩
  case round =>
    clear BX HW HB
    obtain ⟨i, hi, rfl, HI⟩ := hrel
    obtain ⟨hX, hW, hB⟩ := HI.out
    clear HI
    have BX := Aside0.mk hX
    have HW := Aside0.mk hW
    have HB := Aside0.mk hB
    clear hX hW hB
    have HL := Aside0.mk (show (((([] ++ [1] : List Int) ++ wB o 4) ++ [p, (l.length : Int)]) ++ request_Encode.lnB (l.take i)).length ≤ 40 from by
      have := request_Encode.lnB_len (l.take i)
      rw [List.length_take] at this
      simp only [List.length_append, List.length_cons, List.length_nil, wB_length]
      have := hl3
      omega)
    clear c0_
    have c0_ := zc8 BX.out
    by_cases hlt : i < l.length
    rotate_left
    · obtain rfl : i = l.length := by omega
      have p2 : ¬ ((l.length : Int) < (l.length : Int)) := by omega
      rw [List.take_length] at HW HL
      have hd0 : 0 < (((([] ++ [1] : List Int) ++ wB o 4) ++ [p, (l.length : Int)]) ++ request_Encode.lnB l).length := by simp only [List.length_append, List.length_cons, List.length_nil]; omega
      have hd9 : (((([] ++ [1] : List Int) ++ wB o 4) ++ [p, (l.length : Int)]) ++ request_Encode.lnB l).length ≤ 1000000 := by have := HL.out; omega
      have HD0 := Aside0.mk hd0
      have HD9 := Aside0.mk hd9
      clear hd0 hd9
      go_wp2_with (first | (go_at_call 79; refine (request_Encode.mov_calls _ _).mono ?_; rw [km]; rintro e w8 ⟨rfl, rfl⟩) | (go_at_call 107; (with_reducible refine (request_Encode.done1 (base := w.heap.size) (g := w1.heap.size) (bs := (((([] ++ [1] : List Int) ++ wB o 4) ++ [p, (l.length : Int)]) ++ request_Encode.lnB l)) ?h1 ?h2 ?h3).mono ?_); (case h1 => exact HW.out); (case h2 => exact HD0.out); (case h3 => exact HD9.out); rintro e w9 ⟨v, rfl, hR, hB⟩))
      go_ret2
      exact ⟨v, rfl, Kd.R_lower hR HB.out.size, HB.out.trans (hB.mono HB.out.size)⟩
    have p2 : (i : Int) < (l.length : Int) := by omega
    have p1 : (0 : Int) ≤ (i : Int) := by omega
    obtain ⟨ad, e1, hx0, hx1⟩ := at_T109 HC.out (i : Int) p1 p2
    cases e1
    have hrd : rd_T109 l (i : Int) = l[i] := by simp [rd_T109, rdOf, List.getD_eq_getElem?_getD, List.getElem?_eq_getElem hlt]
    rw [hrd] at hx0 hx1
    simp only [Int.toNat_natCast] at hx0 hx1
    have hstep := request_Encode.lnB_step l i hlt
    replace hx0 := (HB.out.cell (World.block_lt_of_cell? w _ hx0)).trans hx0
    replace hx1 := (HB.out.cell (World.block_lt_of_cell? w _ hx1)).trans hx1
    have HS := Aside0.mk hstep
    clear hstep hrd
    generalize l[i].f0 = x0 at *
    generalize l[i].f1 = x1 at *
    go_wp2_with (first | ((with_reducible refine gate_dst (N := 6) rfl ?_); refine zbox (N := 6) (cs := #[.int .u8 0, .int .i64 0]) (t := 109) (h := ?_); intro gb hgb w10 hbox hb; have X_ := Aside0.mk (blk_below BX.out hb); have W_ := Aside0.mk (HW.out.below hb); have B_ := Aside0.mk (below_step HB.out hb); have GL := Aside0.mk (show w1.heap.size < gb from by have := HW.out.lt; omega); have GX := Aside0.mk hbox; clear BX HW HB hgb hb c0_; have BX := X_; have HW := W_; have HB := B_; clear X_ W_ B_; have hz0 := zcf2 GX.out; clear hbox))
    have X_ := Aside0.mk (blk_far (blk_far BX.out (p := ⟨gb, 0, none⟩) (by have h1_ := GL.out; have h2_ := HG.out; intro e_; simp only [] at e_; omega) (.int .u8 x0)) (p := ⟨gb, 1, none⟩) (by have h1_ := GL.out; have h2_ := HG.out; intro e_; simp only [] at e_; omega) (.int .i64 x1))
    have Y_ := Aside0.mk (blk_put (cs := #[.int .u8 x0, .int .i64 0]) (blk_put (cs := #[.int .u8 0, .int .i64 0]) GX.out 0 (.int .u8 x0) rfl) 1 (.int .i64 x1) rfl)
    have W_ := Aside0.mk ((HW.out.set GX.out (by have h1_ := GL.out; omega) (by decide) 0 (.int .u8 x0)).set (blk_set GX.out 0 (.int .u8 x0)) (by have h1_ := GL.out; omega) (by decide) 1 (.int .i64 x1))
    have B_ := Aside0.mk ((HB.out.setCell (p := ⟨gb, 0, none⟩) (by have h1_ := GL.out; have h2_ := HG.out; show w.heap.size ≤ gb; omega) (.int .u8 x0)).setCell (p := ⟨gb, 1, none⟩) (by have h1_ := GL.out; have h2_ := HG.out; show w.heap.size ≤ gb; omega) (.int .i64 x1))
    have hsz : w10.heap.size = ((w10.setCell ⟨gb, 0, none⟩ (.int .u8 x0)).setCell ⟨gb, 1, none⟩ (.int .i64 x1)).heap.size := by simp
    rw [hsz]
    clear BX HW HB GX hz0 hsz
    have BX := X_
    have HW := W_
    have HB := B_
    have GX := Y_
    clear X_ W_ B_ Y_
    generalize ((w10.setCell ⟨gb, 0, none⟩ (.int .u8 x0)).setCell ⟨gb, 1, none⟩ (.int .i64 x1)) = w12 at *
    have hz1 : w12.cell? ⟨gb, 1, none⟩ = some (.int .i64 x1) := (blk_cell GX.out 1).trans rfl
    (with_reducible refine (request_Encode.raw1 (base := w.heap.size) (g := w1.heap.size) (bs := (((([] ++ [1] : List Int) ++ wB o 4) ++ [p, (l.length : Int)]) ++ request_Encode.lnB (l.take i))) (x := x0) ?h1 ?h2 ?h3).mono ?_)
    (case h1 => exact heap_alloc_new _ _)
    (case h2 => exact HW.out.alloc _)
    (case h3 => have := HL.out; simp only [List.length_append, List.length_cons, List.length_nil, wB_length] at this ⊢; omega)
    rintro e w9 ⟨rfl, hW, hB, hK⟩
    have X_ : Aside0 (w9.heap[w.heap.size]? = some (.cells #[.int .u8 1, .int .u32 o, .int .u8 p, .slice (some ad) l.length c0, .int .u8 s, .int .u8 f, .int .u8 t, .int .i64 q] 78 (0, 0))) := Aside0.mk (hK _ _ (blk_alloc BX.out _) (by have := HG.out; intro e_; injection e_ with e_; omega) qW7x8)
    have Y_ : Aside0 (w9.heap[gb]? = some (.cells #[.int .u8 x0, .int .i64 x1] 109 (0, 0))) := Aside0.mk (hK _ _ (blk_alloc GX.out _) (by have := GL.out; intro e_; injection e_ with e_; omega) qW7x8)
    have W_ := Aside0.mk hW
    have B_ : Aside0 (Below w.heap.size w w9) := Aside0.mk ((below_alloc HB.out _).trans hB)
    clear BX HW HB GX hW hB hK
    have BX := X_
    have HW := W_
    have HB := B_
    have GX := Y_
    clear X_ W_ B_ Y_
    have hz1 : w9.cell? ⟨gb, 1, none⟩ = some (.int .i64 x1) := (blk_cell GX.out 1).trans rfl
    go_wp2_with (first | (go_at_call 106; (with_reducible refine (request_Encode.int8 (base := w.heap.size) (g := w1.heap.size) (bs := ((((([] ++ [1] : List Int) ++ wB o 4) ++ [p, (l.length : Int)]) ++ request_Encode.lnB (l.take i)) ++ [x0])) (x := x1) ?h1 ?h2).mono ?_); (case h1 => exact HW.out); (case h2 => have := HL.out; simp only [List.length_append, List.length_cons, List.length_nil, wB_length] at this ⊢; omega); rintro e w9 ⟨rfl, hW, hB, hK⟩; have X_ : Aside0 (w9.heap[w.heap.size]? = some (.cells #[.int .u8 1, .int .u32 o, .int .u8 p, .slice (some ad) l.length c0, .int .u8 s, .int .u8 f, .int .u8 t, .int .i64 q] 78 (0, 0))) := Aside0.mk (hK _ _ BX.out (by have := HG.out; intro e_; injection e_ with e_; omega) qW7x8); have W_ := Aside0.mk hW; have B_ : Aside0 (Below w.heap.size w w9) := Aside0.mk (HB.out.trans hB); clear BX HW HB GX hW hB hK; have BX := X_; have HW := W_; have HB := B_; clear X_ W_ B_))
    go_roundw
    case measure => simp [RowKit.intOf]; omega
    case rel =>
      refine ⟨i + 1, by omega, by go_num, Aside0.mk ⟨BX.out, ?_, HB.out⟩⟩
      rw [HS.out]
      have := HW.out
      simp only [List.append_assoc] at this ⊢
      exact this
 
set_option maxHeartbeats 4000000 in
set_option maxRecDepth 100000 in
theorem request_Encode.enc0 (k o p s f t q : Int) (A0 : Option Addr) (c0 : Nat) (l : List S109) (hp : request_Plain.f 2 k o p l s f t q = some false) (w : World) (hr0 : Kd.C k109 w A0 l.length l) (hc0 : l.length ≤ c0) :
    Calls Tryd.prog 71 #[.agg #[.int .u8 k, .int .u32 o, .int .u8 p, .slice A0 l.length c0, .int .u8 s, .int .u8 f, .int .u8 t, .int .i64 q]] w fun e w' => ∃ v0_ : Value, e = .returned (.tuple #[v0_, .int .i64 1]) ∧ Kd.R (Kd.int .u8) 5 w' w.heap.size (fun _ => True) v0_ [] ∧ Below w.heap.size w w' := by
  have hplain := fun (W : World) (h : Below w.heap.size w W) => request_Plain.calls 2 k o p A0 c0 l s f t q false W (Kd.C_below hr0 h) hc0 hp
  clear hp hr0
  go_enter Tryd.func71, Tryd.ntmps71
  go_wp2_with (first | (go_at_call 102; refine (hplain _ (below_alloc (Below.refl _ _) _)).mono ?_; rintro e w1 ⟨rfl, hb⟩; have HB := qW7x4; clear hb hplain))
  go_ret2
  exact ⟨_, rfl, Kd.R_nil _ _ _ _ _, HB.out⟩
/-- A request's bytes. -/
def request_Encode.encB (k o p : Int) (l : List S109) (s f t q : Int) : List Int :=
  if k = 1 then (((([] ++ [1] : List Int) ++ wB o 4) ++ [p, (l.length : Int)]) ++ request_Encode.lnB l) else if k ≤ 4 then ([] ++ [k] ++ wB o 4) else if k = 5 then ([] ++ [5] ++ [s] ++ [t] ++ wB (q % 18446744073709551616) 8) else if k = 6 then ([] ++ [6] ++ [s] ++ [f] ++ [t] ++ wB (q % 18446744073709551616) 8) else ([] ++ [7] ++ [s])
def request_Encode.f (a0_0 a0_1 a0_2 : Int) (l0_3 : List (S109)) (a0_4 a0_5 a0_6 a0_7 : Int) : Option (List Int × Int) :=
  if 0 ≤ a0_1 ∧ a0_1 < 4294967296 then (request_Plain.f 2 a0_0 a0_1 a0_2 l0_3 a0_4 a0_5 a0_6 a0_7).map fun b => if b = true then (request_Encode.encB a0_0 a0_1 a0_2 l0_3 a0_4 a0_5 a0_6 a0_7, 0) else ([], 1) else none
theorem request_Encode.calls (a0_0 : Int) (a0_1 : Int) (a0_2 : Int) (A0_3 : Option Addr) (c0_3 : Nat) (l0_3 : List (S109)) (a0_4 : Int) (a0_5 : Int) (a0_6 : Int) (a0_7 : Int) (r1 : List Int) (r2 : Int) (w : World) (hr0_3 : Kd.C k109 w A0_3 l0_3.length l0_3) (hc0_3 : l0_3.length ≤ c0_3) (h : request_Encode.f a0_0 a0_1 a0_2 l0_3 a0_4 a0_5 a0_6 a0_7 = some (r1, r2)) :
    Calls Tryd.prog 71 #[.agg #[.int .u8 a0_0, .int .u32 a0_1, .int .u8 a0_2, .slice A0_3 l0_3.length c0_3, .int .u8 a0_4, .int .u8 a0_5, .int .u8 a0_6, .int .i64 a0_7]] w fun e w' => ∃ v0_ : Value, e = .returned (.tuple #[v0_, .int .i64 r2]) ∧ Kd.R (Kd.int .u8) 5 w' w.heap.size (fun _ => True) v0_ r1 ∧ Below w.heap.size w w' := by
  unfold request_Encode.f at h
  split at h
  · rename_i ho
    obtain ⟨b, hp, h⟩ := Option.map_eq_some_iff.1 h
    cases b with
    | false =>
      rw [if_neg (by simp)] at h
      cases h
      exact request_Encode.enc0 a0_0 a0_1 a0_2 a0_4 a0_5 a0_6 a0_7 A0_3 c0_3 l0_3 hp w hr0_3 hc0_3
    | true =>
      rw [if_pos rfl] at h
      have hk := request_Encode.plain_lines hp
      cases h
      unfold request_Encode.encB
      by_cases h1 : a0_0 = 1
      · subst h1
        rw [if_pos rfl]
        exact request_Encode.enc1 a0_1 a0_2 a0_4 a0_5 a0_6 a0_7 A0_3 c0_3 l0_3 hp ho w hr0_3 hc0_3
      rw [if_neg h1]
      by_cases h4 : a0_0 ≤ 4
      · rw [if_pos h4]
        exact request_Encode.enc24 a0_0 a0_1 a0_2 a0_4 a0_5 a0_6 a0_7 A0_3 c0_3 l0_3 hp ho w hr0_3 hc0_3 (by omega) h4
      rw [if_neg h4]
      by_cases h5 : a0_0 = 5
      · subst h5
        rw [if_pos rfl]
        exact request_Encode.enc5 a0_1 a0_2 a0_4 a0_5 a0_6 a0_7 A0_3 c0_3 l0_3 hp ho w hr0_3 hc0_3
      rw [if_neg h5]
      by_cases h6 : a0_0 = 6
      · subst h6
        rw [if_pos rfl]
        exact request_Encode.enc6 a0_1 a0_2 a0_4 a0_5 a0_6 a0_7 A0_3 c0_3 l0_3 hp ho w hr0_3 hc0_3
      rw [if_neg h6]
      obtain rfl : a0_0 = 7 := by omega
      exact request_Encode.enc7 a0_1 a0_2 a0_4 a0_5 a0_6 a0_7 A0_3 c0_3 l0_3 hp ho w hr0_3 hc0_3
  · exact absurd h (by simp)
end Go.Proofs.YtpnehgajhpejjaaDoor.W
