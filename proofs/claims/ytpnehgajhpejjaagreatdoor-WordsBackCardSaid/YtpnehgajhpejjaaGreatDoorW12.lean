import Derived.Test.YtpnehgajhpejjaaGreatDoorSq
import Derived.Test.YtpnehgajhpejjaaGreatDoorW0
import Derived.Test.YtpnehgajhpejjaaGreatDoorW11
namespace Go.Proofs.YtpnehgajhpejjaaGreatDoor.W
open Go.RowKit Go.Proofs.YtpnehgajhpejjaaGreatDoorW.PrintWords Go.Proofs.YtpnehgajhpejjaaGreatDoorW.PrintLast Go.Proofs.YtpnehgajhpejjaaGreatDoorW.PrintMore
attribute [local go_sem] max2_int min2_int max_two min_two max_three min_three max_four min_four
set_option linter.unusedVariables false
set_option linter.unusedSimpArgs false
theorem qW12x1 {p : Prop} (h : p := by exact Aside0.mk (below_step (below_alloc (below_alloc (Below.refl _ _) _) _) hb)) : p := h
theorem qW12x2 {p : Prop} (h : p := by omega) : p := h
/-! ### pledgeref38_Good: function 18 (by hand) -/
set_option maxHeartbeats 8000000 in
set_option maxRecDepth 100000 in
theorem pledgeref38_Good.k1 (g p t : Int) (A0 : Option Addr) (c0 : Nat) (l : List Int) (w : World) (hr0 : Kd.C (Kd.int .u8) w A0 l.length l) (hc0 : l.length ≤ c0) (b : Bool) (hb : pledgeref38_Same.f 1 g p t l 1 0 0 0 l = some b) :
    Calls Tryz.prog 18 #[.agg #[.int .u8 1, .int .u32 g, .int .i64 p, .int .i64 t, .slice A0 l.length c0]] w fun e w' => e = .returned (.bool (b && (decide ((l.length : Int) ≤ 512) && (decide (0 ≤ p) && (decide (p ≤ 65535) && (decide (0 ≤ t) && decide (t ≤ 65535))))))) ∧ Below w.heap.size w w' := by
  have HC := Aside0.mk hr0
  have HS := Aside0.mk hb
  clear hr0 hb
  go_enter Tryz.func18, Tryz.ntmps18
  go_wp2_with (first | fail)
  refine (pledgeref38_Same.calls 1 g p t A0 c0 l 1 0 0 0 A0 c0 l b _ ?h1 hc0 ?h2 ?h3 HS.out).mono ?_
  (case h1 => exact Kd.C_alloc (Kd.C_alloc HC.out _) _)
  (case h2 => exact Kd.C_alloc (Kd.C_alloc HC.out _) _)
  (case h3 => exact hc0)
  rintro e w1 ⟨rfl, hb⟩
  have BX := Aside0.mk (blk_below (blk_alloc (heap_alloc_new w (.cells #[.int .u8 1, .int .u32 g, .int .i64 p, .int .i64 t, .slice A0 l.length c0] 25)) _) hb)
  have HB := qW12x1
  have c2_ : w1.cell? ⟨w.heap.size, 2, none⟩ = some (.int .i64 p) := (blk_cell BX.out 2).trans rfl
  have c3_ : w1.cell? ⟨w.heap.size, 3, none⟩ = some (.int .i64 t) := (blk_cell BX.out 3).trans rfl
  have c4_ : w1.cell? ⟨w.heap.size, 4, none⟩ = some (.slice A0 l.length c0) := (blk_cell BX.out 4).trans rfl
  clear hb
  have HS2 := HS
  clear HS
  cases b with
  | false =>
    go_wp2_with (first | fail)
    go_ret
    exact ⟨rfl, HB.out⟩
  | true =>
    by_cases h1 : (l.length : Int) ≤ 512
    rotate_left
    · go_wp2_with (first | fail)
      go_ret
      exact ⟨by first | rfl | (simp_all; done) | (simp_all; omega), HB.out⟩
    by_cases h2 : 0 ≤ p
    rotate_left
    · go_wp2_with (first | fail)
      go_ret
      exact ⟨by first | rfl | (simp_all; done) | (simp_all; omega), HB.out⟩
    by_cases h3 : p ≤ 65535
    rotate_left
    · go_wp2_with (first | fail)
      go_ret
      exact ⟨by first | rfl | (simp_all; done) | (simp_all; omega), HB.out⟩
    by_cases h4 : 0 ≤ t
    · go_wp2_with (first | fail)
      go_ret
      exact ⟨by first | rfl | (simp [h1, h2, h3, h4]; done) | (simp_all; done) | (simp_all; omega), HB.out⟩
    go_wp2_with (first | fail)
    go_ret
    exact ⟨by first | rfl | (simp [h1, h2, h3, h4]; done) | (simp_all; done) | (simp_all; omega), HB.out⟩
set_option maxHeartbeats 8000000 in
set_option maxRecDepth 100000 in
theorem pledgeref38_Good.k2 (g p t : Int) (A0 : Option Addr) (c0 : Nat) (l : List Int) (w : World) (hr0 : Kd.C (Kd.int .u8) w A0 l.length l) (hc0 : l.length ≤ c0) (b : Bool) (hb : pledgeref38_Same.f 2 g p t l 2 g 0 0 [] = some b) :
    Calls Tryz.prog 18 #[.agg #[.int .u8 2, .int .u32 g, .int .i64 p, .int .i64 t, .slice A0 l.length c0]] w fun e w' => e = .returned (.bool (b && (decide ((l.length : Int) ≤ 512) && (decide (0 ≤ p) && (decide (p ≤ 65535) && (decide (0 ≤ t) && decide (t ≤ 65535))))))) ∧ Below w.heap.size w w' := by
  have HC := Aside0.mk hr0
  have HS := Aside0.mk hb
  clear hr0 hb
  go_enter Tryz.func18, Tryz.ntmps18
  go_wp2_with (first | fail)
  refine (pledgeref38_Same.calls 2 g p t A0 c0 l 2 g 0 0 none 0 [] b _ ?h1 hc0 ?h2 ?h3 HS.out).mono ?_
  (case h1 => exact Kd.C_alloc (Kd.C_alloc HC.out _) _)
  (case h2 => exact Kd.C_nil _ _)
  (case h3 => exact Nat.le_refl _)
  rintro e w1 ⟨rfl, hb⟩
  have BX := Aside0.mk (blk_below (blk_alloc (heap_alloc_new w (.cells #[.int .u8 2, .int .u32 g, .int .i64 p, .int .i64 t, .slice A0 l.length c0] 25)) _) hb)
  have HB := qW12x1
  have c2_ : w1.cell? ⟨w.heap.size, 2, none⟩ = some (.int .i64 p) := (blk_cell BX.out 2).trans rfl
  have c3_ : w1.cell? ⟨w.heap.size, 3, none⟩ = some (.int .i64 t) := (blk_cell BX.out 3).trans rfl
  have c4_ : w1.cell? ⟨w.heap.size, 4, none⟩ = some (.slice A0 l.length c0) := (blk_cell BX.out 4).trans rfl
  clear hb
  have HS2 := HS
  clear HS
  cases b with
  | false =>
    go_wp2_with (first | fail)
    go_ret
    exact ⟨rfl, HB.out⟩
  | true =>
    by_cases h1 : (l.length : Int) ≤ 512
    rotate_left
    · go_wp2_with (first | fail)
      go_ret
      exact ⟨by first | rfl | (simp_all; done) | (simp_all; omega), HB.out⟩
    by_cases h2 : 0 ≤ p
    rotate_left
    · go_wp2_with (first | fail)
      go_ret
      exact ⟨by first | rfl | (simp_all; done) | (simp_all; omega), HB.out⟩
    by_cases h3 : p ≤ 65535
    rotate_left
    · go_wp2_with (first | fail)
      go_ret
      exact ⟨by first | rfl | (simp_all; done) | (simp_all; omega), HB.out⟩
    by_cases h4 : 0 ≤ t
    · go_wp2_with (first | fail)
      go_ret
      exact ⟨by first | rfl | (simp [h1, h2, h3, h4]; done) | (simp_all; done) | (simp_all; omega), HB.out⟩
    go_wp2_with (first | fail)
    go_ret
    exact ⟨by first | rfl | (simp [h1, h2, h3, h4]; done) | (simp_all; done) | (simp_all; omega), HB.out⟩
set_option maxHeartbeats 8000000 in
set_option maxRecDepth 100000 in
theorem pledgeref38_Good.k3 (g p t : Int) (A0 : Option Addr) (c0 : Nat) (l : List Int) (w : World) (hr0 : Kd.C (Kd.int .u8) w A0 l.length l) (hc0 : l.length ≤ c0) (b : Bool) (hb : pledgeref38_Same.f 3 g p t l 3 g 0 0 [] = some b) :
    Calls Tryz.prog 18 #[.agg #[.int .u8 3, .int .u32 g, .int .i64 p, .int .i64 t, .slice A0 l.length c0]] w fun e w' => e = .returned (.bool (b && (decide ((l.length : Int) ≤ 512) && (decide (0 ≤ p) && (decide (p ≤ 65535) && (decide (0 ≤ t) && decide (t ≤ 65535))))))) ∧ Below w.heap.size w w' := by
  have HC := Aside0.mk hr0
  have HS := Aside0.mk hb
  clear hr0 hb
  go_enter Tryz.func18, Tryz.ntmps18
  go_wp2_with (first | fail)
  refine (pledgeref38_Same.calls 3 g p t A0 c0 l 3 g 0 0 none 0 [] b _ ?h1 hc0 ?h2 ?h3 HS.out).mono ?_
  (case h1 => exact Kd.C_alloc (Kd.C_alloc HC.out _) _)
  (case h2 => exact Kd.C_nil _ _)
  (case h3 => exact Nat.le_refl _)
  rintro e w1 ⟨rfl, hb⟩
  have BX := Aside0.mk (blk_below (blk_alloc (heap_alloc_new w (.cells #[.int .u8 3, .int .u32 g, .int .i64 p, .int .i64 t, .slice A0 l.length c0] 25)) _) hb)
  have HB := qW12x1
  have c2_ : w1.cell? ⟨w.heap.size, 2, none⟩ = some (.int .i64 p) := (blk_cell BX.out 2).trans rfl
  have c3_ : w1.cell? ⟨w.heap.size, 3, none⟩ = some (.int .i64 t) := (blk_cell BX.out 3).trans rfl
  have c4_ : w1.cell? ⟨w.heap.size, 4, none⟩ = some (.slice A0 l.length c0) := (blk_cell BX.out 4).trans rfl
  clear hb
  have HS2 := HS
  clear HS
  cases b with
  | false =>
    go_wp2_with (first | fail)
    go_ret
    exact ⟨rfl, HB.out⟩
  | true =>
    by_cases h1 : (l.length : Int) ≤ 512
    rotate_left
    · go_wp2_with (first | fail)
      go_ret
      exact ⟨by first | rfl | (simp_all; done) | (simp_all; omega), HB.out⟩
    by_cases h2 : 0 ≤ p
    rotate_left
    · go_wp2_with (first | fail)
      go_ret
      exact ⟨by first | rfl | (simp_all; done) | (simp_all; omega), HB.out⟩
    by_cases h3 : p ≤ 65535
    rotate_left
    · go_wp2_with (first | fail)
      go_ret
      exact ⟨by first | rfl | (simp_all; done) | (simp_all; omega), HB.out⟩
    by_cases h4 : 0 ≤ t
    · go_wp2_with (first | fail)
      go_ret
      exact ⟨by first | rfl | (simp [h1, h2, h3, h4]; done) | (simp_all; done) | (simp_all; omega), HB.out⟩
    go_wp2_with (first | fail)
    go_ret
    exact ⟨by first | rfl | (simp [h1, h2, h3, h4]; done) | (simp_all; done) | (simp_all; omega), HB.out⟩
set_option maxHeartbeats 8000000 in
set_option maxRecDepth 100000 in
theorem pledgeref38_Good.k4 (g p t : Int) (A0 : Option Addr) (c0 : Nat) (l : List Int) (w : World) (hr0 : Kd.C (Kd.int .u8) w A0 l.length l) (hc0 : l.length ≤ c0) (b : Bool) (hb : pledgeref38_Same.f 4 g p t l 4 0 0 0 [] = some b) :
    Calls Tryz.prog 18 #[.agg #[.int .u8 4, .int .u32 g, .int .i64 p, .int .i64 t, .slice A0 l.length c0]] w fun e w' => e = .returned (.bool (b && (decide ((l.length : Int) ≤ 512) && (decide (0 ≤ p) && (decide (p ≤ 65535) && (decide (0 ≤ t) && decide (t ≤ 65535))))))) ∧ Below w.heap.size w w' := by
  have HC := Aside0.mk hr0
  have HS := Aside0.mk hb
  clear hr0 hb
  go_enter Tryz.func18, Tryz.ntmps18
  go_wp2_with (first | fail)
  refine (pledgeref38_Same.calls 4 g p t A0 c0 l 4 0 0 0 none 0 [] b _ ?h1 hc0 ?h2 ?h3 HS.out).mono ?_
  (case h1 => exact Kd.C_alloc (Kd.C_alloc HC.out _) _)
  (case h2 => exact Kd.C_nil _ _)
  (case h3 => exact Nat.le_refl _)
  rintro e w1 ⟨rfl, hb⟩
  have BX := Aside0.mk (blk_below (blk_alloc (heap_alloc_new w (.cells #[.int .u8 4, .int .u32 g, .int .i64 p, .int .i64 t, .slice A0 l.length c0] 25)) _) hb)
  have HB := qW12x1
  have c2_ : w1.cell? ⟨w.heap.size, 2, none⟩ = some (.int .i64 p) := (blk_cell BX.out 2).trans rfl
  have c3_ : w1.cell? ⟨w.heap.size, 3, none⟩ = some (.int .i64 t) := (blk_cell BX.out 3).trans rfl
  have c4_ : w1.cell? ⟨w.heap.size, 4, none⟩ = some (.slice A0 l.length c0) := (blk_cell BX.out 4).trans rfl
  clear hb
  have HS2 := HS
  clear HS
  cases b with
  | false =>
    go_wp2_with (first | fail)
    go_ret
    exact ⟨rfl, HB.out⟩
  | true =>
    by_cases h1 : (l.length : Int) ≤ 512
    rotate_left
    · go_wp2_with (first | fail)
      go_ret
      exact ⟨by first | rfl | (simp_all; done) | (simp_all; omega), HB.out⟩
    by_cases h2 : 0 ≤ p
    rotate_left
    · go_wp2_with (first | fail)
      go_ret
      exact ⟨by first | rfl | (simp_all; done) | (simp_all; omega), HB.out⟩
    by_cases h3 : p ≤ 65535
    rotate_left
    · go_wp2_with (first | fail)
      go_ret
      exact ⟨by first | rfl | (simp_all; done) | (simp_all; omega), HB.out⟩
    by_cases h4 : 0 ≤ t
    · go_wp2_with (first | fail)
      go_ret
      exact ⟨by first | rfl | (simp [h1, h2, h3, h4]; done) | (simp_all; done) | (simp_all; omega), HB.out⟩
    go_wp2_with (first | fail)
    go_ret
    exact ⟨by first | rfl | (simp [h1, h2, h3, h4]; done) | (simp_all; done) | (simp_all; omega), HB.out⟩
set_option maxHeartbeats 8000000 in
set_option maxRecDepth 100000 in
theorem pledgeref38_Good.k5 (g p t : Int) (A0 : Option Addr) (c0 : Nat) (l : List Int) (w : World) (hr0 : Kd.C (Kd.int .u8) w A0 l.length l) (hc0 : l.length ≤ c0) (b : Bool) (hb : pledgeref38_Same.f 5 g p t l 5 0 0 0 [] = some b) :
    Calls Tryz.prog 18 #[.agg #[.int .u8 5, .int .u32 g, .int .i64 p, .int .i64 t, .slice A0 l.length c0]] w fun e w' => e = .returned (.bool (b && (decide ((l.length : Int) ≤ 512) && (decide (0 ≤ p) && (decide (p ≤ 65535) && (decide (0 ≤ t) && decide (t ≤ 65535))))))) ∧ Below w.heap.size w w' := by
  have HC := Aside0.mk hr0
  have HS := Aside0.mk hb
  clear hr0 hb
  go_enter Tryz.func18, Tryz.ntmps18
  go_wp2_with (first | fail)
  refine (pledgeref38_Same.calls 5 g p t A0 c0 l 5 0 0 0 none 0 [] b _ ?h1 hc0 ?h2 ?h3 HS.out).mono ?_
  (case h1 => exact Kd.C_alloc (Kd.C_alloc HC.out _) _)
  (case h2 => exact Kd.C_nil _ _)
  (case h3 => exact Nat.le_refl _)
  rintro e w1 ⟨rfl, hb⟩
  have BX := Aside0.mk (blk_below (blk_alloc (heap_alloc_new w (.cells #[.int .u8 5, .int .u32 g, .int .i64 p, .int .i64 t, .slice A0 l.length c0] 25)) _) hb)
  have HB := qW12x1
  have c2_ : w1.cell? ⟨w.heap.size, 2, none⟩ = some (.int .i64 p) := (blk_cell BX.out 2).trans rfl
  have c3_ : w1.cell? ⟨w.heap.size, 3, none⟩ = some (.int .i64 t) := (blk_cell BX.out 3).trans rfl
  have c4_ : w1.cell? ⟨w.heap.size, 4, none⟩ = some (.slice A0 l.length c0) := (blk_cell BX.out 4).trans rfl
  clear hb
  have HS2 := HS
  clear HS
  cases b with
  | false =>
    go_wp2_with (first | fail)
    go_ret
    exact ⟨rfl, HB.out⟩
  | true =>
    by_cases h1 : (l.length : Int) ≤ 512
    rotate_left
    · go_wp2_with (first | fail)
      go_ret
      exact ⟨by first | rfl | (simp_all; done) | (simp_all; omega), HB.out⟩
    by_cases h2 : 0 ≤ p
    rotate_left
    · go_wp2_with (first | fail)
      go_ret
      exact ⟨by first | rfl | (simp_all; done) | (simp_all; omega), HB.out⟩
    by_cases h3 : p ≤ 65535
    rotate_left
    · go_wp2_with (first | fail)
      go_ret
      exact ⟨by first | rfl | (simp_all; done) | (simp_all; omega), HB.out⟩
    by_cases h4 : 0 ≤ t
    · go_wp2_with (first | fail)
      go_ret
      exact ⟨by first | rfl | (simp [h1, h2, h3, h4]; done) | (simp_all; done) | (simp_all; omega), HB.out⟩
    go_wp2_with (first | fail)
    go_ret
    exact ⟨by first | rfl | (simp [h1, h2, h3, h4]; done) | (simp_all; done) | (simp_all; omega), HB.out⟩
set_option maxHeartbeats 8000000 in
set_option maxRecDepth 100000 in
theorem pledgeref38_Good.k6 (g p t : Int) (A0 : Option Addr) (c0 : Nat) (l : List Int) (w : World) (hr0 : Kd.C (Kd.int .u8) w A0 l.length l) (hc0 : l.length ≤ c0) (b : Bool) (hb : pledgeref38_Same.f 6 g p t l 6 0 0 0 [] = some b) :
    Calls Tryz.prog 18 #[.agg #[.int .u8 6, .int .u32 g, .int .i64 p, .int .i64 t, .slice A0 l.length c0]] w fun e w' => e = .returned (.bool (b && (decide ((l.length : Int) ≤ 512) && (decide (0 ≤ p) && (decide (p ≤ 65535) && (decide (0 ≤ t) && decide (t ≤ 65535))))))) ∧ Below w.heap.size w w' := by
  have HC := Aside0.mk hr0
  have HS := Aside0.mk hb
  clear hr0 hb
  go_enter Tryz.func18, Tryz.ntmps18
  go_wp2_with (first | fail)
  refine (pledgeref38_Same.calls 6 g p t A0 c0 l 6 0 0 0 none 0 [] b _ ?h1 hc0 ?h2 ?h3 HS.out).mono ?_
  (case h1 => exact Kd.C_alloc (Kd.C_alloc HC.out _) _)
  (case h2 => exact Kd.C_nil _ _)
  (case h3 => exact Nat.le_refl _)
  rintro e w1 ⟨rfl, hb⟩
  have BX := Aside0.mk (blk_below (blk_alloc (heap_alloc_new w (.cells #[.int .u8 6, .int .u32 g, .int .i64 p, .int .i64 t, .slice A0 l.length c0] 25)) _) hb)
  have HB := qW12x1
  have c2_ : w1.cell? ⟨w.heap.size, 2, none⟩ = some (.int .i64 p) := (blk_cell BX.out 2).trans rfl
  have c3_ : w1.cell? ⟨w.heap.size, 3, none⟩ = some (.int .i64 t) := (blk_cell BX.out 3).trans rfl
  have c4_ : w1.cell? ⟨w.heap.size, 4, none⟩ = some (.slice A0 l.length c0) := (blk_cell BX.out 4).trans rfl
  clear hb
  have HS2 := HS
  clear HS
  cases b with
  | false =>
    go_wp2_with (first | fail)
    go_ret
    exact ⟨rfl, HB.out⟩
  | true =>
    by_cases h1 : (l.length : Int) ≤ 512
    rotate_left
    · go_wp2_with (first | fail)
      go_ret
      exact ⟨by first | rfl | (simp_all; done) | (simp_all; omega), HB.out⟩
    by_cases h2 : 0 ≤ p
    rotate_left
    · go_wp2_with (first | fail)
      go_ret
      exact ⟨by first | rfl | (simp_all; done) | (simp_all; omega), HB.out⟩
    by_cases h3 : p ≤ 65535
    rotate_left
    · go_wp2_with (first | fail)
      go_ret
      exact ⟨by first | rfl | (simp_all; done) | (simp_all; omega), HB.out⟩
    by_cases h4 : 0 ≤ t
    · go_wp2_with (first | fail)
      go_ret
      exact ⟨by first | rfl | (simp [h1, h2, h3, h4]; done) | (simp_all; done) | (simp_all; omega), HB.out⟩
    go_wp2_with (first | fail)
    go_ret
    exact ⟨by first | rfl | (simp [h1, h2, h3, h4]; done) | (simp_all; done) | (simp_all; omega), HB.out⟩
set_option maxHeartbeats 8000000 in
set_option maxRecDepth 100000 in
theorem pledgeref38_Good.k7 (g p t : Int) (A0 : Option Addr) (c0 : Nat) (l : List Int) (w : World) (hr0 : Kd.C (Kd.int .u8) w A0 l.length l) (hc0 : l.length ≤ c0) (b : Bool) (hb : pledgeref38_Same.f 7 g p t l 7 0 p t [] = some b) :
    Calls Tryz.prog 18 #[.agg #[.int .u8 7, .int .u32 g, .int .i64 p, .int .i64 t, .slice A0 l.length c0]] w fun e w' => e = .returned (.bool (b && (decide ((l.length : Int) ≤ 512) && (decide (0 ≤ p) && (decide (p ≤ 65535) && (decide (0 ≤ t) && decide (t ≤ 65535))))))) ∧ Below w.heap.size w w' := by
  have HC := Aside0.mk hr0
  have HS := Aside0.mk hb
  clear hr0 hb
  go_enter Tryz.func18, Tryz.ntmps18
  go_wp2_with (first | fail)
  refine (pledgeref38_Same.calls 7 g p t A0 c0 l 7 0 p t none 0 [] b _ ?h1 hc0 ?h2 ?h3 HS.out).mono ?_
  (case h1 => exact Kd.C_alloc (Kd.C_alloc HC.out _) _)
  (case h2 => exact Kd.C_nil _ _)
  (case h3 => exact Nat.le_refl _)
  rintro e w1 ⟨rfl, hb⟩
  have BX := Aside0.mk (blk_below (blk_alloc (heap_alloc_new w (.cells #[.int .u8 7, .int .u32 g, .int .i64 p, .int .i64 t, .slice A0 l.length c0] 25)) _) hb)
  have HB := qW12x1
  have c2_ : w1.cell? ⟨w.heap.size, 2, none⟩ = some (.int .i64 p) := (blk_cell BX.out 2).trans rfl
  have c3_ : w1.cell? ⟨w.heap.size, 3, none⟩ = some (.int .i64 t) := (blk_cell BX.out 3).trans rfl
  have c4_ : w1.cell? ⟨w.heap.size, 4, none⟩ = some (.slice A0 l.length c0) := (blk_cell BX.out 4).trans rfl
  clear hb
  have HS2 := HS
  clear HS
  cases b with
  | false =>
    go_wp2_with (first | fail)
    go_ret
    exact ⟨rfl, HB.out⟩
  | true =>
    by_cases h1 : (l.length : Int) ≤ 512
    rotate_left
    · go_wp2_with (first | fail)
      go_ret
      exact ⟨by first | rfl | (simp_all; done) | (simp_all; omega), HB.out⟩
    by_cases h2 : 0 ≤ p
    rotate_left
    · go_wp2_with (first | fail)
      go_ret
      exact ⟨by first | rfl | (simp_all; done) | (simp_all; omega), HB.out⟩
    by_cases h3 : p ≤ 65535
    rotate_left
    · go_wp2_with (first | fail)
      go_ret
      exact ⟨by first | rfl | (simp_all; done) | (simp_all; omega), HB.out⟩
    by_cases h4 : 0 ≤ t
    · go_wp2_with (first | fail)
      go_ret
      exact ⟨by first | rfl | (simp [h1, h2, h3, h4]; done) | (simp_all; done) | (simp_all; omega), HB.out⟩
    go_wp2_with (first | fail)
    go_ret
    exact ⟨by first | rfl | (simp [h1, h2, h3, h4]; done) | (simp_all; done) | (simp_all; omega), HB.out⟩
set_option maxHeartbeats 8000000 in
set_option maxRecDepth 100000 in
theorem pledgeref38_Good.k8 (g p t : Int) (A0 : Option Addr) (c0 : Nat) (l : List Int) (w : World) (hr0 : Kd.C (Kd.int .u8) w A0 l.length l) (hc0 : l.length ≤ c0) (b : Bool) (hb : pledgeref38_Same.f 8 g p t l 8 0 0 0 [] = some b) :
    Calls Tryz.prog 18 #[.agg #[.int .u8 8, .int .u32 g, .int .i64 p, .int .i64 t, .slice A0 l.length c0]] w fun e w' => e = .returned (.bool (b && (decide ((l.length : Int) ≤ 512) && (decide (0 ≤ p) && (decide (p ≤ 65535) && (decide (0 ≤ t) && decide (t ≤ 65535))))))) ∧ Below w.heap.size w w' := by
  have HC := Aside0.mk hr0
  have HS := Aside0.mk hb
  clear hr0 hb
  go_enter Tryz.func18, Tryz.ntmps18
  go_wp2_with (first | fail)
  refine (pledgeref38_Same.calls 8 g p t A0 c0 l 8 0 0 0 none 0 [] b _ ?h1 hc0 ?h2 ?h3 HS.out).mono ?_
  (case h1 => exact Kd.C_alloc (Kd.C_alloc HC.out _) _)
  (case h2 => exact Kd.C_nil _ _)
  (case h3 => exact Nat.le_refl _)
  rintro e w1 ⟨rfl, hb⟩
  have BX := Aside0.mk (blk_below (blk_alloc (heap_alloc_new w (.cells #[.int .u8 8, .int .u32 g, .int .i64 p, .int .i64 t, .slice A0 l.length c0] 25)) _) hb)
  have HB := qW12x1
  have c2_ : w1.cell? ⟨w.heap.size, 2, none⟩ = some (.int .i64 p) := (blk_cell BX.out 2).trans rfl
  have c3_ : w1.cell? ⟨w.heap.size, 3, none⟩ = some (.int .i64 t) := (blk_cell BX.out 3).trans rfl
  have c4_ : w1.cell? ⟨w.heap.size, 4, none⟩ = some (.slice A0 l.length c0) := (blk_cell BX.out 4).trans rfl
  clear hb
  have HS2 := HS
  clear HS
  cases b with
  | false =>
    go_wp2_with (first | fail)
    go_ret
    exact ⟨rfl, HB.out⟩
  | true =>
    by_cases h1 : (l.length : Int) ≤ 512
    rotate_left
    · go_wp2_with (first | fail)
      go_ret
      exact ⟨by first | rfl | (simp_all; done) | (simp_all; omega), HB.out⟩
    by_cases h2 : 0 ≤ p
    rotate_left
    · go_wp2_with (first | fail)
      go_ret
      exact ⟨by first | rfl | (simp_all; done) | (simp_all; omega), HB.out⟩
    by_cases h3 : p ≤ 65535
    rotate_left
    · go_wp2_with (first | fail)
      go_ret
      exact ⟨by first | rfl | (simp_all; done) | (simp_all; omega), HB.out⟩
    by_cases h4 : 0 ≤ t
    · go_wp2_with (first | fail)
      go_ret
      exact ⟨by first | rfl | (simp [h1, h2, h3, h4]; done) | (simp_all; done) | (simp_all; omega), HB.out⟩
    go_wp2_with (first | fail)
    go_ret
    exact ⟨by first | rfl | (simp [h1, h2, h3, h4]; done) | (simp_all; done) | (simp_all; omega), HB.out⟩
set_option maxHeartbeats 4000000 in
set_option maxRecDepth 100000 in
theorem pledgeref38_Good.kbad (k g p t : Int) (A0 : Option Addr) (c0 : Nat) (l : List Int) (w : World) (hk : k < 1 ∨ 8 < k) :
    Calls Tryz.prog 18 #[.agg #[.int .u8 k, .int .u32 g, .int .i64 p, .int .i64 t, .slice A0 l.length c0]] w fun e w' => e = .returned (.bool false) ∧ Below w.heap.size w w' := by
  have e1 : (k == 1) = false := beq_eq_false_iff_ne.2 qW12x2
  have e2 : (k == 2) = false := beq_eq_false_iff_ne.2 qW12x2
  have e3 : (k == 3) = false := beq_eq_false_iff_ne.2 qW12x2
  have e4 : (k == 4) = false := beq_eq_false_iff_ne.2 qW12x2
  have e5 : (k == 5) = false := beq_eq_false_iff_ne.2 qW12x2
  have e6 : (k == 6) = false := beq_eq_false_iff_ne.2 qW12x2
  have e7 : (k == 7) = false := beq_eq_false_iff_ne.2 qW12x2
  have e8 : (k == 8) = false := beq_eq_false_iff_ne.2 qW12x2
  clear hk
  go_enter Tryz.func18, Tryz.ntmps18
  go_wp2_with (first | fail)
  go_ret
  exact ⟨rfl, below_alloc (below_alloc (Below.refl _ _) _) _⟩
def pledgeref38_Good.same (k g p t : Int) (l : List Int) : Option Bool :=
  if k = 1 then pledgeref38_Same.f 1 g p t l 1 0 0 0 l else if k = 2 then pledgeref38_Same.f 2 g p t l 2 g 0 0 [] else if k = 3 then pledgeref38_Same.f 3 g p t l 3 g 0 0 [] else if k = 4 then pledgeref38_Same.f 4 g p t l 4 0 0 0 [] else if k = 5 then pledgeref38_Same.f 5 g p t l 5 0 0 0 [] else if k = 6 then pledgeref38_Same.f 6 g p t l 6 0 0 0 [] else if k = 7 then pledgeref38_Same.f 7 g p t l 7 0 p t [] else pledgeref38_Same.f 8 g p t l 8 0 0 0 []
def pledgeref38_Good.f (k g p t : Int) (l : List Int) : Option (Bool) :=
  if k < 1 ∨ 8 < k then some false else (pledgeref38_Good.same k g p t l).map fun b => b && (decide ((l.length : Int) ≤ 512) && (decide (0 ≤ p) && (decide (p ≤ 65535) && (decide (0 ≤ t) && decide (t ≤ 65535)))))
theorem pledgeref38_Good.calls (a0_0 : Int) (a0_1 : Int) (a0_2 : Int) (a0_3 : Int) (A0_4 : Option Addr) (c0_4 : Nat) (l0_4 : List Int) (r : Bool) (w : World) (hr0_4 : Kd.C (Kd.int .u8) w A0_4 l0_4.length l0_4) (hc0_4 : l0_4.length ≤ c0_4) (h : pledgeref38_Good.f a0_0 a0_1 a0_2 a0_3 l0_4 = some r) :
    Calls Tryz.prog 18 #[.agg #[.int .u8 a0_0, .int .u32 a0_1, .int .i64 a0_2, .int .i64 a0_3, .slice A0_4 l0_4.length c0_4]] w fun e w' => e = .returned (.bool r) ∧ Below w.heap.size w w' := by
  unfold pledgeref38_Good.f at h
  by_cases hk : a0_0 < 1 ∨ 8 < a0_0
  · rw [if_pos hk] at h
    obtain rfl := Option.some.inj h
    exact pledgeref38_Good.kbad a0_0 a0_1 a0_2 a0_3 A0_4 c0_4 l0_4 w hk
  rw [if_neg hk] at h
  obtain ⟨b, hs, rfl⟩ := Option.map_eq_some_iff.1 h
  clear h
  unfold pledgeref38_Good.same at hs
  by_cases h1 : a0_0 = 1
  · subst h1
    rw [if_pos rfl] at hs
    exact pledgeref38_Good.k1 a0_1 a0_2 a0_3 A0_4 c0_4 l0_4 w hr0_4 hc0_4 b hs
  skip
  by_cases h2 : a0_0 = 2
  · subst h2
    rw [if_neg qW12x2, if_pos rfl] at hs
    exact pledgeref38_Good.k2 a0_1 a0_2 a0_3 A0_4 c0_4 l0_4 w hr0_4 hc0_4 b hs
  skip
  by_cases h3 : a0_0 = 3
  · subst h3
    rw [if_neg qW12x2, if_neg qW12x2, if_pos rfl] at hs
    exact pledgeref38_Good.k3 a0_1 a0_2 a0_3 A0_4 c0_4 l0_4 w hr0_4 hc0_4 b hs
  skip
  by_cases h4 : a0_0 = 4
  · subst h4
    rw [if_neg qW12x2, if_neg qW12x2, if_neg qW12x2, if_pos rfl] at hs
    exact pledgeref38_Good.k4 a0_1 a0_2 a0_3 A0_4 c0_4 l0_4 w hr0_4 hc0_4 b hs
  skip
  by_cases h5 : a0_0 = 5
  · subst h5
    rw [if_neg qW12x2, if_neg qW12x2, if_neg qW12x2, if_neg qW12x2, if_pos rfl] at hs
    exact pledgeref38_Good.k5 a0_1 a0_2 a0_3 A0_4 c0_4 l0_4 w hr0_4 hc0_4 b hs
  skip
  by_cases h6 : a0_0 = 6
  · subst h6
    rw [if_neg qW12x2, if_neg qW12x2, if_neg qW12x2, if_neg qW12x2, if_neg qW12x2, if_pos rfl] at hs
    exact pledgeref38_Good.k6 a0_1 a0_2 a0_3 A0_4 c0_4 l0_4 w hr0_4 hc0_4 b hs
  skip
  by_cases h7 : a0_0 = 7
  · subst h7
    rw [if_neg qW12x2, if_neg qW12x2, if_neg qW12x2, if_neg qW12x2, if_neg qW12x2, if_neg qW12x2, if_pos rfl] at hs
    exact pledgeref38_Good.k7 a0_1 a0_2 a0_3 A0_4 c0_4 l0_4 w hr0_4 hc0_4 b hs
  skip
  obtain rfl : a0_0 = 8 := by omega
  rw [if_neg qW12x2, if_neg qW12x2, if_neg qW12x2, if_neg qW12x2, if_neg qW12x2, if_neg qW12x2, if_neg qW12x2] at hs
  exact pledgeref38_Good.k8 a0_1 a0_2 a0_3 A0_4 c0_4 l0_4 w hr0_4 hc0_4 b hs
end Go.Proofs.YtpnehgajhpejjaaGreatDoor.W
