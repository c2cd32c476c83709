import Derived.Test.YtpnehgajhpejjaaGreatDoorSq
import Derived.Test.YtpnehgajhpejjaaGreatDoorW0
import Derived.Test.YtpnehgajhpejjaaGreatDoorW17
import Derived.Test.YtpnehgajhpejjaaGreatDoorW18
namespace Go.Proofs.YtpnehgajhpejjaaGreatDoor.W
open Go.RowKit Go.Proofs.YtpnehgajhpejjaaGreatDoorW.PrintWords Go.Proofs.YtpnehgajhpejjaaGreatDoorW.PrintLast Go.Proofs.YtpnehgajhpejjaaGreatDoorW.PrintMore
attribute [local go_sem] max2_int min2_int max_two min_two max_three min_three max_four min_four
set_option linter.unusedVariables false
set_option linter.unusedSimpArgs false
theorem qW19x1 {p : Prop} (h : p := by exact Aside0.mk (zDk hq_ BK301.out)) : p := h
theorem qW19x2 {p : Prop} (h : p := by exact Aside0.mk (zDb hq_ HB.out)) : p := h
theorem qW19x3 {p : Prop} (h : p := by kernel_rfl) : p := h

/-! ### pledgeref39_asked: function 45 -/
def pledgeref39_asked.l0 : Nat → List ByteArray → Int → Int → Int → Int → List (S90) → Int → Int → Int → Int → Option (Int × Int × Int × (List (S90)) × Int × Int × Int × Int)
  | 0, _, _, _, _, _, _, _, _, _, _ => none
  | k + 1, x0, x7, x310000, x310001, x310002, x310003, x310004, x310005, x310006, x310007 => if x7 < (x0.length : Int) then (if 0 ≤ x7 then ((pledgeref39_cut.f k (rdOf ByteArray.empty x0 x7) 58).bind fun t311 => (if 0 < (t311.length : Int) then ((pledgeref39_value.f k (rdOf ByteArray.empty t311 0)).bind fun t315 => ((pledgeref39_at.f t311 1).bind fun t316 => ((pledgeref39_value.f k t316).bind fun t317 => (if x310003.length < 8796093022208 then (pledgeref39_asked.l0 k x0 (wrap64 (x7 + 1)) x310000 x310001 x310002 (x310003 ++ [(⟨(t315) % 256, t317⟩ : S90)]) x310004 x310005 x310006 x310007) else (none))))) else (none))) else (none)) else (some (x310000, x310001, x310002, x310003, x310004, x310005, x310006, x310007))
def pledgeref39_asked.f (k : Nat) (l0 : List ByteArray) : Option (Int × Int × Int × (List (S90)) × Int × Int × Int × Int) := (pledgeref39_at.f l0 1).bind fun t302 => ((pledgeref39_value.f k t302).bind fun t303 => ((pledgeref39_at.f l0 2).bind fun t304 => ((pledgeref39_value.f k t304).bind fun t305 => ((pledgeref39_at.f l0 3).bind fun t306 => ((pledgeref39_value.f k t306).bind fun t307 => (if 0 < (l0.length : Int) then (if (rdOf ByteArray.empty l0 0).toList = ([112, 108, 97, 99, 101] : List UInt8) then (pledgeref39_asked.l0 k l0 3 1 ((t303) % 4294967296) ((t305) % 256) ([] : List (S90)) 0 0 0 0) else (if (rdOf ByteArray.empty l0 0).toList = ([99, 97, 110, 99, 101, 108] : List UInt8) then (some (2, (t303) % 4294967296, 0, ([] : List (S90)), 0, 0, 0, 0)) else (if (rdOf ByteArray.empty l0 0).toList = ([115, 104, 105, 112] : List UInt8) then (some (3, (t303) % 4294967296, 0, ([] : List (S90)), 0, 0, 0, 0)) else (if (rdOf ByteArray.empty l0 0).toList = ([114, 101, 116, 117, 114, 110] : List UInt8) then (some (4, (t303) % 4294967296, 0, ([] : List (S90)), 0, 0, 0, 0)) else (if (rdOf ByteArray.empty l0 0).toList = ([114, 101, 115, 116, 111, 99, 107] : List UInt8) then (some (5, 0, 0, ([] : List (S90)), (t303) % 256, 0, (t305) % 256, t307)) else (if (rdOf ByteArray.empty l0 0).toList = ([116, 114, 97, 110, 115, 102, 101, 114] : List UInt8) then ((pledgeref39_at.f l0 4).bind fun t321 => ((pledgeref39_value.f k t321).bind fun t322 => (some (6, 0, 0, ([] : List (S90)), (t303) % 256, (t305) % 256, (t307) % 256, t322)))) else (if (rdOf ByteArray.empty l0 0).toList = ([113, 117, 101, 114, 121] : List UInt8) then (some (7, 0, 0, ([] : List (S90)), (t303) % 256, 0, 0, 0)) else (some (0, 0, 0, ([] : List (S90)), 0, 0, 0, 0))))))))) else (none)))))))
theorem pledgeref39_asked.mono_l : ∀ k, (∀ y0 y1 y2 y3 y4 y5 y6 y7 y8 y9, LeO (pledgeref39_asked.l0 k y0 y1 y2 y3 y4 y5 y6 y7 y8 y9) (pledgeref39_asked.l0 (k + 1) y0 y1 y2 y3 y4 y5 y6 y7 y8 y9))
  | 0 => fun _ _ _ _ _ _ _ _ _ _ r h => by simp [pledgeref39_asked.l0] at h
  | k + 1 => by
    have ih0 := pledgeref39_asked.mono_l k
    · intro y0 y1 y2 y3 y4 y5 y6 y7 y8 y9
      unfold pledgeref39_asked.l0
      repeat' first
      | (with_reducible exact ih0 _ _ _ _ _ _ _ _ _ _)
      | (with_reducible exact pledgeref39_cut.mono _ _ _)
      | (with_reducible exact pledgeref39_value.mono _ _)
      | (with_reducible exact LeO.refl _)
      | (with_reducible exact LeO.none _)
      | (with_reducible refine LeO.ite ?_ ?_)
      | (with_reducible refine LeO.bind ?_ (fun _ => ?_))
      | exact ih0 _ _ _ _ _ _ _ _ _ _
      | exact pledgeref39_cut.mono _ _ _
      | exact pledgeref39_value.mono _ _
      | exact LeO.none _
      | refine LeO.ite ?_ ?_
      | refine LeO.bind ?_ (fun _ => ?_)
theorem pledgeref39_asked.mono : ∀ a0 k, LeO (pledgeref39_asked.f k a0) (pledgeref39_asked.f (k + 1) a0) := by
  intro a0 k
  have ih0 := pledgeref39_asked.mono_l k
  unfold pledgeref39_asked.f
  repeat' first
      | (with_reducible exact ih0 _ _ _ _ _ _ _ _ _ _)
      | (with_reducible exact pledgeref39_cut.mono _ _ _)
      | (with_reducible exact pledgeref39_value.mono _ _)
      | (with_reducible exact LeO.refl _)
      | (with_reducible exact LeO.none _)
      | (with_reducible refine LeO.ite ?_ ?_)
      | (with_reducible refine LeO.bind ?_ (fun _ => ?_))
      | exact ih0 _ _ _ _ _ _ _ _ _ _
      | exact pledgeref39_cut.mono _ _ _
      | exact pledgeref39_value.mono _ _
      | exact LeO.none _
      | refine LeO.ite ?_ ?_
      | refine LeO.bind ?_ (fun _ => ?_)
def pledgeref39_asked.T11 : Bool × List (List Nat × List Nat) := (true, [([], []), ([0], [0]), ([], []), ([2], [2]), ([3], [3]), ([4], [4]), ([5], [5]), ([], []), ([7, 5], [7]), ([8, 8], [8]), ([6, 9], [6, 9]), ([10], [10]), ([1, 11, 9], [1, 11]), ([0, 1, 2, 3, 4, 5, 6, 7, 8, 9, 10, 11, 12], []), ([13, 12, 12, 0, 1, 2, 3, 4, 5, 6, 7, 8, 9, 10, 11, 12], [12, 13])])
def pledgeref39_asked.B11 : List Nat := [0, 1, 0, 4, 12, 28, 60, 0, 188, 444, 1020, 2044, 4095, 8191, 16383]
theorem pledgeref39_asked.tab11 : rtab .any (opsOf Tryz.f45 11) = pledgeref39_asked.T11 := by kernel_rfl
theorem pledgeref39_asked.bits11 : waitsOk pledgeref39_asked.T11.2 pledgeref39_asked.B11 = true := by kernel_rfl
set_option maxHeartbeats 8000000 in
set_option maxRecDepth 100000 in
theorem pledgeref39_asked.calls (k : Nat) (A0 : Option Addr) (c0 : Nat) (l0 : List ByteArray) (r1 : Int) (r2 : Int) (r3 : Int) (r4 : List (S90)) (r5 : Int) (r6 : Int) (r7 : Int) (r8 : Int) (w : World) (hr0 : Kd.C Kd.string w A0 l0.length l0) (hc0 : l0.length ≤ c0) (h : pledgeref39_asked.f k l0 = some (r1, r2, r3, r4, r5, r6, r7, r8)) :
    Calls Tryz.prog 45 #[.slice A0 l0.length c0] w fun e w' => ∃ v3_ : Value, e = .returned (.agg #[.int .u8 r1, .int .u32 r2, .int .u8 r3, v3_, .int .u8 r5, .int .u8 r6, .int .u8 r7, .int .i64 r8]) ∧ Kd.R k90 90 w' w.heap.size (fun _ => True) v3_ r4 ∧ Below w.heap.size w w' := by
  have hu51 := Tryz.underlying51
  have hu90 := Tryz.underlying90
  have HR0 := Aside0.mk hr0
  have HC0 := Aside0.mk hc0
  clear hr0 hc0
  have HB := Aside0.mk (Below.refl w.heap.size w)
  have H : ((pledgeref39_at.f l0 1).bind fun t302 => ((pledgeref39_value.f k t302).bind fun t303 => ((pledgeref39_at.f l0 2).bind fun t304 => ((pledgeref39_value.f k t304).bind fun t305 => ((pledgeref39_at.f l0 3).bind fun t306 => ((pledgeref39_value.f k t306).bind fun t307 => (if 0 < (l0.length : Int) then (if (rdOf ByteArray.empty l0 0).toList = ([112, 108, 97, 99, 101] : List UInt8) then (pledgeref39_asked.l0 k l0 3 1 ((t303) % 4294967296) ((t305) % 256) ([] : List (S90)) 0 0 0 0) else (if (rdOf ByteArray.empty l0 0).toList = ([99, 97, 110, 99, 101, 108] : List UInt8) then (some (2, (t303) % 4294967296, 0, ([] : List (S90)), 0, 0, 0, 0)) else (if (rdOf ByteArray.empty l0 0).toList = ([115, 104, 105, 112] : List UInt8) then (some (3, (t303) % 4294967296, 0, ([] : List (S90)), 0, 0, 0, 0)) else (if (rdOf ByteArray.empty l0 0).toList = ([114, 101, 116, 117, 114, 110] : List UInt8) then (some (4, (t303) % 4294967296, 0, ([] : List (S90)), 0, 0, 0, 0)) else (if (rdOf ByteArray.empty l0 0).toList = ([114, 101, 115, 116, 111, 99, 107] : List UInt8) then (some (5, 0, 0, ([] : List (S90)), (t303) % 256, 0, (t305) % 256, t307)) else (if (rdOf ByteArray.empty l0 0).toList = ([116, 114, 97, 110, 115, 102, 101, 114] : List UInt8) then ((pledgeref39_at.f l0 4).bind fun t321 => ((pledgeref39_value.f k t321).bind fun t322 => (some (6, 0, 0, ([] : List (S90)), (t303) % 256, (t305) % 256, (t307) % 256, t322)))) else (if (rdOf ByteArray.empty l0 0).toList = ([113, 117, 101, 114, 121] : List UInt8) then (some (7, 0, 0, ([] : List (S90)), (t303) % 256, 0, 0, 0)) else (some (0, 0, 0, ([] : List (S90)), 0, 0, 0, 0))))))))) else (none)))))))) = some (r1, r2, r3, r4, r5, r6, r7, r8) := h
  clear h
  obtain ⟨t302, A2, H⟩ := zO H
  try dsimp only at H
  obtain ⟨t303, A3, H⟩ := zO H
  try dsimp only at H
  obtain ⟨t304, A4, H⟩ := zO H
  try dsimp only at H
  obtain ⟨t305, A5, H⟩ := zO H
  try dsimp only at H
  obtain ⟨t306, A6, H⟩ := zO H
  try dsimp only at H
  obtain ⟨t307, A7, H⟩ := zO H
  try dsimp only at H
  by_cases c8 : 0 < (l0.length : Int)
  focus
    rw [if_pos c8] at H
    have c8b0 := decide_eq_true c8
    have c8b1 : decide (0 < l0.length) = true := decide_eq_true (by omega)
    clear c8
    by_cases c9 : (rdOf ByteArray.empty l0 0).toList = ([112, 108, 97, 99, 101] : List UInt8)
    · rw [if_pos c9] at H
      obtain ⟨c9b0, c9b1⟩ := zeq c9
      clear c9
      have H' := Aside0.mk H
      clear H
      go_enter Tryz.func45, Tryz.ntmps45
      go_wp2_with (first | ((with_reducible refine gate_dst (N := 2) rfl ?_); refine zbox (N := 2) (cs := #[.int .u8 0, .int .u32 0, .int .u8 0, .slice none 0 0, .int .u8 0, .int .u8 0, .int .u8 0, .int .i64 0]) (t := 51) (h := ?_); intro gb301 hg w10 hbox hb; have BK301 := Aside0.mk (hbox); have GW301 := zG (p := w.heap.size ≤ gb301); have GE301 := GW301; replace HB := zH hb; clear hb hbox hg) | ((with_reducible refine gate_callee (f := 43) rfl ?_); refine goesZ (some 10) Tryz.func43 (args := #[.slice A0 l0.length c0, .int .i64 1]) (h := ?_); (with_reducible refine (pledgeref39_at.calls _ _ l0 1 t302 _ ?side1 ?side2 A2.out).mono ?_); (case side1 => exact zC (Kd.C_below HR0.out HB.out)); (case side2 => exact HC0.out); rintro e w' ⟨rfl, ⟨nd, rfl⟩⟩; refine ⟨_, rfl, ?_⟩; (try (rw [drewN_self w10]; generalize hq_ : World.drewN w10 _ = w10; replace BK301 := qW19x1; replace HB := qW19x2; clear hq_))) | ((with_reducible refine gate_callee (f := 42) rfl ?_); refine goesZ (some 11) Tryz.func42 (args := #[.string t302]) (h := ?_); (with_reducible refine (pledgeref39_value.calls k t302 t303 _ A3.out).mono ?_); rintro e w' ⟨rfl, ⟨nd, rfl⟩⟩; refine ⟨_, rfl, ?_⟩; (try (rw [drewN_self w10]; generalize hq_ : World.drewN w10 _ = w10; replace BK301 := qW19x1; replace HB := qW19x2; clear hq_))) | ((with_reducible refine gate_callee (f := 43) rfl ?_); refine goesZ (some 13) Tryz.func43 (args := #[.slice A0 l0.length c0, .int .i64 2]) (h := ?_); (with_reducible refine (pledgeref39_at.calls _ _ l0 2 t304 _ ?side1 ?side2 A4.out).mono ?_); (case side1 => exact zC (Kd.C_below HR0.out HB.out)); (case side2 => exact HC0.out); rintro e w' ⟨rfl, ⟨nd, rfl⟩⟩; refine ⟨_, rfl, ?_⟩; (try (rw [drewN_self w10]; generalize hq_ : World.drewN w10 _ = w10; replace BK301 := qW19x1; replace HB := qW19x2; clear hq_))) | ((with_reducible refine gate_callee (f := 42) rfl ?_); refine goesZ (some 14) Tryz.func42 (args := #[.string t304]) (h := ?_); (with_reducible refine (pledgeref39_value.calls k t304 t305 _ A5.out).mono ?_); rintro e w' ⟨rfl, ⟨nd, rfl⟩⟩; refine ⟨_, rfl, ?_⟩; (try (rw [drewN_self w10]; generalize hq_ : World.drewN w10 _ = w10; replace BK301 := qW19x1; replace HB := qW19x2; clear hq_))) | ((with_reducible refine gate_callee (f := 43) rfl ?_); refine goesZ (some 16) Tryz.func43 (args := #[.slice A0 l0.length c0, .int .i64 3]) (h := ?_); (with_reducible refine (pledgeref39_at.calls _ _ l0 3 t306 _ ?side1 ?side2 A6.out).mono ?_); (case side1 => exact zC (Kd.C_below HR0.out HB.out)); (case side2 => exact HC0.out); rintro e w' ⟨rfl, ⟨nd, rfl⟩⟩; refine ⟨_, rfl, ?_⟩; (try (rw [drewN_self w10]; generalize hq_ : World.drewN w10 _ = w10; replace BK301 := qW19x1; replace HB := qW19x2; clear hq_))) | ((with_reducible refine gate_callee (f := 42) rfl ?_); refine goesZ (some 17) Tryz.func42 (args := #[.string t306]) (h := ?_); (with_reducible refine (pledgeref39_value.calls k t306 t307 _ A7.out).mono ?_); rintro e w' ⟨rfl, ⟨nd, rfl⟩⟩; refine ⟨_, rfl, ?_⟩; (try (rw [drewN_self w10]; generalize hq_ : World.drewN w10 _ = w10; replace BK301 := qW19x1; replace HB := qW19x2; clear hq_)); have p308 : 0 ≤ (0 : Int) := (by omega); have q308 : 0 < (l0.length : Int) := of_decide_eq_true zas; obtain ⟨ad308, e308, hx308_0⟩ := Kd.at_string HR0.out 0 p308 q308; cases e308; have qi308 : (0 < l0.length) = True := eq_true (by omega); (try rw [show ((0 : Int)).toNat = 0 from rfl] at hx308_0); (try rw [Addr.add_zero'] at hx308_0); replace hx308_0 := (HB.out.cell (World.block_lt_of_cell? w _ hx308_0)).trans hx308_0; replace p308 := eq_true p308; replace q308 := eq_true q308) | ((with_reducible refine gate_dst (N := 6) rfl ?_); refine zbox (N := 6) (cs := #[.int .u8 0, .int .u32 0, .int .u8 0, .slice none 0 0, .int .u8 0, .int .u8 0, .int .u8 0, .int .i64 0]) (t := 51) (h := ?_); intro gb309 hg w11 hbox hb; have BK309 := Aside0.mk (hbox); have GW309 := zG (p := w.heap.size ≤ gb309); have GE309 := GW309; have NB301_309 := zNlt BK301.out (p := gb301 ≠ gb309); have NB309_301 := zNgt BK301.out (p := gb309 ≠ gb301); replace BK301 := zJ BK301 hb; replace HB := zH hb; clear hb hbox hg; have hnb12 := NB309_301.out; have hnc12 := NB301_309.out; have hcz13_0 := zcf8 BK309.out))
      go_loopg [7] k (fun kq v7 w' => ∃ (x7_1 : Int) (x310003_1 : List (S90)) (u310003 : Value), v7 = .int .i64 x7_1 ∧ Aside0 (pledgeref39_asked.l0 kq l0 x7_1 1 ((t303) % 4294967296) ((t305) % 256) x310003_1 0 0 0 0 = some (r1, r2, r3, r4, r5, r6, r7, r8)) ∧ Aside0 (kq ≤ k) ∧ Aside0 (Kd.R k90 90 w' w.heap.size (fun _ => True) u310003 x310003_1) ∧ Aside0 (w'.heap[gb301]? = some (.cells #[.int .u8 0, .int .u32 0, .int .u8 0, (.slice none 0 0), .int .u8 0, .int .u8 0, .int .u8 0, .int .i64 0] 51 (0, 0))) ∧ Aside0 (w'.heap[gb309]? = some (.cells #[.int .u8 1, .int .u32 ((t303) % 4294967296), .int .u8 ((t305) % 256), u310003, .int .u8 0, .int .u8 0, .int .u8 0, .int .i64 0] 51 (0, 0))) ∧ Aside0 (Below w.heap.size w w'))
      case atStart => exact ⟨(3), (([] : List (S90))), (.slice none 0 0), (by first | rfl | (simp; done) | (simp [*]; done)), H', ⟨Nat.le_refl _⟩, ⟨znil⟩, ⟨by (with_reducible repeat (first | refine blk_drewN ?_ _ | refine blk_drew ?_ | refine blk_alloc ?_ _)); refine blk_far ?_ NB301_309.out _; (with_reducible repeat (first | refine blk_drewN ?_ _ | refine blk_drew ?_ | refine blk_alloc ?_ _)); refine blk_far ?_ NB301_309.out _; (with_reducible repeat (first | refine blk_drewN ?_ _ | refine blk_drew ?_ | refine blk_alloc ?_ _)); refine blk_far ?_ NB301_309.out _; (with_reducible repeat (first | refine blk_drewN ?_ _ | refine blk_drew ?_ | refine blk_alloc ?_ _)); refine blk_far ?_ NB301_309.out _; (with_reducible repeat (first | refine blk_drewN ?_ _ | refine blk_drew ?_ | refine blk_alloc ?_ _)); refine blk_far ?_ NB301_309.out _; (with_reducible repeat (first | refine blk_drewN ?_ _ | refine blk_drew ?_ | refine blk_alloc ?_ _)); refine blk_far ?_ NB301_309.out _; (with_reducible repeat (first | refine blk_drewN ?_ _ | refine blk_drew ?_ | refine blk_alloc ?_ _)); refine blk_far ?_ NB301_309.out _; (with_reducible repeat (first | refine blk_drewN ?_ _ | refine blk_drew ?_ | refine blk_alloc ?_ _)); refine blk_far ?_ NB301_309.out _; (with_reducible repeat (first | refine blk_drewN ?_ _ | refine blk_drew ?_ | refine blk_alloc ?_ _)); exact BK301.out⟩, ⟨by (with_reducible repeat (first | refine blk_drewN ?_ _ | refine blk_drew ?_ | refine blk_alloc ?_ _)); refine blk_put (cs := #[.int .u8 1, .int .u32 ((t303) % 4294967296), .int .u8 ((t305) % 256), .slice none 0 0, .int .u8 0, .int .u8 0, .int .u8 0, .int .i64 0]) ?_ 7 _ rfl; (with_reducible repeat (first | refine blk_drewN ?_ _ | refine blk_drew ?_ | refine blk_alloc ?_ _)); refine blk_put (cs := #[.int .u8 1, .int .u32 ((t303) % 4294967296), .int .u8 ((t305) % 256), .slice none 0 0, .int .u8 0, .int .u8 0, .int .u8 0, .int .i64 0]) ?_ 6 _ rfl; (with_reducible repeat (first | refine blk_drewN ?_ _ | refine blk_drew ?_ | refine blk_alloc ?_ _)); refine blk_put (cs := #[.int .u8 1, .int .u32 ((t303) % 4294967296), .int .u8 ((t305) % 256), .slice none 0 0, .int .u8 0, .int .u8 0, .int .u8 0, .int .i64 0]) ?_ 5 _ rfl; (with_reducible repeat (first | refine blk_drewN ?_ _ | refine blk_drew ?_ | refine blk_alloc ?_ _)); refine blk_put (cs := #[.int .u8 1, .int .u32 ((t303) % 4294967296), .int .u8 ((t305) % 256), .slice none 0 0, .int .u8 0, .int .u8 0, .int .u8 0, .int .i64 0]) ?_ 4 _ rfl; (with_reducible repeat (first | refine blk_drewN ?_ _ | refine blk_drew ?_ | refine blk_alloc ?_ _)); refine blk_put (cs := #[.int .u8 1, .int .u32 ((t303) % 4294967296), .int .u8 ((t305) % 256), .slice none 0 0, .int .u8 0, .int .u8 0, .int .u8 0, .int .i64 0]) ?_ 3 _ rfl; (with_reducible repeat (first | refine blk_drewN ?_ _ | refine blk_drew ?_ | refine blk_alloc ?_ _)); refine blk_put (cs := #[.int .u8 1, .int .u32 ((t303) % 4294967296), .int .u8 0, .slice none 0 0, .int .u8 0, .int .u8 0, .int .u8 0, .int .i64 0]) ?_ 2 _ rfl; (with_reducible repeat (first | refine blk_drewN ?_ _ | refine blk_drew ?_ | refine blk_alloc ?_ _)); refine blk_put (cs := #[.int .u8 1, .int .u32 0, .int .u8 0, .slice none 0 0, .int .u8 0, .int .u8 0, .int .u8 0, .int .i64 0]) ?_ 1 _ rfl; (with_reducible repeat (first | refine blk_drewN ?_ _ | refine blk_drew ?_ | refine blk_alloc ?_ _)); refine blk_put (cs := #[.int .u8 0, .int .u32 0, .int .u8 0, .slice none 0 0, .int .u8 0, .int .u8 0, .int .u8 0, .int .i64 0]) ?_ 0 _ rfl; (with_reducible repeat (first | refine blk_drewN ?_ _ | refine blk_drew ?_ | refine blk_alloc ?_ _)); exact BK309.out⟩, ⟨zB⟩⟩
      case round =>
        clear H'
        try clear c1
        try clear p2
        try clear p3
        try clear q3
        try clear hx3
        try clear qi3
        try clear c4
        try clear c8
        try clear c8b0
        try clear c8b1
        try clear c9
        try clear c9b0
        try clear c9b1
        try clear c12
        try clear hcz13_0
        try clear hx308_0
        try clear p308
        try clear q308
        obtain ⟨x7_1, x310003_1, u310003, rfl, HA, HK1, HO_310003, BK301, BK309, HB⟩ := hrel
        cases gk with
        | zero => exact absurd HA.out (by simp [pledgeref39_asked.l0])
        | succ k1 =>
          have H := HA.out
          clear HA
          simp only [pledgeref39_asked.l0] at H
          by_cases c14 : x7_1 < (l0.length : Int)
          rotate_left
          · rw [if_neg c14] at H
            have c14b0 : decide (x7_1 < (l0.length : Int)) = false := decide_eq_false c14
            clear c14
            simp only [Option.some.injEq, Prod.mk.injEq] at H
            obtain ⟨rfl, rfl, rfl, rfl, rfl, rfl, rfl, rfl⟩ := H
            have hnb28 := NB309_301.out
            have hnc28 := NB301_309.out
            have hcz29_0 := zcf8 BK309.out
            have hcz30_0 := zcf8 BK301.out
            obtain ⟨Ao31, co31, eo31⟩ := Kd.R_slice HO_310003.out
            subst eo31
            go_wp2
            refine bodyPost_ret (results_cell_row rfl _ _ gb301 51 #[.int .u8 1, .int .u32 ((t303) % 4294967296), .int .u8 ((t305) % 256), .slice Ao31 x310003_1.length co31, .int .u8 0, .int .u8 0, .int .u8 0, .int .i64 0] (0, 0) _ rfl (zQ BK301.out) Tryz.underlying51 rfl qW19x3) rfl ?_
            exact ⟨_, zer, by (with_reducible repeat (first | apply Kd.R_alloc | apply Kd.R_drewN | apply Kd.R_drew)); exact Kd.R_mono (Kd.R_far (p := ⟨gb301, 7, none⟩) (Kd.R_far (p := ⟨gb301, 6, none⟩) (Kd.R_far (p := ⟨gb301, 5, none⟩) (Kd.R_far (p := ⟨gb301, 4, none⟩) (Kd.R_far (p := ⟨gb301, 3, none⟩) (Kd.R_far (p := ⟨gb301, 2, none⟩) (Kd.R_far (p := ⟨gb301, 1, none⟩) (Kd.R_far (p := ⟨gb301, 0, none⟩) (Kd.R_types HO_310003.out BK301.out (by decide)) (fun _ hk => hk.2) (.int .u8 1)) (fun _ hk => hk.2) (.int .u32 ((t303) % 4294967296))) (fun _ hk => hk.2) (.int .u8 ((t305) % 256))) (fun _ hk => hk.2) (.slice Ao31 x310003_1.length co31)) (fun _ hk => hk.2) (.int .u8 0)) (fun _ hk => hk.2) (.int .u8 0)) (fun _ hk => hk.2) (.int .u8 0)) (fun _ hk => hk.2) (.int .i64 0)) (fun _ hk => trivial), zB⟩
          rw [if_pos c14] at H
          have c14b0 := decide_eq_true c14
          clear c14
          by_cases c15 : 0 ≤ x7_1
          rotate_left
          · rw [if_neg c15] at H
            exact absurd H (by simp)
          rw [if_pos c15] at H
          have c15b0 := decide_eq_true c15
          clear c15
          obtain ⟨t311, A16, H⟩ := zO H
          try dsimp only at H
          by_cases c17 : 0 < (t311.length : Int)
          rotate_left
          · rw [if_neg c17] at H
            exact absurd H (by simp)
          rw [if_pos c17] at H
          have c17b0 := decide_eq_true c17
          have c17b1 : decide (0 < t311.length) = true := decide_eq_true (by omega)
          clear c17
          obtain ⟨t315, A18, H⟩ := zO H
          try dsimp only at H
          obtain ⟨t316, A19, H⟩ := zO H
          try dsimp only at H
          obtain ⟨t317, A20, H⟩ := zO H
          try dsimp only at H
          by_cases c21 : x310003_1.length < 8796093022208
          rotate_left
          · rw [if_neg c21] at H
            exact absurd H (by simp)
          rw [if_pos c21] at H
          have LMc21 := Aside0.mk c21
          clear c21
          obtain ⟨y318, hy318⟩ : ∃ y_ : List (S90), y_ = (x310003_1 ++ [(⟨(t315) % 256, t317⟩ : S90)]) := ⟨_, rfl⟩
          replace H : (pledgeref39_asked.l0 k1 l0 (wrap64 (x7_1 + 1)) 1 ((t303) % 4294967296) ((t305) % 256) y318 0 0 0 0) = some (r1, r2, r3, r4, r5, r6, r7, r8) := by first | (rw [hy318]; with_reducible exact H) | (have H2_ := (Option.bind_some _ _).symm.trans H; rw [hy318]; with_reducible exact H2_) | (have H2_ := (Option.bind_some _ _).symm.trans H; with_reducible exact H2_) | with_reducible exact H | (rw [hy318]; exact H) | exact H
          have Ny318 := Aside0.mk hy318
          clear hy318
          have H' := Aside0.mk H
          clear H
          have p310 : 0 ≤ (x7_1 : Int) := of_decide_eq_true zas
          have q310 : x7_1 < (l0.length : Int) := of_decide_eq_true zas
          obtain ⟨ad310, e310, hx310_0⟩ := Kd.at_string HR0.out x7_1 p310 q310
          obtain rfl : ad308 = ad310 := (by injection e310)
          replace hx310_0 := (HB.out.cell (World.block_lt_of_cell? w _ hx310_0)).trans hx310_0
          replace p310 := eq_true p310
          replace q310 := eq_true q310
          try go_wp2_with (first | ((with_reducible refine gate_callee (f := 23) rfl ?_); refine goesZ (some 38) Tryz.func23 (args := #[.string (rdOf ByteArray.empty l0 x7_1), .int .u8 58]) (h := ?_); (with_reducible refine (pledgeref39_cut.calls k1 (rdOf ByteArray.empty l0 x7_1) 58 t311 _ A16.out).mono ?_); rintro e w22 ⟨v312, rfl, ho0, hb⟩; refine ⟨_, rfl, ?_⟩; replace HO_310003 := zP HO_310003 hb; have HO313 := Aside0.mk (Kd.R_lower ho0 (below_size zB)); replace BK301 := zJ BK301 hb; replace BK309 := zJ BK309 hb; replace HB := zH hb; clear hb ho0))
          replace HO_310003 := Aside0.mk (Kd.R_drew HO_310003.out)
          replace HO313 := Aside0.mk (Kd.R_drew HO313.out)
          replace BK301 := Aside0.mk (blk_drew BK301.out)
          replace BK309 := Aside0.mk (blk_drew BK309.out)
          replace HB := Aside0.mk (below_drew1 HB.out)
          obtain ⟨Ao24, co24, eo24⟩ := Kd.R_slice HO313.out
          (first | subst eo24 | (injection eo24 with f1_ f2_ f3_; have f4_ := f1_.symm; have f5_ := f3_.symm; clear f1_ f2_ f3_; subst f4_; subst f5_))
          have p314 : 0 ≤ (0 : Int) := (by omega)
          have q314 : 0 < (t311.length : Int) := of_decide_eq_true zas
          obtain ⟨ad314, e314, hx314_0⟩ := Kd.at_string (Kd.R_reads' HO313.out).2.2 0 p314 q314
          cases e314
          have qi314 : (0 < t311.length) = True := eq_true (by omega)
          (try rw [show ((0 : Int)).toNat = 0 from rfl] at hx314_0)
          (try rw [Addr.add_zero'] at hx314_0)
          replace p314 := eq_true p314
          replace q314 := eq_true q314
          refine start_ (n := 15) (S := fun w' => w'.cell? ⟨gb309, 0, none⟩ = some (.int .u8 1) ∧ w'.cell? ⟨gb309, 1, none⟩ = some (.int .u32 ((t303) % 4294967296)) ∧ w'.cell? ⟨gb309, 2, none⟩ = some (.int .u8 ((t305) % 256)) ∧ w'.cell? ⟨gb309, 3, none⟩ = some (u310003) ∧ w'.cell? ⟨gb309, 4, none⟩ = some (.int .u8 0) ∧ w'.cell? ⟨gb309, 5, none⟩ = some (.int .u8 0) ∧ w'.cell? ⟨gb309, 6, none⟩ = some (.int .u8 0) ∧ w'.cell? ⟨gb309, 7, none⟩ = some (.int .i64 0) ∧ w'.cell? ad314 = some (.string (rdOf ByteArray.empty t311 0))) (ds := [12, 14]) (bz 15 0) qW19x3 rfl qW19x3 ⟨(blk_cell BK309.out 0).trans rfl, (blk_cell BK309.out 1).trans rfl, (blk_cell BK309.out 2).trans rfl, (blk_cell BK309.out 3).trans rfl, (blk_cell BK309.out 4).trans rfl, (blk_cell BK309.out 5).trans rfl, (blk_cell BK309.out 6).trans rfl, (blk_cell BK309.out 7).trans rfl, hx314_0⟩ (fun hHeld => ?_); refine with_tabW pledgeref39_asked.tab11 pledgeref39_asked.bits11 (fun HT_ HW_ => ?_)
          generalize w22.drew = w23 at HO_310003 HO313 BK301 BK309 HB hx314_0 hHeld ⊢
          refine pureZ (some 39) (bz 15 1) (i := 0) (h := ?_); refine pureZ (some 41) (bz 15 5) (i := 2) (h := ?_); refine pureZ (some 42) (bz 15 13) (i := 3) (h := ?_); refine pureZ (some 46) (bz 15 141) (i := 7) (h := ?_); refine takeZ (some 40) (bz 15 143) (i := 1) (h := ?_); refine takeZ (some 43) (bz 15 159) (i := 4) (h := ?_)
          refine one_ (i := 5) (N := some 44) (bz 15 191) rfl rfl (one_of HT_.out qW19x3) (by decide) (fun K hK => ?_)
          refine goes_ Tryz.func42 qW19x3 rfl #[.string (rdOf ByteArray.empty t311 0)] (by rfl) rfl rfl zA ?_
          with_reducible refine (pledgeref39_value.calls k1 (rdOf ByteArray.empty t311 0) t315 _ A18.out).mono ?_
          rintro e w' ⟨rfl, ⟨nd, rfl⟩⟩
          refine ⟨_, rfl, ?_⟩
          refine hK.out _ _ ⟨(blk_cell BK309.out 0).trans rfl, (blk_cell BK309.out 1).trans rfl, (blk_cell BK309.out 2).trans rfl, (blk_cell BK309.out 3).trans rfl, (blk_cell BK309.out 4).trans rfl, (blk_cell BK309.out 5).trans rfl, (blk_cell BK309.out 6).trans rfl, (blk_cell BK309.out 7).trans rfl, hHeld.2.2.2.2.2.2.2.2⟩ (fun hHeld => ?_)
          clear hK K
          refine norm_ (a' := ?_) ?_ ?_
          rotate_left
          · show Act.put _ (some 44) _ = _
            simp only [Act.put, List.setIfInBounds_toArray, List.set_cons_zero, List.set_cons_succ, i64_w, i32_w]
            rfl
          refine pureZ (some 45) (bz 15 255) (i := 6) (h := ?_)
          refine one_ (i := 8) (N := some 47) (bz 15 511) rfl rfl (one_of HT_.out qW19x3) (by decide) (fun K hK => ?_)
          refine goes_ Tryz.func43 qW19x3 rfl #[.slice (some ad314) t311.length co24, .int .i64 1] (by rfl) rfl rfl zA ?_
          with_reducible refine (pledgeref39_at.calls _ _ t311 1 t316 _ ?side1 ?side2 A19.out).mono ?_
          (case side1 => exact zC ((Kd.R_reads' HO313.out).2.2))
          (case side2 => exact (Kd.R_reads' HO313.out).2.1)
          rintro e w' ⟨rfl, ⟨nd, rfl⟩⟩
          refine ⟨_, rfl, ?_⟩
          refine hK.out _ _ ⟨(blk_cell BK309.out 0).trans rfl, (blk_cell BK309.out 1).trans rfl, (blk_cell BK309.out 2).trans rfl, (blk_cell BK309.out 3).trans rfl, (blk_cell BK309.out 4).trans rfl, (blk_cell BK309.out 5).trans rfl, (blk_cell BK309.out 6).trans rfl, (blk_cell BK309.out 7).trans rfl, hHeld.2.2.2.2.2.2.2.2⟩ (fun hHeld => ?_)
          clear hK K
          refine norm_ (a' := ?_) ?_ ?_
          rotate_left
          · show Act.put _ (some 47) _ = _
            simp only [Act.put, List.setIfInBounds_toArray, List.set_cons_zero, List.set_cons_succ, i64_w, i32_w]
            rfl
          refine one_ (i := 9) (N := some 48) (bz 15 1023) rfl rfl (one_of HT_.out qW19x3) (by decide) (fun K hK => ?_)
          refine goes_ Tryz.func42 qW19x3 rfl #[.string t316] (by rfl) rfl rfl zA ?_
          with_reducible refine (pledgeref39_value.calls k1 t316 t317 _ A20.out).mono ?_
          rintro e w' ⟨rfl, ⟨nd, rfl⟩⟩
          refine ⟨_, rfl, ?_⟩
          refine hK.out _ _ ⟨(blk_cell BK309.out 0).trans rfl, (blk_cell BK309.out 1).trans rfl, (blk_cell BK309.out 2).trans rfl, (blk_cell BK309.out 3).trans rfl, (blk_cell BK309.out 4).trans rfl, (blk_cell BK309.out 5).trans rfl, (blk_cell BK309.out 6).trans rfl, (blk_cell BK309.out 7).trans rfl, hHeld.2.2.2.2.2.2.2.2⟩ (fun hHeld => ?_)
          clear hK K
          refine norm_ (a' := ?_) ?_ ?_
          rotate_left
          · show Act.put _ (some 48) _ = _
            simp only [Act.put, List.setIfInBounds_toArray, List.set_cons_zero, List.set_cons_succ, i64_w, i32_w]
            rfl
          refine pureZ (some 49) (bz 15 2047) (i := 10) (h := ?_)
          refine one_ (i := 11) (N := some 50) (bz 15 4095) rfl rfl (one_of HT_.out qW19x3) (by decide) (fun K hK => ?_)
          refine value_ (w1 := ?_) (v := ?_) (by rfl) rfl ?_ ?_
          rotate_left 2
          · go_simp
            constructor
            · rfl
            · rfl
          refine hK.out _ _ ⟨(blk_cell (blk_alloc BK309.out _) 0).trans rfl, (blk_cell (blk_alloc BK309.out _) 1).trans rfl, (blk_cell (blk_alloc BK309.out _) 2).trans rfl, (blk_cell (blk_alloc BK309.out _) 3).trans rfl, (blk_cell (blk_alloc BK309.out _) 4).trans rfl, (blk_cell (blk_alloc BK309.out _) 5).trans rfl, (blk_cell (blk_alloc BK309.out _) 6).trans rfl, (blk_cell (blk_alloc BK309.out _) 7).trans rfl, (World.cell?_alloc_lt _ _ _ (World.block_lt_of_cell? _ _ (hHeld.2.2.2.2.2.2.2.2))).trans (hHeld.2.2.2.2.2.2.2.2)⟩ (fun hHeld => ?_)
          clear hK K
          refine norm_ (a' := ?_) ?_ ?_
          rotate_left
          · show Act.put _ (some 50) _ = _
            simp only [Act.put, List.setIfInBounds_toArray, List.set_cons_zero, List.set_cons_succ, i64_w, i32_w]
            rfl
          refine last_ (i := 12) (N := some 51) (bz 15 8191) rfl rfl (one_of HT_.out qW19x3) (by decide) (fun K hK => ?_)
          refine Kd.R_append_step k90 (w0 := w) w.heap.size (by rfl) (.tmp 40) (.tmp 50) 49 90 (.agg #[(.int .u8 0), (.int .i64 0)]) 16 rfl Tryz.underlying49 info90 rfl (by decide) (by omega) u310003 x310003_1 (⟨(t315) % 256, t317⟩ : S90) [.int .u8 ((t315) % 256), .int .i64 t317] (fun _ => True) (fun _ => False) rfl rfl ?aP (fun _ hk => hk.elim) ?aF ?aO ?aB ?aS ?aL ?_
          (case aP => exact k90_mkM _ _ _ (⟨(t315) % 256, t317⟩ : S90))
          (case aB => exact zB)
          (case aF => exact (fun _ _ => trivial))
          (case aO => exact (zR HO_310003.out))
          (case aS => exact (below_size zB))
          (case aL => have := LMc21.out; omega)
          intro v319 w25 ho hb hg hat
          rw [← Ny318.out] at ho
          replace BK301 := Aside0.mk (blk_grown (g := gb301) (o := .cells #[.int .u8 0, .int .u32 0, .int .u8 0, .slice none 0 0, .int .u8 0, .int .u8 0, .int .u8 0, .int .i64 0] 51 (0, 0)) (zK BK301.out) hg (Kd.R_ne HO_310003.out BK301.out (by decide)))
          replace BK309 := Aside0.mk (blk_grown (g := gb309) (o := .cells #[.int .u8 1, .int .u32 ((t303) % 4294967296), .int .u8 ((t305) % 256), u310003, .int .u8 0, .int .u8 0, .int .u8 0, .int .i64 0] 51 (0, 0)) (zK BK309.out) hg (Kd.R_ne HO_310003.out BK309.out (by decide)))
          replace HO313 := Aside0.mk (Kd.R_over' (zR HO313.out) (Kd.R_typed (zR HO_310003.out)) (by decide) hg)
          replace HB := Aside0.mk (hb)
          have HO320 := Aside0.mk (ho)
          clear HO_310003 ho hb hg hat
          obtain ⟨Ao26, co26, eo26⟩ := Kd.R_slice HO320.out
          (first | subst eo26 | (injection eo26 with f1_ f2_ f3_; have f4_ := f1_.symm; have f5_ := f3_.symm; clear f1_ f2_ f3_; subst f4_; subst f5_))
          refine hK.out _ _ ?_
          clear hK K
          refine norm_ (a' := ?_) ?_ ?_
          rotate_left
          · show Act.put _ (some 51) _ = _
            simp only [Act.put, List.setIfInBounds_toArray, List.set_cons_zero, List.set_cons_succ, i64_w, i32_w]
            rfl
          refine pureZ (some 52) (bz 15 16383) (i := 13) (h := ?_)
          refine last_ (i := 14) (N := none) (bz 15 32767) rfl rfl (one_of HT_.out qW19x3) (by decide) (fun K hK => ?_)
          have hs27 : w25.cell? ⟨gb309, 3, none⟩ = some (u310003) := (blk_cell BK309.out 3).trans rfl
          have hfs27 := blk_frozen BK309.out 3
          have hns27_0 := NB301_309.out
          have hms27_0 := NB309_301.out
          refine skip_ (w1 := ?_) (by rfl) rfl ?_ ?_
          rotate_left
          · go_simp
            rfl
          refine hK.out _ _ ?_
          clear hK K
          refine done_ (done_of HT_.out qW19x3) ?_
          try go_wp2
          go_roundg k1
          case measure => have := HK1.out; omega
          case rel => exact ⟨(wrap64 (x7_1 + 1)), (y318), (.slice Ao26 y318.length co26), (by first | rfl | (simp; done) | (simp [*]; done)), H', ⟨by have := HK1.out; omega⟩, ⟨by (with_reducible repeat (first | apply Kd.R_alloc | apply Kd.R_drewN | apply Kd.R_drew)); exact Kd.R_mono (Kd.R_far (p := ⟨gb309, 3, none⟩) (Kd.R_types HO320.out BK309.out (by decide)) (fun _ hk => hk.2) (.slice Ao26 y318.length co26)) (fun _ hk => trivial)⟩, ⟨by (with_reducible repeat (first | refine blk_drewN ?_ _ | refine blk_drew ?_ | refine blk_alloc ?_ _)); refine blk_far ?_ NB301_309.out _; (with_reducible repeat (first | refine blk_drewN ?_ _ | refine blk_drew ?_ | refine blk_alloc ?_ _)); exact BK301.out⟩, ⟨by (with_reducible repeat (first | refine blk_drewN ?_ _ | refine blk_drew ?_ | refine blk_alloc ?_ _)); refine blk_put (cs := #[.int .u8 1, .int .u32 ((t303) % 4294967296), .int .u8 ((t305) % 256), u310003, .int .u8 0, .int .u8 0, .int .u8 0, .int .i64 0]) ?_ 3 _ rfl; (with_reducible repeat (first | refine blk_drewN ?_ _ | refine blk_drew ?_ | refine blk_alloc ?_ _)); exact BK309.out⟩, ⟨zB⟩⟩
    rw [if_neg c9] at H
    obtain ⟨c9b0, c9b1⟩ := zne c9
    by_cases c32 : (rdOf ByteArray.empty l0 0).toList = ([99, 97, 110, 99, 101, 108] : List UInt8)
    focus
      rw [if_pos c32] at H
      obtain ⟨c32b0, c32b1⟩ := zeq c32
      clear c32
      simp only [Option.some.injEq, Prod.mk.injEq] at H
      obtain ⟨rfl, rfl, rfl, rfl, rfl, rfl, rfl, rfl⟩ := H
    rotate_left
    rw [if_neg c32] at H
    obtain ⟨c32b0, c32b1⟩ := zne c32
    by_cases c35 : (rdOf ByteArray.empty l0 0).toList = ([115, 104, 105, 112] : List UInt8)
    focus
      rw [if_pos c35] at H
      obtain ⟨c35b0, c35b1⟩ := zeq c35
      clear c35
      simp only [Option.some.injEq, Prod.mk.injEq] at H
      obtain ⟨rfl, rfl, rfl, rfl, rfl, rfl, rfl, rfl⟩ := H
    rotate_left
    rw [if_neg c35] at H
    obtain ⟨c35b0, c35b1⟩ := zne c35
    by_cases c38 : (rdOf ByteArray.empty l0 0).toList = ([114, 101, 116, 117, 114, 110] : List UInt8)
    focus
      rw [if_pos c38] at H
      obtain ⟨c38b0, c38b1⟩ := zeq c38
      clear c38
      simp only [Option.some.injEq, Prod.mk.injEq] at H
      obtain ⟨rfl, rfl, rfl, rfl, rfl, rfl, rfl, rfl⟩ := H
    rotate_left
    rw [if_neg c38] at H
    obtain ⟨c38b0, c38b1⟩ := zne c38
    by_cases c41 : (rdOf ByteArray.empty l0 0).toList = ([114, 101, 115, 116, 111, 99, 107] : List UInt8)
    focus
      rw [if_pos c41] at H
      obtain ⟨c41b0, c41b1⟩ := zeq c41
      clear c41
      simp only [Option.some.injEq, Prod.mk.injEq] at H
      obtain ⟨rfl, rfl, rfl, rfl, rfl, rfl, rfl, rfl⟩ := H
    rotate_left
    rw [if_neg c41] at H
    obtain ⟨c41b0, c41b1⟩ := zne c41
    by_cases c44 : (rdOf ByteArray.empty l0 0).toList = ([116, 114, 97, 110, 115, 102, 101, 114] : List UInt8)
    focus
      rw [if_pos c44] at H
      obtain ⟨c44b0, c44b1⟩ := zeq c44
      clear c44
      obtain ⟨t321, A45, H⟩ := zO H
      try dsimp only at H
      obtain ⟨t322, A46, H⟩ := zO H
      try dsimp only at H
      simp only [Option.some.injEq, Prod.mk.injEq] at H
      obtain ⟨rfl, rfl, rfl, rfl, rfl, rfl, rfl, rfl⟩ := H
    rotate_left
    rw [if_neg c44] at H
    obtain ⟨c44b0, c44b1⟩ := zne c44
    by_cases c49 : (rdOf ByteArray.empty l0 0).toList = ([113, 117, 101, 114, 121] : List UInt8)
    focus
      rw [if_pos c49] at H
      obtain ⟨c49b0, c49b1⟩ := zeq c49
      clear c49
      simp only [Option.some.injEq, Prod.mk.injEq] at H
      obtain ⟨rfl, rfl, rfl, rfl, rfl, rfl, rfl, rfl⟩ := H
    rotate_left
    rw [if_neg c49] at H
    obtain ⟨c49b0, c49b1⟩ := zne c49
    simp only [Option.some.injEq, Prod.mk.injEq] at H
    obtain ⟨rfl, rfl, rfl, rfl, rfl, rfl, rfl, rfl⟩ := H
  rotate_left 7
  · rw [if_neg c8] at H
    exact absurd H (by simp)
  all_goals go_enter Tryz.func45, Tryz.ntmps45
  all_goals go_wp2_with (first | ((with_reducible refine gate_dst (N := 2) rfl ?_); refine zbox (N := 2) (cs := #[.int .u8 0, .int .u32 0, .int .u8 0, .slice none 0 0, .int .u8 0, .int .u8 0, .int .u8 0, .int .i64 0]) (t := 51) (h := ?_); intro gb301 hg wx1 hbox hb; have BK301 := Aside0.mk (hbox); have GW301 := zG (p := w.heap.size ≤ gb301); have GE301 := GW301; replace HB := zH hb; clear hb hbox hg) | ((with_reducible refine gate_callee (f := 43) rfl ?_); refine goesZ (some 86) Tryz.func43 (args := #[.slice (some ad308) l0.length c0, .int .i64 4]) (h := ?_); (with_reducible refine (pledgeref39_at.calls _ _ l0 4 t321 _ ?side1 ?side2 A45.out).mono ?_); (case side1 => exact zC (Kd.C_below HR0.out HB.out)); (case side2 => exact HC0.out); rintro e w' ⟨rfl, ⟨nd, rfl⟩⟩; refine ⟨_, rfl, ?_⟩; (try (rw [drewN_self wx1]; generalize hq_ : World.drewN wx1 _ = wx1; replace BK301 := qW19x1; replace HB := qW19x2; clear hq_))) | ((with_reducible refine gate_callee (f := 43) rfl ?_); refine goesZ (some 10) Tryz.func43 (args := #[.slice A0 l0.length c0, .int .i64 1]) (h := ?_); (with_reducible refine (pledgeref39_at.calls _ _ l0 1 t302 _ ?side1 ?side2 A2.out).mono ?_); (case side1 => exact zC (Kd.C_below HR0.out HB.out)); (case side2 => exact HC0.out); rintro e w' ⟨rfl, ⟨nd, rfl⟩⟩; refine ⟨_, rfl, ?_⟩; (try (rw [drewN_self wx1]; generalize hq_ : World.drewN wx1 _ = wx1; replace BK301 := qW19x1; replace HB := qW19x2; clear hq_))) | ((with_reducible refine gate_callee (f := 43) rfl ?_); refine goesZ (some 13) Tryz.func43 (args := #[.slice A0 l0.length c0, .int .i64 2]) (h := ?_); (with_reducible refine (pledgeref39_at.calls _ _ l0 2 t304 _ ?side1 ?side2 A4.out).mono ?_); (case side1 => exact zC (Kd.C_below HR0.out HB.out)); (case side2 => exact HC0.out); rintro e w' ⟨rfl, ⟨nd, rfl⟩⟩; refine ⟨_, rfl, ?_⟩; (try (rw [drewN_self wx1]; generalize hq_ : World.drewN wx1 _ = wx1; replace BK301 := qW19x1; replace HB := qW19x2; clear hq_))) | ((with_reducible refine gate_callee (f := 43) rfl ?_); refine goesZ (some 16) Tryz.func43 (args := #[.slice A0 l0.length c0, .int .i64 3]) (h := ?_); (with_reducible refine (pledgeref39_at.calls _ _ l0 3 t306 _ ?side1 ?side2 A6.out).mono ?_); (case side1 => exact zC (Kd.C_below HR0.out HB.out)); (case side2 => exact HC0.out); rintro e w' ⟨rfl, ⟨nd, rfl⟩⟩; refine ⟨_, rfl, ?_⟩; (try (rw [drewN_self wx1]; generalize hq_ : World.drewN wx1 _ = wx1; replace BK301 := qW19x1; replace HB := qW19x2; clear hq_))) | ((with_reducible refine gate_callee (f := 42) rfl ?_); refine goesZ (some 17) Tryz.func42 (args := #[.string t306]) (h := ?_); (with_reducible refine (pledgeref39_value.calls k t306 t307 _ A7.out).mono ?_); rintro e w' ⟨rfl, ⟨nd, rfl⟩⟩; refine ⟨_, rfl, ?_⟩; (try (rw [drewN_self wx1]; generalize hq_ : World.drewN wx1 _ = wx1; replace BK301 := qW19x1; replace HB := qW19x2; clear hq_)); have p308 : 0 ≤ (0 : Int) := (by omega); have q308 : 0 < (l0.length : Int) := of_decide_eq_true zas; obtain ⟨ad308, e308, hx308_0⟩ := Kd.at_string HR0.out 0 p308 q308; cases e308; have qi308 : (0 < l0.length) = True := eq_true (by omega); (try rw [show ((0 : Int)).toNat = 0 from rfl] at hx308_0); (try rw [Addr.add_zero'] at hx308_0); replace hx308_0 := (HB.out.cell (World.block_lt_of_cell? w _ hx308_0)).trans hx308_0; replace p308 := eq_true p308; replace q308 := eq_true q308; have hczx1 := zcf8 BK301.out) | ((with_reducible refine gate_callee (f := 42) rfl ?_); refine goesZ (some 17) Tryz.func42 (args := #[.string t306]) (h := ?_); (with_reducible refine (pledgeref39_value.calls k t306 t307 _ A7.out).mono ?_); rintro e w' ⟨rfl, ⟨nd, rfl⟩⟩; refine ⟨_, rfl, ?_⟩; (try (rw [drewN_self wx1]; generalize hq_ : World.drewN wx1 _ = wx1; replace BK301 := qW19x1; replace HB := qW19x2; clear hq_)); have p308 : 0 ≤ (0 : Int) := (by omega); have q308 : 0 < (l0.length : Int) := of_decide_eq_true zas; obtain ⟨ad308, e308, hx308_0⟩ := Kd.at_string HR0.out 0 p308 q308; cases e308; have qi308 : (0 < l0.length) = True := eq_true (by omega); (try rw [show ((0 : Int)).toNat = 0 from rfl] at hx308_0); (try rw [Addr.add_zero'] at hx308_0); replace hx308_0 := (HB.out.cell (World.block_lt_of_cell? w _ hx308_0)).trans hx308_0; replace p308 := eq_true p308; replace q308 := eq_true q308) | ((with_reducible refine gate_callee (f := 42) rfl ?_); refine goesZ (some 87) Tryz.func42 (args := #[.string t321]) (h := ?_); (with_reducible refine (pledgeref39_value.calls k t321 t322 _ A46.out).mono ?_); rintro e w' ⟨rfl, ⟨nd, rfl⟩⟩; refine ⟨_, rfl, ?_⟩; (try (rw [drewN_self wx1]; generalize hq_ : World.drewN wx1 _ = wx1; replace BK301 := qW19x1; replace HB := qW19x2; clear hq_)); have hczx1 := zcf8 BK301.out) | ((with_reducible refine gate_callee (f := 42) rfl ?_); refine goesZ (some 11) Tryz.func42 (args := #[.string t302]) (h := ?_); (with_reducible refine (pledgeref39_value.calls k t302 t303 _ A3.out).mono ?_); rintro e w' ⟨rfl, ⟨nd, rfl⟩⟩; refine ⟨_, rfl, ?_⟩; (try (rw [drewN_self wx1]; generalize hq_ : World.drewN wx1 _ = wx1; replace BK301 := qW19x1; replace HB := qW19x2; clear hq_))) | ((with_reducible refine gate_callee (f := 42) rfl ?_); refine goesZ (some 14) Tryz.func42 (args := #[.string t304]) (h := ?_); (with_reducible refine (pledgeref39_value.calls k t304 t305 _ A5.out).mono ?_); rintro e w' ⟨rfl, ⟨nd, rfl⟩⟩; refine ⟨_, rfl, ?_⟩; (try (rw [drewN_self wx1]; generalize hq_ : World.drewN wx1 _ = wx1; replace BK301 := qW19x1; replace HB := qW19x2; clear hq_))))
  all_goals first | (refine bodyPost_ret (results_cell_row rfl _ _ gb301 51 #[.int .u8 6, .int .u32 0, .int .u8 0, .slice none 0 0, .int .u8 ((t303) % 256), .int .u8 ((t305) % 256), .int .u8 ((t307) % 256), .int .i64 t322] (0, 0) _ rfl (zQ BK301.out) Tryz.underlying51 rfl qW19x3) rfl ?_; exact ⟨_, zer, znil, zB⟩) | (refine bodyPost_ret (results_cell_row rfl _ _ gb301 51 #[.int .u8 5, .int .u32 0, .int .u8 0, .slice none 0 0, .int .u8 ((t303) % 256), .int .u8 0, .int .u8 ((t305) % 256), .int .i64 t307] (0, 0) _ rfl (zQ BK301.out) Tryz.underlying51 rfl qW19x3) rfl ?_; exact ⟨_, zer, znil, zB⟩) | (refine bodyPost_ret (results_cell_row rfl _ _ gb301 51 #[.int .u8 2, .int .u32 ((t303) % 4294967296), .int .u8 0, .slice none 0 0, .int .u8 0, .int .u8 0, .int .u8 0, .int .i64 0] (0, 0) _ rfl (zQ BK301.out) Tryz.underlying51 rfl qW19x3) rfl ?_; exact ⟨_, zer, znil, zB⟩) | (refine bodyPost_ret (results_cell_row rfl _ _ gb301 51 #[.int .u8 3, .int .u32 ((t303) % 4294967296), .int .u8 0, .slice none 0 0, .int .u8 0, .int .u8 0, .int .u8 0, .int .i64 0] (0, 0) _ rfl (zQ BK301.out) Tryz.underlying51 rfl qW19x3) rfl ?_; exact ⟨_, zer, znil, zB⟩) | (refine bodyPost_ret (results_cell_row rfl _ _ gb301 51 #[.int .u8 4, .int .u32 ((t303) % 4294967296), .int .u8 0, .slice none 0 0, .int .u8 0, .int .u8 0, .int .u8 0, .int .i64 0] (0, 0) _ rfl (zQ BK301.out) Tryz.underlying51 rfl qW19x3) rfl ?_; exact ⟨_, zer, znil, zB⟩) | (refine bodyPost_ret (results_cell_row rfl _ _ gb301 51 #[.int .u8 7, .int .u32 0, .int .u8 0, .slice none 0 0, .int .u8 ((t303) % 256), .int .u8 0, .int .u8 0, .int .i64 0] (0, 0) _ rfl (zQ BK301.out) Tryz.underlying51 rfl qW19x3) rfl ?_; exact ⟨_, zer, znil, zB⟩) | (refine bodyPost_ret (results_cell_row rfl _ _ gb301 51 #[.int .u8 0, .int .u32 0, .int .u8 0, .slice none 0 0, .int .u8 0, .int .u8 0, .int .u8 0, .int .i64 0] (0, 0) _ rfl (zQ BK301.out) Tryz.underlying51 rfl qW19x3) rfl ?_; exact ⟨_, zer, znil, zB⟩)

end Go.Proofs.YtpnehgajhpejjaaGreatDoor.W
