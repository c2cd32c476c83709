import Derived.Test.YtpnehgajhpejjaaDoorSq
import Derived.Test.YtpnehgajhpejjaaDoorW0
import Derived.Test.YtpnehgajhpejjaaDoorW1
import Derived.Test.YtpnehgajhpejjaaDoorW5
namespace Go.Proofs.YtpnehgajhpejjaaDoor.W
open Go.RowKit Go.Proofs.YtpnehgajhpejjaaDoorW.PrintWords Go.Proofs.YtpnehgajhpejjaaDoorW.PrintLast Go.Proofs.YtpnehgajhpejjaaDoorW.PrintMore
attribute [local go_sem] max2_int min2_int max_two min_two max_three min_three max_four min_four
set_option linter.unusedVariables false
set_option linter.unusedSimpArgs false
theorem qW8x1 {p : Prop} (h : p := by kernel_rfl) : p := h
/-! ### words_asked: function 72 -/
def words_asked.l0 : Nat → List ByteArray → Int → Int → Int → Int → Int → List (S109) → Int → Int → Int → Int → Option (Int × Int × Int × (List (S109)) × Int × Int × Int × Int)
  | 0, _, _, _, _, _, _, _, _, _, _, _ => none
  | k + 1, x29, x30, x31, x171000, x171001, x171002, x171003, x171004, x171005, x171006, x171007 => if x31 < x30 then (if 0 ≤ x31 then (if x31 < (x29.length : Int) then ((strings_Split.f (rdOf ByteArray.empty x29 x31) (⟨#[58]⟩ : ByteArray)).bind fun t173 => ((words_number.f t173 0).bind fun t176 => ((words_number.f t173 1).bind fun t177 => (if x171003.length < 8796093022208 then (words_asked.l0 k x29 x30 (wrap64 (x31 + 1)) x171000 x171001 x171002 (x171003 ++ [(⟨(t176) % 256, t177⟩ : S109)]) x171004 x171005 x171006 x171007) else (none))))) else (none)) else (none)) else (some (x171000, x171001, x171002, x171003, x171004, x171005, x171006, x171007))
def words_asked.f (k : Nat) (l0 : List ByteArray) : Option (Int × Int × Int × (List (S109)) × Int × Int × Int × Int) := (words_number.f l0 1).bind fun t166 => ((words_number.f l0 1).bind fun t167 => (if 0 < (l0.length : Int) then (if (rdOf ByteArray.empty l0 0).toList = ([112, 108, 97, 99, 101] : List UInt8) then ((words_number.f l0 2).bind fun t169 => (if 0 ≤ (mn 3 (l0.length : Int)) then (if (mn 3 (l0.length : Int)) ≤ (l0.length : Int) then (words_asked.l0 k (l0.drop ((mn 3 (l0.length : Int)) : Int).toNat) ((l0.drop ((mn 3 (l0.length : Int)) : Int).toNat).length : Int) 0 1 ((t166) % 4294967296) ((t169) % 256) ([] : List (S109)) 0 0 0 0) else (none)) else (none))) else (if (rdOf ByteArray.empty l0 0).toList = ([99, 97, 110, 99, 101, 108] : List UInt8) then (some (2, (t166) % 4294967296, 0, ([] : List (S109)), 0, 0, 0, 0)) else (if (rdOf ByteArray.empty l0 0).toList = ([115, 104, 105, 112] : List UInt8) then (some (3, (t166) % 4294967296, 0, ([] : List (S109)), 0, 0, 0, 0)) else (if (rdOf ByteArray.empty l0 0).toList = ([114, 101, 116, 117, 114, 110] : List UInt8) then (some (4, (t166) % 4294967296, 0, ([] : List (S109)), 0, 0, 0, 0)) else (if (rdOf ByteArray.empty l0 0).toList = ([114, 101, 115, 116, 111, 99, 107] : List UInt8) then ((words_number.f l0 2).bind fun t181 => ((words_number.f l0 3).bind fun t182 => (some (5, 0, 0, ([] : List (S109)), (t167) % 256, 0, (t181) % 256, t182)))) else (if (rdOf ByteArray.empty l0 0).toList = ([116, 114, 97, 110, 115, 102, 101, 114] : List UInt8) then ((words_number.f l0 2).bind fun t183 => ((words_number.f l0 3).bind fun t184 => ((words_number.f l0 4).bind fun t185 => (some (6, 0, 0, ([] : List (S109)), (t167) % 256, (t183) % 256, (t184) % 256, t185))))) else (if (rdOf ByteArray.empty l0 0).toList = ([113, 117, 101, 114, 121] : List UInt8) then (some (7, 0, 0, ([] : List (S109)), (t167) % 256, 0, 0, 0)) else (some (0, 0, 0, ([] : List (S109)), 0, 0, 0, 0))))))))) else (none)))
def words_asked.T9 : Bool × List (List Nat × List Nat) := (true, [([], []), ([0], [0]), ([], []), ([2], [2]), ([3], [3]), ([], []), ([5, 3], [5]), ([4, 6], [4, 6]), ([7], [7]), ([1, 8, 6], [1, 8]), ([0, 1, 2, 3, 4, 5, 6, 7, 8, 9], []), ([10, 9, 9, 0, 1, 2, 3, 4, 5, 6, 7, 8, 9], [9, 10])])
def words_asked.B9 : List Nat := [0, 1, 0, 4, 12, 0, 44, 124, 252, 511, 1023, 2047]
theorem words_asked.tab9 : rtab .any (opsOf Tryd.f72 9) = words_asked.T9 := by kernel_rfl
theorem words_asked.bits9 : waitsOk words_asked.T9.2 words_asked.B9 = true := by kernel_rfl
set_option maxHeartbeats 8000000 in
set_option maxRecDepth 100000 in
theorem words_asked.calls (k : Nat) (A0 : Option Addr) (c0 : Nat) (l0 : List ByteArray) (r1 : Int) (r2 : Int) (r3 : Int) (r4 : List (S109)) (r5 : Int) (r6 : Int) (r7 : Int) (r8 : Int) (w : World) (hG0 : Gl w) (hr0 : Kd.C Kd.string w A0 l0.length l0) (hc0 : l0.length ≤ c0) (h : words_asked.f k l0 = some (r1, r2, r3, r4, r5, r6, r7, r8)) :
    Calls Tryd.prog 72 #[.slice A0 l0.length c0] w fun e w' => ∃ v3_ : Value, e = .returned (.agg #[.int .u8 r1, .int .u32 r2, .int .u8 r3, v3_, .int .u8 r5, .int .u8 r6, .int .u8 r7, .int .i64 r8]) ∧ Kd.R k109 109 w' w.heap.size (fun _ => True) v3_ r4 ∧ Below w.heap.size w w' := by
  have hu78 := Tryd.underlying78
  have hu109 := Tryd.underlying109
  have hG := Aside0.mk hG0
  clear hG0
  have HR0 := Aside0.mk hr0
  have HC0 := Aside0.mk hc0
  clear hr0 hc0
  have HB := Aside0.mk (Below.refl w.heap.size w)
  have H : ((words_number.f l0 1).bind fun t166 => ((words_number.f l0 1).bind fun t167 => (if 0 < (l0.length : Int) then (if (rdOf ByteArray.empty l0 0).toList = ([112, 108, 97, 99, 101] : List UInt8) then ((words_number.f l0 2).bind fun t169 => (if 0 ≤ (mn 3 (l0.length : Int)) then (if (mn 3 (l0.length : Int)) ≤ (l0.length : Int) then (words_asked.l0 k (l0.drop ((mn 3 (l0.length : Int)) : Int).toNat) ((l0.drop ((mn 3 (l0.length : Int)) : Int).toNat).length : Int) 0 1 ((t166) % 4294967296) ((t169) % 256) ([] : List (S109)) 0 0 0 0) else (none)) else (none))) else (if (rdOf ByteArray.empty l0 0).toList = ([99, 97, 110, 99, 101, 108] : List UInt8) then (some (2, (t166) % 4294967296, 0, ([] : List (S109)), 0, 0, 0, 0)) else (if (rdOf ByteArray.empty l0 0).toList = ([115, 104, 105, 112] : List UInt8) then (some (3, (t166) % 4294967296, 0, ([] : List (S109)), 0, 0, 0, 0)) else (if (rdOf ByteArray.empty l0 0).toList = ([114, 101, 116, 117, 114, 110] : List UInt8) then (some (4, (t166) % 4294967296, 0, ([] : List (S109)), 0, 0, 0, 0)) else (if (rdOf ByteArray.empty l0 0).toList = ([114, 101, 115, 116, 111, 99, 107] : List UInt8) then ((words_number.f l0 2).bind fun t181 => ((words_number.f l0 3).bind fun t182 => (some (5, 0, 0, ([] : List (S109)), (t167) % 256, 0, (t181) % 256, t182)))) else (if (rdOf ByteArray.empty l0 0).toList = ([116, 114, 97, 110, 115, 102, 101, 114] : List UInt8) then ((words_number.f l0 2).bind fun t183 => ((words_number.f l0 3).bind fun t184 => ((words_number.f l0 4).bind fun t185 => (some (6, 0, 0, ([] : List (S109)), (t167) % 256, (t183) % 256, (t184) % 256, t185))))) else (if (rdOf ByteArray.empty l0 0).toList = ([113, 117, 101, 114, 121] : List UInt8) then (some (7, 0, 0, ([] : List (S109)), (t167) % 256, 0, 0, 0)) else (some (0, 0, 0, ([] : List (S109)), 0, 0, 0, 0))))))))) else (none)))) = some (r1, r2, r3, r4, r5, r6, r7, r8) := h
  clear h
  obtain ⟨t166, A2, H⟩ := zO H
  try dsimp only at H
  obtain ⟨t167, A3, H⟩ := zO H
  try dsimp only at H
  by_cases c4 : 0 < (l0.length : Int)
  focus
    rw [if_pos c4] at H
    have c4b0 := decide_eq_true c4
    have c4b1 : decide (0 < l0.length) = true := decide_eq_true (by omega)
    clear c4
    by_cases c5 : (rdOf ByteArray.empty l0 0).toList = ([112, 108, 97, 99, 101] : List UInt8)
    · rw [if_pos c5] at H
      obtain ⟨c5b0, c5b1⟩ := zeq c5
      clear c5
      obtain ⟨t169, A6, H⟩ := zO H
      try dsimp only at H
      obtain ⟨ji7, hji7⟩ : ∃ j_ : Int, (mn 3 (l0.length : Int)) = j_ := ⟨_, rfl⟩
      replace H : (if 0 ≤ (ji7) then (if (ji7) ≤ (l0.length : Int) then (words_asked.l0 k (l0.drop ((ji7) : Int).toNat) ((l0.drop ((ji7) : Int).toNat).length : Int) 0 1 ((t166) % 4294967296) ((t169) % 256) ([] : List (S109)) 0 0 0 0) else (none)) else (none)) = some (r1, r2, r3, r4, r5, r6, r7, r8) := by first | (rw [hji7] at H; exact H) | (simp only [hji7] at H ⊢; exact H)
      (try rw [hji7] at A2)
      (try rw [hji7] at A3)
      (try rw [hji7] at A6)
      (try (have hji7h : ji7 ≤ 3 := by (rw [← hji7]; unfold mn; (repeat' split) <;> omega)))
      (try (have hji7g : ji7 ≤ 64 := by omega))
      (try (have hji7l : 0 ≤ ji7 := by (rw [← hji7]; unfold mn; (repeat' split) <;> omega)))
      (try (have hji7m : 0 ≤ ji7 := by omega))
      have hji7_ : (if (l0.length : Int) < 3 then (l0.length : Int) else 3) = ji7 := hji7
      by_cases c8 : 0 ≤ (ji7)
      rotate_left
      · rw [if_neg c8] at H
        exact absurd H (by simp)
      rw [if_pos c8] at H
      have c8b0 := eq_true c8
      have c8b1 := decide_eq_true c8
      clear c8
      by_cases c9 : (ji7) ≤ (l0.length : Int)
      rotate_left
      · rw [if_neg c9] at H
        exact absurd H (by simp)
      rw [if_pos c9] at H
      have c9b0 := eq_true c9
      have c9b1 := decide_eq_true c9
      clear c9
      have H' := Aside0.mk H
      clear H
      go_enter Tryd.func72, Tryd.ntmps72
      go_wp2_with (first | ((with_reducible refine gate_dst (N := 2) rfl ?_); refine zbox (N := 2) (cs := #[.int .u8 0, .int .u32 0, .int .u8 0, .slice none 0 0, .int .u8 0, .int .u8 0, .int .u8 0, .int .i64 0]) (t := 78) (h := ?_); intro gb165 hg w10 hbox hb; have BK165 := Aside0.mk (hbox); have GW165 := zG (p := w.heap.size ≤ gb165); have GE165 := GW165; replace HB := zH hb; clear hb hbox hg) | ((with_reducible refine gate_callee (f := 68) rfl ?_); refine goesZ (some 10) Tryd.func68 (args := #[.slice A0 l0.length c0, .int .i64 1]) (h := ?_); (with_reducible refine (words_number.calls _ _ l0 1 t166 _ ?side1 ?side2 ?side3 A2.out).mono ?_); (case side1 => exact Gl.below hG.out zB); (case side2 => exact zC (Kd.C_below HR0.out HB.out)); (case side3 => exact HC0.out); rintro e w11 ⟨rfl, hb⟩; refine ⟨_, rfl, ?_⟩; replace BK165 := zJ BK165 hb; replace HB := zH hb; clear hb) | ((with_reducible refine gate_callee (f := 68) rfl ?_); refine goesZ (some 13) Tryd.func68 (args := #[.slice A0 l0.length c0, .int .i64 1]) (h := ?_); (with_reducible refine (words_number.calls _ _ l0 1 t167 _ ?side1 ?side2 ?side3 A3.out).mono ?_); (case side1 => exact Gl.below hG.out zB); (case side2 => exact zC (Kd.C_below HR0.out HB.out)); (case side3 => exact HC0.out); rintro e w12 ⟨rfl, hb⟩; refine ⟨_, rfl, ?_⟩; replace BK165 := zJ BK165 hb; replace HB := zH hb; clear hb; have p168 : 0 ≤ (0 : Int) := (by omega); have q168 : 0 < (l0.length : Int) := of_decide_eq_true zas; obtain ⟨ad168, e168, hx168_0⟩ := Kd.at_string HR0.out 0 p168 q168; cases e168; have qi168 : (0 < l0.length) = True := eq_true (by omega); (try rw [show ((0 : Int)).toNat = 0 from rfl] at hx168_0); (try rw [Addr.add_zero'] at hx168_0); replace hx168_0 := (HB.out.cell (World.block_lt_of_cell? w _ hx168_0)).trans hx168_0; replace p168 := eq_true p168; replace q168 := eq_true q168) | ((with_reducible refine gate_callee (f := 68) rfl ?_); refine goesZ (some 22) Tryd.func68 (args := #[.slice (some ad168) l0.length c0, .int .i64 2]) (h := ?_); (with_reducible refine (words_number.calls _ _ l0 2 t169 _ ?side1 ?side2 ?side3 A6.out).mono ?_); (case side1 => exact Gl.below hG.out zB); (case side2 => exact zC (Kd.C_below HR0.out HB.out)); (case side3 => exact HC0.out); rintro e w13 ⟨rfl, hb⟩; refine ⟨_, rfl, ?_⟩; replace BK165 := zJ BK165 hb; replace HB := zH hb; clear hb) | ((with_reducible refine gate_dst (N := 5) rfl ?_); refine zbox (N := 5) (cs := #[.int .u8 0, .int .u32 0, .int .u8 0, .slice none 0 0, .int .u8 0, .int .u8 0, .int .u8 0, .int .i64 0]) (t := 78) (h := ?_); intro gb170 hg w14 hbox hb; have BK170 := Aside0.mk (hbox); have GW170 := zG (p := w.heap.size ≤ gb170); have GE170 := GW170; have NB165_170 := zNlt BK165.out (p := gb165 ≠ gb170); have NB170_165 := zNgt BK165.out (p := gb170 ≠ gb165); replace BK165 := zJ BK165 hb; replace HB := zH hb; clear hb hbox hg; have hnb15 := NB170_165.out; have hnc15 := NB165_170.out; have hcz16_0 := zcf8 BK170.out; obtain ⟨i017, hi017, _, hsz17, _⟩ := info_parts info9; obtain ⟨A17, hcut17, hA17, hC17⟩ := print_drop_of (P := Tryd.prog) Value.string (⟨#[]⟩ : ByteArray) 50 9 .i64 Tryd.underlying50 hi017 hsz17 (some ad168) c0 l0 (ji7) (of_decide_eq_true zas) (of_decide_eq_true zas) HC0.out; have HR171 := Aside0.mk (Kd.C_of_reads (h1 := fun _ => rfl) (hA17 _ (Kd.reads_of_C HR0.out))); have HC171 := Aside0.mk hC17; clear hA17 hC17 hi017 hsz17))
      go_loopg [31] k (fun kq v31 w' => ∃ (x31_1 : Int) (x171003_1 : List (S109)) (u171003 : Value), v31 = .int .i64 x31_1 ∧ Aside0 (words_asked.l0 kq (l0.drop ((ji7) : Int).toNat) ((l0.drop ((ji7) : Int).toNat).length : Int) x31_1 1 ((t166) % 4294967296) ((t169) % 256) x171003_1 0 0 0 0 = some (r1, r2, r3, r4, r5, r6, r7, r8)) ∧ Aside0 (kq ≤ k) ∧ Aside0 (Kd.R k109 109 w' w.heap.size (fun _ => True) u171003 x171003_1) ∧ Aside0 (w'.heap[gb165]? = some (.cells #[.int .u8 0, .int .u32 0, .int .u8 0, (.slice none 0 0), .int .u8 0, .int .u8 0, .int .u8 0, .int .i64 0] 78 (0, 0))) ∧ Aside0 (w'.heap[gb170]? = some (.cells #[.int .u8 1, .int .u32 ((t166) % 4294967296), .int .u8 ((t169) % 256), u171003, .int .u8 0, .int .u8 0, .int .u8 0, .int .i64 0] 78 (0, 0))) ∧ Aside0 (Below w.heap.size w w'))
      case atStart => exact ⟨(0), (([] : List (S109))), (.slice none 0 0), (by first | rfl | (simp; done) | (simp [*]; done)), H', ⟨Nat.le_refl _⟩, ⟨znil⟩, ⟨by (with_reducible repeat (first | refine blk_drewN ?_ _ | refine blk_drew ?_ | refine blk_alloc ?_ _)); refine blk_far ?_ NB165_170.out _; (with_reducible repeat (first | refine blk_drewN ?_ _ | refine blk_drew ?_ | refine blk_alloc ?_ _)); refine blk_far ?_ NB165_170.out _; (with_reducible repeat (first | refine blk_drewN ?_ _ | refine blk_drew ?_ | refine blk_alloc ?_ _)); refine blk_far ?_ NB165_170.out _; (with_reducible repeat (first | refine blk_drewN ?_ _ | refine blk_drew ?_ | refine blk_alloc ?_ _)); refine blk_far ?_ NB165_170.out _; (with_reducible repeat (first | refine blk_drewN ?_ _ | refine blk_drew ?_ | refine blk_alloc ?_ _)); refine blk_far ?_ NB165_170.out _; (with_reducible repeat (first | refine blk_drewN ?_ _ | refine blk_drew ?_ | refine blk_alloc ?_ _)); refine blk_far ?_ NB165_170.out _; (with_reducible repeat (first | refine blk_drewN ?_ _ | refine blk_drew ?_ | refine blk_alloc ?_ _)); refine blk_far ?_ NB165_170.out _; (with_reducible repeat (first | refine blk_drewN ?_ _ | refine blk_drew ?_ | refine blk_alloc ?_ _)); refine blk_far ?_ NB165_170.out _; (with_reducible repeat (first | refine blk_drewN ?_ _ | refine blk_drew ?_ | refine blk_alloc ?_ _)); exact BK165.out⟩, ⟨by (with_reducible repeat (first | refine blk_drewN ?_ _ | refine blk_drew ?_ | refine blk_alloc ?_ _)); refine blk_put (cs := #[.int .u8 1, .int .u32 ((t166) % 4294967296), .int .u8 ((t169) % 256), .slice none 0 0, .int .u8 0, .int .u8 0, .int .u8 0, .int .i64 0]) ?_ 7 _ rfl; (with_reducible repeat (first | refine blk_drewN ?_ _ | refine blk_drew ?_ | refine blk_alloc ?_ _)); refine blk_put (cs := #[.int .u8 1, .int .u32 ((t166) % 4294967296), .int .u8 ((t169) % 256), .slice none 0 0, .int .u8 0, .int .u8 0, .int .u8 0, .int .i64 0]) ?_ 6 _ rfl; (with_reducible repeat (first | refine blk_drewN ?_ _ | refine blk_drew ?_ | refine blk_alloc ?_ _)); refine blk_put (cs := #[.int .u8 1, .int .u32 ((t166) % 4294967296), .int .u8 ((t169) % 256), .slice none 0 0, .int .u8 0, .int .u8 0, .int .u8 0, .int .i64 0]) ?_ 5 _ rfl; (with_reducible repeat (first | refine blk_drewN ?_ _ | refine blk_drew ?_ | refine blk_alloc ?_ _)); refine blk_put (cs := #[.int .u8 1, .int .u32 ((t166) % 4294967296), .int .u8 ((t169) % 256), .slice none 0 0, .int .u8 0, .int .u8 0, .int .u8 0, .int .i64 0]) ?_ 4 _ rfl; (with_reducible repeat (first | refine blk_drewN ?_ _ | refine blk_drew ?_ | refine blk_alloc ?_ _)); refine blk_put (cs := #[.int .u8 1, .int .u32 ((t166) % 4294967296), .int .u8 ((t169) % 256), .slice none 0 0, .int .u8 0, .int .u8 0, .int .u8 0, .int .i64 0]) ?_ 3 _ rfl; (with_reducible repeat (first | refine blk_drewN ?_ _ | refine blk_drew ?_ | refine blk_alloc ?_ _)); refine blk_put (cs := #[.int .u8 1, .int .u32 ((t166) % 4294967296), .int .u8 0, .slice none 0 0, .int .u8 0, .int .u8 0, .int .u8 0, .int .i64 0]) ?_ 2 _ rfl; (with_reducible repeat (first | refine blk_drewN ?_ _ | refine blk_drew ?_ | refine blk_alloc ?_ _)); refine blk_put (cs := #[.int .u8 1, .int .u32 0, .int .u8 0, .slice none 0 0, .int .u8 0, .int .u8 0, .int .u8 0, .int .i64 0]) ?_ 1 _ rfl; (with_reducible repeat (first | refine blk_drewN ?_ _ | refine blk_drew ?_ | refine blk_alloc ?_ _)); refine blk_put (cs := #[.int .u8 0, .int .u32 0, .int .u8 0, .slice none 0 0, .int .u8 0, .int .u8 0, .int .u8 0, .int .i64 0]) ?_ 0 _ rfl; (with_reducible repeat (first | refine blk_drewN ?_ _ | refine blk_drew ?_ | refine blk_alloc ?_ _)); exact BK170.out⟩, ⟨zB⟩⟩
      case round =>
        clear H'
        try clear c1
        try clear p1
        try clear q1
        try clear hx1
        try clear qi1
        try clear p2
        try clear c4
        try clear c4b0
        try clear c4b1
        try clear c5
        try clear c5b0
        try clear c5b1
        try clear c6
        try clear c7
        try clear c8
        try clear c8b0
        try clear c8b1
        try clear c9
        try clear c9b0
        try clear c9b1
        try clear c15
        try clear p16
        try clear q16
        try clear hx16
        try clear qi16
        try clear hcz16_0
        try clear hx168_0
        try clear p168
        try clear q168
        obtain ⟨x31_1, x171003_1, u171003, rfl, HA, HK1, HO_171003, BK165, BK170, HB⟩ := hrel
        cases gk with
        | zero => exact absurd HA.out (by simp [words_asked.l0])
        | succ k1 =>
          have H := HA.out
          clear HA
          simp only [words_asked.l0] at H
          by_cases c18 : x31_1 < ((l0.drop ((ji7) : Int).toNat).length : Int)
          rotate_left
          · rw [if_neg c18] at H
            have c18b0 : decide (x31_1 < ((l0.drop ((ji7) : Int).toNat).length : Int)) = false := decide_eq_false c18
            have c18b09 := c18b0
            try simp only [List.length_drop] at c18b09
            clear c18
            simp only [Option.some.injEq, Prod.mk.injEq] at H
            obtain ⟨rfl, rfl, rfl, rfl, rfl, rfl, rfl, rfl⟩ := H
            have hnb33 := NB170_165.out
            have hnc33 := NB165_170.out
            have hcz34_0 := zcf8 BK170.out
            have hcz35_0 := zcf8 BK165.out
            obtain ⟨Ao36, co36, eo36⟩ := Kd.R_slice HO_171003.out
            subst eo36
            go_wp2
            refine bodyPost_ret (results_cell_row rfl _ _ gb165 78 #[.int .u8 1, .int .u32 ((t166) % 4294967296), .int .u8 ((t169) % 256), .slice Ao36 x171003_1.length co36, .int .u8 0, .int .u8 0, .int .u8 0, .int .i64 0] (0, 0) _ rfl (zQ BK165.out) Tryd.underlying78 rfl qW8x1) rfl ?_
            exact ⟨_, by first | rfl | (simp [errW_none, errW_some] <;> rfl) | (simp only [← hji7]; first | rfl | (simp [errW_none, errW_some] <;> rfl)) | (simp [*, errW_none, errW_some] <;> rfl), by (with_reducible repeat (first | apply Kd.R_alloc | apply Kd.R_drewN | apply Kd.R_drew)); exact Kd.R_mono (Kd.R_far (p := ⟨gb165, 7, none⟩) (Kd.R_far (p := ⟨gb165, 6, none⟩) (Kd.R_far (p := ⟨gb165, 5, none⟩) (Kd.R_far (p := ⟨gb165, 4, none⟩) (Kd.R_far (p := ⟨gb165, 3, none⟩) (Kd.R_far (p := ⟨gb165, 2, none⟩) (Kd.R_far (p := ⟨gb165, 1, none⟩) (Kd.R_far (p := ⟨gb165, 0, none⟩) (Kd.R_types HO_171003.out BK165.out (by decide)) (fun _ hk => hk.2) (.int .u8 1)) (fun _ hk => hk.2) (.int .u32 ((t166) % 4294967296))) (fun _ hk => hk.2) (.int .u8 ((t169) % 256))) (fun _ hk => hk.2) (.slice Ao36 x171003_1.length co36)) (fun _ hk => hk.2) (.int .u8 0)) (fun _ hk => hk.2) (.int .u8 0)) (fun _ hk => hk.2) (.int .u8 0)) (fun _ hk => hk.2) (.int .i64 0)) (fun _ hk => trivial), zB⟩
          rw [if_pos c18] at H
          have c18b0 := decide_eq_true c18
          have c18b09 := c18b0
          try simp only [List.length_drop] at c18b09
          clear c18
          by_cases c19 : 0 ≤ x31_1
          rotate_left
          · rw [if_neg c19] at H
            exact absurd H (by simp)
          rw [if_pos c19] at H
          have c19b0 := decide_eq_true c19
          clear c19
          by_cases c20 : x31_1 < ((l0.drop ((ji7) : Int).toNat).length : Int)
          rotate_left
          · rw [if_neg c20] at H
            exact absurd H (by simp)
          rw [if_pos c20] at H
          have c20b0 := decide_eq_true c20
          have c20b09 := c20b0
          try simp only [List.length_drop] at c20b09
          clear c20
          obtain ⟨t173, A21, H⟩ := zO H
          try dsimp only at H
          obtain ⟨t176, A22, H⟩ := zO H
          try dsimp only at H
          obtain ⟨t177, A23, H⟩ := zO H
          try dsimp only at H
          by_cases c24 : x171003_1.length < 8796093022208
          rotate_left
          · rw [if_neg c24] at H
            exact absurd H (by simp)
          rw [if_pos c24] at H
          have LMc24 := Aside0.mk c24
          clear c24
          obtain ⟨y178, hy178⟩ : ∃ y_ : List (S109), y_ = (x171003_1 ++ [(⟨(t176) % 256, t177⟩ : S109)]) := ⟨_, rfl⟩
          replace H : (words_asked.l0 k1 (l0.drop ((ji7) : Int).toNat) ((l0.drop ((ji7) : Int).toNat).length : Int) (wrap64 (x31_1 + 1)) 1 ((t166) % 4294967296) ((t169) % 256) y178 0 0 0 0) = some (r1, r2, r3, r4, r5, r6, r7, r8) := by first | (rw [hy178]; with_reducible exact H) | (have H2_ := (Option.bind_some _ _).symm.trans H; rw [hy178]; with_reducible exact H2_) | (have H2_ := (Option.bind_some _ _).symm.trans H; with_reducible exact H2_) | with_reducible exact H | (rw [hy178]; exact H) | exact H
          have Ny178 := Aside0.mk hy178
          clear hy178
          have H' := Aside0.mk H
          clear H
          have p172 : 0 ≤ (x31_1 : Int) := of_decide_eq_true zas
          have q172 : x31_1 < ((l0.drop ((ji7) : Int).toNat).length : Int) := of_decide_eq_true zas
          obtain ⟨ad172, e172, hx172_0⟩ := Kd.at_string HR171.out x31_1 p172 q172
          cases e172
          replace hx172_0 := (HB.out.cell (World.block_lt_of_cell? w _ hx172_0)).trans hx172_0
          replace p172 := eq_true p172
          replace q172 := eq_true q172
          have q1729 := q172
          try simp only [List.length_drop] at q1729
          try go_wp2_with (first | ((with_reducible refine gate_callee (f := 29) rfl ?_); refine goesZ (some 36) Tryd.func29 (args := #[.string (rdOf ByteArray.empty (l0.drop ((ji7) : Int).toNat) x31_1), .string (⟨#[58]⟩ : ByteArray)]) (hargs := (by (try simp only [List.map_toArray, List.map_cons, List.map_nil]); first | done | (simp only [hji7]; rfl) | rfl | (simp only [List.length_drop, List.length_take]; rfl))) (h := ?_); (with_reducible refine (strings_Split.calls (rdOf ByteArray.empty (l0.drop ((ji7) : Int).toNat) x31_1) (⟨#[58]⟩ : ByteArray) t173 _ ?side1 A21.out).mono ?_); (case side1 => exact Gl.below hG.out zB); rintro e w25 ⟨v174, rfl, ho0, hb⟩; refine ⟨_, rfl, ?_⟩; replace HO_171003 := zP HO_171003 hb; have HO175 := Aside0.mk (Kd.R_lower ho0 (below_size zB)); replace BK165 := zJ BK165 hb; replace BK170 := zJ BK170 hb; replace HB := zH hb; clear hb ho0))
          replace HO_171003 := Aside0.mk (Kd.R_drew HO_171003.out)
          replace HO175 := Aside0.mk (Kd.R_drew HO175.out)
          replace BK165 := Aside0.mk (blk_drew BK165.out)
          replace BK170 := Aside0.mk (blk_drew BK170.out)
          replace HB := Aside0.mk (below_drew1 HB.out)
          obtain ⟨Ao27, co27, eo27⟩ := Kd.R_slice HO175.out
          (first | subst eo27 | (injection eo27 with f1_ f2_ f3_; have f4_ := f1_.symm; have f5_ := f3_.symm; clear f1_ f2_ f3_; subst f4_; subst f5_))
          refine start_ (n := 12) (S := fun w' => w'.cell? ⟨gb170, 0, none⟩ = some (.int .u8 1) ∧ w'.cell? ⟨gb170, 1, none⟩ = some (.int .u32 ((t166) % 4294967296)) ∧ w'.cell? ⟨gb170, 2, none⟩ = some (.int .u8 ((t169) % 256)) ∧ w'.cell? ⟨gb170, 3, none⟩ = some (u171003) ∧ w'.cell? ⟨gb170, 4, none⟩ = some (.int .u8 0) ∧ w'.cell? ⟨gb170, 5, none⟩ = some (.int .u8 0) ∧ w'.cell? ⟨gb170, 6, none⟩ = some (.int .u8 0) ∧ w'.cell? ⟨gb170, 7, none⟩ = some (.int .i64 0)) (ds := [11]) (bz 12 0) qW8x1 rfl qW8x1 ⟨(blk_cell BK170.out 0).trans rfl, (blk_cell BK170.out 1).trans rfl, (blk_cell BK170.out 2).trans rfl, (blk_cell BK170.out 3).trans rfl, (blk_cell BK170.out 4).trans rfl, (blk_cell BK170.out 5).trans rfl, (blk_cell BK170.out 6).trans rfl, (blk_cell BK170.out 7).trans rfl⟩ (fun hHeld => ?_); refine with_tabW words_asked.tab9 words_asked.bits9 (fun HT_ HW_ => ?_)
          generalize w25.drew = w26 at HO_171003 HO175 BK165 BK170 HB hHeld ⊢
          refine pureZ (some 37) (bz 12 1) (i := 0) (h := ?_); refine pureZ (some 39) (bz 12 5) (i := 2) (h := ?_); refine pureZ (some 42) (bz 12 37) (i := 5) (h := ?_); refine takeZ (some 38) (bz 12 39) (i := 1) (h := ?_)
          refine one_ (i := 3) (N := some 40) (bz 12 47) rfl rfl (one_of HT_.out qW8x1) (by decide) (fun K hK => ?_)
          refine goes_ Tryd.func68 qW8x1 rfl #[.slice Ao27 t173.length co27, .int .i64 0] (by rfl) rfl rfl zA ?_
          with_reducible refine (words_number.calls _ _ t173 0 t176 _ ?side1 ?side2 ?side3 A22.out).mono ?_
          (case side1 => exact Gl.below hG.out zB)
          (case side2 => exact zC ((Kd.R_reads' HO175.out).2.2))
          (case side3 => exact (Kd.R_reads' HO175.out).2.1)
          rintro e w28 ⟨rfl, hb⟩
          refine ⟨_, rfl, ?_⟩
          replace HO_171003 := zP HO_171003 hb
          replace HO175 := zP HO175 hb
          replace BK165 := zJ BK165 hb
          replace BK170 := zJ BK170 hb
          replace HB := zH hb
          refine hK.out _ _ ⟨(blk_cell BK170.out 0).trans rfl, (blk_cell BK170.out 1).trans rfl, (blk_cell BK170.out 2).trans rfl, (blk_cell BK170.out 3).trans rfl, (blk_cell BK170.out 4).trans rfl, (blk_cell BK170.out 5).trans rfl, (blk_cell BK170.out 6).trans rfl, (blk_cell BK170.out 7).trans rfl⟩ (fun hHeld => ?_)
          clear hK K
          refine norm_ (a' := ?_) ?_ ?_
          rotate_left
          · show Act.put _ (some 40) _ = _
            simp only [Act.put, List.setIfInBounds_toArray, List.set_cons_zero, List.set_cons_succ, i64_w, i32_w]
            rfl
          refine pureZ (some 41) (bz 12 63) (i := 4) (h := ?_)
          refine one_ (i := 6) (N := some 43) (bz 12 127) rfl rfl (one_of HT_.out qW8x1) (by decide) (fun K hK => ?_)
          refine goes_ Tryd.func68 qW8x1 rfl #[.slice Ao27 t173.length co27, .int .i64 1] (by rfl) rfl rfl zA ?_
          with_reducible refine (words_number.calls _ _ t173 1 t177 _ ?side1 ?side2 ?side3 A23.out).mono ?_
          (case side1 => exact Gl.below hG.out zB)
          (case side2 => exact zC ((Kd.R_reads' HO175.out).2.2))
          (case side3 => exact (Kd.R_reads' HO175.out).2.1)
          rintro e w29 ⟨rfl, hb⟩
          refine ⟨_, rfl, ?_⟩
          replace HO_171003 := zP HO_171003 hb
          replace HO175 := zP HO175 hb
          replace BK165 := zJ BK165 hb
          replace BK170 := zJ BK170 hb
          replace HB := zH hb
          refine hK.out _ _ ⟨(blk_cell BK170.out 0).trans rfl, (blk_cell BK170.out 1).trans rfl, (blk_cell BK170.out 2).trans rfl, (blk_cell BK170.out 3).trans rfl, (blk_cell BK170.out 4).trans rfl, (blk_cell BK170.out 5).trans rfl, (blk_cell BK170.out 6).trans rfl, (blk_cell BK170.out 7).trans rfl⟩ (fun hHeld => ?_)
          clear hK K
          refine norm_ (a' := ?_) ?_ ?_
          rotate_left
          · show Act.put _ (some 43) _ = _
            simp only [Act.put, List.setIfInBounds_toArray, List.set_cons_zero, List.set_cons_succ, i64_w, i32_w]
            rfl
          refine pureZ (some 44) (bz 12 255) (i := 7) (h := ?_)
          refine one_ (i := 8) (N := some 45) (bz 12 511) rfl rfl (one_of HT_.out qW8x1) (by decide) (fun K hK => ?_)
          refine value_ (w1 := ?_) (v := ?_) (by rfl) rfl ?_ ?_
          rotate_left 2
          · go_simp
            constructor
            · rfl
            · rfl
          refine hK.out _ _ ⟨(blk_cell (blk_alloc BK170.out _) 0).trans rfl, (blk_cell (blk_alloc BK170.out _) 1).trans rfl, (blk_cell (blk_alloc BK170.out _) 2).trans rfl, (blk_cell (blk_alloc BK170.out _) 3).trans rfl, (blk_cell (blk_alloc BK170.out _) 4).trans rfl, (blk_cell (blk_alloc BK170.out _) 5).trans rfl, (blk_cell (blk_alloc BK170.out _) 6).trans rfl, (blk_cell (blk_alloc BK170.out _) 7).trans rfl⟩ (fun hHeld => ?_)
          clear hK K
          refine norm_ (a' := ?_) ?_ ?_
          rotate_left
          · show Act.put _ (some 45) _ = _
            simp only [Act.put, List.setIfInBounds_toArray, List.set_cons_zero, List.set_cons_succ, i64_w, i32_w]
            rfl
          refine one_ (i := 9) (N := some 46) (bz 12 1023) rfl rfl (one_of HT_.out qW8x1) (by decide) (fun K hK => ?_)
          refine Kd.R_append_step k109 (w0 := w) w.heap.size (by rfl) (.tmp 38) (.tmp 45) 76 109 (.agg #[(.int .u8 0), (.int .i64 0)]) 16 rfl Tryd.underlying76 info109 rfl (by decide) (by omega) u171003 x171003_1 (⟨(t176) % 256, t177⟩ : S109) [.int .u8 ((t176) % 256), .int .i64 t177] (fun _ => True) (fun _ => False) rfl rfl ?aP (fun _ hk => hk.elim) ?aF ?aO ?aB ?aS ?aL ?_
          (case aP => exact k109_mkM _ _ _ (⟨(t176) % 256, t177⟩ : S109))
          (case aB => exact zB)
          (case aF => exact (fun _ _ => trivial))
          (case aO => exact (zR HO_171003.out))
          (case aS => exact (below_size zB))
          (case aL => have := LMc24.out; omega)
          intro v179 w30 ho hb hg hat
          rw [← Ny178.out] at ho
          replace BK165 := Aside0.mk (blk_grown (g := gb165) (o := .cells #[.int .u8 0, .int .u32 0, .int .u8 0, .slice none 0 0, .int .u8 0, .int .u8 0, .int .u8 0, .int .i64 0] 78 (0, 0)) (zK BK165.out) hg (Kd.R_ne HO_171003.out BK165.out (by decide)))
          replace BK170 := Aside0.mk (blk_grown (g := gb170) (o := .cells #[.int .u8 1, .int .u32 ((t166) % 4294967296), .int .u8 ((t169) % 256), u171003, .int .u8 0, .int .u8 0, .int .u8 0, .int .i64 0] 78 (0, 0)) (zK BK170.out) hg (Kd.R_ne HO_171003.out BK170.out (by decide)))
          replace HO175 := Aside0.mk (Kd.R_over' (zR HO175.out) (Kd.R_typed (zR HO_171003.out)) (by decide) hg)
          replace HB := Aside0.mk (hb)
          have HO180 := Aside0.mk (ho)
          clear HO_171003 ho hb hg hat
          obtain ⟨Ao31, co31, eo31⟩ := Kd.R_slice HO180.out
          (first | subst eo31 | (injection eo31 with f1_ f2_ f3_; have f4_ := f1_.symm; have f5_ := f3_.symm; clear f1_ f2_ f3_; subst f4_; subst f5_))
          refine hK.out _ _ ⟨(blk_cell BK170.out 0).trans rfl, (blk_cell BK170.out 1).trans rfl, (blk_cell BK170.out 2).trans rfl, (blk_cell BK170.out 3).trans rfl, (blk_cell BK170.out 4).trans rfl, (blk_cell BK170.out 5).trans rfl, (blk_cell BK170.out 6).trans rfl, (blk_cell BK170.out 7).trans rfl⟩ (fun hHeld => ?_)
          clear hK K
          refine norm_ (a' := ?_) ?_ ?_
          rotate_left
          · show Act.put _ (some 46) _ = _
            simp only [Act.put, List.setIfInBounds_toArray, List.set_cons_zero, List.set_cons_succ, i64_w, i32_w]
            rfl
          refine pureZ (some 47) (bz 12 2047) (i := 10) (h := ?_)
          refine last_ (i := 11) (N := none) (bz 12 4095) rfl rfl (one_of HT_.out qW8x1) (by decide) (fun K hK => ?_)
          have hs32 : w30.cell? ⟨gb170, 3, none⟩ = some (u171003) := (blk_cell BK170.out 3).trans rfl
          have hfs32 := blk_frozen BK170.out 3
          have hns32_0 := NB165_170.out
          have hms32_0 := NB170_165.out
          refine skip_ (w1 := ?_) (by rfl) rfl ?_ ?_
          rotate_left
          · go_simp
            rfl
          refine hK.out _ _ ?_
          clear hK K
          refine done_ (done_of HT_.out qW8x1) ?_
          try go_wp2
          go_roundg k1
          case measure => have := HK1.out; omega
          case rel => exact ⟨(wrap64 (x31_1 + 1)), (y178), (.slice Ao31 y178.length co31), (by first | rfl | (simp; done) | (simp [*]; done)), H', ⟨by have := HK1.out; omega⟩, ⟨by (with_reducible repeat (first | apply Kd.R_alloc | apply Kd.R_drewN | apply Kd.R_drew)); exact Kd.R_mono (Kd.R_far (p := ⟨gb170, 3, none⟩) (Kd.R_types HO180.out BK170.out (by decide)) (fun _ hk => hk.2) (.slice Ao31 y178.length co31)) (fun _ hk => trivial)⟩, ⟨by (with_reducible repeat (first | refine blk_drewN ?_ _ | refine blk_drew ?_ | refine blk_alloc ?_ _)); refine blk_far ?_ NB165_170.out _; (with_reducible repeat (first | refine blk_drewN ?_ _ | refine blk_drew ?_ | refine blk_alloc ?_ _)); exact BK165.out⟩, ⟨by (with_reducible repeat (first | refine blk_drewN ?_ _ | refine blk_drew ?_ | refine blk_alloc ?_ _)); refine blk_put (cs := #[.int .u8 1, .int .u32 ((t166) % 4294967296), .int .u8 ((t169) % 256), u171003, .int .u8 0, .int .u8 0, .int .u8 0, .int .i64 0]) ?_ 3 _ rfl; (with_reducible repeat (first | refine blk_drewN ?_ _ | refine blk_drew ?_ | refine blk_alloc ?_ _)); exact BK170.out⟩, ⟨zB⟩⟩
    rw [if_neg c5] at H
    obtain ⟨c5b0, c5b1⟩ := zne c5
    by_cases c37 : (rdOf ByteArray.empty l0 0).toList = ([99, 97, 110, 99, 101, 108] : List UInt8)
    focus
      rw [if_pos c37] at H
      obtain ⟨c37b0, c37b1⟩ := zeq c37
      clear c37
      simp only [Option.some.injEq, Prod.mk.injEq] at H
      obtain ⟨rfl, rfl, rfl, rfl, rfl, rfl, rfl, rfl⟩ := H
    rotate_left
    rw [if_neg c37] at H
    obtain ⟨c37b0, c37b1⟩ := zne c37
    by_cases c42 : (rdOf ByteArray.empty l0 0).toList = ([115, 104, 105, 112] : List UInt8)
    focus
      rw [if_pos c42] at H
      obtain ⟨c42b0, c42b1⟩ := zeq c42
      clear c42
      simp only [Option.some.injEq, Prod.mk.injEq] at H
      obtain ⟨rfl, rfl, rfl, rfl, rfl, rfl, rfl, rfl⟩ := H
    rotate_left
    rw [if_neg c42] at H
    obtain ⟨c42b0, c42b1⟩ := zne c42
    by_cases c47 : (rdOf ByteArray.empty l0 0).toList = ([114, 101, 116, 117, 114, 110] : List UInt8)
    focus
      rw [if_pos c47] at H
      obtain ⟨c47b0, c47b1⟩ := zeq c47
      clear c47
      simp only [Option.some.injEq, Prod.mk.injEq] at H
      obtain ⟨rfl, rfl, rfl, rfl, rfl, rfl, rfl, rfl⟩ := H
    rotate_left
    rw [if_neg c47] at H
    obtain ⟨c47b0, c47b1⟩ := zne c47
    by_cases c52 : (rdOf ByteArray.empty l0 0).toList = ([114, 101, 115, 116, 111, 99, 107] : List UInt8)
    focus
      rw [if_pos c52] at H
      obtain ⟨c52b0, c52b1⟩ := zeq c52
      clear c52
      obtain ⟨t181, A53, H⟩ := zO H
      try dsimp only at H
      obtain ⟨t182, A54, H⟩ := zO H
      try dsimp only at H
      simp only [Option.some.injEq, Prod.mk.injEq] at H
      obtain ⟨rfl, rfl, rfl, rfl, rfl, rfl, rfl, rfl⟩ := H
    rotate_left
    rw [if_neg c52] at H
    obtain ⟨c52b0, c52b1⟩ := zne c52
    by_cases c61 : (rdOf ByteArray.empty l0 0).toList = ([116, 114, 97, 110, 115, 102, 101, 114] : List UInt8)
    focus
      rw [if_pos c61] at H
      obtain ⟨c61b0, c61b1⟩ := zeq c61
      clear c61
      obtain ⟨t183, A62, H⟩ := zO H
      try dsimp only at H
      obtain ⟨t184, A63, H⟩ := zO H
      try dsimp only at H
      obtain ⟨t185, A64, H⟩ := zO H
      try dsimp only at H
      simp only [Option.some.injEq, Prod.mk.injEq] at H
      obtain ⟨rfl, rfl, rfl, rfl, rfl, rfl, rfl, rfl⟩ := H
    rotate_left
    rw [if_neg c61] at H
    obtain ⟨c61b0, c61b1⟩ := zne c61
    by_cases c72 : (rdOf ByteArray.empty l0 0).toList = ([113, 117, 101, 114, 121] : List UInt8)
    focus
      rw [if_pos c72] at H
      obtain ⟨c72b0, c72b1⟩ := zeq c72
      clear c72
      simp only [Option.some.injEq, Prod.mk.injEq] at H
      obtain ⟨rfl, rfl, rfl, rfl, rfl, rfl, rfl, rfl⟩ := H
    rotate_left
    rw [if_neg c72] at H
    obtain ⟨c72b0, c72b1⟩ := zne c72
    simp only [Option.some.injEq, Prod.mk.injEq] at H
    obtain ⟨rfl, rfl, rfl, rfl, rfl, rfl, rfl, rfl⟩ := H
  rotate_left 7
  · rw [if_neg c4] at H
    exact absurd H (by simp)
  all_goals go_enter Tryd.func72, Tryd.ntmps72
  all_goals go_wp2_with (first | ((with_reducible refine gate_dst (N := 2) rfl ?_); refine zbox (N := 2) (cs := #[.int .u8 0, .int .u32 0, .int .u8 0, .slice none 0 0, .int .u8 0, .int .u8 0, .int .u8 0, .int .i64 0]) (t := 78) (h := ?_); intro gb165 hg wx1 hbox hb; have BK165 := Aside0.mk (hbox); have GW165 := zG (p := w.heap.size ≤ gb165); have GE165 := GW165; replace HB := zH hb; clear hb hbox hg) | ((with_reducible refine gate_callee (f := 68) rfl ?_); refine goesZ (some 13) Tryd.func68 (args := #[.slice A0 l0.length c0, .int .i64 1]) (h := ?_); (with_reducible refine (words_number.calls _ _ l0 1 t167 _ ?side1 ?side2 ?side3 A3.out).mono ?_); (case side1 => exact Gl.below hG.out zB); (case side2 => exact zC (Kd.C_below HR0.out HB.out)); (case side3 => exact HC0.out); rintro e wx3 ⟨rfl, hb⟩; refine ⟨_, rfl, ?_⟩; replace BK165 := zJ BK165 hb; replace HB := zH hb; clear hb; have p168 : 0 ≤ (0 : Int) := (by omega); have q168 : 0 < (l0.length : Int) := of_decide_eq_true zas; obtain ⟨ad168, e168, hx168_0⟩ := Kd.at_string HR0.out 0 p168 q168; cases e168; have qi168 : (0 < l0.length) = True := eq_true (by omega); (try rw [show ((0 : Int)).toNat = 0 from rfl] at hx168_0); (try rw [Addr.add_zero'] at hx168_0); replace hx168_0 := (HB.out.cell (World.block_lt_of_cell? w _ hx168_0)).trans hx168_0; replace p168 := eq_true p168; replace q168 := eq_true q168; have hczx1 := zcf8 BK165.out) | ((with_reducible refine gate_callee (f := 68) rfl ?_); refine goesZ (some 13) Tryd.func68 (args := #[.slice A0 l0.length c0, .int .i64 1]) (h := ?_); (with_reducible refine (words_number.calls _ _ l0 1 t167 _ ?side1 ?side2 ?side3 A3.out).mono ?_); (case side1 => exact Gl.below hG.out zB); (case side2 => exact zC (Kd.C_below HR0.out HB.out)); (case side3 => exact HC0.out); rintro e wx3 ⟨rfl, hb⟩; refine ⟨_, rfl, ?_⟩; replace BK165 := zJ BK165 hb; replace HB := zH hb; clear hb; have p168 : 0 ≤ (0 : Int) := (by omega); have q168 : 0 < (l0.length : Int) := of_decide_eq_true zas; obtain ⟨ad168, e168, hx168_0⟩ := Kd.at_string HR0.out 0 p168 q168; cases e168; have qi168 : (0 < l0.length) = True := eq_true (by omega); (try rw [show ((0 : Int)).toNat = 0 from rfl] at hx168_0); (try rw [Addr.add_zero'] at hx168_0); replace hx168_0 := (HB.out.cell (World.block_lt_of_cell? w _ hx168_0)).trans hx168_0; replace p168 := eq_true p168; replace q168 := eq_true q168) | ((with_reducible refine gate_callee (f := 68) rfl ?_); refine goesZ (some 69) Tryd.func68 (args := #[.slice (some ad168) l0.length c0, .int .i64 3]) (h := ?_); (with_reducible refine (words_number.calls _ _ l0 3 t182 _ ?side1 ?side2 ?side3 A54.out).mono ?_); (case side1 => exact Gl.below hG.out zB); (case side2 => exact zC (Kd.C_below HR0.out HB.out)); (case side3 => exact HC0.out); rintro e wx5 ⟨rfl, hb⟩; refine ⟨_, rfl, ?_⟩; replace BK165 := zJ BK165 hb; replace HB := zH hb; clear hb; have hczx1 := zcf8 BK165.out) | ((with_reducible refine gate_callee (f := 68) rfl ?_); refine goesZ (some 81) Tryd.func68 (args := #[.slice (some ad168) l0.length c0, .int .i64 4]) (h := ?_); (with_reducible refine (words_number.calls _ _ l0 4 t185 _ ?side1 ?side2 ?side3 A64.out).mono ?_); (case side1 => exact Gl.below hG.out zB); (case side2 => exact zC (Kd.C_below HR0.out HB.out)); (case side3 => exact HC0.out); rintro e wx6 ⟨rfl, hb⟩; refine ⟨_, rfl, ?_⟩; replace BK165 := zJ BK165 hb; replace HB := zH hb; clear hb; have hczx1 := zcf8 BK165.out) | ((with_reducible refine gate_callee (f := 68) rfl ?_); refine goesZ (some 66) Tryd.func68 (args := #[.slice (some ad168) l0.length c0, .int .i64 2]) (h := ?_); (with_reducible refine (words_number.calls _ _ l0 2 t181 _ ?side1 ?side2 ?side3 A53.out).mono ?_); (case side1 => exact Gl.below hG.out zB); (case side2 => exact zC (Kd.C_below HR0.out HB.out)); (case side3 => exact HC0.out); rintro e wx4 ⟨rfl, hb⟩; refine ⟨_, rfl, ?_⟩; replace BK165 := zJ BK165 hb; replace HB := zH hb; clear hb) | ((with_reducible refine gate_callee (f := 68) rfl ?_); refine goesZ (some 75) Tryd.func68 (args := #[.slice (some ad168) l0.length c0, .int .i64 2]) (h := ?_); (with_reducible refine (words_number.calls _ _ l0 2 t183 _ ?side1 ?side2 ?side3 A62.out).mono ?_); (case side1 => exact Gl.below hG.out zB); (case side2 => exact zC (Kd.C_below HR0.out HB.out)); (case side3 => exact HC0.out); rintro e wx4 ⟨rfl, hb⟩; refine ⟨_, rfl, ?_⟩; replace BK165 := zJ BK165 hb; replace HB := zH hb; clear hb) | ((with_reducible refine gate_callee (f := 68) rfl ?_); refine goesZ (some 78) Tryd.func68 (args := #[.slice (some ad168) l0.length c0, .int .i64 3]) (h := ?_); (with_reducible refine (words_number.calls _ _ l0 3 t184 _ ?side1 ?side2 ?side3 A63.out).mono ?_); (case side1 => exact Gl.below hG.out zB); (case side2 => exact zC (Kd.C_below HR0.out HB.out)); (case side3 => exact HC0.out); rintro e wx5 ⟨rfl, hb⟩; refine ⟨_, rfl, ?_⟩; replace BK165 := zJ BK165 hb; replace HB := zH hb; clear hb) | ((with_reducible refine gate_callee (f := 68) rfl ?_); refine goesZ (some 10) Tryd.func68 (args := #[.slice A0 l0.length c0, .int .i64 1]) (h := ?_); (with_reducible refine (words_number.calls _ _ l0 1 t166 _ ?side1 ?side2 ?side3 A2.out).mono ?_); (case side1 => exact Gl.below hG.out zB); (case side2 => exact zC (Kd.C_below HR0.out HB.out)); (case side3 => exact HC0.out); rintro e wx2 ⟨rfl, hb⟩; refine ⟨_, rfl, ?_⟩; replace BK165 := zJ BK165 hb; replace HB := zH hb; clear hb))
  all_goals first | (refine bodyPost_ret (results_cell_row rfl _ _ gb165 78 #[.int .u8 6, .int .u32 0, .int .u8 0, .slice none 0 0, .int .u8 ((t167) % 256), .int .u8 ((t183) % 256), .int .u8 ((t184) % 256), .int .i64 t185] (0, 0) _ rfl (zQ BK165.out) Tryd.underlying78 rfl qW8x1) rfl ?_; exact ⟨_, zer, znil, zB⟩) | (refine bodyPost_ret (results_cell_row rfl _ _ gb165 78 #[.int .u8 5, .int .u32 0, .int .u8 0, .slice none 0 0, .int .u8 ((t167) % 256), .int .u8 0, .int .u8 ((t181) % 256), .int .i64 t182] (0, 0) _ rfl (zQ BK165.out) Tryd.underlying78 rfl qW8x1) rfl ?_; exact ⟨_, zer, znil, zB⟩) | (refine bodyPost_ret (results_cell_row rfl _ _ gb165 78 #[.int .u8 2, .int .u32 ((t166) % 4294967296), .int .u8 0, .slice none 0 0, .int .u8 0, .int .u8 0, .int .u8 0, .int .i64 0] (0, 0) _ rfl (zQ BK165.out) Tryd.underlying78 rfl qW8x1) rfl ?_; exact ⟨_, zer, znil, zB⟩) | (refine bodyPost_ret (results_cell_row rfl _ _ gb165 78 #[.int .u8 3, .int .u32 ((t166) % 4294967296), .int .u8 0, .slice none 0 0, .int .u8 0, .int .u8 0, .int .u8 0, .int .i64 0] (0, 0) _ rfl (zQ BK165.out) Tryd.underlying78 rfl qW8x1) rfl ?_; exact ⟨_, zer, znil, zB⟩) | (refine bodyPost_ret (results_cell_row rfl _ _ gb165 78 #[.int .u8 4, .int .u32 ((t166) % 4294967296), .int .u8 0, .slice none 0 0, .int .u8 0, .int .u8 0, .int .u8 0, .int .i64 0] (0, 0) _ rfl (zQ BK165.out) Tryd.underlying78 rfl qW8x1) rfl ?_; exact ⟨_, zer, znil, zB⟩) | (refine bodyPost_ret (results_cell_row rfl _ _ gb165 78 #[.int .u8 7, .int .u32 0, .int .u8 0, .slice none 0 0, .int .u8 ((t167) % 256), .int .u8 0, .int .u8 0, .int .i64 0] (0, 0) _ rfl (zQ BK165.out) Tryd.underlying78 rfl qW8x1) rfl ?_; exact ⟨_, zer, znil, zB⟩) | (refine bodyPost_ret (results_cell_row rfl _ _ gb165 78 #[.int .u8 0, .int .u32 0, .int .u8 0, .slice none 0 0, .int .u8 0, .int .u8 0, .int .u8 0, .int .i64 0] (0, 0) _ rfl (zQ BK165.out) Tryd.underlying78 rfl qW8x1) rfl ?_; exact ⟨_, zer, znil, zB⟩)
end Go.Proofs.YtpnehgajhpejjaaDoor.W
