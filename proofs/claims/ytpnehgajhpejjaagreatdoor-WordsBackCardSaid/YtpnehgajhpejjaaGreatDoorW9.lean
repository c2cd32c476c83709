import Derived.Test.YtpnehgajhpejjaaGreatDoorSq
import Derived.Test.YtpnehgajhpejjaaGreatDoorW0
import Derived.Test.YtpnehgajhpejjaaGreatDoorW6
import Derived.Test.YtpnehgajhpejjaaGreatDoorW8
namespace Go.Proofs.YtpnehgajhpejjaaGreatDoor.W
open Go.RowKit Go.Proofs.YtpnehgajhpejjaaGreatDoorW.PrintWords Go.Proofs.YtpnehgajhpejjaaGreatDoorW.PrintLast Go.Proofs.YtpnehgajhpejjaaGreatDoorW.PrintMore
attribute [local go_sem] max2_int min2_int max_two min_two max_three min_three max_four min_four
set_option linter.unusedVariables false
set_option linter.unusedSimpArgs false
theorem qW9x1 {p : Prop} (h : p := by kernel_rfl) : p := h
/-! ### words_asked: function 39 -/
def words_asked.l0 : Nat → List ByteArray → Int → Int → Int → Int → Int → List (S90) → Int → Int → Int → Int → Option (Int × Int × Int × (List (S90)) × Int × Int × Int × Int)
  | 0, _, _, _, _, _, _, _, _, _, _, _ => none
  | k + 1, x29, x30, x31, x172000, x172001, x172002, x172003, x172004, x172005, x172006, x172007 => if x31 < x30 then (if 0 ≤ x31 then (if x31 < (x29.length : Int) then ((strings_Split.f (rdOf ByteArray.empty x29 x31) (⟨#[58]⟩ : ByteArray)).bind fun t174 => ((words_number.f t174 0).bind fun t177 => ((words_number.f t174 1).bind fun t178 => (if x172003.length < 8796093022208 then (words_asked.l0 k x29 x30 (wrap64 (x31 + 1)) x172000 x172001 x172002 (x172003 ++ [(⟨(t177) % 256, t178⟩ : S90)]) x172004 x172005 x172006 x172007) else (none))))) else (none)) else (none)) else (some (x172000, x172001, x172002, x172003, x172004, x172005, x172006, x172007))
def words_asked.f (k : Nat) (l0 : List ByteArray) : Option (Int × Int × Int × (List (S90)) × Int × Int × Int × Int) := (words_number.f l0 1).bind fun t167 => ((words_number.f l0 1).bind fun t168 => (if 0 < (l0.length : Int) then (if (rdOf ByteArray.empty l0 0).toList = ([112, 108, 97, 99, 101] : List UInt8) then ((words_number.f l0 2).bind fun t170 => (if 0 ≤ (mn 3 (l0.length : Int)) then (if (mn 3 (l0.length : Int)) ≤ (l0.length : Int) then (words_asked.l0 k (l0.drop ((mn 3 (l0.length : Int)) : Int).toNat) ((l0.drop ((mn 3 (l0.length : Int)) : Int).toNat).length : Int) 0 1 ((t167) % 4294967296) ((t170) % 256) ([] : List (S90)) 0 0 0 0) else (none)) else (none))) else (if (rdOf ByteArray.empty l0 0).toList = ([99, 97, 110, 99, 101, 108] : List UInt8) then (some (2, (t167) % 4294967296, 0, ([] : List (S90)), 0, 0, 0, 0)) else (if (rdOf ByteArray.empty l0 0).toList = ([115, 104, 105, 112] : List UInt8) then (some (3, (t167) % 4294967296, 0, ([] : List (S90)), 0, 0, 0, 0)) else (if (rdOf ByteArray.empty l0 0).toList = ([114, 101, 116, 117, 114, 110] : List UInt8) then (some (4, (t167) % 4294967296, 0, ([] : List (S90)), 0, 0, 0, 0)) else (if (rdOf ByteArray.empty l0 0).toList = ([114, 101, 115, 116, 111, 99, 107] : List UInt8) then ((words_number.f l0 2).bind fun t182 => ((words_number.f l0 3).bind fun t183 => (some (5, 0, 0, ([] : List (S90)), (t168) % 256, 0, (t182) % 256, t183)))) else (if (rdOf ByteArray.empty l0 0).toList = ([116, 114, 97, 110, 115, 102, 101, 114] : List UInt8) then ((words_number.f l0 2).bind fun t184 => ((words_number.f l0 3).bind fun t185 => ((words_number.f l0 4).bind fun t186 => (some (6, 0, 0, ([] : List (S90)), (t168) % 256, (t184) % 256, (t185) % 256, t186))))) else (if (rdOf ByteArray.empty l0 0).toList = ([113, 117, 101, 114, 121] : List UInt8) then (some (7, 0, 0, ([] : List (S90)), (t168) % 256, 0, 0, 0)) else (some (0, 0, 0, ([] : List (S90)), 0, 0, 0, 0))))))))) else (none)))
def words_asked.T9 : Bool × List (List Nat × List Nat) := (true, [([], []), ([0], [0]), ([], []), ([2], [2]), ([3], [3]), ([], []), ([5, 3], [5]), ([4, 6], [4, 6]), ([7], [7]), ([1, 8, 6], [1, 8]), ([0, 1, 2, 3, 4, 5, 6, 7, 8, 9], []), ([10, 9, 9, 0, 1, 2, 3, 4, 5, 6, 7, 8, 9], [9, 10])])
def words_asked.B9 : List Nat := [0, 1, 0, 4, 12, 0, 44, 124, 252, 511, 1023, 2047]
theorem words_asked.tab9 : rtab .any (opsOf Tryz.f39 9) = words_asked.T9 := by kernel_rfl
theorem words_asked.bits9 : waitsOk words_asked.T9.2 words_asked.B9 = true := by kernel_rfl
set_option maxHeartbeats 8000000 in
set_option maxRecDepth 100000 in
theorem words_asked.calls (k : Nat) (A0 : Option Addr) (c0 : Nat) (l0 : List ByteArray) (r1 : Int) (r2 : Int) (r3 : Int) (r4 : List (S90)) (r5 : Int) (r6 : Int) (r7 : Int) (r8 : Int) (w : World) (hG0 : Gl w) (hr0 : Kd.C Kd.string w A0 l0.length l0) (hc0 : l0.length ≤ c0) (h : words_asked.f k l0 = some (r1, r2, r3, r4, r5, r6, r7, r8)) :
    Calls Tryz.prog 39 #[.slice A0 l0.length c0] w fun e w' => ∃ v3_ : Value, e = .returned (.agg #[.int .u8 r1, .int .u32 r2, .int .u8 r3, v3_, .int .u8 r5, .int .u8 r6, .int .u8 r7, .int .i64 r8]) ∧ Kd.R k90 90 w' w.heap.size (fun _ => True) v3_ r4 ∧ Below w.heap.size w w' := by
  have hu51 := Tryz.underlying51
  have hu90 := Tryz.underlying90
  have hG := Aside0.mk hG0
  clear hG0
  have HR0 := Aside0.mk hr0
  have HC0 := Aside0.mk hc0
  clear hr0 hc0
  have HB := Aside0.mk (Below.refl w.heap.size w)
  have H : ((words_number.f l0 1).bind fun t167 => ((words_number.f l0 1).bind fun t168 => (if 0 < (l0.length : Int) then (if (rdOf ByteArray.empty l0 0).toList = ([112, 108, 97, 99, 101] : List UInt8) then ((words_number.f l0 2).bind fun t170 => (if 0 ≤ (mn 3 (l0.length : Int)) then (if (mn 3 (l0.length : Int)) ≤ (l0.length : Int) then (words_asked.l0 k (l0.drop ((mn 3 (l0.length : Int)) : Int).toNat) ((l0.drop ((mn 3 (l0.length : Int)) : Int).toNat).length : Int) 0 1 ((t167) % 4294967296) ((t170) % 256) ([] : List (S90)) 0 0 0 0) else (none)) else (none))) else (if (rdOf ByteArray.empty l0 0).toList = ([99, 97, 110, 99, 101, 108] : List UInt8) then (some (2, (t167) % 4294967296, 0, ([] : List (S90)), 0, 0, 0, 0)) else (if (rdOf ByteArray.empty l0 0).toList = ([115, 104, 105, 112] : List UInt8) then (some (3, (t167) % 4294967296, 0, ([] : List (S90)), 0, 0, 0, 0)) else (if (rdOf ByteArray.empty l0 0).toList = ([114, 101, 116, 117, 114, 110] : List UInt8) then (some (4, (t167) % 4294967296, 0, ([] : List (S90)), 0, 0, 0, 0)) else (if (rdOf ByteArray.empty l0 0).toList = ([114, 101, 115, 116, 111, 99, 107] : List UInt8) then ((words_number.f l0 2).bind fun t182 => ((words_number.f l0 3).bind fun t183 => (some (5, 0, 0, ([] : List (S90)), (t168) % 256, 0, (t182) % 256, t183)))) else (if (rdOf ByteArray.empty l0 0).toList = ([116, 114, 97, 110, 115, 102, 101, 114] : List UInt8) then ((words_number.f l0 2).bind fun t184 => ((words_number.f l0 3).bind fun t185 => ((words_number.f l0 4).bind fun t186 => (some (6, 0, 0, ([] : List (S90)), (t168) % 256, (t184) % 256, (t185) % 256, t186))))) else (if (rdOf ByteArray.empty l0 0).toList = ([113, 117, 101, 114, 121] : List UInt8) then (some (7, 0, 0, ([] : List (S90)), (t168) % 256, 0, 0, 0)) else (some (0, 0, 0, ([] : List (S90)), 0, 0, 0, 0))))))))) else (none)))) = some (r1, r2, r3, r4, r5, r6, r7, r8) := h
  clear h
  obtain ⟨t167, A2, H⟩ := zO H
  try dsimp only at H
  obtain ⟨t168, A3, H⟩ := zO H
  try dsimp only at H
  by_cases c4 : 0 < (l0.length : Int)
  focus
    rw [if_pos c4] at H
    have c4b0 := decide_eq_true c4
    have c4b1 : decide (0 < l0.length) = true := decide_eq_true (by omega)
    clear c4
    by_cases c5 : (rdOf ByteArray.empty l0 0).toList = ([112, 108, 97, 99, 101] : List UInt8)
    · rw [if_pos c5] at H
      obtain ⟨c5b0, c5b1⟩ := zeq c5
      clear c5
      obtain ⟨t170, A6, H⟩ := zO H
      try dsimp only at H
      obtain ⟨ji7, hji7⟩ : ∃ j_ : Int, (mn 3 (l0.length : Int)) = j_ := ⟨_, rfl⟩
      replace H : (if 0 ≤ (ji7) then (if (ji7) ≤ (l0.length : Int) then (words_asked.l0 k (l0.drop ((ji7) : Int).toNat) ((l0.drop ((ji7) : Int).toNat).length : Int) 0 1 ((t167) % 4294967296) ((t170) % 256) ([] : List (S90)) 0 0 0 0) else (none)) else (none)) = some (r1, r2, r3, r4, r5, r6, r7, r8) := by first | (rw [hji7] at H; exact H) | (simp only [hji7] at H ⊢; exact H)
      (try rw [hji7] at A2)
      (try rw [hji7] at A3)
      (try rw [hji7] at A6)
      (try (have hji7h : ji7 ≤ 3 := by (rw [← hji7]; unfold mn; (repeat' split) <;> omega)))
      (try (have hji7g : ji7 ≤ 64 := by omega))
      (try (have hji7l : 0 ≤ ji7 := by (rw [← hji7]; unfold mn; (repeat' split) <;> omega)))
      (try (have hji7m : 0 ≤ ji7 := by omega))
      have hji7_ : (if (l0.length : Int) < 3 then (l0.length : Int) else 3) = ji7 := hji7
      by_cases c8 : 0 ≤ (ji7)
      rotate_left
      · rw [if_neg c8] at H
        exact absurd H (by simp)
      rw [if_pos c8] at H
      have c8b0 := eq_true c8
      have c8b1 := decide_eq_true c8
      clear c8
      by_cases c9 : (ji7) ≤ (l0.length : Int)
      rotate_left
      · rw [if_neg c9] at H
        exact absurd H (by simp)
      rw [if_pos c9] at H
      have c9b0 := eq_true c9
      have c9b1 := decide_eq_true c9
      clear c9
      have H' := Aside0.mk H
      clear H
      go_enter Tryz.func39, Tryz.ntmps39
      go_wp2_with (first | ((with_reducible refine gate_dst (N := 2) rfl ?_); refine zbox (N := 2) (cs := #[.int .u8 0, .int .u32 0, .int .u8 0, .slice none 0 0, .int .u8 0, .int .u8 0, .int .u8 0, .int .i64 0]) (t := 51) (h := ?_); intro gb166 hg w10 hbox hb; have BK166 := Aside0.mk (hbox); have GW166 := zG (p := w.heap.size ≤ gb166); have GE166 := GW166; replace HB := zH hb; clear hb hbox hg) | ((with_reducible refine gate_callee (f := 35) rfl ?_); refine goesZ (some 10) Tryz.func35 (args := #[.slice A0 l0.length c0, .int .i64 1]) (h := ?_); (with_reducible refine (words_number.calls _ _ l0 1 t167 _ ?side1 ?side2 ?side3 A2.out).mono ?_); (case side1 => exact Gl.below hG.out zB); (case side2 => exact zC (Kd.C_below HR0.out HB.out)); (case side3 => exact HC0.out); rintro e w11 ⟨rfl, hb⟩; refine ⟨_, rfl, ?_⟩; replace BK166 := zJ BK166 hb; replace HB := zH hb; clear hb) | ((with_reducible refine gate_callee (f := 35) rfl ?_); refine goesZ (some 13) Tryz.func35 (args := #[.slice A0 l0.length c0, .int .i64 1]) (h := ?_); (with_reducible refine (words_number.calls _ _ l0 1 t168 _ ?side1 ?side2 ?side3 A3.out).mono ?_); (case side1 => exact Gl.below hG.out zB); (case side2 => exact zC (Kd.C_below HR0.out HB.out)); (case side3 => exact HC0.out); rintro e w12 ⟨rfl, hb⟩; refine ⟨_, rfl, ?_⟩; replace BK166 := zJ BK166 hb; replace HB := zH hb; clear hb; have p169 : 0 ≤ (0 : Int) := (by omega); have q169 : 0 < (l0.length : Int) := of_decide_eq_true zas; obtain ⟨ad169, e169, hx169_0⟩ := Kd.at_string HR0.out 0 p169 q169; cases e169; have qi169 : (0 < l0.length) = True := eq_true (by omega); (try rw [show ((0 : Int)).toNat = 0 from rfl] at hx169_0); (try rw [Addr.add_zero'] at hx169_0); replace hx169_0 := (HB.out.cell (World.block_lt_of_cell? w _ hx169_0)).trans hx169_0; replace p169 := eq_true p169; replace q169 := eq_true q169) | ((with_reducible refine gate_callee (f := 35) rfl ?_); refine goesZ (some 22) Tryz.func35 (args := #[.slice (some ad169) l0.length c0, .int .i64 2]) (h := ?_); (with_reducible refine (words_number.calls _ _ l0 2 t170 _ ?side1 ?side2 ?side3 A6.out).mono ?_); (case side1 => exact Gl.below hG.out zB); (case side2 => exact zC (Kd.C_below HR0.out HB.out)); (case side3 => exact HC0.out); rintro e w13 ⟨rfl, hb⟩; refine ⟨_, rfl, ?_⟩; replace BK166 := zJ BK166 hb; replace HB := zH hb; clear hb) | ((with_reducible refine gate_dst (N := 5) rfl ?_); refine zbox (N := 5) (cs := #[.int .u8 0, .int .u32 0, .int .u8 0, .slice none 0 0, .int .u8 0, .int .u8 0, .int .u8 0, .int .i64 0]) (t := 51) (h := ?_); intro gb171 hg w14 hbox hb; have BK171 := Aside0.mk (hbox); have GW171 := zG (p := w.heap.size ≤ gb171); have GE171 := GW171; have NB166_171 := zNlt BK166.out (p := gb166 ≠ gb171); have NB171_166 := zNgt BK166.out (p := gb171 ≠ gb166); replace BK166 := zJ BK166 hb; replace HB := zH hb; clear hb hbox hg; have hnb15 := NB171_166.out; have hnc15 := NB166_171.out; have hcz16_0 := zcf8 BK171.out; obtain ⟨i017, hi017, _, hsz17, _⟩ := info_parts info9; obtain ⟨A17, hcut17, hA17, hC17⟩ := print_drop_of (P := Tryz.prog) Value.string (⟨#[]⟩ : ByteArray) 46 9 .i64 Tryz.underlying46 hi017 hsz17 (some ad169) c0 l0 (ji7) (of_decide_eq_true zas) (of_decide_eq_true zas) HC0.out; have HR172 := Aside0.mk (Kd.C_of_reads (h1 := fun _ => rfl) (hA17 _ (Kd.reads_of_C HR0.out))); have HC172 := Aside0.mk hC17; clear hA17 hC17 hi017 hsz17))
      go_loopg [31] k (fun kq v31 w' => ∃ (x31_1 : Int) (x172003_1 : List (S90)) (u172003 : Value), v31 = .int .i64 x31_1 ∧ Aside0 (words_asked.l0 kq (l0.drop ((ji7) : Int).toNat) ((l0.drop ((ji7) : Int).toNat).length : Int) x31_1 1 ((t167) % 4294967296) ((t170) % 256) x172003_1 0 0 0 0 = some (r1, r2, r3, r4, r5, r6, r7, r8)) ∧ Aside0 (kq ≤ k) ∧ Aside0 (Kd.R k90 90 w' w.heap.size (fun _ => True) u172003 x172003_1) ∧ Aside0 (w'.heap[gb166]? = some (.cells #[.int .u8 0, .int .u32 0, .int .u8 0, (.slice none 0 0), .int .u8 0, .int .u8 0, .int .u8 0, .int .i64 0] 51 (0, 0))) ∧ Aside0 (w'.heap[gb171]? = some (.cells #[.int .u8 1, .int .u32 ((t167) % 4294967296), .int .u8 ((t170) % 256), u172003, .int .u8 0, .int .u8 0, .int .u8 0, .int .i64 0] 51 (0, 0))) ∧ Aside0 (Below w.heap.size w w'))
      case atStart => exact ⟨(0), (([] : List (S90))), (.slice none 0 0), (by first | rfl | (simp; done) | (simp [*]; done)), H', ⟨Nat.le_refl _⟩, ⟨znil⟩, ⟨by (with_reducible repeat (first | refine blk_drewN ?_ _ | refine blk_drew ?_ | refine blk_alloc ?_ _)); refine blk_far ?_ NB166_171.out _; (with_reducible repeat (first | refine blk_drewN ?_ _ | refine blk_drew ?_ | refine blk_alloc ?_ _)); refine blk_far ?_ NB166_171.out _; (with_reducible repeat (first | refine blk_drewN ?_ _ | refine blk_drew ?_ | refine blk_alloc ?_ _)); refine blk_far ?_ NB166_171.out _; (with_reducible repeat (first | refine blk_drewN ?_ _ | refine blk_drew ?_ | refine blk_alloc ?_ _)); refine blk_far ?_ NB166_171.out _; (with_reducible repeat (first | refine blk_drewN ?_ _ | refine blk_drew ?_ | refine blk_alloc ?_ _)); refine blk_far ?_ NB166_171.out _; (with_reducible repeat (first | refine blk_drewN ?_ _ | refine blk_drew ?_ | refine blk_alloc ?_ _)); refine blk_far ?_ NB166_171.out _; (with_reducible repeat (first | refine blk_drewN ?_ _ | refine blk_drew ?_ | refine blk_alloc ?_ _)); refine blk_far ?_ NB166_171.out _; (with_reducible repeat (first | refine blk_drewN ?_ _ | refine blk_drew ?_ | refine blk_alloc ?_ _)); refine blk_far ?_ NB166_171.out _; (with_reducible repeat (first | refine blk_drewN ?_ _ | refine blk_drew ?_ | refine blk_alloc ?_ _)); exact BK166.out⟩, ⟨by (with_reducible repeat (first | refine blk_drewN ?_ _ | refine blk_drew ?_ | refine blk_alloc ?_ _)); refine blk_put (cs := #[.int .u8 1, .int .u32 ((t167) % 4294967296), .int .u8 ((t170) % 256), .slice none 0 0, .int .u8 0, .int .u8 0, .int .u8 0, .int .i64 0]) ?_ 7 _ rfl; (with_reducible repeat (first | refine blk_drewN ?_ _ | refine blk_drew ?_ | refine blk_alloc ?_ _)); refine blk_put (cs := #[.int .u8 1, .int .u32 ((t167) % 4294967296), .int .u8 ((t170) % 256), .slice none 0 0, .int .u8 0, .int .u8 0, .int .u8 0, .int .i64 0]) ?_ 6 _ rfl; (with_reducible repeat (first | refine blk_drewN ?_ _ | refine blk_drew ?_ | refine blk_alloc ?_ _)); refine blk_put (cs := #[.int .u8 1, .int .u32 ((t167) % 4294967296), .int .u8 ((t170) % 256), .slice none 0 0, .int .u8 0, .int .u8 0, .int .u8 0, .int .i64 0]) ?_ 5 _ rfl; (with_reducible repeat (first | refine blk_drewN ?_ _ | refine blk_drew ?_ | refine blk_alloc ?_ _)); refine blk_put (cs := #[.int .u8 1, .int .u32 ((t167) % 4294967296), .int .u8 ((t170) % 256), .slice none 0 0, .int .u8 0, .int .u8 0, .int .u8 0, .int .i64 0]) ?_ 4 _ rfl; (with_reducible repeat (first | refine blk_drewN ?_ _ | refine blk_drew ?_ | refine blk_alloc ?_ _)); refine blk_put (cs := #[.int .u8 1, .int .u32 ((t167) % 4294967296), .int .u8 ((t170) % 256), .slice none 0 0, .int .u8 0, .int .u8 0, .int .u8 0, .int .i64 0]) ?_ 3 _ rfl; (with_reducible repeat (first | refine blk_drewN ?_ _ | refine blk_drew ?_ | refine blk_alloc ?_ _)); refine blk_put (cs := #[.int .u8 1, .int .u32 ((t167) % 4294967296), .int .u8 0, .slice none 0 0, .int .u8 0, .int .u8 0, .int .u8 0, .int .i64 0]) ?_ 2 _ rfl; (with_reducible repeat (first | refine blk_drewN ?_ _ | refine blk_drew ?_ | refine blk_alloc ?_ _)); refine blk_put (cs := #[.int .u8 1, .int .u32 0, .int .u8 0, .slice none 0 0, .int .u8 0, .int .u8 0, .int .u8 0, .int .i64 0]) ?_ 1 _ rfl; (with_reducible repeat (first | refine blk_drewN ?_ _ | refine blk_drew ?_ | refine blk_alloc ?_ _)); refine blk_put (cs := #[.int .u8 0, .int .u32 0, .int .u8 0, .slice none 0 0, .int .u8 0, .int .u8 0, .int .u8 0, .int .i64 0]) ?_ 0 _ rfl; (with_reducible repeat (first | refine blk_drewN ?_ _ | refine blk_drew ?_ | refine blk_alloc ?_ _)); exact BK171.out⟩, ⟨zB⟩⟩
      case round =>
        clear H'
        try clear c1
        try clear p1
        try clear q1
        try clear hx1
        try clear qi1
        try clear p2
        try clear c3
        try clear c4
        try clear c4b0
        try clear c4b1
        try clear c5
        try clear c5b0
        try clear c5b1
        try clear c8
        try clear c8b0
        try clear c8b1
        try clear c9
        try clear c9b0
        try clear c9b1
        try clear c15
        try clear p16
        try clear q16
        try clear hx16
        try clear qi16
        try clear hcz16_0
        try clear hx169_0
        try clear p169
        try clear q169
        obtain ⟨x31_1, x172003_1, u172003, rfl, HA, HK1, HO_172003, BK166, BK171, HB⟩ := hrel
        cases gk with
        | zero => exact absurd HA.out (by simp [words_asked.l0])
        | succ k1 =>
          have H := HA.out
          clear HA
          simp only [words_asked.l0] at H
          by_cases c18 : x31_1 < ((l0.drop ((ji7) : Int).toNat).length : Int)
          rotate_left
          · rw [if_neg c18] at H
            have c18b0 : decide (x31_1 < ((l0.drop ((ji7) : Int).toNat).length : Int)) = false := decide_eq_false c18
            have c18b09 := c18b0
            try simp only [List.length_drop] at c18b09
            clear c18
            simp only [Option.some.injEq, Prod.mk.injEq] at H
            obtain ⟨rfl, rfl, rfl, rfl, rfl, rfl, rfl, rfl⟩ := H
            have hnb33 := NB171_166.out
            have hnc33 := NB166_171.out
            have hcz34_0 := zcf8 BK171.out
            have hcz35_0 := zcf8 BK166.out
            obtain ⟨Ao36, co36, eo36⟩ := Kd.R_slice HO_172003.out
            subst eo36
            go_wp2
            refine bodyPost_ret (results_cell_row rfl _ _ gb166 51 #[.int .u8 1, .int .u32 ((t167) % 4294967296), .int .u8 ((t170) % 256), .slice Ao36 x172003_1.length co36, .int .u8 0, .int .u8 0, .int .u8 0, .int .i64 0] (0, 0) _ rfl (zQ BK166.out) Tryz.underlying51 rfl qW9x1) rfl ?_
            exact ⟨_, by first | rfl | (simp [errW_none, errW_some] <;> rfl) | (simp only [← hji7]; first | rfl | (simp [errW_none, errW_some] <;> rfl)) | (simp [*, errW_none, errW_some] <;> rfl), by (with_reducible repeat (first | apply Kd.R_alloc | apply Kd.R_drewN | apply Kd.R_drew)); exact Kd.R_mono (Kd.R_far (p := ⟨gb166, 7, none⟩) (Kd.R_far (p := ⟨gb166, 6, none⟩) (Kd.R_far (p := ⟨gb166, 5, none⟩) (Kd.R_far (p := ⟨gb166, 4, none⟩) (Kd.R_far (p := ⟨gb166, 3, none⟩) (Kd.R_far (p := ⟨gb166, 2, none⟩) (Kd.R_far (p := ⟨gb166, 1, none⟩) (Kd.R_far (p := ⟨gb166, 0, none⟩) (Kd.R_types HO_172003.out BK166.out (by decide)) (fun _ hk => hk.2) (.int .u8 1)) (fun _ hk => hk.2) (.int .u32 ((t167) % 4294967296))) (fun _ hk => hk.2) (.int .u8 ((t170) % 256))) (fun _ hk => hk.2) (.slice Ao36 x172003_1.length co36)) (fun _ hk => hk.2) (.int .u8 0)) (fun _ hk => hk.2) (.int .u8 0)) (fun _ hk => hk.2) (.int .u8 0)) (fun _ hk => hk.2) (.int .i64 0)) (fun _ hk => trivial), zB⟩
          rw [if_pos c18] at H
          have c18b0 := decide_eq_true c18
          have c18b09 := c18b0
          try simp only [List.length_drop] at c18b09
          clear c18
          by_cases c19 : 0 ≤ x31_1
          rotate_left
          · rw [if_neg c19] at H
            exact absurd H (by simp)
          rw [if_pos c19] at H
          have c19b0 := decide_eq_true c19
          clear c19
          by_cases c20 : x31_1 < ((l0.drop ((ji7) : Int).toNat).length : Int)
          rotate_left
          · rw [if_neg c20] at H
            exact absurd H (by simp)
          rw [if_pos c20] at H
          have c20b0 := decide_eq_true c20
          have c20b09 := c20b0
          try simp only [List.length_drop] at c20b09
          clear c20
          obtain ⟨t174, A21, H⟩ := zO H
          try dsimp only at H
          obtain ⟨t177, A22, H⟩ := zO H
          try dsimp only at H
          obtain ⟨t178, A23, H⟩ := zO H
          try dsimp only at H
          by_cases c24 : x172003_1.length < 8796093022208
          rotate_left
          · rw [if_neg c24] at H
            exact absurd H (by simp)
          rw [if_pos c24] at H
          have LMc24 := Aside0.mk c24
          clear c24
          obtain ⟨y179, hy179⟩ : ∃ y_ : List (S90), y_ = (x172003_1 ++ [(⟨(t177) % 256, t178⟩ : S90)]) := ⟨_, rfl⟩
          replace H : (words_asked.l0 k1 (l0.drop ((ji7) : Int).toNat) ((l0.drop ((ji7) : Int).toNat).length : Int) (wrap64 (x31_1 + 1)) 1 ((t167) % 4294967296) ((t170) % 256) y179 0 0 0 0) = some (r1, r2, r3, r4, r5, r6, r7, r8) := by first | (rw [hy179]; with_reducible exact H) | (have H2_ := (Option.bind_some _ _).symm.trans H; rw [hy179]; with_reducible exact H2_) | (have H2_ := (Option.bind_some _ _).symm.trans H; with_reducible exact H2_) | with_reducible exact H | (rw [hy179]; exact H) | exact H
          have Ny179 := Aside0.mk hy179
          clear hy179
          have H' := Aside0.mk H
          clear H
          have p173 : 0 ≤ (x31_1 : Int) := of_decide_eq_true zas
          have q173 : x31_1 < ((l0.drop ((ji7) : Int).toNat).length : Int) := of_decide_eq_true zas
          obtain ⟨ad173, e173, hx173_0⟩ := Kd.at_string HR172.out x31_1 p173 q173
          cases e173
          replace hx173_0 := (HB.out.cell (World.block_lt_of_cell? w _ hx173_0)).trans hx173_0
          replace p173 := eq_true p173
          replace q173 := eq_true q173
          have q1739 := q173
          try simp only [List.length_drop] at q1739
          try go_wp2_with (first | ((with_reducible refine gate_callee (f := 20) rfl ?_); refine goesZ (some 36) Tryz.func20 (args := #[.string (rdOf ByteArray.empty (l0.drop ((ji7) : Int).toNat) x31_1), .string (⟨#[58]⟩ : ByteArray)]) (hargs := (by (try simp only [List.map_toArray, List.map_cons, List.map_nil]); first | done | (simp only [hji7]; rfl) | rfl | (simp only [List.length_drop, List.length_take]; rfl))) (h := ?_); (with_reducible refine (strings_Split.calls (rdOf ByteArray.empty (l0.drop ((ji7) : Int).toNat) x31_1) (⟨#[58]⟩ : ByteArray) t174 _ ?side1 A21.out).mono ?_); (case side1 => exact Gl.below hG.out zB); rintro e w25 ⟨v175, rfl, ho0, hb⟩; refine ⟨_, rfl, ?_⟩; replace HO_172003 := zP HO_172003 hb; have HO176 := Aside0.mk (Kd.R_lower ho0 (below_size zB)); replace BK166 := zJ BK166 hb; replace BK171 := zJ BK171 hb; replace HB := zH hb; clear hb ho0))
          replace HO_172003 := Aside0.mk (Kd.R_drew HO_172003.out)
          replace HO176 := Aside0.mk (Kd.R_drew HO176.out)
          replace BK166 := Aside0.mk (blk_drew BK166.out)
          replace BK171 := Aside0.mk (blk_drew BK171.out)
          replace HB := Aside0.mk (below_drew1 HB.out)
          obtain ⟨Ao27, co27, eo27⟩ := Kd.R_slice HO176.out
          (first | subst eo27 | (injection eo27 with f1_ f2_ f3_; have f4_ := f1_.symm; have f5_ := f3_.symm; clear f1_ f2_ f3_; subst f4_; subst f5_))
          refine start_ (n := 12) (S := fun w' => w'.cell? ⟨gb171, 0, none⟩ = some (.int .u8 1) ∧ w'.cell? ⟨gb171, 1, none⟩ = some (.int .u32 ((t167) % 4294967296)) ∧ w'.cell? ⟨gb171, 2, none⟩ = some (.int .u8 ((t170) % 256)) ∧ w'.cell? ⟨gb171, 3, none⟩ = some (u172003) ∧ w'.cell? ⟨gb171, 4, none⟩ = some (.int .u8 0) ∧ w'.cell? ⟨gb171, 5, none⟩ = some (.int .u8 0) ∧ w'.cell? ⟨gb171, 6, none⟩ = some (.int .u8 0) ∧ w'.cell? ⟨gb171, 7, none⟩ = some (.int .i64 0)) (ds := [11]) (bz 12 0) qW9x1 rfl qW9x1 ⟨(blk_cell BK171.out 0).trans rfl, (blk_cell BK171.out 1).trans rfl, (blk_cell BK171.out 2).trans rfl, (blk_cell BK171.out 3).trans rfl, (blk_cell BK171.out 4).trans rfl, (blk_cell BK171.out 5).trans rfl, (blk_cell BK171.out 6).trans rfl, (blk_cell BK171.out 7).trans rfl⟩ (fun hHeld => ?_); refine with_tabW words_asked.tab9 words_asked.bits9 (fun HT_ HW_ => ?_)
          generalize w25.drew = w26 at HO_172003 HO176 BK166 BK171 HB hHeld ⊢
          refine pureZ (some 37) (bz 12 1) (i := 0) (h := ?_); refine pureZ (some 39) (bz 12 5) (i := 2) (h := ?_); refine pureZ (some 42) (bz 12 37) (i := 5) (h := ?_); refine takeZ (some 38) (bz 12 39) (i := 1) (h := ?_)
          refine one_ (i := 3) (N := some 40) (bz 12 47) rfl rfl (one_of HT_.out qW9x1) (by decide) (fun K hK => ?_)
          refine goes_ Tryz.func35 qW9x1 rfl #[.slice Ao27 t174.length co27, .int .i64 0] (by rfl) rfl rfl zA ?_
          with_reducible refine (words_number.calls _ _ t174 0 t177 _ ?side1 ?side2 ?side3 A22.out).mono ?_
          (case side1 => exact Gl.below hG.out zB)
          (case side2 => exact zC ((Kd.R_reads' HO176.out).2.2))
          (case side3 => exact (Kd.R_reads' HO176.out).2.1)
          rintro e w28 ⟨rfl, hb⟩
          refine ⟨_, rfl, ?_⟩
          replace HO_172003 := zP HO_172003 hb
          replace HO176 := zP HO176 hb
          replace BK166 := zJ BK166 hb
          replace BK171 := zJ BK171 hb
          replace HB := zH hb
          refine hK.out _ _ ⟨(blk_cell BK171.out 0).trans rfl, (blk_cell BK171.out 1).trans rfl, (blk_cell BK171.out 2).trans rfl, (blk_cell BK171.out 3).trans rfl, (blk_cell BK171.out 4).trans rfl, (blk_cell BK171.out 5).trans rfl, (blk_cell BK171.out 6).trans rfl, (blk_cell BK171.out 7).trans rfl⟩ (fun hHeld => ?_)
          clear hK K
          refine norm_ (a' := ?_) ?_ ?_
          rotate_left
          · show Act.put _ (some 40) _ = _
            simp only [Act.put, List.setIfInBounds_toArray, List.set_cons_zero, List.set_cons_succ, i64_w, i32_w]
            rfl
          refine pureZ (some 41) (bz 12 63) (i := 4) (h := ?_)
          refine one_ (i := 6) (N := some 43) (bz 12 127) rfl rfl (one_of HT_.out qW9x1) (by decide) (fun K hK => ?_)
          refine goes_ Tryz.func35 qW9x1 rfl #[.slice Ao27 t174.length co27, .int .i64 1] (by rfl) rfl rfl zA ?_
          with_reducible refine (words_number.calls _ _ t174 1 t178 _ ?side1 ?side2 ?side3 A23.out).mono ?_
          (case side1 => exact Gl.below hG.out zB)
          (case side2 => exact zC ((Kd.R_reads' HO176.out).2.2))
          (case side3 => exact (Kd.R_reads' HO176.out).2.1)
          rintro e w29 ⟨rfl, hb⟩
          refine ⟨_, rfl, ?_⟩
          replace HO_172003 := zP HO_172003 hb
          replace HO176 := zP HO176 hb
          replace BK166 := zJ BK166 hb
          replace BK171 := zJ BK171 hb
          replace HB := zH hb
          refine hK.out _ _ ⟨(blk_cell BK171.out 0).trans rfl, (blk_cell BK171.out 1).trans rfl, (blk_cell BK171.out 2).trans rfl, (blk_cell BK171.out 3).trans rfl, (blk_cell BK171.out 4).trans rfl, (blk_cell BK171.out 5).trans rfl, (blk_cell BK171.out 6).trans rfl, (blk_cell BK171.out 7).trans rfl⟩ (fun hHeld => ?_)
          clear hK K
          refine norm_ (a' := ?_) ?_ ?_
          rotate_left
          · show Act.put _ (some 43) _ = _
            simp only [Act.put, List.setIfInBounds_toArray, List.set_cons_zero, List.set_cons_succ, i64_w, i32_w]
            rfl
          refine pureZ (some 44) (bz 12 255) (i := 7) (h := ?_)
          refine one_ (i := 8) (N := some 45) (bz 12 511) rfl rfl (one_of HT_.out qW9x1) (by decide) (fun K hK => ?_)
          refine value_ (w1 := ?_) (v := ?_) (by rfl) rfl ?_ ?_
          rotate_left 2
          · go_simp
            constructor
            · rfl
            · rfl
          refine hK.out _ _ ⟨(blk_cell (blk_alloc BK171.out _) 0).trans rfl, (blk_cell (blk_alloc BK171.out _) 1).trans rfl, (blk_cell (blk_alloc BK171.out _) 2).trans rfl, (blk_cell (blk_alloc BK171.out _) 3).trans rfl, (blk_cell (blk_alloc BK171.out _) 4).trans rfl, (blk_cell (blk_alloc BK171.out _) 5).trans rfl, (blk_cell (blk_alloc BK171.out _) 6).trans rfl, (blk_cell (blk_alloc BK171.out _) 7).trans rfl⟩ (fun hHeld => ?_)
          clear hK K
          refine norm_ (a' := ?_) ?_ ?_
          rotate_left
          · show Act.put _ (some 45) _ = _
            simp only [Act.put, List.setIfInBounds_toArray, List.set_cons_zero, List.set_cons_succ, i64_w, i32_w]
            rfl
          refine one_ (i := 9) (N := some 46) (bz 12 1023) rfl rfl (one_of HT_.out qW9x1) (by decide) (fun K hK => ?_)
          refine Kd.R_append_step k90 (w0 := w) w.heap.size (by rfl) (.tmp 38) (.tmp 45) 49 90 (.agg #[(.int .u8 0), (.int .i64 0)]) 16 rfl Tryz.underlying49 info90 rfl (by decide) (by omega) u172003 x172003_1 (⟨(t177) % 256, t178⟩ : S90) [.int .u8 ((t177) % 256), .int .i64 t178] (fun _ => True) (fun _ => False) rfl rfl ?aP (fun _ hk => hk.elim) ?aF ?aO ?aB ?aS ?aL ?_
          (case aP => exact k90_mkM _ _ _ (⟨(t177) % 256, t178⟩ : S90))
          (case aB => exact zB)
          (case aF => exact (fun _ _ => trivial))
          (case aO => exact (zR HO_172003.out))
          (case aS => exact (below_size zB))
          (case aL => have := LMc24.out; omega)
          intro v180 w30 ho hb hg hat
          rw [← Ny179.out] at ho
          replace BK166 := Aside0.mk (blk_grown (g := gb166) (o := .cells #[.int .u8 0, .int .u32 0, .int .u8 0, .slice none 0 0, .int .u8 0, .int .u8 0, .int .u8 0, .int .i64 0] 51 (0, 0)) (zK BK166.out) hg (Kd.R_ne HO_172003.out BK166.out (by decide)))
          replace BK171 := Aside0.mk (blk_grown (g := gb171) (o := .cells #[.int .u8 1, .int .u32 ((t167) % 4294967296), .int .u8 ((t170) % 256), u172003, .int .u8 0, .int .u8 0, .int .u8 0, .int .i64 0] 51 (0, 0)) (zK BK171.out) hg (Kd.R_ne HO_172003.out BK171.out (by decide)))
          replace HO176 := Aside0.mk (Kd.R_over' (zR HO176.out) (Kd.R_typed (zR HO_172003.out)) (by decide) hg)
          replace HB := Aside0.mk (hb)
          have HO181 := Aside0.mk (ho)
          clear HO_172003 ho hb hg hat
          obtain ⟨Ao31, co31, eo31⟩ := Kd.R_slice HO181.out
          (first | subst eo31 | (injection eo31 with f1_ f2_ f3_; have f4_ := f1_.symm; have f5_ := f3_.symm; clear f1_ f2_ f3_; subst f4_; subst f5_))
          refine hK.out _ _ ⟨(blk_cell BK171.out 0).trans rfl, (blk_cell BK171.out 1).trans rfl, (blk_cell BK171.out 2).trans rfl, (blk_cell BK171.out 3).trans rfl, (blk_cell BK171.out 4).trans rfl, (blk_cell BK171.out 5).trans rfl, (blk_cell BK171.out 6).trans rfl, (blk_cell BK171.out 7).trans rfl⟩ (fun hHeld => ?_)
          clear hK K
          refine norm_ (a' := ?_) ?_ ?_
          rotate_left
          · show Act.put _ (some 46) _ = _
            simp only [Act.put, List.setIfInBounds_toArray, List.set_cons_zero, List.set_cons_succ, i64_w, i32_w]
            rfl
          refine pureZ (some 47) (bz 12 2047) (i := 10) (h := ?_)
          refine last_ (i := 11) (N := none) (bz 12 4095) rfl rfl (one_of HT_.out qW9x1) (by decide) (fun K hK => ?_)
          have hs32 : w30.cell? ⟨gb171, 3, none⟩ = some (u172003) := (blk_cell BK171.out 3).trans rfl
          have hfs32 := blk_frozen BK171.out 3
          have hns32_0 := NB166_171.out
          have hms32_0 := NB171_166.out
          refine skip_ (w1 := ?_) (by rfl) rfl ?_ ?_
          rotate_left
          · go_simp
            rfl
          refine hK.out _ _ ?_
          clear hK K
          refine done_ (done_of HT_.out qW9x1) ?_
          try go_wp2
          go_roundg k1
          case measure => have := HK1.out; omega
          case rel => exact ⟨(wrap64 (x31_1 + 1)), (y179), (.slice Ao31 y179.length co31), (by first | rfl | (simp; done) | (simp [*]; done)), H', ⟨by have := HK1.out; omega⟩, ⟨by (with_reducible repeat (first | apply Kd.R_alloc | apply Kd.R_drewN | apply Kd.R_drew)); exact Kd.R_mono (Kd.R_far (p := ⟨gb171, 3, none⟩) (Kd.R_types HO181.out BK171.out (by decide)) (fun _ hk => hk.2) (.slice Ao31 y179.length co31)) (fun _ hk => trivial)⟩, ⟨by (with_reducible repeat (first | refine blk_drewN ?_ _ | refine blk_drew ?_ | refine blk_alloc ?_ _)); refine blk_far ?_ NB166_171.out _; (with_reducible repeat (first | refine blk_drewN ?_ _ | refine blk_drew ?_ | refine blk_alloc ?_ _)); exact BK166.out⟩, ⟨by (with_reducible repeat (first | refine blk_drewN ?_ _ | refine blk_drew ?_ | refine blk_alloc ?_ _)); refine blk_put (cs := #[.int .u8 1, .int .u32 ((t167) % 4294967296), .int .u8 ((t170) % 256), u172003, .int .u8 0, .int .u8 0, .int .u8 0, .int .i64 0]) ?_ 3 _ rfl; (with_reducible repeat (first | refine blk_drewN ?_ _ | refine blk_drew ?_ | refine blk_alloc ?_ _)); exact BK171.out⟩, ⟨zB⟩⟩
    rw [if_neg c5] at H
    obtain ⟨c5b0, c5b1⟩ := zne c5
    by_cases c37 : (rdOf ByteArray.empty l0 0).toList = ([99, 97, 110, 99, 101, 108] : List UInt8)
    focus
      rw [if_pos c37] at H
      obtain ⟨c37b0, c37b1⟩ := zeq c37
      clear c37
      simp only [Option.some.injEq, Prod.mk.injEq] at H
      obtain ⟨rfl, rfl, rfl, rfl, rfl, rfl, rfl, rfl⟩ := H
    rotate_left
    rw [if_neg c37] at H
    obtain ⟨c37b0, c37b1⟩ := zne c37
    by_cases c42 : (rdOf ByteArray.empty l0 0).toList = ([115, 104, 105, 112] : List UInt8)
    focus
      rw [if_pos c42] at H
      obtain ⟨c42b0, c42b1⟩ := zeq c42
      clear c42
      simp only [Option.some.injEq, Prod.mk.injEq] at H
      obtain ⟨rfl, rfl, rfl, rfl, rfl, rfl, rfl, rfl⟩ := H
    rotate_left
    rw [if_neg c42] at H
    obtain ⟨c42b0, c42b1⟩ := zne c42
    by_cases c47 : (rdOf ByteArray.empty l0 0).toList = ([114, 101, 116, 117, 114, 110] : List UInt8)
    focus
      rw [if_pos c47] at H
      obtain ⟨c47b0, c47b1⟩ := zeq c47
      clear c47
      simp only [Option.some.injEq, Prod.mk.injEq] at H
      obtain ⟨rfl, rfl, rfl, rfl, rfl, rfl, rfl, rfl⟩ := H
    rotate_left
    rw [if_neg c47] at H
    obtain ⟨c47b0, c47b1⟩ := zne c47
    by_cases c52 : (rdOf ByteArray.empty l0 0).toList = ([114, 101, 115, 116, 111, 99, 107] : List UInt8)
    focus
      rw [if_pos c52] at H
      obtain ⟨c52b0, c52b1⟩ := zeq c52
      clear c52
      obtain ⟨t182, A53, H⟩ := zO H
      try dsimp only at H
      obtain ⟨t183, A54, H⟩ := zO H
      try dsimp only at H
      simp only [Option.some.injEq, Prod.mk.injEq] at H
      obtain ⟨rfl, rfl, rfl, rfl, rfl, rfl, rfl, rfl⟩ := H
    rotate_left
    rw [if_neg c52] at H
    obtain ⟨c52b0, c52b1⟩ := zne c52
    by_cases c61 : (rdOf ByteArray.empty l0 0).toList = ([116, 114, 97, 110, 115, 102, 101, 114] : List UInt8)
    focus
      rw [if_pos c61] at H
      obtain ⟨c61b0, c61b1⟩ := zeq c61
      clear c61
      obtain ⟨t184, A62, H⟩ := zO H
      try dsimp only at H
      obtain ⟨t185, A63, H⟩ := zO H
      try dsimp only at H
      obtain ⟨t186, A64, H⟩ := zO H
      try dsimp only at H
      simp only [Option.some.injEq, Prod.mk.injEq] at H
      obtain ⟨rfl, rfl, rfl, rfl, rfl, rfl, rfl, rfl⟩ := H
    rotate_left
    rw [if_neg c61] at H
    obtain ⟨c61b0, c61b1⟩ := zne c61
    by_cases c72 : (rdOf ByteArray.empty l0 0).toList = ([113, 117, 101, 114, 121] : List UInt8)
    focus
      rw [if_pos c72] at H
      obtain ⟨c72b0, c72b1⟩ := zeq c72
      clear c72
      simp only [Option.some.injEq, Prod.mk.injEq] at H
      obtain ⟨rfl, rfl, rfl, rfl, rfl, rfl, rfl, rfl⟩ := H
    rotate_left
    rw [if_neg c72] at H
    obtain ⟨c72b0, c72b1⟩ := zne c72
    simp only [Option.some.injEq, Prod.mk.injEq] at H
    obtain ⟨rfl, rfl, rfl, rfl, rfl, rfl, rfl, rfl⟩ := H
  rotate_left 7
  · rw [if_neg c4] at H
    exact absurd H (by simp)
  all_goals go_enter Tryz.func39, Tryz.ntmps39
  all_goals go_wp2_with (first | ((with_reducible refine gate_dst (N := 2) rfl ?_); refine zbox (N := 2) (cs := #[.int .u8 0, .int .u32 0, .int .u8 0, .slice none 0 0, .int .u8 0, .int .u8 0, .int .u8 0, .int .i64 0]) (t := 51) (h := ?_); intro gb166 hg wx1 hbox hb; have BK166 := Aside0.mk (hbox); have GW166 := zG (p := w.heap.size ≤ gb166); have GE166 := GW166; replace HB := zH hb; clear hb hbox hg) | ((with_reducible refine gate_callee (f := 35) rfl ?_); refine goesZ (some 13) Tryz.func35 (args := #[.slice A0 l0.length c0, .int .i64 1]) (h := ?_); (with_reducible refine (words_number.calls _ _ l0 1 t168 _ ?side1 ?side2 ?side3 A3.out).mono ?_); (case side1 => exact Gl.below hG.out zB); (case side2 => exact zC (Kd.C_below HR0.out HB.out)); (case side3 => exact HC0.out); rintro e wx3 ⟨rfl, hb⟩; refine ⟨_, rfl, ?_⟩; replace BK166 := zJ BK166 hb; replace HB := zH hb; clear hb; have p169 : 0 ≤ (0 : Int) := (by omega); have q169 : 0 < (l0.length : Int) := of_decide_eq_true zas; obtain ⟨ad169, e169, hx169_0⟩ := Kd.at_string HR0.out 0 p169 q169; cases e169; have qi169 : (0 < l0.length) = True := eq_true (by omega); (try rw [show ((0 : Int)).toNat = 0 from rfl] at hx169_0); (try rw [Addr.add_zero'] at hx169_0); replace hx169_0 := (HB.out.cell (World.block_lt_of_cell? w _ hx169_0)).trans hx169_0; replace p169 := eq_true p169; replace q169 := eq_true q169; have hczx1 := zcf8 BK166.out) | ((with_reducible refine gate_callee (f := 35) rfl ?_); refine goesZ (some 13) Tryz.func35 (args := #[.slice A0 l0.length c0, .int .i64 1]) (h := ?_); (with_reducible refine (words_number.calls _ _ l0 1 t168 _ ?side1 ?side2 ?side3 A3.out).mono ?_); (case side1 => exact Gl.below hG.out zB); (case side2 => exact zC (Kd.C_below HR0.out HB.out)); (case side3 => exact HC0.out); rintro e wx3 ⟨rfl, hb⟩; refine ⟨_, rfl, ?_⟩; replace BK166 := zJ BK166 hb; replace HB := zH hb; clear hb; have p169 : 0 ≤ (0 : Int) := (by omega); have q169 : 0 < (l0.length : Int) := of_decide_eq_true zas; obtain ⟨ad169, e169, hx169_0⟩ := Kd.at_string HR0.out 0 p169 q169; cases e169; have qi169 : (0 < l0.length) = True := eq_true (by omega); (try rw [show ((0 : Int)).toNat = 0 from rfl] at hx169_0); (try rw [Addr.add_zero'] at hx169_0); replace hx169_0 := (HB.out.cell (World.block_lt_of_cell? w _ hx169_0)).trans hx169_0; replace p169 := eq_true p169; replace q169 := eq_true q169) | ((with_reducible refine gate_callee (f := 35) rfl ?_); refine goesZ (some 69) Tryz.func35 (args := #[.slice (some ad169) l0.length c0, .int .i64 3]) (h := ?_); (with_reducible refine (words_number.calls _ _ l0 3 t183 _ ?side1 ?side2 ?side3 A54.out).mono ?_); (case side1 => exact Gl.below hG.out zB); (case side2 => exact zC (Kd.C_below HR0.out HB.out)); (case side3 => exact HC0.out); rintro e wx5 ⟨rfl, hb⟩; refine ⟨_, rfl, ?_⟩; replace BK166 := zJ BK166 hb; replace HB := zH hb; clear hb; have hczx1 := zcf8 BK166.out) | ((with_reducible refine gate_callee (f := 35) rfl ?_); refine goesZ (some 81) Tryz.func35 (args := #[.slice (some ad169) l0.length c0, .int .i64 4]) (h := ?_); (with_reducible refine (words_number.calls _ _ l0 4 t186 _ ?side1 ?side2 ?side3 A64.out).mono ?_); (case side1 => exact Gl.below hG.out zB); (case side2 => exact zC (Kd.C_below HR0.out HB.out)); (case side3 => exact HC0.out); rintro e wx6 ⟨rfl, hb⟩; refine ⟨_, rfl, ?_⟩; replace BK166 := zJ BK166 hb; replace HB := zH hb; clear hb; have hczx1 := zcf8 BK166.out) | ((with_reducible refine gate_callee (f := 35) rfl ?_); refine goesZ (some 66) Tryz.func35 (args := #[.slice (some ad169) l0.length c0, .int .i64 2]) (h := ?_); (with_reducible refine (words_number.calls _ _ l0 2 t182 _ ?side1 ?side2 ?side3 A53.out).mono ?_); (case side1 => exact Gl.below hG.out zB); (case side2 => exact zC (Kd.C_below HR0.out HB.out)); (case side3 => exact HC0.out); rintro e wx4 ⟨rfl, hb⟩; refine ⟨_, rfl, ?_⟩; replace BK166 := zJ BK166 hb; replace HB := zH hb; clear hb) | ((with_reducible refine gate_callee (f := 35) rfl ?_); refine goesZ (some 75) Tryz.func35 (args := #[.slice (some ad169) l0.length c0, .int .i64 2]) (h := ?_); (with_reducible refine (words_number.calls _ _ l0 2 t184 _ ?side1 ?side2 ?side3 A62.out).mono ?_); (case side1 => exact Gl.below hG.out zB); (case side2 => exact zC (Kd.C_below HR0.out HB.out)); (case side3 => exact HC0.out); rintro e wx4 ⟨rfl, hb⟩; refine ⟨_, rfl, ?_⟩; replace BK166 := zJ BK166 hb; replace HB := zH hb; clear hb) | ((with_reducible refine gate_callee (f := 35) rfl ?_); refine goesZ (some 78) Tryz.func35 (args := #[.slice (some ad169) l0.length c0, .int .i64 3]) (h := ?_); (with_reducible refine (words_number.calls _ _ l0 3 t185 _ ?side1 ?side2 ?side3 A63.out).mono ?_); (case side1 => exact Gl.below hG.out zB); (case side2 => exact zC (Kd.C_below HR0.out HB.out)); (case side3 => exact HC0.out); rintro e wx5 ⟨rfl, hb⟩; refine ⟨_, rfl, ?_⟩; replace BK166 := zJ BK166 hb; replace HB := zH hb; clear hb) | ((with_reducible refine gate_callee (f := 35) rfl ?_); refine goesZ (some 10) Tryz.func35 (args := #[.slice A0 l0.length c0, .int .i64 1]) (h := ?_); (with_reducible refine (words_number.calls _ _ l0 1 t167 _ ?side1 ?side2 ?side3 A2.out).mono ?_); (case side1 => exact Gl.below hG.out zB); (case side2 => exact zC (Kd.C_below HR0.out HB.out)); (case side3 => exact HC0.out); rintro e wx2 ⟨rfl, hb⟩; refine ⟨_, rfl, ?_⟩; replace BK166 := zJ BK166 hb; replace HB := zH hb; clear hb))
  all_goals first | (refine bodyPost_ret (results_cell_row rfl _ _ gb166 51 #[.int .u8 6, .int .u32 0, .int .u8 0, .slice none 0 0, .int .u8 ((t168) % 256), .int .u8 ((t184) % 256), .int .u8 ((t185) % 256), .int .i64 t186] (0, 0) _ rfl (zQ BK166.out) Tryz.underlying51 rfl qW9x1) rfl ?_; exact ⟨_, zer, znil, zB⟩) | (refine bodyPost_ret (results_cell_row rfl _ _ gb166 51 #[.int .u8 5, .int .u32 0, .int .u8 0, .slice none 0 0, .int .u8 ((t168) % 256), .int .u8 0, .int .u8 ((t182) % 256), .int .i64 t183] (0, 0) _ rfl (zQ BK166.out) Tryz.underlying51 rfl qW9x1) rfl ?_; exact ⟨_, zer, znil, zB⟩) | (refine bodyPost_ret (results_cell_row rfl _ _ gb166 51 #[.int .u8 2, .int .u32 ((t167) % 4294967296), .int .u8 0, .slice none 0 0, .int .u8 0, .int .u8 0, .int .u8 0, .int .i64 0] (0, 0) _ rfl (zQ BK166.out) Tryz.underlying51 rfl qW9x1) rfl ?_; exact ⟨_, zer, znil, zB⟩) | (refine bodyPost_ret (results_cell_row rfl _ _ gb166 51 #[.int .u8 3, .int .u32 ((t167) % 4294967296), .int .u8 0, .slice none 0 0, .int .u8 0, .int .u8 0, .int .u8 0, .int .i64 0] (0, 0) _ rfl (zQ BK166.out) Tryz.underlying51 rfl qW9x1) rfl ?_; exact ⟨_, zer, znil, zB⟩) | (refine bodyPost_ret (results_cell_row rfl _ _ gb166 51 #[.int .u8 4, .int .u32 ((t167) % 4294967296), .int .u8 0, .slice none 0 0, .int .u8 0, .int .u8 0, .int .u8 0, .int .i64 0] (0, 0) _ rfl (zQ BK166.out) Tryz.underlying51 rfl qW9x1) rfl ?_; exact ⟨_, zer, znil, zB⟩) | (refine bodyPost_ret (results_cell_row rfl _ _ gb166 51 #[.int .u8 7, .int .u32 0, .int .u8 0, .slice none 0 0, .int .u8 ((t168) % 256), .int .u8 0, .int .u8 0, .int .i64 0] (0, 0) _ rfl (zQ BK166.out) Tryz.underlying51 rfl qW9x1) rfl ?_; exact ⟨_, zer, znil, zB⟩) | (refine bodyPost_ret (results_cell_row rfl _ _ gb166 51 #[.int .u8 0, .int .u32 0, .int .u8 0, .slice none 0 0, .int .u8 0, .int .u8 0, .int .u8 0, .int .i64 0] (0, 0) _ rfl (zQ BK166.out) Tryz.underlying51 rfl qW9x1) rfl ?_; exact ⟨_, zer, znil, zB⟩)
end Go.Proofs.YtpnehgajhpejjaaGreatDoor.W
