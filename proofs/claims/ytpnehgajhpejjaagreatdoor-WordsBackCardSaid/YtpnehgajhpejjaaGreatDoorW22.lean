import Derived.Test.YtpnehgajhpejjaaGreatDoorSq
import Derived.Test.YtpnehgajhpejjaaGreatDoorW0
import Derived.Test.YtpnehgajhpejjaaGreatDoorW2
import Derived.Test.YtpnehgajhpejjaaGreatDoorW6
import Derived.Test.YtpnehgajhpejjaaGreatDoorW12
import Derived.Test.YtpnehgajhpejjaaGreatDoorW16
import Derived.Test.YtpnehgajhpejjaaGreatDoorW17
import Derived.Test.YtpnehgajhpejjaaGreatDoorW18
import Derived.Test.YtpnehgajhpejjaaGreatDoorW19
import Derived.Test.YtpnehgajhpejjaaGreatDoorW20
import Derived.Test.YtpnehgajhpejjaaGreatDoorW21
namespace Go.Proofs.YtpnehgajhpejjaaGreatDoor.W
open Go.RowKit Go.Proofs.YtpnehgajhpejjaaGreatDoorW.PrintWords Go.Proofs.YtpnehgajhpejjaaGreatDoorW.PrintLast Go.Proofs.YtpnehgajhpejjaaGreatDoorW.PrintMore
attribute [local go_sem] max2_int min2_int max_two min_two max_three min_three max_four min_four
set_option linter.unusedVariables false
set_option linter.unusedSimpArgs false
/-! ### pledgeref39_guess: function 22 -/
def pledgeref39_guess.f (k : Nat) (l0 : List ByteArray) : Option (Int × Int × Int × Int × List Int) := (pledgeref39_at.f l0 1).bind fun t398 => ((pledgeref39_value.f k t398).bind fun t399 => (if 0 < (l0.length : Int) then (if (rdOf ByteArray.empty l0 0).toList = ([112, 105, 99, 107] : List UInt8) then (some (2, (t399) % 4294967296, 0, 0, ([] : List Int))) else (if (rdOf ByteArray.empty l0 0).toList = ([107, 105, 108, 108] : List UInt8) then (some (3, (t399) % 4294967296, 0, 0, ([] : List Int))) else (if (rdOf ByteArray.empty l0 0).toList = ([119, 114, 105, 116, 101] : List UInt8) then (some (4, 0, 0, 0, ([] : List Int))) else (if (rdOf ByteArray.empty l0 0).toList = ([115, 121, 110, 99] : List UInt8) then (some (5, 0, 0, 0, ([] : List Int))) else (if (rdOf ByteArray.empty l0 0).toList = ([99, 107, 112, 116] : List UInt8) then (some (6, 0, 0, 0, ([] : List Int))) else (if (rdOf ByteArray.empty l0 0).toList = ([99, 114, 97, 115, 104] : List UInt8) then ((pledgeref39_at.f l0 2).bind fun t401 => ((pledgeref39_value.f k t401).bind fun t402 => (some (7, 0, t399, t402, ([] : List Int))))) else (if (rdOf ByteArray.empty l0 0).toList = ([98, 111, 111, 116] : List UInt8) then (some (8, 0, 0, 0, ([] : List Int))) else (if (rdOf ByteArray.empty l0 0).toList = ([97, 115, 107] : List UInt8) then ((pledgeref39_at.f l0 1).bind fun t403 => ((pledgeref39_bytes.f k t403).bind fun t404 => (some (1, 0, 0, 0, t404)))) else ((pledgeref39_asked.f k l0).bind fun bt407 => ((pledgeref34_Plain.f bt407.1 bt407.2.1 bt407.2.2.1 bt407.2.2.2.1 bt407.2.2.2.2.1 bt407.2.2.2.2.2.1 bt407.2.2.2.2.2.2.1 bt407.2.2.2.2.2.2.2).bind fun t418 => (if t418 = true then ((pledgeref34_Bytes.f k bt407.1 bt407.2.1 bt407.2.2.1 bt407.2.2.2.1 bt407.2.2.2.2.1 bt407.2.2.2.2.2.1 bt407.2.2.2.2.2.2.1 bt407.2.2.2.2.2.2.2).bind fun t419 => (some (1, 0, 0, 0, t419))) else (some (0, 0, 0, 0, ([] : List Int)))))))))))))) else (none)))
/-! ### pledgeref39_Read: function 9 -/
def pledgeref39_Read.f (k : Nat) (a0 : ByteArray) : Option (Int × Int × Int × Int × List Int × Int) := (pledgeref39_cut.f k a0 32).bind fun t423 => ((pledgeref39_guess.f k t423).bind fun bt426 => ((pledgeref38_Good.f bt426.1 bt426.2.1 bt426.2.2.1 bt426.2.2.2.1 bt426.2.2.2.2).bind fun t434 => (if t434 = true then ((pledgeref39_Line.f k bt426.1 bt426.2.1 bt426.2.2.1 bt426.2.2.2.1 bt426.2.2.2.2).bind fun t435 => (if t435.toList = a0.toList then (some (bt426.1, bt426.2.1, bt426.2.2.1, bt426.2.2.2.1, bt426.2.2.2.2, 0)) else (some (0, 0, 0, 0, ([] : List Int), 8)))) else (some (0, 0, 0, 0, ([] : List Int), 8)))))
/-! ### pledgeref39_Parse: function 14 -/
/-! ### words_Print: function 15 (by hand) -/
/-- The lines of those events that may be told. -/
def words_Print.go (k : Nat) : List (S25) → Option (List UInt8)
  | [] => some []
  | e :: l => (script_Good.f k e.f0 e.f1 e.f2 e.f3 e.f4).bind fun g => if g = true then (words_Line.f k e.f0 e.f1 e.f2 e.f3 e.f4).bind fun s => (words_Print.go k l).bind fun r => some (s.data.toList ++ 10 :: r) else words_Print.go k l
def words_Print.f (k : Nat) (l0 : List (S25)) : Option ByteArray := (words_Print.go k l0).bind fun b => if b.length ≤ 140737488355328 then some ⟨b.toArray⟩ else none
set_option maxHeartbeats 8000000 in
set_option maxRecDepth 100000 in
theorem words_Print.calls (k : Nat) (A0 : Option Addr) (c0 : Nat) (l0 : List (S25)) (r : ByteArray) (w : World) (hG0 : Gl w) (hr0 : Kd.C k25 w A0 l0.length l0) (hc0 : l0.length ≤ c0) (h : words_Print.f k l0 = some r) :
    Calls Tryz.prog 15 #[.slice A0 l0.length c0] w fun e w' => e = .returned (.string r) ∧ Below w.heap.size w w' := by
  unfold words_Print.f at h
  obtain ⟨fin, hf, h2⟩ := Option.bind_eq_some_iff.1 h
  clear h
  split at h2
  · rename_i hfl
    obtain rfl := Option.some.inj h2
    have HF := Aside0.mk hf
    have HC := Aside0.mk hr0
    have HG := Aside0.mk hG0
    clear h2 hf hr0 hG0
    go_enter Tryz.func15, Tryz.ntmps15
    go_wp2_with (first | fail)
    go_loopw [8] (fun v8 wr => ∃ (j : Nat) (acc rest : List UInt8), j ≤ l0.length ∧ v8 = .int .i64 (j : Int) ∧ Aside0 (Lib.IsBuilder 62 5 w.heap.size w.heap.size (Lib.byteCells acc) wr ∧ Below w.heap.size w wr ∧ words_Print.go k (l0.drop j) = some rest ∧ acc ++ rest = fin)) (fun v _ => l0.length - (RowKit.intOf v).toNat)
    case atStart => exact ⟨0, [], fin, Nat.zero_le _, rfl, Aside0.mk ⟨Lib.fresh_isBuilder _ _ w, (Below.refl _ _).alloc (Nat.le_refl _) _, HF.out, rfl⟩⟩
    case round =>
      obtain ⟨j, acc, rest, hj, rfl, HI⟩ := hrel
      by_cases hlt : j < l0.length
      rotate_left
      · obtain rfl : j = l0.length := by omega
        have p2 : ¬ ((l0.length : Int) < (l0.length : Int)) := by omega
        obtain ⟨hI, hB, hgo, hfin⟩ := HI.out
        rw [List.drop_length] at hgo
        obtain rfl : ([] : List UInt8) = rest := Option.some.inj hgo
        rw [List.append_nil] at hfin
        subst hfin
        have HI2 := Aside0.mk hI
        have HB2 := Aside0.mk hB
        clear HI hI hB hgo
        go_wp2_with (first | fail)
        refine (Tryz.Builder_String_any w.heap.size w.heap.size acc _ HI2.out HB2.out.size).mono ?_
        rintro e w3 ⟨rfl, hb⟩
        go_wp2_with (first | fail)
        go_ret
        exact ⟨rfl, HB2.out.trans hb⟩
      have p1 : (0 : Int) ≤ (j : Int) := by omega
      have p2 : (j : Int) < (l0.length : Int) := by omega
      have hw : wrap64 ((j : Int) + 1) = (j : Int) + 1 := by have := Kd.C_max HC.out; simp only [wrap64]; omega
      have HWR := Aside0.mk hw
      clear hw
      obtain ⟨ad, A4, c4, e1, x0, x1, x2, x3, x4, h4, hC4⟩ := at_T25 HC.out (j : Int) p1 p2
      cases e1
      have hrd : rd_T25 l0 (j : Int) = l0[j] := by simp [rd_T25, List.getD_eq_getElem?_getD, List.getElem?_eq_getElem hlt]
      have hgo := HI.out.2.2.1
      rw [List.drop_eq_getElem_cons hlt] at hgo
      unfold words_Print.go at hgo
      rw [hrd] at x0 x1 x2 x3 x4 h4 hC4
      simp only [Int.toNat_natCast] at x0 x1 x2 x3 x4
      generalize l0[j] = ev at *
      obtain ⟨f0, f1, f2, f3, f4⟩ := ev
      dsimp only at x0 x1 x2 x3 x4 h4 hC4 hgo
      obtain ⟨g, hg, hgo4⟩ := Option.bind_eq_some_iff.1 hgo
      replace x0 := (HI.out.2.1.cell (World.block_lt_of_cell? w _ x0)).trans x0
      replace x1 := (HI.out.2.1.cell (World.block_lt_of_cell? w _ x1)).trans x1
      replace x2 := (HI.out.2.1.cell (World.block_lt_of_cell? w _ x2)).trans x2
      replace x3 := (HI.out.2.1.cell (World.block_lt_of_cell? w _ x3)).trans x3
      replace x4 := (HI.out.2.1.cell (World.block_lt_of_cell? w _ x4)).trans x4
      have HB := Aside0.mk HI.out.2.1
      have HI1 := Aside0.mk HI.out.1
      have HFI := Aside0.mk HI.out.2.2.2
      have HGD := Aside0.mk hg
      have HGO := Aside0.mk hgo4
      have HC4 := Aside0.mk hC4
      clear HI hg hgo hgo4 hC4 hrd
      go_wp2_with (first | fail)
      obtain ⟨gb, hgb⟩ : ∃ gb, gb = wr.heap.size := ⟨_, rfl⟩
      have BX := Aside0.mk (heap_alloc_new wr (.cells #[.int .u8 f0, .int .u32 f1, .int .i64 f2, .int .i64 f3, .slice A4 f4.length c4] 25))
      have B1 := Aside0.mk (below_alloc HB.out (.cells #[.int .u8 f0, .int .u32 f1, .int .i64 f2, .int .i64 f3, .slice A4 f4.length c4] 25))
      have I1 := Aside0.mk (bld_below HI1.out ((Below.refl _ wr).alloc (Nat.le_refl _) (.cells #[.int .u8 f0, .int .u32 f1, .int .i64 f2, .int .i64 f3, .slice A4 f4.length c4] 25)))
      rw [← hgb] at BX ⊢
      clear HB HI1 hgb x0 x1 x2 x3 x4
      generalize wr.alloc (.cells #[.int .u8 f0, .int .u32 f1, .int .i64 f2, .int .i64 f3, .slice A4 f4.length c4] 25) = w1 at *
      refine (script_Good.calls k f0 f1 f2 f3 A4 c4 f4 g _ (Kd.C_below HC4.out B1.out) h4 HGD.out).mono ?_
      rintro e w2 ⟨rfl, hb⟩
      have BX2 := Aside0.mk (blk_below BX.out hb)
      have B2 := Aside0.mk (below_step B1.out hb)
      have I2 := Aside0.mk (bld_below I1.out hb)
      clear BX B1 I1 hb
      cases g with
      | false =>
        have hgo := HGO.out
        rw [if_neg (by simp)] at hgo
        have HGO2 := Aside0.mk hgo
        clear hgo HGO
        go_wp2_with (first | fail)
        go_roundw
        case measure => rw [HWR.out]; show l0.length - ((j : Int) + 1).toNat < l0.length - (j : Int).toNat; omega
        case rel => exact ⟨j + 1, acc, rest, by omega, by rw [HWR.out]; go_num, Aside0.mk ⟨I2.out, B2.out, HGO2.out, HFI.out⟩⟩
      | true =>
        have hgo := HGO.out
        rw [if_pos rfl] at hgo
        obtain ⟨s, hs, hgo2⟩ := Option.bind_eq_some_iff.1 hgo
        obtain ⟨r, hr, hgo3⟩ := Option.bind_eq_some_iff.1 hgo2
        obtain rfl := Option.some.inj hgo3
        have HS := Aside0.mk hs
        have HR := Aside0.mk hr
        have hll : acc.length + (s.size + 1) ≤ 140737488355328 := by
          have h1 := congrArg List.length HFI.out
          have h2 : s.data.toList.length = s.size := by rw [Array.length_toList]; rfl
          simp only [List.length_append, List.length_cons, h2] at h1
          omega
        have HLL := Aside0.mk hll
        clear hgo hgo2 hgo3 hs hr HGO hll
        obtain ⟨y0, y1, y2, y3, y4⟩ := zc5 BX2.out
        go_wp2_with (first | fail)
        refine (words_Line.calls k f0 f1 f2 f3 A4 c4 f4 s _ (Gl.below HG.out B2.out) (Kd.C_below HC4.out B2.out) h4 HS.out).mono ?_
        rintro e w3 ⟨rfl, hb⟩
        have B3 := Aside0.mk (below_step B2.out hb)
        have I3 := Aside0.mk (bld_below I2.out hb)
        clear B2 I2 BX2 hb y0 y1 y2 y3 y4
        go_wp2_with (first | fail)
        refine (writeString_calls w.heap.size w.heap.size (Lib.byteCells acc) s _ I3.out (by have := HLL.out; rw [Lib.byteCells_length]; omega) B3.out.size).mono ?_
        rintro e w4 ⟨rfl, hi, hb⟩
        have B4 := Aside0.mk (B3.out.trans hb)
        have I4 := Aside0.mk hi
        clear B3 I3 hb hi
        go_wp2_with (first | fail)
        refine (writeByte_calls w.heap.size w.heap.size (Lib.byteCells acc ++ Lib.strCells s) 10 _ (.inr I4.out) (by have := HLL.out; rw [List.length_append, Lib.byteCells_length, Lib.strCells_length]; omega) B4.out.size).mono ?_
        rintro e w5 ⟨rfl, hi, hb⟩
        have B5 := Aside0.mk (B4.out.trans hb)
        have I5 := Aside0.mk hi
        clear B4 I4 hb hi
        go_wp2_with (first | fail)
        go_roundw
        case measure => rw [HWR.out]; show l0.length - ((j : Int) + 1).toNat < l0.length - (j : Int).toNat; omega
        case rel =>
          refine ⟨j + 1, acc ++ (s.data.toList ++ [10]), r, by omega, by rw [HWR.out]; go_num, Aside0.mk ⟨?_, B5.out, HR.out, ?_⟩⟩
          · have e1 : Lib.byteCells (acc ++ (s.data.toList ++ [10])) = Lib.byteCells acc ++ Lib.strCells s ++ [.int .u8 10] := by simp [Lib.byteCells, Lib.strCells]
            rw [e1]
            exact .inr I5.out
          · rw [← HFI.out]
            simp
  · exact absurd h2 (by simp)
end Go.Proofs.YtpnehgajhpejjaaGreatDoor.W
