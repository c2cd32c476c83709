import Derived.Test.YtpnehgajhpejjaaDoorRowX
import Derived.Test.YtpnehgajhpejjaaDoorGl
import Derived.Test.YtpnehgajhpejjaaDoorShelfB
import Derived.Lib.ItoaMem
import Derived.Lib.SlBytesRow
import Derived.Lib.BufferRead
/- strconv.AppendInt, at base 10, onto a row that []byte(s) left; words.put. -/
set_option linter.unusedVariables false
set_option linter.unusedSimpArgs false
namespace Go.Proofs.YtpnehgajhpejjaaDoor
open Go.RowKit Go.Sort Go.Lib
theorem infoB : (Tryd.prog.info? 5).map (fun i => (i.zero, i.size, i.bytes)) = some (some (.int .u8 0), 1, 1) := by kernel_rfl
theorem digits_pos (u : Nat) : 0 < (Lib.decDigits u).length := by
  rw [Lib.decDigits_length]
  by_cases h : u < 10
  · rw [Lib.nDigits_small h]; omega
  · rw [Lib.nDigits_big (by omega)]; omega
theorem digits_le (u : Nat) (h : u < 18446744073709551616) : (Lib.decDigits u).length ≤ 20 := by
  rw [Lib.decDigits_length]
  rcases Nat.eq_zero_or_pos u with rfl | hu1
  · rw [Lib.nDigits_small (by omega)]; omega
  · have := Lib.numDigits_eq u hu1 h
    split at this <;> omega
set_option maxHeartbeats 6400000 in
set_option maxRecDepth 100000 in
theorem appendUint (B n u : Nat) (hu64 : u < 18446744073709551616) (sv : Value) (xs : List Value) (w : World) (hown : w.ownsX B 5 sv n xs) (hBw : B ≤ w.heap.size) (hlim : n + 20 ≤ 140737488355328)
    (htab : Lib.TabIs Tryd.prog w "internal/strconv.uint64pow10" .u64 Lib.pow10Tab) :
    Calls Tryd.prog 127 #[sv, .int .u64 u, .int .i64 10] w fun e w' => ∃ v', e = .returned v' ∧ w'.ownsX B 5 v' (n + (Lib.decDigits u).length) (xs ++ Lib.byteCells (Lib.decDigits u)) ∧ Below B w w' := by
  obtain ⟨i0, hi, hz0, hz1, hz2⟩ := info_parts infoB
  have hdl := digits_le u hu64
  have hdp := digits_pos u
  by_cases hu : u < 100
  · have hsz : (⟨(Lib.decDigits u).toArray⟩ : ByteArray).size = (Lib.decDigits u).length := by simp [ByteArray.size]
    have hub : ((u : Int) < 100) := by omega
    go_enter Tryd.func127, Tryd.ntmps127
    go_wp2_with (first
      | (go_at_call 88; refine (Tryd.internal_strconv_small u hu _).mono ?_; rintro e w' ⟨rfl, rfl⟩)
      | (at_builtin; refine wpList_append_X_string rfl _ _ 62 9 rfl B 5 i0 Tryd.underlying62 Tryd.underlying9 hi hz0 hz1 hz2 _ _ _ rfl hown ⟨(Lib.decDigits u).toArray⟩ rfl (by rw [hsz]; omega) (by rw [hsz]; omega) hBw ?_))
    intro v' w1 hown' hgrow
    go_wp2
    go_ret
    refine ⟨v', rfl, ?_, (Below.refl B _).grown hgrow hBw (fun k hk => (hown.lt k hk).1)⟩
    first | exact hown' | (rw [hsz] at hown'; exact hown')
  · have hu1 : 1 ≤ u := by omega
    have hub : ¬ ((u : Int) < 100) := by omega
    have hnd : (Lib.decDigits u).length = Lib.nDigits u := Lib.decDigits_length u
    have hH0 := Lib.holds_zero0 w 116 (Lib.nDigits u) (by omega)
    have hfmt := Tryd.internal_strconv_formatBase10 w.heap.size 0 24 u (Array.replicate (Lib.nDigits u) 0) (w.alloc (.cells Lib.zeros24 116)) hH0 (by rw [Array.size_replicate]; exact Lib.lt_pow_nDigits u) hu64 (by rw [Array.size_replicate]; omega)
    rw [Array.size_replicate] at hfmt
    have HH0 := Lib.hid hH0
    have hal : Tryd.prog.arrayLen 116 = 24 := by kernel_rfl
    have hsl : ∀ W, (Instr.sliceAt 116 (.pointer (some ⟨w.heap.size, 0, none⟩)) none (some (.int .i64 (Lib.nDigits u : Int))) none).run Tryd.prog W = .ok (.slice (some ⟨w.heap.size, 0, none⟩) (Lib.nDigits u) 24) W := fun W => by
      rw [run_sliceAt_array_h W 116 ⟨w.heap.size, 0, none⟩ (by simp [Program.arrayLen, Program.elem, Tryd.underlying116]) .i64 (Lib.nDigits u : Int) (by omega) (by rw [hal]; omega)]
      go_simp
    clear hH0 hal
    go_enter Tryd.func127, Tryd.ntmps127
    go_wp2_with (first | (go_at_call 89; refine (Tryd.internal_strconv_numDigits u hu1 hu64 _ (Lib.tabIs_alloc htab _)).mono ?_; rintro e w' ⟨rfl, rfl⟩))
    go_at_call 90
    refine hfmt.mono ?_
    rintro e w' ⟨rfl, k, v', dk, rfl, hF⟩
    have hcells : ∀ j u', (Lib.byteCells (Lib.decDigits u))[j]? = some u' → ((putRow (fun (b : UInt8) => Value.int .u8 (b.toNat : Int)) (w.alloc (.cells Lib.zeros24 116)) w.heap.size 0 dk).drewN k).cell? ((⟨w.heap.size, 0, none⟩ : Addr).add j) = some u' := by
      intro j u' hj
      have hjl : j < (Lib.decDigits u).length := by
        have h5 := (List.getElem?_eq_some_iff.1 hj).1
        rwa [Lib.byteCells_length] at h5
      have e5 : (Lib.byteCells (Lib.decDigits u))[j]? = some (Value.int .u8 ((Lib.decDigits u)[j].toNat : Int)) := by simp [Lib.byteCells, hjl]
      rw [e5] at hj
      cases hj
      rw [Lib.row_is_numeral hF j hjl, Lib.add_plain, World.cell?_drewN]
      exact cell?_putRow (fun (b : UInt8) => Value.int .u8 (b.toNat : Int)) _ w.heap.size 0 _ dk HH0.out (by rw [hF.size, Array.size_replicate]) j (by rw [hF.size]; rw [Lib.decDigits_length] at hjl; exact hjl)
    obtain ⟨os, eo⟩ := Lib.fin_at w (.cells Lib.zeros24 116) dk k 0
    have hgw : w.grownBy ((putRow (fun (b : UInt8) => Value.int .u8 (b.toNat : Int)) (w.alloc (.cells Lib.zeros24 116)) w.heap.size 0 dk).drewN k) none := by
      rw [eo]
      exact ⟨rfl, rfl, rfl, by simp [grow, World.drewN], fun i hi _ => by
        show ((w.drewN k).heap ++ os)[i]? = _
        rw [Array.getElem?_append_left (by exact hi)]
        rfl⟩
    have hown2 := hown.kept hgw (by cases hv : sv.ownBlock <;> simp)
    have hnx2 : Below B w ((putRow (fun (b : UInt8) => Value.int .u8 (b.toNat : Int)) (w.alloc (.cells Lib.zeros24 116)) w.heap.size 0 dk).drewN k) := (Below.refl B w).grown hgw hBw (fun k hk => by cases hk)
    have hsz2 := hgw.size
    generalize (putRow (fun (b : UInt8) => Value.int .u8 (b.toNat : Int)) (w.alloc (.cells Lib.zeros24 116)) w.heap.size 0 dk).drewN k = W2 at hcells hown2 hnx2 hsz2 ⊢
    clear eo HH0 hfmt hgw
    go_wp2_with (at_builtin; refine wpList_append_X rfl _ _ 62 rfl B 5 i0 Tryd.underlying62 hi hz0 hz1 hz2 _ _ _ rfl hown2 ⟨w.heap.size, 0, none⟩ (Lib.nDigits u) 24 (Lib.byteCells (Lib.decDigits u)) rfl ?c0 hcells ?c2 (by omega) (by omega) (by omega) ?_)
    case c0 => rw [Lib.byteCells_length, Lib.decDigits_length]
    case c2 => intro u' hu'; simp only [Lib.byteCells, List.mem_map] at hu'; obtain ⟨b, _, rfl⟩ := hu'; rfl
    intro v2 w3 hown' hgrow
    go_wp2
    go_ret
    refine ⟨v2, rfl, ?_, hnx2.grown hgrow (by omega) (fun k hk => (hown2.lt k hk).1)⟩
    rw [Lib.decDigits_length]
    exact hown'
set_option maxHeartbeats 6400000 in
set_option maxRecDepth 100000 in
theorem appendInt0 (B n : Nat) (i : Int) (h0 : -9223372036854775808 ≤ i) (h1 : i ≤ 9223372036854775807) (sv : Value) (xs : List Value) (w : World) (hown : w.ownsX B 5 sv n xs) (hBw : B ≤ w.heap.size) (hlim : n + 21 ≤ 140737488355328)
    (htab : Lib.TabBelow Tryd.prog B w "internal/strconv.uint64pow10" .u64 Lib.pow10Tab) :
    Calls Tryd.prog 111 #[sv, .int .i64 i, .int .i64 10] w fun e w' => ∃ v', e = .returned v' ∧ w'.ownsX B 5 v' (n + (Lib.itoa i).length) (xs ++ Lib.byteCells (Lib.itoa i)) ∧ Below B w w' := by
  obtain ⟨i0, hi, hz0, hz1, hz2⟩ := info_parts infoB
  by_cases hneg : i < 0
  · obtain ⟨u, rfl⟩ : ∃ u : Nat, i = -(u : Int) := ⟨i.natAbs, by omega⟩
    have hu1 : 1 ≤ u := by omega
    have hu64 : u < 18446744073709551616 := by omega
    have hwr : IntKind.u64.wrap (-IntKind.u64.wrap (-(u : Int))) = (u : Int) := by rw [IntKind.wrap_u64, IntKind.wrap_u64]; omega
    rw [Lib.itoa_neg u hu1]
    go_enter Tryd.func111, Tryd.ntmps111
    go_wp2_with (at_builtin; refine wpList_append_X rfl _ _ 62 rfl B 5 i0 Tryd.underlying62 hi hz0 hz1 hz2 _ _ _ rfl (hown.alloc _) ⟨w.heap.size, 0, none⟩ 1 1 [Value.int .u8 45] rfl rfl (by intro j u' hj; match j, hj with | 0, hj => simp at hj; subst hj; simp [Addr.add]) (by intro u' hu'; simp at hu'; subst hu'; rfl) (by omega) (by omega) (by simp; omega) ?_)
    intro v1 w1 hown1 hgrow
    have hnx1 : Below B w w1 := ((Below.refl B w).alloc hBw _).grown hgrow (by simp; omega) (fun k hk => (hown.lt k hk).1)
    have htab1 : Lib.TabIs Tryd.prog w1 "internal/strconv.uint64pow10" .u64 Lib.pow10Tab := htab w1 hnx1
    go_wp2_with (go_at_call 127; refine (appendUint B (n + 1) u hu64 v1 _ w1 hown1 (by have := hnx1.size; omega) (by omega) htab1).mono ?_; rintro e w2 ⟨v2, rfl, hown2, hnx2⟩)
    go_wp2
    go_ret
    refine ⟨v2, rfl, ?_, hnx1.trans hnx2⟩
    have e1 : n + ((Lib.decDigits u).length + 1) = n + 1 + (Lib.decDigits u).length := by omega
    have e2 : xs ++ Lib.byteCells (45 :: Lib.decDigits u) = xs ++ [Value.int .u8 45] ++ Lib.byteCells (Lib.decDigits u) := by simp [Lib.byteCells]
    have e3 : n + (45 :: Lib.decDigits u).length = n + 1 + (Lib.decDigits u).length := by simp only [List.length_cons]; omega
    rw [e2]
    first | (rw [e3]; exact hown2) | (rw [e1]; exact hown2)
  · obtain ⟨u, rfl⟩ : ∃ u : Nat, i = u := ⟨i.toNat, by omega⟩
    have hu64 : u < 18446744073709551616 := by omega
    rw [Lib.itoa_nonneg]
    go_enter Tryd.func111, Tryd.ntmps111
    go_wp2_with (go_at_call 127; refine (appendUint B n u hu64 sv xs w hown hBw (by omega) htab.here).mono ?_; rintro e w2 ⟨v2, rfl, hown2, hnx2⟩)
    go_wp2
    first | go_ret | go_ret2
    exact ⟨v2, rfl, hown2, hnx2⟩
theorem appendInt (B n : Nat) (i : Int) (h0 : -9223372036854775808 ≤ i) (h1 : i ≤ 9223372036854775807) (sv : Value) (xs : List Value) (w : World) (hown : w.ownsX B 5 sv n xs) (hBw : B ≤ w.heap.size) (hlim : n + 21 ≤ 140737488355328)
    (htab : Lib.TabBelow Tryd.prog B w "internal/strconv.uint64pow10" .u64 Lib.pow10Tab) :
    Calls Tryd.prog 83 #[sv, .int .i64 i, .int .i64 10] w fun e w' => ∃ v', e = .returned v' ∧ w'.ownsX B 5 v' (n + (Lib.itoa i).length) (xs ++ Lib.byteCells (Lib.itoa i)) ∧ Below B w w' := by
  have hcon := appendInt0 B n i h0 h1 sv xs w hown hBw hlim htab
  clear hown htab
  go_enter Tryd.func83, Tryd.ntmps83
  go_wp2_with (go_at_call 111; refine hcon.mono ?_; rintro e w2 ⟨v2, rfl, hown2, hnx2⟩)
  go_wp2
  first | go_ret | go_ret2
  exact ⟨v2, rfl, hown2, hnx2⟩
/-- A word and numbers, each behind a blank. -/
def putL (word : List UInt8) (l : List Int) : List UInt8 := word ++ l.flatMap fun n => 32 :: Lib.itoa n
theorem putL_snoc (word : List UInt8) (l : List Int) (j : Nat) (hj : j < l.length) : putL word (l.take (j + 1)) = putL word (l.take j) ++ (32 :: Lib.itoa l[j]) := by
  have e : l.take (j + 1) = l.take j ++ [l[j]] := by rw [List.take_append_getElem]
  unfold putL
  rw [e, List.flatMap_append]
  simp
theorem itoa_len (i : Int) (h0 : -9223372036854775808 ≤ i) (h1 : i ≤ 9223372036854775807) : (Lib.itoa i).length ≤ 21 := by
  by_cases hneg : i < 0
  · obtain ⟨u, rfl⟩ : ∃ u : Nat, i = -(u : Int) := ⟨i.natAbs, by omega⟩
    rw [Lib.itoa_neg u (by omega)]
    have := digits_le u (by omega)
    simp only [List.length_cons]
    omega
  · obtain ⟨u, rfl⟩ : ∃ u : Nat, i = u := ⟨i.toNat, by omega⟩
    rw [Lib.itoa_nonneg]
    have := digits_le u (by omega)
    omega
theorem byteCells_append (a b : List UInt8) : Lib.byteCells (a ++ b) = Lib.byteCells a ++ Lib.byteCells b := by simp [Lib.byteCells]
theorem conv_own {w : World} {base : Nat} {v : Value} {l : List UInt8} (h : w.ownsX base 5 v l.length (Lib.byteCells l)) : (convert 62 9 v).run Tryd.prog w = .ok (.string ⟨l.toArray⟩) w := by
  rcases h.2 with ⟨rfl, h0⟩ | ⟨g, cap, cur, fz, rfl, _⟩
  · obtain rfl := List.eq_nil_of_length_eq_zero h0
    exact Lib.run_convert_nil_bytes w 62 9 5 0 Tryd.underlying62 Tryd.underlying5 Tryd.underlying9
  · have hc : Lib.Bytes w g 0 ⟨l.toArray⟩ := fun i hi => by
      have hi' : i < l.length := by simpa [ByteArray.size] using hi
      have := h.cells (g := g) rfl i (.int .u8 (l[i].toNat : Int)) (by simp [Lib.byteCells, hi'])
      rw [Lib.add_plain] at this
      have h2 : (⟨l.toArray⟩ : ByteArray)[i] = l[i] := rfl
      rw [Nat.zero_add] at this ⊢
      rw [h2]
      exact this
    have hr := Lib.run_convert_whole (P := Tryd.prog) w 62 5 9 Tryd.underlying62 Tryd.underlying5 Tryd.underlying9 g 0 ⟨l.toArray⟩ hc cap
    have hs : (⟨l.toArray⟩ : ByteArray).size = l.length := by simp [ByteArray.size]
    rw [hs] at hr
    exact hr
theorem bytes_own (w : World) (s : ByteArray) (hs : s.size ≤ 1000000) : (Lib.bytesWorld w 5 s).ownsX w.heap.size 5 (.slice (some ⟨w.heap.size, 0, none⟩) s.size (grownCap w s.size 0 5)) s.size (Lib.byteCells s.data.toList) := by
  have hge := grownCap_ge w s.size 0 5
  have hz : (Lib.bytesCells w 5 s).size = grownCap w s.size 0 5 := by
    have : s.data.size = s.size := rfl
    simp [Lib.bytesCells, this]; omega
  refine ⟨by simp [Lib.byteCells], .inr ⟨w.heap.size, _, Lib.bytesCells w 5 s, _, rfl, Nat.le_refl _, Lib.bytesWorld_at_new w 5 s, .inr (by rw [hz]; exact Nat.le_refl _), hge, grownCap_le_maxLen w _ _ _ (by simp only [maxLen]; omega), hz, ?_⟩⟩
  have e : s.size = (s.data.toList.map fun b => Value.int .u8 (b.toNat : Int)).length := by simp
  unfold Lib.bytesCells
  rw [Array.toList_append]
  conv => lhs; rw [e]
  have e2 : (Array.map (fun b : UInt8 => Value.int .u8 (b.toNat : Int)) s.data).toList = s.data.toList.map fun b => Value.int .u8 (b.toNat : Int) := by simp
  rw [e2, List.take_left]
  rfl
set_option maxHeartbeats 6400000 in
set_option maxRecDepth 100000 in
theorem putW (s : ByteArray) (A0 : Option Addr) (c0 : Nat) (l0 : List Int) (w : World) (hs : s.size ≤ 1000000) (hl : l0.length ≤ 1000000) (hlc : l0.length ≤ c0) (hall : ∀ x ∈ l0, -9223372036854775808 ≤ x ∧ x ≤ 9223372036854775807)
    (hcells : ∀ j : Nat, j < l0.length → ∃ ad, A0 = some ad ∧ w.cell? (ad.add j) = some (.int .i64 (l0.getD j 0))) (htab : Lib.TabBelow Tryd.prog w.heap.size w "internal/strconv.uint64pow10" .u64 Lib.pow10Tab) :
    Calls Tryd.prog 53 #[.string s, .slice A0 l0.length c0] w fun e w' => e = .returned (.string ⟨(putL s.data.toList l0).toArray⟩) ∧ Below w.heap.size w w' := by
  obtain ⟨i0, hi, hz0, hz1, hz2⟩ := info_parts infoB
  have hcv := fun W => Lib.run_convert_string_bytes (P := Tryd.prog) W 9 62 5 s Tryd.underlying9 Tryd.underlying62 Tryd.underlying5
  have hb0 : Below w.heap.size w (Lib.bytesWorld w 5 s) := Lib.bytesWorld_below w 5 s
  have ho0 := bytes_own w s hs
  go_enter Tryd.func53, Tryd.ntmps53
  go_wp2
  clear hcv
  generalize Lib.bytesWorld w 5 s = w1 at *
  generalize (Value.slice (some ⟨w.heap.size, 0, none⟩) s.size (grownCap w s.size 0 5)) = v0 at *
  have HB0 := YtpnehgajhpejjaaDoorW.PrintWords.Aside0.mk hb0
  have HO0 := YtpnehgajhpejjaaDoorW.PrintWords.Aside0.mk ho0
  clear hb0 ho0
  go_loopw [5, 12] (fun v5 i wr => ∃ j : Nat, j ≤ l0.length ∧ i = .int .i64 j ∧ YtpnehgajhpejjaaDoorW.PrintWords.Aside0 (wr.ownsX w.heap.size 5 v5 (putL s.data.toList (l0.take j)).length (Lib.byteCells (putL s.data.toList (l0.take j)))) ∧ YtpnehgajhpejjaaDoorW.PrintWords.Aside0 ((putL s.data.toList (l0.take j)).length ≤ s.size + 22 * j) ∧ YtpnehgajhpejjaaDoorW.PrintWords.Aside0 (Below w.heap.size w wr)) (fun _ i _ => l0.length - (RowKit.intOf i).toNat)
  case atStart => exact ⟨0, Nat.zero_le _, rfl, ⟨by simpa [putL] using HO0.out⟩, ⟨by simp [putL]⟩, ⟨HB0.out⟩⟩
  case round =>
    clear HB0 HO0
    obtain ⟨j, hj, rfl, HO, HL, HB⟩ := hrel
    by_cases hlt : j < l0.length
    · obtain ⟨ad, e1, hx⟩ := hcells j hlt
      cases e1
      have hn : l0.getD j 0 = l0[j] := by simp [List.getD_eq_getElem?_getD, List.getElem?_eq_getElem hlt]
      obtain ⟨n0, n1⟩ := hall l0[j] (List.getElem_mem hlt)
      have hstep := putL_snoc s.data.toList l0 j hlt
      have hil := itoa_len l0[j] n0 n1
      rw [hn] at hx
      replace hx := (HB.out.cell (World.block_lt_of_cell? w _ hx)).trans hx
      have htab2 := htab.on HB.out
      generalize l0[j] = x at *
      generalize putL s.data.toList (l0.take j) = L at *
      have HT := YtpnehgajhpejjaaDoorW.PrintWords.Aside0.mk htab2
      have HS := YtpnehgajhpejjaaDoorW.PrintWords.Aside0.mk hstep
      clear htab2 hstep hn
      have hLl := HL.out
      have hsz := HB.out.size
      have p1 : (0 : Int) ≤ (j : Int) := by omega
      have p2 : (j : Int) < (l0.length : Int) := by omega
      go_wp2_with (at_builtin; refine wpList_append_X rfl _ _ 62 rfl w.heap.size 5 i0 Tryd.underlying62 hi hz0 hz1 hz2 _ _ _ rfl (HO.out.alloc _) ⟨wr.heap.size, 0, none⟩ 1 1 [Value.int .u8 32] rfl rfl (by intro j u' hj; match j, hj with | 0, hj => simp at hj; subst hj; simp [Addr.add]) (by intro u' hu'; simp at hu'; subst hu'; rfl) (by omega) (by omega) (by simp; omega) ?_)
      intro v1 w2 hown1 hgrow
      have hnx1 : Below w.heap.size wr w2 := ((Below.refl w.heap.size wr).alloc hsz _).grown hgrow (by simp; omega) (fun k hk => (HO.out.lt k hk).1)
      have hcon := appendInt w.heap.size (L.length + 1) x n0 n1 v1 _ w2 hown1 (by have := hnx1.size; omega) (by omega) (HT.out.on hnx1)
      have HC := YtpnehgajhpejjaaDoorW.PrintWords.Aside0.mk hcon
      clear hcon
      go_wp2_with (go_at_call 83; refine HC.out.mono ?_; rintro e w3 ⟨v2, rfl, hown2, hnx2⟩)
      go_roundw
      case rel =>
        have e2 : Lib.byteCells (L ++ (32 :: Lib.itoa x)) = Lib.byteCells L ++ [Value.int .u8 32] ++ Lib.byteCells (Lib.itoa x) := by simp [Lib.byteCells]
        have e3 : (L ++ (32 :: Lib.itoa x)).length = L.length + 1 + (Lib.itoa x).length := by simp; omega
        refine ⟨j + 1, by omega, by go_num, ⟨?_⟩, ⟨?_⟩, ⟨(HB.out.trans hnx1).trans hnx2⟩⟩
        · rw [HS.out, e2, e3]
          exact hown2
        · rw [HS.out, e3]
          omega
      case measure => simp [RowKit.intOf]; omega
    · obtain rfl : j = l0.length := by omega
      have p2 : ¬ ((l0.length : Int) < (l0.length : Int)) := by omega
      have hcv := conv_own HO.out
      rw [List.take_length] at hcv
      go_wp2
      go_ret
      exact ⟨rfl, HB.out⟩
end Go.Proofs.YtpnehgajhpejjaaDoor
