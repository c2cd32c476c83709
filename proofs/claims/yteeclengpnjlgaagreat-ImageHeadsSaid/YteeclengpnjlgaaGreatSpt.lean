import Derived.Test.YteeclengpnjlgaaGreatWks
/- ImageSplit's body. -/
namespace Go.Proofs.YteeclengpnjlgaaGreat.I
open Go.RowKit Go.Proofs.YteeclengpnjlgaaGreatW.PrintWords Go.Proofs.YteeclengpnjlgaaGreatW.PrintLast Go.Proofs.YteeclengpnjlgaaGreatW.PrintMore Go.Proofs.YteeclengpnjlgaaGreat
set_option linter.unusedVariables false
set_option linter.unusedSimpArgs false
theorem cut_join {s : Nat} (hs : 1 ≤ s) : ∀ (k : Nat) (l : List Int), l.length ≤ k → (cut s k l).flatten = l
  | 0, l, h => by rw [List.eq_nil_of_length_eq_zero (Nat.le_zero.1 h)]; rfl
  | k + 1, [], _ => rfl
  | k + 1, x :: l, h => by
    have h1 : ((x :: l).drop s).length ≤ k := by rw [List.length_drop]; simp at h ⊢; omega
    simp only [cut, List.isEmpty_cons, Bool.false_eq_true, if_false, List.flatten_cons]
    rw [cut_join hs k _ h1, List.take_append_drop]
theorem cutS_join (size : Int) (l : List Int) : (cutS size l).flatten = l := cut_join (by unfold stepOf; split <;> omega) _ _ (Nat.le_refl _)
theorem cut_each {s : Nat} : ∀ (k : Nat) (l : List Int) (x : List Int), x ∈ cut s k l → x.length ≤ l.length
  | 0, l, x, h => by cases h
  | k + 1, l, x, h => by
    simp only [cut] at h
    split at h
    · cases h
    · rcases List.mem_cons.1 h with h | h
      · rw [h, List.length_take]; omega
      · have := cut_each k _ x h
        rw [List.length_drop] at this
        omega
theorem cut_len {s : Nat} (hs : 1 ≤ s) : ∀ (k : Nat) (l : List Int), (cut s k l).length ≤ l.length
  | 0, l => Nat.zero_le _
  | k + 1, [] => Nat.le_refl _
  | k + 1, x :: l => by
    simp only [cut, List.isEmpty_cons, Bool.false_eq_true, if_false, List.length_cons]
    have := cut_len hs k ((x :: l).drop s)
    rw [List.length_drop, List.length_cons] at this
    omega
theorem cutS_len (size : Int) (l : List Int) : (cutS size l).length ≤ l.length := cut_len (by unfold stepOf; split <;> omega) _ _
theorem take_flat (l : List (List Int)) (k : Nat) : (l.take k).flatten.length ≤ l.flatten.length := by
  conv => rhs; rw [← List.take_append_drop k l, List.flatten_append, List.length_append]
  omega
theorem cell_add {w : World} {ad : Addr} {k : Nat} {v : Value} (h : w.cell? (ad.add ((k : Int).toNat * 1 + 0)) = some v) : w.cell? (ad.add k) = some v := by
  rwa [Int.toNat_natCast, Nat.mul_one, Nat.add_zero] at h
def pledgelaw27_ImageSplit.f (l0 : List Int) (a1 : Int) : Option Bool := if a1 ≤ 9223372036854775807 then some true else none
set_option maxHeartbeats 8000000 in
set_option maxRecDepth 100000 in
theorem pledgelaw27_ImageSplit.calls (A0 : Option Addr) (c0 : Nat) (l0 : List Int) (a1 : Int) (r : Bool) (w : World) (hr0 : Kd.C (Kd.int .u8) w A0 l0.length l0) (hc0 : l0.length ≤ c0) (h : pledgelaw27_ImageSplit.f l0 a1 = some r) :
    Calls Tryz.prog 3 #[.slice A0 l0.length c0, .int .i64 a1] w fun e w' => e = .returned (.bool r) ∧ Below w.heap.size w w' := by
  unfold pledgelaw27_ImageSplit.f at h
  split at h
  · rename_i h63
    obtain rfl := Option.some.inj h
    clear h
    obtain ⟨m, hm1, hm2, hm3, hm4⟩ : ∃ m : Nat, m ≤ l0.length ∧ m ≤ 2000 ∧ m ≤ c0 ∧ (2000 < (l0.length : Int) ∧ (m : Int) = 2000 ∨ ¬ 2000 < (l0.length : Int) ∧ (m : Int) = l0.length) := by
      by_cases h : 2000 < l0.length
      · exact ⟨2000, by omega, by omega, by omega, Or.inl ⟨by omega, rfl⟩⟩
      · exact ⟨l0.length, by omega, by omega, by omega, Or.inr ⟨by omega, rfl⟩⟩
    obtain ⟨bs, hbs⟩ : ∃ bs, bs = l0.take m := ⟨_, rfl⟩
    have hbl : bs.length = m := by rw [hbs, List.length_take]; omega
    have hC := C_pre hr0 hm1
    rw [← hbs, ← hbl] at hC
    have HC := Aside0.mk hC
    have HM := Aside0.mk (And.intro hm1 (And.intro hm2 hm3))
    have HBL := Aside0.mk hbl
    have H63 := Aside0.mk h63
    clear hr0 hc0 hm1 hm2 hm3 hbs hbl hC h63
    have HSP := split_calls A0 c0 bs (by have := HM.out; have := HBL.out; omega) (by have := HM.out; have := HBL.out; omega) a1 w HC.out
    rw [HBL.out] at HSP
    have HS := Aside0.mk HSP
    clear HSP
    rcases hm4 with ⟨h1, h2⟩ | ⟨h1, h2⟩
    case' inl =>
      have h4 : (2000 : Int) ≤ (c0 : Int) := by have := HM.out; omega
      have H2 := Aside0.mk (show m = 2000 by omega)
      clear h2
      go_enter Tryz.func3, Tryz.ntmps3
      go_wp2_with (first | fail)
      rw [← H2.out]
    case' inr =>
      have h4 : (l0.length : Int) ≤ (c0 : Int) := by have := HM.out; omega
      have H2 := Aside0.mk (show m = l0.length by omega)
      clear h2
      go_enter Tryz.func3, Tryz.ntmps3
      go_wp2_with (first | fail)
      rw [← H2.out]
    all_goals
      refine HS.out.mono ?_
      rintro e w2 ⟨v1, rfl, hR1, hb1⟩
      have HR1 := Aside0.mk hR1
      have HB := Aside0.mk hb1
      obtain ⟨A1, c1, hv1⟩ := Kd.R_slice hR1
      obtain ⟨cs, hcs⟩ : ∃ cs, cs = cutS a1 bs := ⟨_, rfl⟩
      rw [← hcs] at HR1 hv1
      obtain ⟨N, hN⟩ : ∃ N, N = cs.length := ⟨_, rfl⟩
      rw [← hN] at hv1
      subst hv1
      have HCS := Aside0.mk hcs
      have HN := Aside0.mk hN
      clear hR1 hb1 hcs hN HS
      go_wp2_with (first | fail)
      have HS := Aside0.mk (HBL.out ▸ rsplit_calls A0 c0 bs (by have := HM.out; have := HBL.out; omega) (by have := HM.out; have := HBL.out; omega) a1 H63.out w2 (Kd.C_below HC.out HB.out))
      refine HS.out.mono ?_
      rintro e w3 ⟨v2, ps, rfl, hR2, hF, hmp, hb2⟩
      obtain ⟨A2, c2, hv2⟩ := Kd.R_slice hR2
      have hpl : ps.length = N := by rw [HN.out, HCS.out, ← hmp, List.length_map]
      rw [hpl] at hv2
      subst hv2
      have HR2 := Aside0.mk hR2
      have HF := Aside0.mk hF
      have HMP := Aside0.mk (HCS.out ▸ hmp)
      have HPL := Aside0.mk hpl
      replace HR1 := Aside0.mk (Kd.R_below HR1.out hb2)
      replace HB := Aside0.mk (below_step HB.out hb2)
      have H23 := Aside0.mk hb2
      clear hR2 hF hmp hpl hb2 HS
      go_wp2_with (first | fail)
      obtain ⟨he1, hc1, hC1⟩ := Kd.R_reads' HR1.out
      obtain ⟨he2, hc2, hC2⟩ := Kd.R_reads' HR2.out
      rw [← HN.out] at hC1
      rw [HPL.out] at hC2
      have C1 := Aside0.mk hC1
      have C2 := Aside0.mk hC2
      have hN2 : (N : Int) ≤ 2000 := by
        have h5 := cutS_len a1 bs
        rw [← HCS.out, ← HN.out, HBL.out] at h5
        have := HM.out
        omega
      clear he1 hc1 hC1 he2 hc2 hC2
      go_loopw [7, 8] (fun v7 v8 wr => ∃ k : Nat, v8 = .int .i64 (k : Int) ∧ k ≤ N ∧ Aside0 (Kd.R (Kd.int .u8) 5 wr w3.heap.size (fun _ => True) v7 (cs.take k).flatten) ∧ Aside0 (Below w3.heap.size w3 wr)) (fun _ v8 _ => N - (RowKit.intOf v8).toNat)
      case atStart => exact ⟨0, rfl, Nat.zero_le _, Aside0.mk (Kd.R_nil _ _ _ _ _), Aside0.mk (Below.refl _ _)⟩
      case round =>
        obtain ⟨k, rfl, hk, HA, HW⟩ := hrel
        by_cases hlt : k < N
        · have HLT := Aside0.mk hlt
          have hq1 : (0 : Int) ≤ (k : Int) := by omega
          have hq2 : (k : Int) < (N : Int) := by omega
          obtain ⟨ad1, ce1, rfl, hce1, ⟨Ax, cx, rfl, hcx, hCx⟩, hcell1⟩ := Kd.C_get C1.out [] (k : Int) hq1 hq2
          obtain ⟨ad2, ce2, rfl, hce2, hK2, hcell2⟩ := Kd.C_get C2.out ((none, 0), []) (k : Int) hq1 hq2
          obtain ⟨x, hx⟩ : ∃ x, x = cs.getD (k : Int).toNat [] := ⟨_, rfl⟩
          obtain ⟨p, hp⟩ : ∃ p, p = ps.getD (k : Int).toNat ((none, 0), []) := ⟨_, rfl⟩
          rw [← hx] at hCx hcx hcell1
          rw [← hp] at hK2
          have hpk : ps[k]? = some p := by
            rw [hp, Int.toNat_natCast, List.getD_eq_getElem?_getD, List.getElem?_eq_getElem (by rw [HPL.out]; exact hlt)]
            rfl
          have hxk : cs[k]? = some x := by
            rw [hx, Int.toNat_natCast, List.getD_eq_getElem?_getD, List.getElem?_eq_getElem (by rw [← HN.out]; exact hlt)]
            rfl
          have hpx : p.2 = x := by
            have h5 : (ps.map (·.2))[k]? = some x := by rw [HMP.out]; exact hxk
            rw [List.getElem?_map, hpk] at h5
            exact Option.some.inj h5
          have hFp := HF.out p (List.mem_of_getElem? hpk)
          obtain ⟨⟨Ap, cp⟩, y⟩ := p
          dsimp only at hpx hFp hK2
          subst hpx
          have hk1 : w3.cell? (ad1.add k) = some (.slice Ax y.length cx) := by
            exact cell_add (hcell1 0 _ rfl)
          have hk2 : w3.cell? (ad2.add k) = some (.slice Ap y.length cp) := by
            exact cell_add (hcell2 0 (.slice Ap y.length cp) (by rw [hK2]; rfl))
          have HX := Aside0.mk hxk
          have CX := Aside0.mk (Kd.C_below hCx HW.out)
          have K1 := Aside0.mk (show wr.drew.cell? _ = _ from pw_cell_below HW.out hk1)
          have K2 := Aside0.mk (show wr.drew.cell? _ = _ from pw_cell_below HW.out hk2)
          have ST1 := Aside0.mk (Kd.C_string (P := Tryz.prog) (src := 22) (dst := 9) (e := 5) (c := cx) Tryz.underlying22 Tryz.underlying5 Tryz.underlying9 (Kd.C_drew CX.out))
          have ST2 := Aside0.mk (Kd.C_string (P := Tryz.prog) (src := 22) (dst := 9) (e := 5) (c := cp) Tryz.underlying22 Tryz.underlying5 Tryz.underlying9 (Kd.C_drew (Kd.C_below (Kd.C_below hFp.2 H23.out) HW.out)))
          have htk : cs.take (k + 1) = cs.take k ++ [y] := by rw [List.take_add_one, hxk]; rfl
          have htf : (cs.take k).flatten ++ y = (cs.take (k + 1)).flatten := by rw [htk, List.flatten_append]; simp
          have htl : ((cs.take k).flatten ++ y).length ≤ 2000 := by
            rw [htf]
            have h6 := take_flat cs (k + 1)
            have h7 : cs.flatten = bs := by rw [HCS.out]; exact cutS_join _ _
            rw [h7, HBL.out] at h6
            have := HM.out
            omega
          have HTF := Aside0.mk htf
          have HTL := Aside0.mk htl
          have HAd := Aside0.mk (Kd.R_drew HA.out)
          have HWd := Aside0.mk (below_drew1 HW.out)
          have CXd := Aside0.mk (Kd.C_drew CX.out)
          clear htk htf htl
          clear hce1 hcx hCx hcell1 hce2 hK2 hcell2 hx hp hpk hxk hFp hk1 hk2
          go_wp2_with (first | fail)
          refine start_ (n := 11) (S := fun w' => w'.cell? (ad1.add k) = some (.slice Ax y.length cx) ∧ w'.cell? (ad2.add k) = some (.slice Ap y.length cp) ∧ (convert 22 9 (.slice Ax y.length cx)).run Tryz.prog w' = .ok (.string (strOfNums y)) w' ∧ (convert 22 9 (.slice Ap y.length cp)).run Tryz.prog w' = .ok (.string (strOfNums y)) w') (ds := []) (bz 11 0) (by kernel_rfl) rfl (by kernel_rfl) ⟨K1.out, K2.out, ST1.out, ST2.out⟩ (fun hHeld => ?_)
          refine pureZ (some 31) (bz 11 1) (i := 0) (hc := (by kernel_rfl)) (h := ?_)
          refine pureZ (some 32) (bz 11 3) (i := 1) (hc := (by kernel_rfl)) (h := ?_)
          refine pureZ (some 33) (bz 11 7) (i := 2) (hc := (by kernel_rfl)) (h := ?_)
          refine takeZ (some 34) (bz 11 15) (i := 3) (hc := (by kernel_rfl)) (h := ?_)
          refine takeZ (some 35) (bz 11 31) (i := 4) (hc := (by kernel_rfl)) (h := ?_)
          refine pureZ (some 36) (bz 11 63) (i := 5) (hc := (by kernel_rfl)) (h := ?_)
          refine pureZ (some 37) (bz 11 127) (i := 6) (hc := (by kernel_rfl)) (h := ?_)
          refine pureZ (some 38) (bz 11 255) (i := 7) (hc := (by kernel_rfl)) (h := ?_)
          refine takeZ (some 39) (bz 11 511) (i := 8) (hc := (by kernel_rfl)) (h := ?_)
          refine takeZ (some 40) (bz 11 1023) (i := 9) (hc := (by kernel_rfl)) (h := ?_)
          refine pureZ (some 41) (bz 11 2047) (i := 10) (hc := (by kernel_rfl)) (h := ?_)
          refine done_ (by kernel_rfl) ?_
          go_wp2_with (first | ((with_reducible refine gate_builtin (b := .append) (xs := #[.tmp 42, .tmp 46]) rfl ?_); at_builtin; refine Kd.R_append_rows (Kd.int .u8) (Rr := (Kd.int .u8).K wr.drew) (w0 := w3) w3.heap.size rfl (.tmp 42) (.tmp 46) 22 5 (.int .u8 0) 1 rfl Tryz.underlying22 infoU8 rfl (by decide) (by omega) u7 (cs.take k).flatten y Ax y.length cx (fun _ => True) (fun _ => False) rfl rfl HAd.out CXd.out ?aK (fun _ hk => hk.elim) (fun _ _ => trivial) HWd.out HWd.out.size ?aL ?_; (case aK => intro x cs hx; obtain rfl := hx; rfl); (case aL => have := HTL.out; rw [List.length_append] at this; omega); intro v9 w9 h9 hb9 _ _; have HA9 := Aside0.mk h9; have HW9 := Aside0.mk hb9; clear h9 hb9) | fail)
          rw [HTF.out] at HA9
          go_roundw
          case measure => have := HLT.out; simp only [RowKit.intOf]; omega
          case rel => exact ⟨k + 1, by go_num, HLT.out, HA9, HW9⟩
        · obtain rfl : k = N := by omega
          have hfl : (cs.take k).flatten = bs := by rw [HN.out, List.take_length, HCS.out]; exact cutS_join _ _
          rw [hfl] at HA
          obtain ⟨Aa, ca, hva⟩ := Kd.R_slice HA.out
          rw [HBL.out] at hva
          subst hva
          obtain ⟨hea, hca, hCa⟩ := Kd.R_reads' HA.out
          have ST1 := Kd.C_string (P := Tryz.prog) (src := 22) (dst := 9) (e := 5) (c := ca) Tryz.underlying22 Tryz.underlying5 Tryz.underlying9 hCa
          have ST2 := Kd.C_string (P := Tryz.prog) (src := 22) (dst := 9) (e := 5) (c := c0) Tryz.underlying22 Tryz.underlying5 Tryz.underlying9 (Kd.C_below (Kd.C_below HC.out HB.out) HW.out)
          rw [HBL.out] at ST1 ST2
          clear hfl hca hCa hlt hk hea
          go_wp2_with (first | fail)
          refine (works_calls _).mono ?_
          rintro e w9 ⟨rfl, hb9⟩
          go_wp2_with (first | fail)
          go_ret
          exact ⟨rfl, below_step (below_step HB.out HW.out) hb9⟩
  · cases h
end Go.Proofs.YteeclengpnjlgaaGreat.I
