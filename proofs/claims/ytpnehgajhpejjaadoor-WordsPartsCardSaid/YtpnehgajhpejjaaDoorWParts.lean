import Derived.Test.YtpnehgajhpejjaaDoorW11
import Derived.Test.YtpnehgajhpejjaaDoorSq
/- WordsParts: the law's own walk. -/
namespace Go.Proofs.YtpnehgajhpejjaaDoor.W
open Go.RowKit Go.Proofs.YtpnehgajhpejjaaDoorW.PrintWords Go.Proofs.YtpnehgajhpejjaaDoorW.PrintLast Go.Proofs.YtpnehgajhpejjaaDoorW.PrintMore
set_option linter.unusedVariables false
set_option linter.unusedSimpArgs false
def pledgelaw39_WordsParts.f (k : Nat) (a0 a1 : ByteArray) : Option Bool :=
  if a0.size ≤ 3000 ∧ a1.size ≤ 3000 then
    (words_Parse.f k a0).bind fun q1 => (words_Parse.f k a1).bind fun q2 => (words_Parse.f k (a0 ++ a1)).bind fun q3 =>
      if q1.2.2 = 0 ∧ wrap64 (q1.2.1 + q2.2.1) ≤ 1000 then
        if q2.2.2 = 0 then
          (if q3.2.2 = 0 ∧ q3.2.1 = wrap64 (q1.2.1 + q2.2.1) ∧ q1.1.length ≤ 100000 ∧ q2.1.length ≤ 100000 then (pledgeref38_SameAll.f k q3.1 (q1.1 ++ q2.1)).bind fun b => if b = true then pledgelaw39_works.f k else none else none)
        else if q3.2.2 = q2.2.2 ∧ q3.2.1 = wrap64 (q1.2.1 + q2.2.1) ∧ q3.1.length = 0 then pledgelaw39_works.f k else none
      else pledgelaw39_works.f k
  else pledgelaw39_works.f k
theorem infE : (Tryd.prog.info? 64).map (fun i => (i.zero, i.size, i.bytes)) = some (some (.agg #[(.int .u8 0), (.int .u32 0), (.int .i64 0), (.int .i64 0), (.slice none 0 0)]), 5, 48) := by kernel_rfl
theorem end_works (k : Nat) (r : Bool) {w W : World} (HG : Aside0 (Gl w)) (HB : Aside0 (Below w.heap.size w W)) (HW : Aside0 (pledgelaw39_works.f k = some r)) :
    Calls Tryd.prog 26 #[] W fun e w' => e = .returned (.bool r) ∧ Below w.heap.size w w' :=
  (pledgelaw39_works.calls k r _ (Gl.below HG.out HB.out) HW.out).mono fun e w' ⟨he, hb⟩ => ⟨he, below_step HB.out hb⟩
set_option maxHeartbeats 8000000 in
set_option maxRecDepth 100000 in
theorem pledgelaw39_WordsParts.calls (k : Nat) (a0 : ByteArray) (a1 : ByteArray) (r : Bool) (w : World) (hG0 : Gl w) (h : pledgelaw39_WordsParts.f k a0 a1 = some r) :
    Calls Tryd.prog 8 #[.string a0, .string a1] w fun e w' => e = .returned (.bool r) ∧ Below w.heap.size w w' := by
  unfold pledgelaw39_WordsParts.f at h
  have HG := Aside0.mk hG0
  have HB := Aside0.mk (Below.refl w.heap.size w)
  clear hG0
  by_cases hcond : a0.size ≤ 3000 ∧ a1.size ≤ 3000
  · rw [if_pos hcond] at h
    obtain ⟨s0, s1⟩ := hcond
    obtain ⟨⟨a, n, e1⟩, HA, h⟩ := zO h
    obtain ⟨⟨b, m, e2⟩, HBB, h⟩ := zO h
    obtain ⟨⟨c, kk, e3⟩, HCC, h⟩ := zO h
    dsimp only at h
    have HZ := Aside0.mk h
    clear h
    have t0 : ¬ (3000 < (a0.size : Int)) := by omega
    have t1 : ¬ (3000 < (a1.size : Int)) := by omega
    have t2 : a0.size + a1.size ≤ 9223372036854775807 := by omega
    go_enter Tryd.func8, Tryd.ntmps8
    go_wp2_with (first | fail)
    refine (words_Parse.calls k a0 a n e1 _ HG.out HA.out).mono ?_
    rintro e w1 ⟨va, rfl, hSa, hb⟩
    have NA := Aside0.mk (Kd.N_mono (ok' := fun _ => True) (Kd.S_N hSa) (fun _ _ => trivial))
    replace HB := Aside0.mk (below_step HB.out hb)
    clear hSa hb
    go_wp2_with (first | fail)
    refine (words_Parse.calls k a1 b m e2 _ (Gl.below HG.out HB.out) HBB.out).mono ?_
    rintro e w2 ⟨vb, rfl, hSb, hb⟩
    have NB := Aside0.mk (Kd.N_mono (ok' := fun _ => True) (Kd.S_N hSb) (fun _ _ => trivial))
    replace NA := Aside0.mk (Kd.N_below NA.out hb)
    replace HB := Aside0.mk (below_step HB.out hb)
    clear hSb hb
    go_wp2_with (first | fail)
    refine (words_Parse.calls k (a0 ++ a1) c kk e3 _ (Gl.below HG.out HB.out) HCC.out).mono ?_
    rintro e w3 ⟨vc, rfl, hSc, hb⟩
    have NC := Aside0.mk (Kd.N_mono (ok' := fun _ => True) (Kd.S_N hSc) (fun _ _ => trivial))
    replace NA := Aside0.mk (Kd.N_below NA.out hb)
    replace NB := Aside0.mk (Kd.N_below NB.out hb)
    replace HB := Aside0.mk (below_step HB.out hb)
    clear hSc hb
    obtain ⟨Aa, ca, rfl⟩ := Kd.N_slice NA.out
    obtain ⟨Ab, cb, rfl⟩ := Kd.N_slice NB.out
    obtain ⟨Ac, cc, rfl⟩ := Kd.N_slice NC.out
    have hz := HZ.out
    clear HZ HA HBB HCC
    by_cases hq : e1 = 0 ∧ wrap64 (n + m) ≤ 1000
    · rw [if_pos hq] at hz
      obtain ⟨rfl, hq2⟩ := hq
      by_cases h2 : e2 = 0
      · rw [if_pos h2] at hz
        subst h2
        by_cases h3 : e3 = 0 ∧ kk = wrap64 (n + m) ∧ a.length ≤ 100000 ∧ b.length ≤ 100000
        · rw [if_pos h3] at hz
          obtain ⟨rfl, rfl, la, lb⟩ := h3
          obtain ⟨q, HS, hz⟩ := zO hz
          cases q with
          | false => rw [if_neg (by decide)] at hz; cases hz
          | true =>
            rw [if_pos rfl] at hz
            have HW := Aside0.mk hz
            clear hz
            have l1 : ([] : List S64).length + a.length ≤ 100000 := by simpa using la
            have L1 := Aside0.mk (show (([] : List S64).length + a.length) * 48 ≤ 140737488355328 by omega)
            have L2 := Aside0.mk (show (([] ++ a : List S64).length + b.length) * 48 ≤ 140737488355328 by simp only [List.nil_append]; omega)
            clear l1
            generalize hww : wrap64 (n + m) = nm at *
            have NA2 := NA
            go_wp2_with (first | ((with_reducible refine gate_dst (N := 83) rfl ?_); (try (refine gate_guard (by rfl) ?_; dsimp only)); refine Kd.N_lit k64 w3.heap.size 64 ?hg (N' := 83) ?hd (xs := ([] : List S64)) (inner := []) (ok := fun _ => True) (okp := fun _ => True) ?hr ?hp (fun _ hk => hk) trivial (Below.refl w3.heap.size w3) (Nat.le_refl _) (by simp) ?_; (case hd => rfl); (case hg => rfl); (case hr => first | (go_simp; done) | (go_simp; rfl)); (case hp => exact (Reps.none _ _)); intro vd w4 hd hb4 _ _; have ND := Aside0.mk hd; have B4 := Aside0.mk hb4; clear hd hb4) | ((with_reducible refine gate_builtin (b := .append) (xs := #[.tmp 83, .tmp 84]) rfl ?_); (try (refine gate_guard (by rfl) ?_; dsimp only)); at_builtin; refine Kd.N_append_rows k64 (w0 := w3) w3.heap.size rfl (.tmp 83) (.tmp 84) 44 64 (.agg #[(.int .u8 0), (.int .u32 0), (.int .i64 0), (.int .i64 0), (.slice none 0 0)]) 48 rfl Tryd.underlying44 infE rfl (by decide) (by omega) vd ([] : List S64) a _ _ _ (fun _ => True) (fun k_ => some k_ ≠ vd.ownBlock) rfl rfl ?aO ?aR (fun _ hk => ⟨trivial, hk⟩) (fun _ _ => trivial) ?aB ?aS ?aL ?_; (case aO => exact ND.out); (case aR => exact Kd.N_F (Kd.N_mono (Kd.N_elder' NA.out (Kd.N_base ND.out) B4.out) (fun _ hk => hk.2))); (case aB => exact B4.out); (case aS => exact B4.out.size); (case aL => exact L1.out); intro ve w5 he hb5 _ _; have NE := Aside0.mk he; have B5 := Aside0.mk hb5; clear he hb5) | ((with_reducible refine gate_builtin (b := .append) (xs := #[.tmp 85, .tmp 86]) rfl ?_); (try (refine gate_guard (by rfl) ?_; dsimp only)); at_builtin; refine Kd.N_append_rows k64 (w0 := w3) w3.heap.size rfl (.tmp 85) (.tmp 86) 44 64 (.agg #[(.int .u8 0), (.int .u32 0), (.int .i64 0), (.int .i64 0), (.slice none 0 0)]) 48 rfl Tryd.underlying44 infE rfl (by decide) (by omega) ve ([] ++ a : List S64) b _ _ _ (fun _ => True) (fun k_ => some k_ ≠ ve.ownBlock) rfl rfl ?aO ?aR (fun _ hk => ⟨trivial, hk⟩) (fun _ _ => trivial) ?aB ?aS ?aL ?_; (case aO => exact NE.out); (case aR => exact Kd.N_F (Kd.N_mono (Kd.N_elder' NB.out (Kd.N_base NE.out) B5.out) (fun _ hk => hk.2))); (case aB => exact B5.out); (case aS => exact B5.out.size); (case aL => exact L2.out); intro vf w6 hf hb6 _ _; have NF := Aside0.mk hf; have B6 := Aside0.mk hb6; clear hf hb6; obtain ⟨Af, cf, rfl⟩ := Kd.N_slice NF.out))
            have h1 := Kd.N_reads' NF.out
            rw [List.nil_append] at h1
            have h2 := Kd.N_reads' NC.out
            have hcall := pledgeref38_SameAll.calls k Ac cc c Af cf (a ++ b) true w6 (Kd.C_below h2.2.2 B6.out) h2.2.1 h1.2.2 h1.2.1 HS.out
            rw [List.length_append] at hcall
            clear h1 h2
            refine hcall.mono ?_
            clear hcall
            rintro e w7 ⟨rfl, hb⟩
            replace HB := Aside0.mk (below_step (below_step HB.out B6.out) hb)
            clear hb
            go_wp2_with (first | fail)
            refine (end_works k r HG HB HW).mono ?_
            rintro e w8 ⟨rfl, hb⟩
            go_wp2_with (first | fail)
            go_ret
            exact ⟨rfl, hb⟩
        · rw [if_neg h3] at hz
          cases hz
      · rw [if_neg h2] at hz
        by_cases h3 : e3 = e2 ∧ kk = wrap64 (n + m) ∧ c.length = 0
        · rw [if_pos h3] at hz
          have HW := Aside0.mk hz
          obtain ⟨rfl, rfl, lc⟩ := h3
          have lc0 : c = [] := List.eq_nil_of_length_eq_zero lc
          subst lc0
          obtain ⟨he1, he2⟩ := zne h2
          clear hz h2
          go_wp2_with (first | fail)
          refine (end_works k r HG HB HW).mono ?_
          rintro e w8 ⟨rfl, hb⟩
          go_wp2_with (first | fail)
          go_ret
          exact ⟨rfl, hb⟩
        · rw [if_neg h3] at hz
          cases hz
    · rw [if_neg hq] at hz
      have HW := Aside0.mk hz
      clear hz
      by_cases h1 : e1 = 0
      · have hg : 1000 < wrap64 (n + m) := by
          by_cases hg : wrap64 (n + m) ≤ 1000
          · exact absurd ⟨h1, hg⟩ hq
          · omega
        subst h1
        go_wp2_with (first | fail)
        refine (end_works k r HG HB HW).mono ?_
        rintro e w8 ⟨rfl, hb⟩
        go_wp2_with (first | fail)
        go_ret
        exact ⟨rfl, hb⟩
      · obtain ⟨he1, he2⟩ := zne h1
        clear h1 hq
        go_wp2_with (first | fail)
        refine (end_works k r HG HB HW).mono ?_
        rintro e w8 ⟨rfl, hb⟩
        go_wp2_with (first | fail)
        go_ret
        exact ⟨rfl, hb⟩
  · rw [if_neg hcond] at h
    have HW := Aside0.mk h
    clear h
    by_cases s0 : a0.size ≤ 3000
    · have t0 : ¬ (3000 < (a0.size : Int)) := by omega
      have t1 : 3000 < (a1.size : Int) := by
        have : ¬ a1.size ≤ 3000 := fun g => hcond ⟨s0, g⟩
        omega
      go_enter Tryd.func8, Tryd.ntmps8
      go_wp2_with (first | fail)
      refine (end_works k r HG HB HW).mono ?_
      rintro e w8 ⟨rfl, hb⟩
      go_wp2_with (first | fail)
      go_ret
      exact ⟨rfl, hb⟩
    · have t0 : 3000 < (a0.size : Int) := by omega
      go_enter Tryd.func8, Tryd.ntmps8
      go_wp2_with (first | fail)
      refine (end_works k r HG HB HW).mono ?_
      rintro e w8 ⟨rfl, hb⟩
      go_wp2_with (first | fail)
      go_ret
      exact ⟨rfl, hb⟩
end Go.Proofs.YtpnehgajhpejjaaDoor.W
