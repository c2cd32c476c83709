import Derived.Test.YteeclengpnjlgaaGreatSpl
import Derived.Lib.SlBytesConst
/- The chapter's example: works() of chapter 27 answers true. -/
namespace Go.Proofs.YteeclengpnjlgaaGreat.I
open Go.RowKit Go.Proofs.YteeclengpnjlgaaGreatW.PrintWords Go.Proofs.YteeclengpnjlgaaGreatW.PrintLast Go.Proofs.YteeclengpnjlgaaGreatW.PrintMore Go.Proofs.YteeclengpnjlgaaGreat
set_option linter.unusedVariables false
set_option linter.unusedSimpArgs false
theorem keys4 : (keysOf 1 1).length = 4 := by
  have := (keys_is (sk := 1) (wa := 1) (by omega) (by omega)).2
  omega
theorem abc_C {w : World} {k : Nat} (h : w.heap[k]? = some (.cells #[.int .u8 97, .int .u8 98, .int .u8 99, .int .u8 100, .int .u8 101] 5 (5, 6))) : Kd.C (Kd.int .u8) w (some ⟨k, 0, none⟩) 5 [97, 98, 99, 100, 101] := by
  refine Kd.C_of_reads (readsInt_of.1 ⟨rfl, by simp, fun _ => ⟨_, rfl, fun j hj => ?_⟩⟩)
  have hc : ∀ j : Nat, w.cell? ⟨k, j, none⟩ = #[Value.int .u8 97, .int .u8 98, .int .u8 99, .int .u8 100, .int .u8 101][j]? := fun j => by simp [World.cell?, h]
  rw [add_plain, hc]
  rcases j with _ | _ | _ | _ | _ | j
  · rfl
  · rfl
  · rfl
  · rfl
  · rfl
  · omega
theorem reps4 (w : World) (base : Nat) (ok : Nat → Prop) : Reps ((Kd.int .i64).M w base ok) (Kd.int .i64).sz ([5, 0, 0, 0] : List Int) [.int .i64 5, .int .i64 0, .int .i64 0, .int .i64 0] := by
  refine ⟨rfl, fun j p hj => ?_⟩
  rcases j with _ | _ | _ | _ | j
  · cases hj; rfl
  · cases hj; rfl
  · cases hj; rfl
  · cases hj; rfl
  · simp at hj
set_option maxHeartbeats 8000000 in
set_option maxRecDepth 100000 in
theorem works_calls (w : World) : Calls Tryz.prog 8 #[] w fun e w' => e = .returned (.bool true) ∧ Below w.heap.size w w' := by
  go_enter Tryz.func8, Tryz.ntmps8
  go_wp2_with (first | fail)
  refine (config_calls 0 0 5 9 0 0 7 31 0 0 0 192 _ (by omega) (by omega) (by omega) (by omega) (by omega) (by omega) (by omega) (by omega) (by omega) (by omega) (by omega) (by omega) 9 (by decide)).mono ?_
  rintro e w1 ⟨cs, A, c, rfl, hcf, hR, hb⟩
  have h4 := keys4
  have hcf' : Cf cs 1 1 8 32 0 64 65 448 (needN 1 1 8 32 448) A 4 c := by rw [← h4]; exact hcf
  obtain ⟨l, hl⟩ : ∃ l, l = (keysOf (1 + 0 % 3) (1 + 0 % 3)).map (cfgD (0 % 4) 5 9) := ⟨_, rfl⟩
  rw [← hl] at hR
  have hll : l.length = 4 := by rw [hl, List.length_map]; exact h4
  have hR' : Kd.R k95 95 w1 w.heap.size (fun _ => True) (.slice A 4 c) l := by rw [← h4]; exact hR
  have HC := Aside0.mk hcf'
  have HLL := Aside0.mk hll
  have RL := Aside0.mk hR'
  have HB := Aside0.mk hb
  clear hcf hR hb hcf' hl hll hR' h4
  go_wp2_with (first | (refine zbox (N := 1) (t := 37) (cs := zcfg) (h := ?_); intro g1 hg1 w2 B1_ hb1; have B1 := Aside0.mk B1_; have G1 := Aside0.mk (show w.heap.size ≤ g1 by have := HB.out.size; omega); replace RL := Aside0.mk (Kd.R_below RL.out hb1); replace HB := Aside0.mk (below_step HB.out hb1); clear B1_ hb1 hg1) | (refine store_cfg (w0 := w) (g := g1) (cells := cs) (by rfl) (by rfl) (by rfl) (by rfl) B1.out (by rfl) HC.out.sz HC.out.one HB.out G1.out ?_; intro w3 h3 hg3 hb3; replace RL := Aside0.mk (Kd.R_mono (Kd.R_grown (Kd.R_types RL.out B1.out (by decide)) hg3 (fun k hk e => hk.2 (Option.some.inj e))) (fun _ _ => trivial)); replace B1 := Aside0.mk (blk_drew h3); replace RL := Aside0.mk (Kd.R_drew RL.out); replace HB := Aside0.mk (below_drew1 hb3); clear h3 hg3 hb3) | fail)
  refine start_ (n := 10) (S := fun w' => w'.heap[g1]? = some (.cells cs 37 (0, 0))) (ds := []) (bz 10 0) (by kernel_rfl) rfl (by kernel_rfl) B1.out (fun hHeld => ?_)
  generalize w3.drew = W1 at *
  refine takeZ (some 10) (bz 10 1) (i := 0) (hc := (by kernel_rfl)) (v := .agg cs) (hy := Or.inl ⟨by rfl, fun w' hs => run_load_cfg rfl w' _ cs rfl HC.out.sz hs⟩) (h := ?_)
  refine takeZ (some 11) (bz 10 3) (i := 1) (hc := (by kernel_rfl)) (v := .agg cs) (hy := Or.inl ⟨by rfl, fun w' hs => run_load_cfg rfl w' _ cs rfl HC.out.sz hs⟩) (h := ?_)
  obtain ⟨he4, hc4, hC4⟩ := Kd.R_reads' RL.out
  rw [HLL.out] at hC4
  have C4 := Aside0.mk hC4
  have HC4 := Aside0.mk hc4
  clear hc4 hC4 he4
  have N1 := Aside0.mk (show Cf cs 1 1 8 32 0 64 65 448 (needN 1 1 8 32 448) A l.length c by rw [HLL.out]; exact HC.out)
  have N2 := Aside0.mk (show Kd.C k95 W1 A l.length l by rw [HLL.out]; exact C4.out)
  have N3 := Aside0.mk (show l.length ≤ c by rw [HLL.out]; exact HC4.out)
  refine one_ (i := 2) (N := some 12) (bz 10 7) rfl rfl (by kernel_rfl) (by decide) (fun K hK => ?_)
  refine goes_ Tryz.func28 (by kernel_rfl) rfl #[.agg cs] (by rfl) rfl rfl zA ?_
  refine (new_calls cs l N1.out _ N2.out N3.out (by rw [HLL.out]; omega)).mono ?_
  rintro e w5 ⟨g, rfl, jg, jm, mh, st, cs', A', c', hB, hC', hD, hS, hJ, hM, hH, hb⟩
  refine ⟨_, rfl, ?_⟩
  have BB := Aside0.mk hB
  have HC' := Aside0.mk hC'
  have RS_ := Aside0.mk hS
  have JJ := Aside0.mk (And.intro hJ (And.intro hM hH))
  have GB := Aside0.mk (blk_lt hB)
  replace B1 := Aside0.mk (blk_below B1.out hb)
  replace RL := Aside0.mk (Kd.R_below RL.out hb)
  replace HB := Aside0.mk (below_step HB.out hb)
  obtain ⟨As, cc, rfl⟩ := Kd.R_slice RS_.out
  clear hB hC' hD hS hJ hM hH hb
  refine hK.out _ _ B1.out (fun hHeld => ?_)
  clear hK K
  refine norm_ (a' := ?_) ?_ ?_
  rotate_left
  · show Act.put _ (some 12) _ = _
    simp only [Act.put, List.setIfInBounds_toArray, List.set_cons_zero, List.set_cons_succ, i64_w, i32_w]
    rfl
  obtain ⟨xs, hxs⟩ : ∃ xs, xs = l.map (·.f2) := ⟨_, rfl⟩
  have hxl : xs.length = 4 := by rw [hxs, List.length_map]; exact HLL.out
  rw [← hxs] at RS_ BB
  rw [hxl] at RS_ BB
  have HXL := Aside0.mk hxl
  clear hxs hxl
  obtain ⟨he4, hcc, hCx⟩ := Kd.R_reads' RS_.out
  rw [HXL.out] at hCx
  clear he4
  refine one_ (i := 3) (N := some 13) (bz 10 15) rfl rfl (by kernel_rfl) (by decide) (fun K hK => ?_)
  refine goes_ Tryz.func24 (by kernel_rfl) rfl #[.pointer (some ⟨g, 0, none⟩)] (by rfl) rfl rfl zA ?_
  refine (bstate_calls cs' As 4 cc xs g jg jm mh HC'.out.sz _ BB.out HXL.out.symm hCx hcc (by omega) JJ.out.1 JJ.out.2.1 JJ.out.2.2).mono ?_
  rintro e w6 ⟨v, rfl, hR, hb⟩
  refine ⟨_, rfl, ?_⟩
  obtain ⟨Av, cv, hv⟩ := Kd.R_slice hR
  rw [HXL.out] at hv
  subst hv
  replace B1 := Aside0.mk (blk_below B1.out hb)
  replace RL := Aside0.mk (Kd.R_below RL.out hb)
  replace HB := Aside0.mk (below_step HB.out hb)
  clear hb hCx hcc hR BB JJ RS_ GB
  refine hK.out _ _ B1.out (fun hHeld => ?_)
  clear hK K
  refine norm_ (a' := ?_) ?_ ?_
  rotate_left
  · show Act.put _ (some 13) _ = _
    simp only [Act.put, List.setIfInBounds_toArray, List.set_cons_zero, List.set_cons_succ, i64_w, i32_w]
    rfl
  refine one_ (i := 4) (N := some 14) (bz 10 31) rfl rfl (by kernel_rfl) (by decide) (fun K hK => ?_)
  refine goes_ Tryz.func27 (by kernel_rfl) rfl #[.agg cs, .agg #[.slice Av 4 cv, .slice none 0 0, .slice none 0 0, .slice none 0 0, .slice none 0 0, .int .u32 1, .int .u32 1]] (by rfl) rfl rfl zA ?_
  refine (tables_nil cs HC.out _ (by omega) (by omega) (by omega) Av cv).mono ?_
  rintro e w7 ⟨vt, rfl, hR, hb⟩
  refine ⟨_, rfl, ?_⟩
  have RT := Aside0.mk (Kd.R_lower hR HB.out.size)
  replace B1 := Aside0.mk (blk_below B1.out hb)
  replace RL := Aside0.mk (Kd.R_below RL.out hb)
  replace HB := Aside0.mk (below_step HB.out hb)
  clear hb hR
  refine hK.out _ _ B1.out (fun hHeld => ?_)
  clear hK K
  refine norm_ (a' := ?_) ?_ ?_
  rotate_left
  · show Act.put _ (some 14) _ = _
    simp only [Act.put, List.setIfInBounds_toArray, List.set_cons_zero, List.set_cons_succ, i64_w, i32_w]
    rfl
  refine pureZ (some 9) (bz 10 63) (i := 5) (hc := (by kernel_rfl)) (h := ?_)
  refine pureZ (some 15) (bz 10 127) (i := 6) (hc := (by kernel_rfl)) (h := ?_)
  refine pureZ (some 2) (bz 10 383) (i := 8) (hc := (by kernel_rfl)) (h := ?_)
  refine pureZ (some 16) (bz 10 511) (i := 7) (hc := (by kernel_rfl)) (h := ?_)
  refine pureZ (some 3) (bz 10 1023) (i := 9) (hc := (by kernel_rfl)) (h := ?_)
  refine done_ (by kernel_rfl) ?_
  obtain ⟨At, ct, rfl⟩ := Kd.R_slice RT.out
  obtain ⟨he, hct, hCt⟩ := Kd.R_reads' RT.out
  have CT := Aside0.mk (And.intro hct hCt)
  clear he hct hCt
  simp only [List.length_cons, List.length_nil, Nat.zero_add, Nat.reduceAdd] at CT ⊢
  go_wp2_with (first | (refine load_cfg (cs := cs) (g := g1) (by rfl) (by rfl) (by rfl) HC.out.sz B1.out ?_) | ((with_reducible refine gate_dst (N := 20) rfl ?_); refine Kd.R_lit (Kd.int .i64) (w0 := w) w.heap.size 2 ?hg (N := 20) ?hd (xs := ([5, 0, 0, 0] : List Int)) (inner := [.int .i64 5, .int .i64 0, .int .i64 0, .int .i64 0]) (ok := fun _ => True) (okp := fun _ => False) ?hr ?hp (fun _ _ => trivial) trivial HB.out HB.out.size (by simp) ?_; (case hd => rfl); (case hg => rfl); (case hr => first | (go_simp; done) | (go_simp; rfl)); (case hp => exact reps4 _ _ _); intro v8 w8 h8 hb8 hg8 _; have R8 := Aside0.mk h8; have HW := Aside0.mk (show Below w7.heap.size w7 w8 from ⟨hg8.os, hg8.tape, hg8.output, hg8.size, fun k hk => hg8.block k hk (by simp)⟩); replace B1 := Aside0.mk (blk_below B1.out HW.out); replace HB := Aside0.mk hb8; clear h8 hb8 hg8) | fail)
  obtain ⟨A8, c8, rfl⟩ := Kd.R_slice R8.out
  obtain ⟨he, hc8, hC8⟩ := Kd.R_reads' R8.out
  refine (parse_nil cs HC.out w8 (by omega) (by omega) (by omega) At ct (by simpa using CT.out.1) (Kd.C_below (by simpa using CT.out.2) HW.out) A8 4 c8 [5, 0, 0, 0] (by simpa using hC8) rfl).mono ?_
  rintro e w9 ⟨A2, n2, c2, rfl, hb⟩
  replace B1 := Aside0.mk (blk_below B1.out hb)
  replace HB := Aside0.mk (below_step HB.out hb)
  clear hb he hc8 hC8 R8 HW
  have hcv : (convert 22 22 (.slice (some ⟨w9.heap.size + 1, 0, none⟩) 5 5)).run Tryz.prog ((w9.alloc (.cells #[.slice A2 n2 c2, .slice none 0 0, .slice none 0 0, .slice none 0 0, .slice none 0 0, .int .u32 1, .int .u32 1] 83)).alloc (.cells #[.int .u8 97, .int .u8 98, .int .u8 99, .int .u8 100, .int .u8 101] 5)) = .ok (.slice (some ⟨w9.heap.size + 1, 0, none⟩) 5 5) ((w9.alloc (.cells #[.slice A2 n2 c2, .slice none 0 0, .slice none 0 0, .slice none 0 0, .slice none 0 0, .int .u32 1, .int .u32 1] 83)).alloc (.cells #[.int .u8 97, .int .u8 98, .int .u8 99, .int .u8 100, .int .u8 101] 5 (5, 6))) := by
    have := @Lib.run_convert_bytes_const Tryz.prog (w9.alloc (.cells #[.slice A2 n2 c2, .slice none 0 0, .slice none 0 0, .slice none 0 0, .slice none 0 0, .int .u32 1, .int .u32 1] 83)) 22 5 #[.int .u8 97, .int .u8 98, .int .u8 99, .int .u8 100, .int .u8 101] 5 5 Tryz.underlying22 Tryz.underlying5
    simpa using this
  go_wp2_with (first | fail)
  clear hcv
  have BS := Aside0.mk (blk_alloc (heap_alloc_new w9 (.cells #[.slice A2 n2 c2, .slice none 0 0, .slice none 0 0, .slice none 0 0, .slice none 0 0, .int .u32 1, .int .u32 1] 83)) (.cells #[.int .u8 97, .int .u8 98, .int .u8 99, .int .u8 100, .int .u8 101] 5 (5, 6)))
  have BA := heap_alloc_new (w9.alloc (.cells #[.slice A2 n2 c2, .slice none 0 0, .slice none 0 0, .slice none 0 0, .slice none 0 0, .int .u32 1, .int .u32 1] 83)) (.cells #[.int .u8 97, .int .u8 98, .int .u8 99, .int .u8 100, .int .u8 101] 5 (5, 6))
  rw [size_al] at BA
  replace HB := Aside0.mk (below_alloc (below_alloc HB.out (.cells #[.slice A2 n2 c2, .slice none 0 0, .slice none 0 0, .slice none 0 0, .slice none 0 0, .int .u32 1, .int .u32 1] 83)) (.cells #[.int .u8 97, .int .u8 98, .int .u8 99, .int .u8 100, .int .u8 101] 5 (5, 6)))
  obtain ⟨g9, hg9⟩ : ∃ g9, g9 = w9.heap.size := ⟨_, rfl⟩
  generalize (w9.alloc (.cells #[.slice A2 n2 c2, .slice none 0 0, .slice none 0 0, .slice none 0 0, .slice none 0 0, .int .u32 1, .int .u32 1] 83)).alloc (.cells #[.int .u8 97, .int .u8 98, .int .u8 99, .int .u8 100, .int .u8 101] 5 (5, 6)) = w10 at *
  rw [← hg9] at *
  refine (split_calls (some ⟨g9 + 1, 0, none⟩) 5 [97, 98, 99, 100, 101] (by simp) (by simp) 2 w10 (abc_C BA)).mono ?_
  rintro e w11 ⟨vo, rfl, hR, hb⟩
  rw [show cutS 2 [97, 98, 99, 100, 101] = [[97, 98], [99, 100], [101]] from rfl] at hR
  replace HB := Aside0.mk (below_step HB.out hb)
  replace BS := Aside0.mk (blk_below BS.out hb)
  obtain ⟨Ao, co, rfl⟩ := Kd.R_slice hR
  obtain ⟨he, hco, hCo⟩ := Kd.R_reads' hR
  obtain ⟨ad, ce, rfl, hce, ⟨A5, c5, rfl, hc5, hC5⟩, hcell⟩ := Kd.C_get hCo [] 2 (by omega) (by simp)
  have k2 : w11.cell? ⟨ad.block, ad.off + 2, none⟩ = some (.slice A5 1 c5) := hcell 0 _ rfl
  have hst : (convert 22 9 (.slice A5 1 c5)).run Tryz.prog w11 = .ok (.string ⟨#[101]⟩) w11 := Kd.C_string (P := Tryz.prog) (src := 22) (dst := 9) (e := 5) (c := c5) Tryz.underlying22 Tryz.underlying5 Tryz.underlying9 hC5
  have k5 := (blk_cell BS.out 5).trans rfl
  clear hR hb he hco hCo hc5 hC5 hcell hg9
  go_wp2_with (first | fail)
  go_ret
  exact ⟨rfl, HB.out⟩
end Go.Proofs.YteeclengpnjlgaaGreat.I
