import Derived.Test.YteeclengpnjlgaaGreatH1
import Derived.Test.YteeclengpnjlgaaGreatCfg
import Derived.Test.YteeclengpnjlgaaGreatWr
import Derived.IntWalk
/- conf.Heads: how many heads there are, by both. -/
namespace Go.Proofs.YteeclengpnjlgaaGreat.I
open Go.RowKit Go.Proofs.YteeclengpnjlgaaGreatW.PrintWords Go.Proofs.YteeclengpnjlgaaGreatW.PrintLast Go.Proofs.YteeclengpnjlgaaGreatW.PrintMore Go.Proofs.YteeclengpnjlgaaGreat
set_option linter.unusedVariables false
set_option linter.unusedSimpArgs false
/-- How many fields there are; how many heads, of n fields each. -/
def fld (sk wa : Int) : Int := 2 * sk * wa + 2 * sk
def hdN (F n : Int) : Int := (F + n - 1) / n
theorem pieces_all : ∀ F : Nat, F < 25 → ∀ n : Nat, n < 36 → H.conf_pieces.f (F : Int) ((n : Int) + 1) = some (hdN F ((n : Int) + 1)) ∧ blocksN (F : Int) ((n : Int) + 1) = hdN F ((n : Int) + 1) := by decide +kernel
theorem count_all : ∀ s : Nat, s < 3 → ∀ v : Nat, v < 3 → H.key_Count.f ((s : Int) + 1) ((v : Int) + 1) = some (fld ((s : Int) + 1) ((v : Int) + 1)) ∧ 4 ≤ fld ((s : Int) + 1) ((v : Int) + 1) ∧ fld ((s : Int) + 1) ((v : Int) + 1) ≤ 24 := by decide +kernel
theorem count_is {sk wa : Int} (h1 : 1 ≤ sk ∧ sk ≤ 3) (h2 : 1 ≤ wa ∧ wa ≤ 3) : H.key_Count.f sk wa = some (fld sk wa) ∧ 4 ≤ fld sk wa ∧ fld sk wa ≤ 24 := by
  have := count_all (sk - 1).toNat (by omega) (wa - 1).toNat (by omega)
  rwa [show (((sk - 1).toNat : Nat) : Int) + 1 = sk by omega, show (((wa - 1).toNat : Nat) : Int) + 1 = wa by omega] at this
theorem pieces_is {F n : Int} (h1 : 0 ≤ F ∧ F ≤ 24) (h2 : 1 ≤ n ∧ n ≤ 36) : H.conf_pieces.f F n = some (hdN F n) ∧ blocksN F n = hdN F n := by
  have := pieces_all F.toNat (by omega) (n - 1).toNat (by omega)
  rwa [show ((F.toNat : Nat) : Int) = F by omega, show (((n - 1).toNat : Nat) : Int) + 1 = n by omega] at this
theorem res_eq {a b : Int} {w : World} (h : a = b) : Result.ok (Next.value (.int .i64 a)) w = Result.ok (Next.value (.int .i64 b)) w := by rw [h]
set_option maxHeartbeats 8000000 in
set_option maxRecDepth 100000 in
theorem cheads_calls (cs : Array Value) {sk wa sa od re sg cp bl bs : Int} {A : Option Addr} {n c : Nat} (hc : Cf cs sk wa sa od re sg cp bl bs A n c) (w : World) (h1 : 1 ≤ sk ∧ sk ≤ 3) (h2 : 1 ≤ wa ∧ wa ≤ 3) (h3 : 64 ≤ bl ∧ bl ≤ 575) :
    Calls Tryz.prog 32 #[.agg cs] w fun e w' => e = .returned (.int .i64 (hdN (fld sk wa) (bl / 16))) ∧ Below w.heap.size w w' := by
  have BX := Aside0.mk (heap_alloc_new w (.cells cs 37))
  have HC := Aside0.mk hc
  have HCT := Aside0.mk (count_is h1 h2)
  have HPC := Aside0.mk (pieces_is (F := fld sk wa) (n := bl / 16) (by have := HCT.out.2; omega) (by omega))
  have HDV := Aside0.mk (show IntKind.i64.wrap (bl.tdiv 16) = bl / 16 by rw [Int.tdiv_eq_ediv_of_nonneg (by omega)]; exact IntWalk.i64_in _ (by omega))
  have hn : ¬ bl < 0 := by omega
  clear hc h1 h2
  go_enter Tryz.func32, Tryz.ntmps32
  go_wp2_with (first | fail)
  replace BX := Aside0.mk (show (w.alloc (.cells cs 37)).drew.heap[w.heap.size]? = some (.cells cs 37 (0, 0)) from blk_drew BX.out)
  have HB := Aside0.mk (below_drew1 (below_alloc (Below.refl w.heap.size w) (.cells cs 37)))
  refine start_ (n := 11) (S := fun w' => w'.cell? ⟨w.heap.size, 0, none⟩ = some (.int .i64 sk) ∧ w'.cell? ⟨w.heap.size, 1, none⟩ = some (.int .i64 wa) ∧ w'.cell? ⟨w.heap.size, 24, none⟩ = some (.int .i64 bl)) (ds := []) (bz 11 0) (by kernel_rfl) rfl (by kernel_rfl) ⟨cf_at BX.out 0 HC.out.c0, cf_at BX.out 1 HC.out.c1, cf_at BX.out 24 HC.out.c24⟩ (fun hHeld => ?_)
  generalize (w.alloc (.cells cs 37)).drew = W1 at *
  refine pureZ (some 3) (bz 11 1) (i := 0) (hc := (by kernel_rfl)) (h := ?_)
  refine takeZ (some 4) (bz 11 3) (i := 1) (hc := (by kernel_rfl)) (h := ?_)
  refine pureZ (some 5) (bz 11 7) (i := 2) (hc := (by kernel_rfl)) (h := ?_)
  refine takeZ (some 6) (bz 11 15) (i := 3) (hc := (by kernel_rfl)) (h := ?_)
  refine pureZ (some 8) (bz 11 47) (i := 5) (hc := (by kernel_rfl)) (h := ?_)
  refine takeZ (some 9) (bz 11 111) (i := 6) (hc := (by kernel_rfl)) (h := ?_)
  refine pureZ (some 10) (bz 11 239) (i := 7) (v := .int .i64 bl) (hc := (by kernel_rfl)) (hy := Or.inl ⟨by rfl, by intro w'; go_simp; omega⟩) (h := ?_)
  refine pureZ (some 11) (bz 11 495) (i := 8) (v := .int .i64 (bl / 16)) (hc := (by kernel_rfl)) (hy := Or.inl ⟨by rfl, by intro w'; go_simp; exact HDV.out⟩) (h := ?_)
  refine one_ (i := 4) (N := some 7) (bz 11 511) rfl rfl (by kernel_rfl) (by decide) (fun K hK => ?_)
  refine goes_ Tryz.func86 (by kernel_rfl) rfl #[.int .i64 sk, .int .i64 wa] (by rfl) rfl rfl zA ?_
  refine (H.key_Count.calls sk wa _ _ HCT.out.1).mono ?_
  rintro e w3 ⟨rfl, hd⟩
  refine ⟨_, rfl, ?_⟩
  replace BX := Aside0.mk (blk_below BX.out (drawn_below hd))
  replace HB := Aside0.mk (below_step HB.out (drawn_below hd))
  clear hd
  refine hK.out _ _ ⟨cf_at BX.out 0 HC.out.c0, cf_at BX.out 1 HC.out.c1, cf_at BX.out 24 HC.out.c24⟩ (fun hHeld => ?_)
  clear hK K
  refine norm_ (a' := ?_) ?_ ?_
  rotate_left
  · show Act.put _ (some 7) _ = _
    simp only [Act.put, List.setIfInBounds_toArray, List.set_cons_zero, List.set_cons_succ, i64_w, i32_w]
    rfl
  refine one_ (i := 9) (N := some 12) (bz 11 1023) rfl rfl (by kernel_rfl) (by decide) (fun K hK => ?_)
  refine goes_ Tryz.func85 (by kernel_rfl) rfl #[.int .i64 (fld sk wa), .int .i64 (bl / 16)] (by rfl) rfl rfl zA ?_
  refine (H.conf_pieces.calls _ _ _ _ HPC.out.1).mono ?_
  rintro e w4 ⟨rfl, hd⟩
  refine ⟨_, rfl, ?_⟩
  replace BX := Aside0.mk (blk_below BX.out (drawn_below hd))
  replace HB := Aside0.mk (below_step HB.out (drawn_below hd))
  clear hd
  refine hK.out _ _ ⟨cf_at BX.out 0 HC.out.c0, cf_at BX.out 1 HC.out.c1, cf_at BX.out 24 HC.out.c24⟩ (fun hHeld => ?_)
  clear hK K
  refine norm_ (a' := ?_) ?_ ?_
  rotate_left
  · show Act.put _ (some 12) _ = _
    simp only [Act.put, List.setIfInBounds_toArray, List.set_cons_zero, List.set_cons_succ, i64_w, i32_w]
    rfl
  refine pureZ (some 2) (bz 11 2047) (i := 10) (hc := (by kernel_rfl)) (h := ?_)
  refine done_ (by kernel_rfl) ?_
  go_wp2_with (first | fail)
  go_ret
  exact ⟨rfl, HB.out⟩
theorem headsN_is {sk wa bl : Int} (h1 : 1 ≤ sk ∧ sk ≤ 3) (h2 : 1 ≤ wa ∧ wa ≤ 3) (h3 : 64 ≤ bl ∧ bl ≤ 575) : headsN sk wa bl = hdN (fld sk wa) (bl / 16) := by
  unfold headsN
  have hw : wrap64 (bl.tdiv 16) = bl / 16 := by
    rw [Int.tdiv_eq_ediv_of_nonneg (by omega)]
    unfold wrap64
    omega
  rw [hw]
  exact (pieces_is (F := fld sk wa) (n := bl / 16) (by have := count_is h1 h2; omega) (by omega)).2
theorem load_cfgG {ops : Array Oper} {rest : List Oper} {o : Oper} {a : Act} {w : World} {Q : Exit → Act → World → Prop} {cs : Array Value} {g : Nat} {x : Operand} (hw : Region.wanted o (yielded ops a.tmps) = true) (ho : o.op = .load 37 x)
    (hx : a.eval x = .pointer (some ⟨g, 0, none⟩)) (hs : cs.size = 26) (hg : w.heap[g]? = some (.cells cs 37 (0, 0))) (h : wpList Tryz.prog ops Q rest (a.put o.dst (.agg cs)) w) : wpList Tryz.prog ops Q (o :: rest) a w := by
  unfold wpList
  rw [if_pos hw]
  left
  have hr := run_load_cfg (a := a) ho w g cs hx hs hg
  unfold Oper.wp
  rw [hr]
  exact h
/-- A field's bytes in a head; a head's bytes. -/
def ent (at_ v : Int) : List Int := wB (v % 18446744073709551616) 8 ++ wB (at_ % 18446744073709551616) 8
theorem ent_len (a v : Int) : (ent a v).length = 16 := by unfold ent; rw [List.length_append, wB_length, wB_length]
def ents (at_ : Int) (l : List Int) : List Int := (l.map (ent at_)).flatten
theorem ents_len (a : Int) (l : List Int) : (ents a l).length = 16 * l.length := by
  unfold ents
  induction l with
  | nil => rfl
  | cons x l ih => rw [List.map_cons, List.flatten_cons, List.length_append, ih, ent_len, List.length_cons]; omega
theorem ents_snoc (a : Int) (l : List Int) (k : Nat) (x : Int) (h : l[k]? = some x) : ents a (l.take k) ++ ent a x = ents a (l.take (k + 1)) := by
  unfold ents
  rw [List.take_add_one, h, List.map_append, List.flatten_append]
  simp
def chunk (nn k : Nat) (vs : List Int) : List Int := (vs.drop (k * nn)).take nn
def headF (n nn : Nat) (hd : Int) (vs : List Int) (i at_ : Int) : List Int × Int := if vs.length ≠ n ∨ i < 0 ∨ hd ≤ i ∨ at_ < 0 then ([], 1) else (ents at_ (chunk nn i.toNat vs), 0)
theorem infV : (Tryz.prog.info? 2).map (fun i => (i.zero, i.size, i.bytes)) = some (some (.int .i64 0), 1, 8) := by kernel_rfl
set_option maxHeartbeats 8000000 in
set_option maxRecDepth 100000 in
theorem head_good (cs : Array Value) {sk wa sa od re sg cp bl bs : Int} {A : Option Addr} {n c : Nat} (hc : Cf cs sk wa sa od re sg cp bl bs A n c) (w : World) (h1 : 1 ≤ sk ∧ sk ≤ 3) (h2 : 1 ≤ wa ∧ wa ≤ 3) (h3 : 64 ≤ bl ∧ bl ≤ 575) (hn : (n : Int) = fld sk wa) (Av : Option Addr) (cv : Nat) (vs : List Int) (hv : Kd.C (Kd.int .i64) w Av vs.length vs) (hcv : vs.length ≤ cv) (k : Nat) (at_ : Int) (hl : vs.length = n) (hk : (k : Int) < hdN (fld sk wa) (bl / 16)) (ha : 0 ≤ at_) :
    Calls Tryz.prog 10 #[.agg cs, .slice Av vs.length cv, .int .i64 k, .int .i64 at_] w fun e w' => ∃ v, e = .returned (.tuple #[v, .int .i64 0]) ∧ Kd.R (Kd.int .u8) 5 w' w.heap.size (fun _ => True) v (ents at_ (chunk (bl / 16).toNat k vs)) ∧ Below w.heap.size w w' := by
  have hF := (count_is h1 h2).2
  obtain ⟨nn, hnn⟩ : ∃ nn : Nat, (nn : Int) = bl / 16 := ⟨(bl / 16).toNat, by omega⟩
  have hnn1 : 4 ≤ nn ∧ nn ≤ 35 := by omega
  subst hl
  have hk24 : k < 24 ∧ k * nn < vs.length := by
    unfold hdN at hk
    rw [← hn, ← hnn] at hk
    have h5 : (k : Int) * (nn : Int) < (vs.length : Int) := by
      have h6 : (k : Int) + 1 ≤ ((vs.length : Int) + (nn : Int) - 1) / (nn : Int) := by omega
      have h7 := (Int.le_ediv_iff_mul_le (by omega)).1 h6
      rw [Int.add_mul] at h7
      omega
    have h8 : k * nn < vs.length := by exact_mod_cast h5
    refine ⟨?_, h8⟩
    have : k * 4 ≤ k * nn := Nat.mul_le_mul_left _ hnn1.1
    omega
  obtain ⟨q, hq⟩ : ∃ q, q = k * nn := ⟨_, rfl⟩
  obtain ⟨e, he1, he2, he3, hch, hec⟩ : ∃ e : Nat, q < e ∧ e ≤ vs.length ∧ e - q ≤ nn ∧ chunk nn k vs = (vs.take e).drop q ∧ ((vs.length : Int) < (q : Int) + (nn : Int) ∧ e = vs.length ∨ ¬ (vs.length : Int) < (q : Int) + (nn : Int) ∧ e = q + nn) := by
    by_cases hx : vs.length < q + nn
    · refine ⟨vs.length, by omega, Nat.le_refl _, by omega, ?_, Or.inl ⟨by omega, rfl⟩⟩
      unfold chunk
      rw [List.take_of_length_le (Nat.le_refl _), ← hq, List.take_of_length_le (by rw [List.length_drop]; omega)]
    · refine ⟨q + nn, by omega, by omega, by omega, ?_, Or.inr ⟨by omega, rfl⟩⟩
      unfold chunk
      rw [← hq, List.drop_take]
      congr 1
      omega
  obtain ⟨i0, hi, hz0, hz1, hz2⟩ := info_parts infV
  obtain ⟨A1, hcut, hA1, hA2⟩ := print_mid_int (P := Tryz.prog) (k := .i64) 30 2 (i := i0) Tryz.underlying30 hi hz1 Av cv vs (q : Int) (e : Int) (by omega) (by omega) (by omega) hcv
  rw [Int.toNat_natCast, Int.toNat_natCast, ← hch] at hcut hA1 hA2
  obtain ⟨CH, hCH⟩ : ∃ CH, CH = chunk nn k vs := ⟨_, rfl⟩
  rw [← hCH] at hcut hA1 hA2
  have hCl : CH.length = e - q := by rw [hCH, hch, List.length_drop, List.length_take]; omega
  have CC := Aside0.mk (show Kd.C (Kd.int .i64) w A1 CH.length CH from Kd.C_of_reads (readsInt_of.1 (hA1 w (readsInt_of.2 (Kd.reads_of_C hv)))))
  have HCL := Aside0.mk (show 0 < CH.length ∧ CH.length ≤ nn ∧ 16 * (nn : Int) ≤ bl by omega)
  have HN := Aside0.mk (show (vs.length : Int) = fld sk wa from hn)
  have HCH := Aside0.mk (show CH = chunk (bl / 16).toNat k vs by rw [hCH]; congr 1; omega)
  have hm1 : (k : Int) * (nn : Int) = (q : Int) := by rw [hq]; exact (Int.natCast_mul k nn).symm
  have hm2 : ((k : Int) + 1) * (nn : Int) = (q : Int) + (nn : Int) := by rw [Int.add_mul, hm1]; omega
  have hb1 : (q : Int) ≤ 1000 := by have := hF.2; omega
  have hb2 : (q : Int) + (nn : Int) ≤ 1000 := by have := hF.2; omega
  have hb3 : (0 : Int) ≤ (q : Int) + (nn : Int) := by omega
  have hb4 : (k : Int) ≤ 24 := by omega
  have hb5 : ¬ (vs.length : Int) < (q : Int) := by omega
  have hb6 : ¬ hdN (fld sk wa) (nn : Int) ≤ (k : Int) := by rw [hnn]; omega
  have hb7 : ¬ at_ < 0 := by omega
  have hb8 : decide ((k : Int) < 0) = false := by simp
  have hb9 : (CH.length : Int) ≤ 1000 := by have := HCL.out; omega
  have BX := Aside0.mk (heap_alloc_new w (.cells cs 37))
  have HB := Aside0.mk (below_alloc (Below.refl w.heap.size w) (.cells cs 37))
  have HC := Aside0.mk hc
  have c2 := cf_at BX.out 2 hc.c2
  have c24 := cf_at BX.out 24 hc.c24
  have HH := Aside0.mk (And.intro h1 h2)
  have H3 := Aside0.mk h3
  have hnn' : bl / 16 = (nn : Int) := hnn.symm
  clear hc hv hch hCH hCl hA1 hq he3 hn hF hnn hnn1 hk24 hi hz0 hz1 hz2 hk h1 h2
  rcases hec with ⟨hx, rfl⟩ | ⟨hx, rfl⟩
  case' inr => rw [Int.natCast_add] at hcut
  all_goals
    go_enter Tryz.func10, Tryz.ntmps10
    go_wp2_with (first | (refine load_cfgG (cs := cs) (g := w.heap.size) (by rfl) (by rfl) (by rfl) HC.out.sz BX.out ?_) | fail)
    refine (cheads_calls cs HC.out _ HH.out.1 HH.out.2 H3.out).mono ?_
    rintro e w2 ⟨rfl, hb⟩
    rw [hnn']
    replace BX := Aside0.mk (blk_below BX.out hb)
    replace HB := Aside0.mk (below_step HB.out hb)
    clear hb c2 c24
    have c24 := cf_at BX.out 24 HC.out.c24
    go_wp2_with (first | fail)
    refine (Go.Proofs.YteeclengpnjlgaaGreat.new_calls bl (by have := H3.out; omega) _).mono ?_
    rintro e w3 ⟨rfl, rfl⟩
    have WW := Aside0.mk (new_at w2 w.heap.size HB.out.size bl)
    replace HB := Aside0.mk (below_alloc HB.out (.cells #[.int .i64 0, .slice none 0 0, .int .i64 bl] 170))
    obtain ⟨gw, hgw⟩ : ∃ gw, gw = w2.heap.size := ⟨_, rfl⟩
    rw [← hgw] at WW ⊢
    generalize w2.alloc (.cells #[.int .i64 0, .slice none 0 0, .int .i64 bl] 170) = w3 at WW HB ⊢
    clear hgw c24 BX
    go_wp2_with (first | fail)
    go_loopw [56] (fun v56 wr => ∃ j : Nat, v56 = .int .i64 (j : Int) ∧ j ≤ CH.length ∧ Aside0 (WrAt wr w.heap.size gw (ents at_ (CH.take j)) bl) ∧ Aside0 (Below w.heap.size w wr)) (fun v56 _ => CH.length - (RowKit.intOf v56).toNat)
    case atStart => exact ⟨0, rfl, Nat.zero_le _, WW, HB⟩
    case round =>
      clear WW HB
      obtain ⟨j, rfl, hj, WW, HB⟩ := hrel
      by_cases hlt : j < CH.length
      · have hj1 : (0 : Int) ≤ (j : Int) := by omega
        have hj2 : (j : Int) < (CH.length : Int) := by omega
        obtain ⟨ad, hA, hcell⟩ := (readsInt_of.2 (Kd.reads_of_C (Kd.C_below CC.out HB.out))).at_ (j : Int) hj1 hj2
        rw [Int.toNat_natCast] at hcell
        obtain ⟨x, hx⟩ : ∃ x, x = rd CH (j : Int) := ⟨_, rfl⟩
        rw [← hx] at hcell
        have hxj : CH[j]? = some x := by
          rw [hx]
          unfold rd
          rw [Int.toNat_natCast, List.getD_eq_getElem?_getD, List.getElem?_eq_getElem hlt]
          rfl
        have HSN := Aside0.mk (ents_snoc at_ CH j x hxj)
        have HLT := Aside0.mk hlt
        have HE := Aside0.mk (show (ents at_ (CH.take j)).length = 16 * j by rw [ents_len, List.length_take]; congr 1; omega)
        have hA' := hA
        subst hA'
        clear hx hxj hA
        go_wp2_with (first | fail)
        refine (wint_calls w.heap.size gw _ bl x (by have := HE.out; have := HCL.out; have := HLT.out; omega) (by have := H3.out; omega) _ WW.out).mono ?_
        rintro e w4 ⟨rfl, hW, hB, _⟩
        replace WW := Aside0.mk hW
        replace HB := Aside0.mk (HB.out.trans hB)
        clear hW hB hcell
        go_wp2_with (first | fail)
        refine (wint_calls w.heap.size gw _ bl at_ (by have := HE.out; have := HCL.out; have := HLT.out; rw [List.length_append, wB_length]; omega) (by have := H3.out; omega) _ WW.out).mono ?_
        rintro e w5 ⟨rfl, hW, hB, _⟩
        rw [List.append_assoc] at hW
        replace WW := Aside0.mk (HSN.out ▸ hW)
        replace HB := Aside0.mk (HB.out.trans hB)
        clear hW hB
        go_wp2_with (first | fail)
        go_roundw
        case measure => have := HLT.out; simp only [RowKit.intOf]; omega
        case rel => exact ⟨j + 1, by go_num, HLT.out, WW, HB⟩
      · obtain rfl : j = CH.length := by omega
        rw [List.take_length] at WW
        clear hlt hj
        go_wp2_with (first | fail)
        refine (done_calls w.heap.size gw _ bl (by rw [ents_len]; have := HCL.out; omega) (by rw [ents_len]; have := HCL.out; have := H3.out; omega) _ WW.out).mono ?_
        rintro e w6 ⟨v, rfl, hR, hb⟩
        have RR := Aside0.mk (Kd.R_lower hR HB.out.size)
        replace HB := Aside0.mk (below_step HB.out hb)
        clear hR hb
        go_wp2_with (first | fail)
        rw [HCH.out] at RR
        exact bodyPost_ret (v := .tuple #[v, .int .i64 0]) (by simp [results, Tryz.results10, go_sem]) rfl ⟨v, rfl, RR.out, HB.out⟩
theorem wB_cons (x : Int) (m : Nat) : wB x (m + 1) = (x % 256) :: wB (x / 256) m := by
  unfold wB
  rw [List.range_succ_eq_map, List.map_cons, List.map_map]
  congr 1
  · simp
  · refine List.map_congr_left (fun i _ => ?_)
    show x / 256 ^ (i + 1) % 256 = x / 256 / 256 ^ i % 256
    rw [Int.pow_succ, Int.mul_comm, ← Int.ediv_ediv_of_nonneg (by decide)]
theorem num_l0 : ∀ (m : Nat) (x : Int) (acc : List Int) (i : Nat), 0 ≤ x → x < 18446744073709551616 → i + m = 8 → acc.length ≤ i → H.pledgeref03_Num.l0 (m + 1) x 8 acc (i : Int) = some (acc ++ wB x m)
  | 0, x, acc, i, h0, h1, hi, ha => by
    rw [H.pledgeref03_Num.l0, if_neg (by omega)]
    simp [wB]
  | m + 1, x, acc, i, h0, h1, hi, ha => by
    rw [H.pledgeref03_Num.l0, if_pos (by omega), if_pos (by omega)]
    have e1 : IntKind.u64.wrap (x.tdiv 256) = x / 256 := by rw [Int.tdiv_eq_ediv_of_nonneg h0, IntKind.wrap_u64]; omega
    have e2 : x.tmod 256 % 256 = x % 256 := by rw [Int.tmod_eq_emod_of_nonneg h0]; omega
    have e3 : wrap64 ((i : Int) + 1) = ((i + 1 : Nat) : Int) := by unfold wrap64; omega
    rw [e1, e2, e3, num_l0 m (x / 256) (acc ++ [x % 256]) (i + 1) (by omega) (by omega) (by omega) (by rw [List.length_append, List.length_singleton]; omega), wB_cons, List.append_assoc]
    rfl
theorem rint_is (x : Int) : H.pledgeref03_Int.f 9 x = some (wB (x % 18446744073709551616) 8) := by
  unfold H.pledgeref03_Int.f H.pledgeref03_Num.f
  have e1 : IntKind.u64.wrap x = x % 18446744073709551616 := by rw [IntKind.wrap_u64]
  have := num_l0 8 (x % 18446744073709551616) [] 0 (by omega) (by omega) (by omega) (Nat.le_refl _)
  rw [e1]
  simp only [Int.ofNat_zero, List.nil_append] at this
  rw [show (9 : Nat) = 8 + 1 from rfl]
  erw [this]
  rfl
set_option maxHeartbeats 8000000 in
set_option maxRecDepth 100000 in
theorem rhead_good (cs : Array Value) {sk wa sa od re sg cp bl bs : Int} {A : Option Addr} {n c : Nat} (hc : Cf cs sk wa sa od re sg cp bl bs A n c) (w : World) (h1 : 1 ≤ sk ∧ sk ≤ 3) (h2 : 1 ≤ wa ∧ wa ≤ 3) (h3 : 64 ≤ bl ∧ bl ≤ 575) (hn : (n : Int) = fld sk wa) (Av : Option Addr) (cv : Nat) (vs : List Int) (hv : Kd.C (Kd.int .i64) w Av vs.length vs) (hcv : vs.length ≤ cv) (k : Nat) (at_ : Int) (hl : vs.length = n) (hk : (k : Int) < hdN (fld sk wa) (bl / 16)) (ha : 0 ≤ at_) :
    Calls Tryz.prog 11 #[.agg cs, .slice Av vs.length cv, .int .i64 k, .int .i64 at_] w fun e w' => ∃ v, e = .returned (.tuple #[v, .int .i64 0]) ∧ Kd.R (Kd.int .u8) 5 w' w.heap.size (fun _ => True) v (ents at_ (chunk (bl / 16).toNat k vs)) ∧ Below w.heap.size w w' := by
  have hF := (count_is h1 h2).2
  obtain ⟨nn, hnn⟩ : ∃ nn : Nat, (nn : Int) = bl / 16 := ⟨(bl / 16).toNat, by omega⟩
  have hnn1 : 4 ≤ nn ∧ nn ≤ 35 := by omega
  subst hl
  have hk24 : k < 24 ∧ k * nn < vs.length := by
    unfold hdN at hk
    rw [← hn, ← hnn] at hk
    have h5 : (k : Int) * (nn : Int) < (vs.length : Int) := by
      have h6 : (k : Int) + 1 ≤ ((vs.length : Int) + (nn : Int) - 1) / (nn : Int) := by omega
      have h7 := (Int.le_ediv_iff_mul_le (by omega)).1 h6
      rw [Int.add_mul] at h7
      omega
    have h8 : k * nn < vs.length := by exact_mod_cast h5
    refine ⟨?_, h8⟩
    have : k * 4 ≤ k * nn := Nat.mul_le_mul_left _ hnn1.1
    omega
  obtain ⟨q, hq⟩ : ∃ q, q = k * nn := ⟨_, rfl⟩
  obtain ⟨e, he1, he2, he3, hch, hec⟩ : ∃ e : Nat, q < e ∧ e ≤ vs.length ∧ e - q ≤ nn ∧ chunk nn k vs = (vs.take e).drop q ∧ ((vs.length : Int) < (q : Int) + (nn : Int) ∧ e = vs.length ∨ ¬ (vs.length : Int) < (q : Int) + (nn : Int) ∧ e = q + nn) := by
    by_cases hx : vs.length < q + nn
    · refine ⟨vs.length, by omega, Nat.le_refl _, by omega, ?_, Or.inl ⟨by omega, rfl⟩⟩
      unfold chunk
      rw [List.take_of_length_le (Nat.le_refl _), ← hq, List.take_of_length_le (by rw [List.length_drop]; omega)]
    · refine ⟨q + nn, by omega, by omega, by omega, ?_, Or.inr ⟨by omega, rfl⟩⟩
      unfold chunk
      rw [← hq, List.drop_take]
      congr 1
      omega
  obtain ⟨CH, hCH⟩ : ∃ CH, CH = chunk nn k vs := ⟨_, rfl⟩
  have hCl : CH.length = e - q := by rw [hCH, hch, List.length_drop, List.length_take]; omega
  have hCa : ∀ p, q ≤ p → p < e → CH[p - q]? = some (vs.getD p 0) := by
    intro p hp1 hp2
    rw [hCH, hch, List.getElem?_drop, List.getElem?_take_of_lt (by omega), show q + (p - q) = p by omega, List.getD_eq_getElem?_getD, List.getElem?_eq_getElem (by omega)]
    rfl
  have HCA := Aside0.mk hCa
  have CC := Aside0.mk hv
  have HCL := Aside0.mk (show 0 < CH.length ∧ CH.length ≤ nn ∧ CH.length = e - q ∧ q < e ∧ e ≤ vs.length by omega)
  have HN := Aside0.mk (show (vs.length : Int) = fld sk wa from hn)
  have HCH2 := Aside0.mk (show CH = chunk nn k vs from hCH)
  have HCH := Aside0.mk (show CH = chunk (bl / 16).toNat k vs by rw [hCH]; congr 1; omega)
  have hm1 : (k : Int) * (nn : Int) = (q : Int) := by rw [hq]; exact (Int.natCast_mul k nn).symm
  have hm2 : ((k : Int) + 1) * (nn : Int) = (q : Int) + (nn : Int) := by rw [Int.add_mul, hm1]; omega
  have hb1 : (q : Int) ≤ 1000 := by have := hF.2; omega
  have hb2 : (q : Int) + (nn : Int) ≤ 1000 := by have := hF.2; omega
  have hb3 : (0 : Int) ≤ (q : Int) + (nn : Int) := by omega
  have hb4 : (k : Int) ≤ 24 := by omega
  have hb5 : ¬ (vs.length : Int) < (q : Int) := by omega
  have hb6 : ¬ hdN (fld sk wa) (nn : Int) ≤ (k : Int) := by rw [hnn]; omega
  have hb7 : ¬ at_ < 0 := by omega
  have hb8 : decide ((k : Int) < 0) = false := by simp
  have hb9 : (e : Int) ≤ 1000 := by have := HCL.out; omega
  have HEC := Aside0.mk hec
  have BX := Aside0.mk (heap_alloc_new w (.cells cs 37))
  have HB := Aside0.mk (below_alloc (Below.refl w.heap.size w) (.cells cs 37))
  have HC := Aside0.mk hc
  have c2 := cf_at BX.out 2 hc.c2
  have c24 := cf_at BX.out 24 hc.c24
  have HH := Aside0.mk (And.intro h1 h2)
  have H3 := Aside0.mk h3
  have hnn' : bl / 16 = (nn : Int) := hnn.symm
  clear hc hv hch hCH hCl hCa hq he1 he2 he3 hn hF hnn hnn1 hk24 hk h1 h2 hec
  go_enter Tryz.func11, Tryz.ntmps11
  go_wp2_with (first | (refine load_cfgG (cs := cs) (g := w.heap.size) (by rfl) (by rfl) (by rfl) HC.out.sz BX.out ?_) | fail)
  refine (heads_calls cs HC.out _ HH.out.1 HH.out.2 (by have := H3.out; omega)).mono ?_
  rintro e_ w2 ⟨rfl, hb⟩
  rw [headsN_is HH.out.1 HH.out.2 H3.out, hnn']
  replace BX := Aside0.mk (blk_below BX.out hb)
  replace HB := Aside0.mk (below_step HB.out hb)
  clear hb c2 c24
  have c24 := cf_at BX.out 24 HC.out.c24
  go_wp2_with (first | fail)
  rw [hnn']
  go_loopw [11, 12] (fun v11 v12 wr => ∃ p : Nat, v12 = .int .i64 (p : Int) ∧ q ≤ p ∧ p ≤ e ∧ Aside0 (Kd.R (Kd.int .u8) 5 wr w.heap.size (fun _ => True) v11 (ents at_ (CH.take (p - q)))) ∧ Aside0 (Below w.heap.size w wr)) (fun _ v12 _ => e - (RowKit.intOf v12).toNat)
  case atStart => exact ⟨q, rfl, Nat.le_refl _, by have := HCL.out; omega, Aside0.mk (by rw [Nat.sub_self]; exact Kd.R_nil _ _ _ _ _), HB⟩
  case round =>
    clear HB BX c24
    obtain ⟨p, rfl, hp1, hp2, HR, HB⟩ := hrel
    by_cases hlt : p < e
    · have t1 : (p : Int) < (vs.length : Int) := by have := HCL.out; omega
      have t2 : decide ((p : Int) - (q : Int) < (nn : Int)) = true := by have := HCL.out; simp; omega
      have t3 : (0 : Int) ≤ (p : Int) - (q : Int) := by omega
      have t4 : (p : Int) - (q : Int) ≤ 1000 := by omega
      have t5 : p < vs.length := by omega
      have t6 : (p : Int) ≤ 1000 := by omega
      obtain ⟨ad, hA, hcell⟩ := (readsInt_of.2 (Kd.reads_of_C (Kd.C_below CC.out HB.out))).at_ (p : Int) (by omega) t1
      rw [Int.toNat_natCast] at hcell
      have hrx : rd vs (p : Int) = vs.getD p 0 := by unfold rd; rw [Int.toNat_natCast]
      obtain ⟨x, hx⟩ : ∃ x, x = vs.getD p 0 := ⟨_, rfl⟩
      rw [hrx, ← hx] at hcell
      have HSN := Aside0.mk (ents_snoc at_ CH (p - q) x (by rw [hx]; exact HCA.out p hp1 hlt))
      have HLT := Aside0.mk (And.intro hlt (And.intro hp1 hp2))
      have HE := Aside0.mk (show (ents at_ (CH.take (p - q))).length ≤ 16000 by rw [ents_len, List.length_take]; omega)
      have hA' := hA
      subst hA'
      clear hx hrx hA hp1 hp2
      go_wp2_with (first | fail)
      refine (H.pledgeref03_Int.calls 9 x _ _ (rint_is x)).mono ?_
      rintro e_ w4 ⟨v4, rfl, hR4, hb4⟩
      obtain ⟨A4, c4, hv4⟩ := Kd.R_slice hR4
      obtain ⟨B4, hB4⟩ : ∃ B4, B4 = wB (x % 18446744073709551616) 8 := ⟨_, rfl⟩
      rw [← hB4] at hR4 hv4
      subst hv4
      obtain ⟨he4, hc4, hC4⟩ := Kd.R_reads' hR4
      have C4 := Aside0.mk hC4
      have L4 := Aside0.mk (show B4.length = 8 by rw [hB4]; exact wB_length _ _)
      have HB4 := Aside0.mk hB4
      replace HR := Aside0.mk (Kd.R_below HR.out hb4)
      replace HB := Aside0.mk (below_step HB.out hb4)
      clear hR4 hb4 he4 hc4 hC4 hB4 hcell
      go_wp2_with (first | ((with_reducible refine gate_builtin (b := .append) (xs := #[.tmp 54, .tmp 59]) rfl ?_); at_builtin; refine Kd.R_append_rows (Kd.int .u8) (Rr := (Kd.int .u8).K w4) (w0 := w) w.heap.size rfl (.tmp 54) (.tmp 59) 22 5 (.int .u8 0) 1 rfl Tryz.underlying22 infoU8 rfl (by decide) (by omega) u11 (ents at_ (CH.take (p - q))) B4 A4 B4.length c4 (fun _ => True) (fun _ => False) rfl rfl HR.out C4.out ?aK (fun _ hk => hk.elim) (fun _ _ => trivial) HB.out HB.out.size ?aL ?_; (case aK => intro x cs hx; obtain rfl := hx; rfl); (case aL => have := HE.out; have := L4.out; omega); intro v5 w5 h5 hb5 _ _; have HR5 := Aside0.mk h5; replace HB := Aside0.mk hb5; clear h5 hb5) | fail)
      refine (H.pledgeref03_Int.calls 9 at_ _ _ (rint_is at_)).mono ?_
      rintro e_ w6 ⟨v6, rfl, hR6, hb6⟩
      obtain ⟨A6, c6, hv6⟩ := Kd.R_slice hR6
      obtain ⟨B6, hB6⟩ : ∃ B6, B6 = wB (at_ % 18446744073709551616) 8 := ⟨_, rfl⟩
      rw [← hB6] at hR6 hv6
      subst hv6
      obtain ⟨he6, hc6, hC6⟩ := Kd.R_reads' hR6
      have C6 := Aside0.mk hC6
      have L6 := Aside0.mk (show B6.length = 8 by rw [hB6]; exact wB_length _ _)
      have HB6 := Aside0.mk hB6
      replace HR5 := Aside0.mk (Kd.R_below HR5.out hb6)
      replace HB := Aside0.mk (below_step HB.out hb6)
      clear hR6 hb6 he6 hc6 hC6 hB6 HR
      go_wp2_with (first | ((with_reducible refine gate_builtin (b := .append) (xs := #[.tmp 61, .tmp 63]) rfl ?_); at_builtin; refine Kd.R_append_rows (Kd.int .u8) (Rr := (Kd.int .u8).K w6) (w0 := w) w.heap.size rfl (.tmp 61) (.tmp 63) 22 5 (.int .u8 0) 1 rfl Tryz.underlying22 infoU8 rfl (by decide) (by omega) v5 (ents at_ (CH.take (p - q)) ++ B4) B6 A6 B6.length c6 (fun _ => True) (fun _ => False) rfl rfl HR5.out C6.out ?aK (fun _ hk => hk.elim) (fun _ _ => trivial) HB.out HB.out.size ?aL ?_; (case aK => intro x cs hx; obtain rfl := hx; rfl); (case aL => have := HE.out; have := L4.out; have := L6.out; rw [List.length_append]; omega); intro v7 w7 h7 hb7 _ _; have HR7 := Aside0.mk h7; replace HB := Aside0.mk hb7; clear h7 hb7) | fail)
      have h8 : ents at_ (CH.take (p - q)) ++ B4 ++ B6 = ents at_ (CH.take (p + 1 - q)) := by
        rw [List.append_assoc, HB4.out, HB6.out, show p + 1 - q = p - q + 1 by have := HLT.out; omega]
        exact HSN.out
      rw [h8] at HR7
      go_roundw
      case measure => have := HLT.out; simp only [RowKit.intOf]; omega
      case rel => exact ⟨p + 1, by go_num, by have := HLT.out; omega, HLT.out.1, HR7, HB⟩
    · obtain rfl : p = e := by omega
      have hfl : CH.take (p - q) = CH := List.take_of_length_le (by have := HCL.out; omega)
      rw [hfl] at HR
      have HR2 := Aside0.mk (HCH2.out ▸ HR.out)
      rw [HCH.out] at HR
      have t3 : (0 : Int) ≤ (p : Int) - (q : Int) := by omega
      have t4 : (p : Int) - (q : Int) ≤ 1000 := by omega
      clear hlt hp1 hp2 hfl
      by_cases t1 : (p : Int) < (vs.length : Int)
      · have t2 : decide ((p : Int) - (q : Int) < (nn : Int)) = false := by have := HEC.out; simp; omega
        go_wp2_with (first | fail)
        exact bodyPost_ret (v := .tuple #[u11, .int .i64 0]) (by simp [results, Tryz.results11, go_sem]) rfl ⟨_, rfl, by first | exact HR.out | exact HR2.out, HB.out⟩
      · go_wp2_with (first | fail)
        exact bodyPost_ret (v := .tuple #[u11, .int .i64 0]) (by simp [results, Tryz.results11, go_sem]) rfl ⟨_, rfl, by first | exact HR.out | exact HR2.out, HB.out⟩
set_option maxHeartbeats 8000000 in
set_option maxRecDepth 100000 in
theorem head_bad (cs : Array Value) {sk wa sa od re sg cp bl bs : Int} {A : Option Addr} {n c : Nat} (hc : Cf cs sk wa sa od re sg cp bl bs A n c) (w : World) (h1 : 1 ≤ sk ∧ sk ≤ 3) (h2 : 1 ≤ wa ∧ wa ≤ 3) (h3 : 64 ≤ bl ∧ bl ≤ 575) (Av : Option Addr) (cv : Nat) (vs : List Int) (i at_ : Int) (hbad : vs.length ≠ n ∨ i < 0 ∨ hdN (fld sk wa) (bl / 16) ≤ i ∨ at_ < 0) :
    Calls Tryz.prog 10 #[.agg cs, .slice Av vs.length cv, .int .i64 i, .int .i64 at_] w fun e w' => e = .returned (.tuple #[.slice none 0 0, .int .i64 1]) ∧ Below w.heap.size w w' := by
  have BX := Aside0.mk (heap_alloc_new w (.cells cs 37))
  have HB := Aside0.mk (below_alloc (Below.refl w.heap.size w) (.cells cs 37))
  have HC := Aside0.mk hc
  have c2 := cf_at BX.out 2 hc.c2
  have HH := Aside0.mk (And.intro h1 h2)
  have H3 := Aside0.mk h3
  have hdd : ∃ hd, hd = hdN (fld sk wa) (bl / 16) := ⟨_, rfl⟩
  obtain ⟨hd, hdd⟩ := hdd
  rw [← hdd] at hbad
  have HDD := Aside0.mk hdd
  have hsp : (vs.length ≠ n) ∨ (vs.length = n ∧ i < 0) ∨ (vs.length = n ∧ 0 ≤ i ∧ hd ≤ i) ∨ (vs.length = n ∧ 0 ≤ i ∧ ¬ hd ≤ i ∧ at_ < 0) := by omega
  clear hc h1 h2 h3 hbad hdd
  rcases hsp with h | ⟨rfl, h⟩ | ⟨rfl, h, h'⟩ | ⟨rfl, h, h', h''⟩
  · have g1 : ((vs.length : Int) != (n : Int)) = true := by rw [bne_iff_ne]; omega
    have g2 : ((vs.length : Int) == (n : Int)) = false := by rw [beq_eq_false_iff_ne]; omega
    clear h
    go_enter Tryz.func10, Tryz.ntmps10
    go_wp2_with (first | fail)
    exact bodyPost_ret (v := .tuple #[.slice none 0 0, .int .i64 1]) (by simp [results, Tryz.results10, go_sem]) rfl ⟨rfl, HB.out⟩
  · go_enter Tryz.func10, Tryz.ntmps10
    go_wp2_with (first | fail)
    exact bodyPost_ret (v := .tuple #[.slice none 0 0, .int .i64 1]) (by simp [results, Tryz.results10, go_sem]) rfl ⟨rfl, HB.out⟩
  · have g1 : ¬ i < 0 := by omega
    have g2 : decide (i < 0) = false := by simp; omega
    go_enter Tryz.func10, Tryz.ntmps10
    go_wp2_with (first | (refine load_cfgG (cs := cs) (g := w.heap.size) (by rfl) (by rfl) (by rfl) HC.out.sz BX.out ?_) | fail)
    refine (cheads_calls cs HC.out _ HH.out.1 HH.out.2 H3.out).mono ?_
    rintro e w2 ⟨rfl, hb⟩
    rw [← HDD.out]
    replace HB := Aside0.mk (below_step HB.out hb)
    clear hb c2
    go_wp2_with (first | fail)
    exact bodyPost_ret (v := .tuple #[.slice none 0 0, .int .i64 1]) (by simp [results, Tryz.results10, go_sem]) rfl ⟨rfl, HB.out⟩
  · have g1 : ¬ i < 0 := by omega
    have g2 : decide (i < 0) = false := by simp; omega
    go_enter Tryz.func10, Tryz.ntmps10
    go_wp2_with (first | (refine load_cfgG (cs := cs) (g := w.heap.size) (by rfl) (by rfl) (by rfl) HC.out.sz BX.out ?_) | fail)
    refine (cheads_calls cs HC.out _ HH.out.1 HH.out.2 H3.out).mono ?_
    rintro e w2 ⟨rfl, hb⟩
    rw [← HDD.out]
    replace HB := Aside0.mk (below_step HB.out hb)
    clear hb c2
    go_wp2_with (first | fail)
    exact bodyPost_ret (v := .tuple #[.slice none 0 0, .int .i64 1]) (by simp [results, Tryz.results10, go_sem]) rfl ⟨rfl, HB.out⟩
set_option maxHeartbeats 8000000 in
set_option maxRecDepth 100000 in
theorem rhead_bad (cs : Array Value) {sk wa sa od re sg cp bl bs : Int} {A : Option Addr} {n c : Nat} (hc : Cf cs sk wa sa od re sg cp bl bs A n c) (w : World) (h1 : 1 ≤ sk ∧ sk ≤ 3) (h2 : 1 ≤ wa ∧ wa ≤ 3) (h3 : 64 ≤ bl ∧ bl ≤ 575) (Av : Option Addr) (cv : Nat) (vs : List Int) (i at_ : Int) (hbad : vs.length ≠ n ∨ i < 0 ∨ hdN (fld sk wa) (bl / 16) ≤ i ∨ at_ < 0) :
    Calls Tryz.prog 11 #[.agg cs, .slice Av vs.length cv, .int .i64 i, .int .i64 at_] w fun e w' => e = .returned (.tuple #[.slice none 0 0, .int .i64 1]) ∧ Below w.heap.size w w' := by
  have BX := Aside0.mk (heap_alloc_new w (.cells cs 37))
  have HB := Aside0.mk (below_alloc (Below.refl w.heap.size w) (.cells cs 37))
  have HC := Aside0.mk hc
  have c2 := cf_at BX.out 2 hc.c2
  have HH := Aside0.mk (And.intro h1 h2)
  have H3 := Aside0.mk h3
  have hdd : ∃ hd, hd = hdN (fld sk wa) (bl / 16) := ⟨_, rfl⟩
  obtain ⟨hd, hdd⟩ := hdd
  rw [← hdd] at hbad
  have HDD := Aside0.mk hdd
  have hsp : (vs.length ≠ n) ∨ (vs.length = n ∧ i < 0) ∨ (vs.length = n ∧ 0 ≤ i ∧ hd ≤ i) ∨ (vs.length = n ∧ 0 ≤ i ∧ ¬ hd ≤ i ∧ at_ < 0) := by omega
  clear hc h1 h2 h3 hbad hdd
  rcases hsp with h | ⟨rfl, h⟩ | ⟨rfl, h, h'⟩ | ⟨rfl, h, h', h''⟩
  · have g1 : ((vs.length : Int) != (n : Int)) = true := by rw [bne_iff_ne]; omega
    have g2 : ((vs.length : Int) == (n : Int)) = false := by rw [beq_eq_false_iff_ne]; omega
    clear h
    go_enter Tryz.func11, Tryz.ntmps11
    go_wp2_with (first | fail)
    exact bodyPost_ret (v := .tuple #[.slice none 0 0, .int .i64 1]) (by simp [results, Tryz.results11, go_sem]) rfl ⟨rfl, HB.out⟩
  · go_enter Tryz.func11, Tryz.ntmps11
    go_wp2_with (first | fail)
    exact bodyPost_ret (v := .tuple #[.slice none 0 0, .int .i64 1]) (by simp [results, Tryz.results11, go_sem]) rfl ⟨rfl, HB.out⟩
  · have g1 : ¬ i < 0 := by omega
    have g2 : decide (i < 0) = false := by simp; omega
    go_enter Tryz.func11, Tryz.ntmps11
    go_wp2_with (first | (refine load_cfgG (cs := cs) (g := w.heap.size) (by rfl) (by rfl) (by rfl) HC.out.sz BX.out ?_) | fail)
    refine (heads_calls cs HC.out _ HH.out.1 HH.out.2 (by have := H3.out; omega)).mono ?_
    rintro e w2 ⟨rfl, hb⟩
    rw [headsN_is HH.out.1 HH.out.2 H3.out, ← HDD.out]
    replace HB := Aside0.mk (below_step HB.out hb)
    clear hb c2
    go_wp2_with (first | fail)
    exact bodyPost_ret (v := .tuple #[.slice none 0 0, .int .i64 1]) (by simp [results, Tryz.results11, go_sem]) rfl ⟨rfl, HB.out⟩
  · have g1 : ¬ i < 0 := by omega
    have g2 : decide (i < 0) = false := by simp; omega
    go_enter Tryz.func11, Tryz.ntmps11
    go_wp2_with (first | (refine load_cfgG (cs := cs) (g := w.heap.size) (by rfl) (by rfl) (by rfl) HC.out.sz BX.out ?_) | fail)
    refine (heads_calls cs HC.out _ HH.out.1 HH.out.2 (by have := H3.out; omega)).mono ?_
    rintro e w2 ⟨rfl, hb⟩
    rw [headsN_is HH.out.1 HH.out.2 H3.out, ← HDD.out]
    replace HB := Aside0.mk (below_step HB.out hb)
    clear hb c2
    go_wp2_with (first | fail)
    exact bodyPost_ret (v := .tuple #[.slice none 0 0, .int .i64 1]) (by simp [results, Tryz.results11, go_sem]) rfl ⟨rfl, HB.out⟩
end Go.Proofs.YteeclengpnjlgaaGreat.I
