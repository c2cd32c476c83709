import Derived.Test.YteeclengpnjlgaaGreatSta
import Derived.Test.YteeclengpnjlgaaGreatWr
/- image.Tables and image.Parse at a state without records. -/
namespace Go.Proofs.YteeclengpnjlgaaGreat.I
open Go.RowKit Go.Proofs.YteeclengpnjlgaaGreatW.PrintWords Go.Proofs.YteeclengpnjlgaaGreatW.PrintLast Go.Proofs.YteeclengpnjlgaaGreatW.PrintMore Go.Proofs.YteeclengpnjlgaaGreat
set_option linter.unusedVariables false
set_option linter.unusedSimpArgs false
theorem kept_o {b : Nat} {w w' : World} (h : Lib.OthersKept 5 (some b) w w') {k : Nat} {cs : Array Value} {t : TypeId} (hk : w.heap[k]? = some (.cells cs t (0, 0))) (hb : k ≠ b) (ht : t ≠ 5 := by decide) : w'.heap[k]? = some (.cells cs t (0, 0)) :=
  h k _ hk (fun e => hb (Option.some.inj e)) (fun c fz e => by injection e with _ e _; exact ht e)
section
variable {ops : Array Oper} {Q : Exit → Act → World → Prop}
/-- A whole store into a block of one's own: what is known of the world behind it. -/
theorem srow_step {oi : Oper} {a : Act} {W : World} {K : Act → World → Prop} (ty : TypeId) (x y : Operand) (g : Nat) (cells : Array Value) {old : Array Value} (hg : W.heap[g]? = some (.cells old ty (0, 0))) (hw : Region.wanted oi (yielded ops a.tmps) = true) (hN : oi.dst = none) (ho : oi.op = .store ty x y)
    (hx : a.eval x = .pointer (some ⟨g, 0, none⟩)) (hy : a.eval y = .agg cells) (hi : (Tryz.prog.info? ty).map (·.size) = some cells.size) (hold : old.size = cells.size) (h1 : cells.all (·.oneCell') = true)
    (h : ∀ w1, w1.heap[g]? = some (.cells cells ty (0, 0)) → W.grownBy w1 (some g) → K a w1) : if Region.wanted oi (yielded ops a.tmps) = true then Oper.wp Tryz.prog oi a W K Q else K (a.put none undef) W := by
  rw [if_pos hw]
  refine wp_store_row ty x y ho g cells hx hy ty old hg hi hold h1 ?_
  rw [hN]
  exact h _ (setRow_heap W g old cells ty _ hg) ⟨rfl, rfl, rfl, by simp, fun k _ hk => setRow_other W g k cells (fun e => hk (by rw [e]))⟩
theorem srow_list {rest : List Oper} {o : Oper} {a : Act} {W : World} (ty : TypeId) (x y : Operand) (g : Nat) (cells : Array Value) {old : Array Value} (hg : W.heap[g]? = some (.cells old ty (0, 0))) (hgd : o.guard = none) (ho : o.op = .store ty x y)
    (hx : a.eval x = .pointer (some ⟨g, 0, none⟩)) (hy : a.eval y = .agg cells) (hi : (Tryz.prog.info? ty).map (·.size) = some cells.size) (hold : old.size = cells.size) (h1 : cells.all (·.oneCell') = true)
    (h : ∀ w1, w1.heap[g]? = some (.cells cells ty (0, 0)) → W.grownBy w1 (some g) → wpList Tryz.prog ops Q rest (a.put o.dst undef) w1) : wpList Tryz.prog ops Q (o :: rest) a W :=
  wpList_store_row hgd ty x y ho g cells hx hy ty old hg hi hold h1 (h _ (setRow_heap W g old cells ty _ hg) ⟨rfl, rfl, rfl, by simp, fun k _ hk => setRow_other W g k cells (fun e => hk (by rw [e]))⟩)
end
theorem w321 : IntKind.u32.wrap 1 = 1 := by decide
theorem wB01 : wB 0 1 = [0] := rfl
theorem wB14 : wB 1 4 = [1, 0, 0, 0] := rfl
set_option maxRecDepth 100000 in
theorem putT_nil (base g : Nat) (bs : List Int) (most : Int) (fv : Value) (hfit : (bs.length : Int) + 1 ≤ most) (hm : most ≤ 1000000) (w : World) (h : WrAt w base g bs most) :
    Calls Tryz.prog 62 #[.pointer (some ⟨g, 0, none⟩), .slice none 0 0, fv] w fun r w' => r = .returned (.tuple #[]) ∧ WrAt w' base g (bs ++ [0]) most ∧ Below base w w' ∧ Lib.OthersKept 5 (some g) w w' := by
  have HC := Aside0.mk (wB01 ▸ wnum_calls base g bs most 0 1 (by omega) (by omega) (by omega) (by decide) hfit hm w h)
  clear h
  go_enter Tryz.func62, Tryz.ntmps62
  go_wp2_with (first | fail)
  refine HC.out.mono ?_
  rintro e w1 ⟨rfl, hW, hB, hK⟩
  have HR := Aside0.mk (And.intro hW (And.intro hB hK))
  clear hW hB hK HC
  go_wp2_with (first | fail)
  refine wp_loop_rounds 1 ?_
  rw [rounds_succ]
  go_wp2_with (first | fail)
  go_end0
  exact ⟨rfl, HR.out⟩
set_option maxRecDepth 100000 in
theorem putC_nil (base g : Nat) (bs : List Int) (most : Int) (fv : Value) (hfit : (bs.length : Int) + 1 ≤ most) (hm : most ≤ 1000000) (w : World) (h : WrAt w base g bs most) :
    Calls Tryz.prog 64 #[.pointer (some ⟨g, 0, none⟩), .slice none 0 0, fv] w fun r w' => r = .returned (.tuple #[]) ∧ WrAt w' base g (bs ++ [0]) most ∧ Below base w w' ∧ Lib.OthersKept 5 (some g) w w' := by
  have HC := Aside0.mk (wB01 ▸ wnum_calls base g bs most 0 1 (by omega) (by omega) (by omega) (by decide) hfit hm w h)
  clear h
  go_enter Tryz.func64, Tryz.ntmps64
  go_wp2_with (first | fail)
  refine HC.out.mono ?_
  rintro e w1 ⟨rfl, hW, hB, hK⟩
  have HR := Aside0.mk (And.intro hW (And.intro hB hK))
  clear hW hB hK HC
  go_wp2_with (first | fail)
  refine wp_loop_rounds 1 ?_
  rw [rounds_succ]
  go_wp2_with (first | fail)
  go_end0
  exact ⟨rfl, HR.out⟩
set_option maxRecDepth 100000 in
theorem putO_nil (base g : Nat) (bs : List Int) (most : Int) (fv : Value) (hfit : (bs.length : Int) + 1 ≤ most) (hm : most ≤ 1000000) (w : World) (h : WrAt w base g bs most) :
    Calls Tryz.prog 66 #[.pointer (some ⟨g, 0, none⟩), .slice none 0 0, fv] w fun r w' => r = .returned (.tuple #[]) ∧ WrAt w' base g (bs ++ [0]) most ∧ Below base w w' ∧ Lib.OthersKept 5 (some g) w w' := by
  have HC := Aside0.mk (wB01 ▸ wnum_calls base g bs most 0 1 (by omega) (by omega) (by omega) (by decide) hfit hm w h)
  clear h
  go_enter Tryz.func66, Tryz.ntmps66
  go_wp2_with (first | fail)
  refine HC.out.mono ?_
  rintro e w1 ⟨rfl, hW, hB, hK⟩
  have HR := Aside0.mk (And.intro hW (And.intro hB hK))
  clear hW hB hK HC
  go_wp2_with (first | fail)
  refine wp_loop_rounds 1 ?_
  rw [rounds_succ]
  go_wp2_with (first | fail)
  go_end0
  exact ⟨rfl, HR.out⟩
set_option maxRecDepth 100000 in
theorem putW_nil (base g : Nat) (bs : List Int) (most : Int) (fv : Value) (hfit : (bs.length : Int) + 1 ≤ most) (hm : most ≤ 1000000) (w : World) (h : WrAt w base g bs most) :
    Calls Tryz.prog 68 #[.pointer (some ⟨g, 0, none⟩), .slice none 0 0, fv] w fun r w' => r = .returned (.tuple #[]) ∧ WrAt w' base g (bs ++ [0]) most ∧ Below base w w' ∧ Lib.OthersKept 5 (some g) w w' := by
  have HC := Aside0.mk (wB01 ▸ wnum_calls base g bs most 0 1 (by omega) (by omega) (by omega) (by decide) hfit hm w h)
  clear h
  go_enter Tryz.func68, Tryz.ntmps68
  go_wp2_with (first | fail)
  refine HC.out.mono ?_
  rintro e w1 ⟨rfl, hW, hB, hK⟩
  have HR := Aside0.mk (And.intro hW (And.intro hB hK))
  clear hW hB hK HC
  go_wp2_with (first | fail)
  refine wp_loop_rounds 1 ?_
  rw [rounds_succ]
  go_wp2_with (first | fail)
  go_end0
  exact ⟨rfl, HR.out⟩
theorem mostf {sa od : Int} : ∃ m, conf_Most.f sa od = some m ∧ 12 ≤ m ∧ m ≤ 100000 := by
  unfold conf_Most.f
  refine ⟨_, rfl, ?_⟩
  unfold mn mx
  constructor <;> (repeat' split) <;> omega
set_option maxHeartbeats 4000000 in
set_option maxRecDepth 100000 in
theorem tables_nil (cs : Array Value) {sk wa sa od re sg cp bl bs : Int} {A : Option Addr} {n c : Nat} (hc : Cf cs sk wa sa od re sg cp bl bs A n c) (w : World) (h1 : 0 ≤ sa) (h2 : 0 ≤ od) (hn : n ≤ 24) (Av : Option Addr) (cv : Nat) :
    Calls Tryz.prog 27 #[.agg cs, .agg #[.slice Av n cv, .slice none 0 0, .slice none 0 0, .slice none 0 0, .slice none 0 0, .int .u32 1, .int .u32 1]] w fun e w' => ∃ v, e = .returned (.tuple #[v, .int .i64 0]) ∧ Kd.R (Kd.int .u8) 5 w' w.heap.size (fun _ => True) v [1, 0, 0, 0, 1, 0, 0, 0, 0, 0, 0, 0] ∧ Below w.heap.size w w' := by
  have HC := Aside0.mk hc
  have BX := Aside0.mk (heap_alloc_new w (.cells cs 37))
  have HB := Aside0.mk (below_alloc (Below.refl w.heap.size w) (.cells cs 37))
  have Q := Aside0.mk (And.intro h1 (And.intro h2 hn))
  clear hc h1 h2 hn
  go_enter Tryz.func27, Tryz.ntmps27
  go_wp2_with (first | (refine zbox (N := 3) (t := 83) (cs := #[.slice Av n cv, .slice none 0 0, .slice none 0 0, .slice none 0 0, .slice none 0 0, .int .u32 1, .int .u32 1]) (h := ?_); intro g3 hg3 w1 B3_ hb1; have B3 := Aside0.mk B3_; replace BX := Aside0.mk (blk_below BX.out hb1); replace HB := Aside0.mk (below_step HB.out hb1); obtain ⟨k0, k1, k2, k3, k4, k5, k6, f0, f1, f2, f3, f4, f5, f6⟩ := zcf7 B3_; clear B3_ hb1 hg3) | (refine load_cfg (cs := cs) (g := w.heap.size) (by rfl) (by rfl) (by rfl) HC.out.sz BX.out ?_) | fail)
  refine (right_nil cs HC.out _ Q.out.1 Q.out.2.1 Q.out.2.2 Av cv).mono ?_
  rintro e w2 ⟨rfl, hb⟩
  replace BX := Aside0.mk (blk_below BX.out hb)
  replace B3 := Aside0.mk (blk_below B3.out hb)
  replace HB := Aside0.mk (below_step HB.out hb)
  clear hb k0 k1 k2 k3 k4 k5 k6 f0 f1 f2 f3 f4 f5 f6
  have c19 := cf_at BX.out 19 HC.out.c19
  have c20 := cf_at BX.out 20 HC.out.c20
  obtain ⟨m, hm, hm1, hm2⟩ := @mostf sa od
  have HM := Aside0.mk (And.intro hm1 hm2)
  have hm0 : 0 ≤ m := by omega
  have HM0 := Aside0.mk hm0
  have HMF := Aside0.mk hm
  clear hm hm1 hm2 hm0
  go_wp2_with (first | fail)
  refine (conf_Most.calls sa od m _ HMF.out).mono ?_
  rintro e w3 ⟨rfl, hb⟩
  replace BX := Aside0.mk (blk_below BX.out hb)
  replace B3 := Aside0.mk (blk_below B3.out hb)
  replace HB := Aside0.mk (below_step HB.out hb)
  clear hb c19 c20
  go_wp2_with (first | fail)
  refine (Go.Proofs.YteeclengpnjlgaaGreat.new_calls m HM0.out _).mono ?_
  rintro e w4 ⟨rfl, rfl⟩
  have WW := Aside0.mk (new_at w3 w.heap.size HB.out.size m)
  have HS := Aside0.mk HB.out.size
  replace BX := Aside0.mk (blk_alloc BX.out (.cells #[.int .i64 0, .slice none 0 0, .int .i64 m] 170))
  replace B3 := Aside0.mk (blk_alloc B3.out (.cells #[.int .i64 0, .slice none 0 0, .int .i64 m] 170))
  replace HB := Aside0.mk (below_alloc HB.out (.cells #[.int .i64 0, .slice none 0 0, .int .i64 m] 170))
  obtain ⟨gw, hgw⟩ : ∃ gw, gw = w3.heap.size := ⟨_, rfl⟩
  rw [← hgw] at WW ⊢
  generalize w3.alloc (.cells #[.int .i64 0, .slice none 0 0, .int .i64 m] 170) = w5 at WW BX B3 HB ⊢
  clear hgw
  have k5 := (blk_cell (blk_alloc B3.out (.cells #[.pointer (some ⟨gw, 0, none⟩)] 136)) 5).trans rfl
  go_wp2_with (first | fail)
  replace WW := Aside0.mk (WW.out.alloc (.cells #[.pointer (some ⟨gw, 0, none⟩)] 136))
  replace B3 := Aside0.mk (blk_alloc B3.out (.cells #[.pointer (some ⟨gw, 0, none⟩)] 136))
  have B6 := Aside0.mk (heap_alloc_new w5 (.cells #[.pointer (some ⟨gw, 0, none⟩)] 136))
  replace HB := Aside0.mk (below_alloc HB.out (.cells #[.pointer (some ⟨gw, 0, none⟩)] 136))
  obtain ⟨g6, hg6⟩ : ∃ g6, g6 = w5.heap.size := ⟨_, rfl⟩
  rw [← hg6] at B6 ⊢
  generalize w5.alloc (.cells #[.pointer (some ⟨gw, 0, none⟩)] 136) = w6 at WW BX B3 B6 HB ⊢
  clear hg6 k5 BX w5
  obtain ⟨v0, hgw, hge, ho, hne⟩ := WW.out
  have N3 := Aside0.mk (ne_types B3.out hgw)
  have N6 := Aside0.mk (ne_types B6.out hgw)
  have GE := Aside0.mk hge
  clear v0 hgw hge ho hne
  refine (wB14 ▸ wnum_calls w.heap.size gw [] m 1 4 (by omega) (by omega) (by omega) (by decide) (by have := HM.out.1; simp; omega) (by have := HM.out.2; omega) _ WW.out).mono ?_
  rintro e w7 ⟨rfl, hW, hB, hK⟩
  replace WW := Aside0.mk hW
  replace B3 := Aside0.mk (kept_o hK B3.out N3.out)
  replace B6 := Aside0.mk (kept_o hK B6.out N6.out)
  replace HB := Aside0.mk (HB.out.trans hB)
  clear hW hB hK
  obtain ⟨k0, k1, k2, k3, k4, k5, k6, f0, f1, f2, f3, f4, f5, f6⟩ := zcf7 B3.out
  have c6 := (blk_cell B6.out 0).trans rfl
  go_wp2_with (first | fail)
  clear k0 k1 k2 k3 k4 k5 k6 f0 f1 f2 f3 f4 f5 f6 c6
  refine (wB14 ▸ wnum_calls w.heap.size gw _ m 1 4 (by omega) (by omega) (by omega) (by decide) (by have := HM.out.1; simp; omega) (by have := HM.out.2; omega) _ WW.out).mono ?_
  rintro e w8 ⟨rfl, hW, hB, hK⟩
  replace WW := Aside0.mk hW
  replace B3 := Aside0.mk (kept_o hK B3.out N3.out)
  replace B6 := Aside0.mk (kept_o hK B6.out N6.out)
  replace HB := Aside0.mk (HB.out.trans hB)
  clear hW hB hK
  obtain ⟨k0, k1, k2, k3, k4, k5, k6, f0, f1, f2, f3, f4, f5, f6⟩ := zcf7 B3.out
  have c6 := (blk_cell B6.out 0).trans rfl
  go_wp2_with (first | fail)
  clear k0 k1 k2 k3 k4 k5 k6 f0 f1 f2 f3 f4 f5 f6 c6
  refine (putT_nil w.heap.size gw _ m _ (by have := HM.out.1; simp; omega) (by have := HM.out.2; omega) _ WW.out).mono ?_
  rintro e w9 ⟨rfl, hW, hB, hK⟩
  replace WW := Aside0.mk hW
  replace B3 := Aside0.mk (kept_o hK B3.out N3.out)
  replace B6 := Aside0.mk (kept_o hK B6.out N6.out)
  replace HB := Aside0.mk (HB.out.trans hB)
  clear hW hB hK
  obtain ⟨k0, k1, k2, k3, k4, k5, k6, f0, f1, f2, f3, f4, f5, f6⟩ := zcf7 B3.out
  have c6 := (blk_cell B6.out 0).trans rfl
  go_wp2_with (first | fail)
  clear k0 k1 k2 k3 k4 k5 k6 f0 f1 f2 f3 f4 f5 f6 c6
  refine (putC_nil w.heap.size gw _ m _ (by have := HM.out.1; simp; omega) (by have := HM.out.2; omega) _ WW.out).mono ?_
  rintro e w10 ⟨rfl, hW, hB, hK⟩
  replace WW := Aside0.mk hW
  replace B3 := Aside0.mk (kept_o hK B3.out N3.out)
  replace B6 := Aside0.mk (kept_o hK B6.out N6.out)
  replace HB := Aside0.mk (HB.out.trans hB)
  clear hW hB hK
  obtain ⟨k0, k1, k2, k3, k4, k5, k6, f0, f1, f2, f3, f4, f5, f6⟩ := zcf7 B3.out
  have c6 := (blk_cell B6.out 0).trans rfl
  go_wp2_with (first | fail)
  clear k0 k1 k2 k3 k4 k5 k6 f0 f1 f2 f3 f4 f5 f6 c6
  refine (putO_nil w.heap.size gw _ m _ (by have := HM.out.1; simp; omega) (by have := HM.out.2; omega) _ WW.out).mono ?_
  rintro e w11 ⟨rfl, hW, hB, hK⟩
  replace WW := Aside0.mk hW
  replace B3 := Aside0.mk (kept_o hK B3.out N3.out)
  replace B6 := Aside0.mk (kept_o hK B6.out N6.out)
  replace HB := Aside0.mk (HB.out.trans hB)
  clear hW hB hK
  obtain ⟨k0, k1, k2, k3, k4, k5, k6, f0, f1, f2, f3, f4, f5, f6⟩ := zcf7 B3.out
  have c6 := (blk_cell B6.out 0).trans rfl
  go_wp2_with (first | fail)
  clear k0 k1 k2 k3 k4 k5 k6 f0 f1 f2 f3 f4 f5 f6 c6
  refine (putW_nil w.heap.size gw _ m _ (by have := HM.out.1; simp; omega) (by have := HM.out.2; omega) _ WW.out).mono ?_
  rintro e w12 ⟨rfl, hW, hB, hK⟩
  replace WW := Aside0.mk hW
  replace B3 := Aside0.mk (kept_o hK B3.out N3.out)
  replace B6 := Aside0.mk (kept_o hK B6.out N6.out)
  replace HB := Aside0.mk (HB.out.trans hB)
  clear hW hB hK
  obtain ⟨k0, k1, k2, k3, k4, k5, k6, f0, f1, f2, f3, f4, f5, f6⟩ := zcf7 B3.out
  have c6 := (blk_cell B6.out 0).trans rfl
  go_wp2_with (first | fail)
  clear k0 k1 k2 k3 k4 k5 k6 f0 f1 f2 f3 f4 f5 f6 c6
  refine (done_calls w.heap.size gw _ m (by simp) (by simp) _ WW.out).mono ?_
  rintro e w13 ⟨v, rfl, hR, hb⟩
  have RR := Aside0.mk (Kd.R_lower hR HB.out.size)
  replace HB := Aside0.mk (below_step HB.out hb)
  clear hR hb
  go_wp2_with (first | fail)
  exact bodyPost_ret (v := .tuple #[v, .int .i64 0]) (by simp [results, Tryz.results27, go_sem]) rfl ⟨v, rfl, RR.out, HB.out⟩
set_option maxRecDepth 100000 in
theorem getT_nil (ge rd : Nat) (l : List Int) (fv : Value) (hall : ∀ b ∈ (0 :: l), (0 : Int) ≤ b ∧ b < 256) (w : World) (hE : w.heap[ge]? = some (.cells #[.pointer (some ⟨rd, 0, none⟩), .int .i64 0] 154 (0, 0))) (h : RdAt w rd 0 (0 :: l)) :
    Calls Tryz.prog 73 #[.pointer (some ⟨ge, 0, none⟩), fv] w fun r w' => r = .returned (.slice none 0 0) ∧ RdAt w' rd 0 l ∧ w.grownBy w' (some rd) := by
  have HC := Aside0.mk (num_calls2 (size := 1) (x := 0) (e := 0) (l := l) (by simp [rNum, leN]) (by omega) (by omega) hall h)
  have c0 := (blk_cell hE 0).trans rfl
  clear h hE
  go_enter Tryz.func73, Tryz.ntmps73
  go_wp2_with (first | fail)
  refine HC.out.mono ?_
  rintro e w1 ⟨rfl, hW, hK⟩
  have HR := Aside0.mk (And.intro hW hK)
  clear hW hK HC c0
  go_wp2_with (first | fail)
  refine wp_loop_rounds 1 ?_
  rw [rounds_succ]
  go_wp2_with (first | fail)
  go_ret
  exact ⟨rfl, HR.out⟩
set_option maxRecDepth 100000 in
theorem getC_nil (ge rd : Nat) (l : List Int) (fv : Value) (hall : ∀ b ∈ (0 :: l), (0 : Int) ≤ b ∧ b < 256) (w : World) (hE : w.heap[ge]? = some (.cells #[.pointer (some ⟨rd, 0, none⟩), .int .i64 0] 154 (0, 0))) (h : RdAt w rd 0 (0 :: l)) :
    Calls Tryz.prog 75 #[.pointer (some ⟨ge, 0, none⟩), fv] w fun r w' => r = .returned (.slice none 0 0) ∧ RdAt w' rd 0 l ∧ w.grownBy w' (some rd) := by
  have HC := Aside0.mk (num_calls2 (size := 1) (x := 0) (e := 0) (l := l) (by simp [rNum, leN]) (by omega) (by omega) hall h)
  have c0 := (blk_cell hE 0).trans rfl
  clear h hE
  go_enter Tryz.func75, Tryz.ntmps75
  go_wp2_with (first | fail)
  refine HC.out.mono ?_
  rintro e w1 ⟨rfl, hW, hK⟩
  have HR := Aside0.mk (And.intro hW hK)
  clear hW hK HC c0
  go_wp2_with (first | fail)
  refine wp_loop_rounds 1 ?_
  rw [rounds_succ]
  go_wp2_with (first | fail)
  go_ret
  exact ⟨rfl, HR.out⟩
set_option maxRecDepth 100000 in
theorem getO_nil (ge rd : Nat) (l : List Int) (fv : Value) (hall : ∀ b ∈ (0 :: l), (0 : Int) ≤ b ∧ b < 256) (w : World) (hE : w.heap[ge]? = some (.cells #[.pointer (some ⟨rd, 0, none⟩), .int .i64 0] 154 (0, 0))) (h : RdAt w rd 0 (0 :: l)) :
    Calls Tryz.prog 77 #[.pointer (some ⟨ge, 0, none⟩), fv] w fun r w' => r = .returned (.slice none 0 0) ∧ RdAt w' rd 0 l ∧ w.grownBy w' (some rd) := by
  have HC := Aside0.mk (num_calls2 (size := 1) (x := 0) (e := 0) (l := l) (by simp [rNum, leN]) (by omega) (by omega) hall h)
  have c0 := (blk_cell hE 0).trans rfl
  clear h hE
  go_enter Tryz.func77, Tryz.ntmps77
  go_wp2_with (first | fail)
  refine HC.out.mono ?_
  rintro e w1 ⟨rfl, hW, hK⟩
  have HR := Aside0.mk (And.intro hW hK)
  clear hW hK HC c0
  go_wp2_with (first | fail)
  refine wp_loop_rounds 1 ?_
  rw [rounds_succ]
  go_wp2_with (first | fail)
  go_ret
  exact ⟨rfl, HR.out⟩
set_option maxRecDepth 100000 in
theorem getW_nil (ge rd : Nat) (l : List Int) (fv : Value) (hall : ∀ b ∈ (0 :: l), (0 : Int) ≤ b ∧ b < 256) (w : World) (hE : w.heap[ge]? = some (.cells #[.pointer (some ⟨rd, 0, none⟩), .int .i64 0] 154 (0, 0))) (h : RdAt w rd 0 (0 :: l)) :
    Calls Tryz.prog 79 #[.pointer (some ⟨ge, 0, none⟩), fv] w fun r w' => r = .returned (.slice none 0 0) ∧ RdAt w' rd 0 l ∧ w.grownBy w' (some rd) := by
  have HC := Aside0.mk (num_calls2 (size := 1) (x := 0) (e := 0) (l := l) (by simp [rNum, leN]) (by omega) (by omega) hall h)
  have c0 := (blk_cell hE 0).trans rfl
  clear h hE
  go_enter Tryz.func79, Tryz.ntmps79
  go_wp2_with (first | fail)
  refine HC.out.mono ?_
  rintro e w1 ⟨rfl, hW, hK⟩
  have HR := Aside0.mk (And.intro hW hK)
  clear hW hK HC c0
  go_wp2_with (first | fail)
  refine wp_loop_rounds 1 ?_
  rw [rounds_succ]
  go_wp2_with (first | fail)
  go_ret
  exact ⟨rfl, HR.out⟩
theorem rd_blk {w : World} {g : Nat} {err : Int} {bs : List Int} (h : RdAt w g err bs) : ∃ cs, w.heap[g]? = some (.cells cs 173 (0, 0)) := by
  obtain ⟨A, c, h, _⟩ := h
  exact ⟨_, h⟩
theorem bytes_ok (l : List Int) (h : l.all (fun b => decide (0 ≤ b) && decide (b < 256)) = true) : ∀ b ∈ l, (0 : Int) ≤ b ∧ b < 256 := by
  intro b hb
  have := List.all_eq_true.1 h b hb
  simpa using this
theorem infI : (Tryz.prog.info? 2).map (fun i => (i.zero, i.size, i.bytes)) = some (some (.int .i64 0), 1, 8) := by kernel_rfl
set_option maxHeartbeats 8000000 in
set_option maxRecDepth 100000 in
theorem parse_nil (cs : Array Value) {sk wa sa od re sg cp bl bs : Int} {A : Option Addr} {n c : Nat} (hc : Cf cs sk wa sa od re sg cp bl bs A n c) (w : World) (h1 : 0 ≤ sa) (h2 : 0 ≤ od) (hn : n ≤ 24) (Ab : Option Addr) (cb : Nat) (hcb : 12 ≤ cb) (hb : Kd.C (Kd.int .u8) w Ab 12 [1, 0, 0, 0, 1, 0, 0, 0, 0, 0, 0, 0]) (Av : Option Addr) (nv cv : Nat) (vs : List Int) (hv : Kd.C (Kd.int .i64) w Av nv vs) (hvn : vs.length = n) :
    Calls Tryz.prog 29 #[.agg cs, .slice Ab 12 cb, .slice Av nv cv] w fun e w' => ∃ (A' : Option Addr) (n' c' : Nat), e = .returned (.tuple #[.agg #[.slice A' n' c', .slice none 0 0, .slice none 0 0, .slice none 0 0, .slice none 0 0, .int .u32 1, .int .u32 1], .int .i64 0]) ∧ Below w.heap.size w w' := by
  have HC := Aside0.mk hc
  have BX := Aside0.mk (heap_alloc_new w (.cells cs 37))
  have HB := Aside0.mk (below_alloc (Below.refl w.heap.size w) (.cells cs 37))
  have Q := Aside0.mk (And.intro h1 (And.intro h2 (And.intro hn hcb)))
  have HY := Aside0.mk hb
  have HV := Aside0.mk hv
  have HN := Aside0.mk (show vs.length ≤ 1000 by omega)
  have HVN := Aside0.mk hvn
  have HNV := Aside0.mk (show vs.length = nv from hv.1)
  clear hc h1 h2 hn hb hv hcb hvn
  go_enter Tryz.func29, Tryz.ntmps29
  go_wp2_with (first | fail)
  have B6 := Aside0.mk (heap_alloc_new (w.alloc (.cells cs 37)) (.cells #[.slice none 0 0, .slice none 0 0, .slice none 0 0, .slice none 0 0, .slice none 0 0, .int .u32 0, .int .u32 0] 83))
  rw [size_al] at B6
  replace BX := Aside0.mk (blk_alloc BX.out (.cells #[.slice none 0 0, .slice none 0 0, .slice none 0 0, .slice none 0 0, .slice none 0 0, .int .u32 0, .int .u32 0] 83))
  replace HB := Aside0.mk (below_alloc HB.out (.cells #[.slice none 0 0, .slice none 0 0, .slice none 0 0, .slice none 0 0, .slice none 0 0, .int .u32 0, .int .u32 0] 83))
  refine (read_calls Ab cb [1, 0, 0, 0, 1, 0, 0, 0, 0, 0, 0, 0] (by simp) (by have := Q.out.2.2.2; simpa using this) _ (Kd.C_below HY.out HB.out)).mono ?_
  rintro e w3 ⟨rd, rfl, hR, hrd, hb⟩
  obtain ⟨g6, hg6⟩ : ∃ g6, g6 = w.heap.size + 1 := ⟨_, rfl⟩
  rw [← hg6] at B6 ⊢
  have G6 := Aside0.mk (show w.heap.size ≤ g6 by omega)
  have GR := Aside0.mk (show w.heap.size ≤ rd from Nat.le_trans HB.out.size hrd)
  replace B6 := Aside0.mk (blk_below B6.out hb)
  replace BX := Aside0.mk (blk_below BX.out hb)
  replace HB := Aside0.mk (below_step HB.out hb)
  have RD := Aside0.mk hR.weak
  clear hR hb hrd hg6
  go_wp2_with (first | (refine zbox (N := 14) (t := 154) (cs := #[.pointer (some ⟨rd, 0, none⟩), .int .i64 0]) (h := ?_); intro ge hge w4 BE_ hb4; have BE := Aside0.mk (blk_drew BE_); have GE := Aside0.mk (show w.heap.size ≤ ge by have := HB.out.size; omega); replace B6 := Aside0.mk (blk_drew (blk_below B6.out hb4)); replace BX := Aside0.mk (blk_drew (blk_below BX.out hb4)); replace RD := Aside0.mk (RdAtL.drew (RD.out.below hb4)); replace HB := Aside0.mk (below_drew1 (below_step HB.out hb4)); clear BE_ hb4 hge) | fail)
  refine start_ (n := 18) (S := fun w' => w'.cell? ⟨ge, 0, none⟩ = some (.pointer (some ⟨rd, 0, none⟩))) (ds := [17]) (bz 18 0) (by kernel_rfl) rfl (by kernel_rfl) ((blk_cell BE.out 0).trans rfl) (fun hHeld => ?_)
  generalize w4.drew = W1 at *
  refine pureZ (some 16) (bz 18 2) (i := 1) (hc := (by kernel_rfl)) (h := ?_)
  refine pureZ (some 18) (bz 18 10) (i := 3) (hc := (by kernel_rfl)) (h := ?_)
  refine pureZ (some 19) (bz 18 26) (i := 4) (hc := (by kernel_rfl)) (h := ?_)
  refine pureZ (some 20) (bz 18 58) (i := 5) (hc := (by kernel_rfl)) (h := ?_)
  refine takeZ (some 21) (bz 18 122) (i := 6) (hc := (by kernel_rfl)) (h := ?_)
  refine pureZ (some 24) (bz 18 634) (i := 9) (hc := (by kernel_rfl)) (h := ?_)
  refine pureZ (some 25) (bz 18 1658) (i := 10) (hc := (by kernel_rfl)) (h := ?_)
  refine pureZ (some 26) (bz 18 3706) (i := 11) (hc := (by kernel_rfl)) (h := ?_)
  refine takeZ (some 27) (bz 18 7802) (i := 12) (hc := (by kernel_rfl)) (h := ?_)
  refine join_ (σ := Value × Value × Nat) 1 (bz 18 131071) (fun s_ => [(15, s_.1), (17, s_.2.1), (22, .int .u64 1), (23, .int .u32 1), (28, .int .u64 1), (29, .int .u32 1), (30, .agg #[s_.2.1, .slice none 0 0, .slice none 0 0, .slice none 0 0, .slice none 0 0, .int .u32 1, .int .u32 1]), (9, .pointer (some ⟨s_.2.2, 0, none⟩))]) (fun s_ w' => w'.cell? ⟨ge, 0, none⟩ = some (.pointer (some ⟨rd, 0, none⟩)) ∧ Aside0 (w'.heap[w.heap.size]? = some (.cells cs 37 (0, 0))) ∧ Aside0 (w'.heap[g6]? = some (.cells #[.slice none 0 0, .slice none 0 0, .slice none 0 0, .slice none 0 0, .slice none 0 0, .int .u32 0, .int .u32 0] 83 (0, 0))) ∧ Aside0 (w'.heap[ge]? = some (.cells #[.pointer (some ⟨rd, 0, none⟩), .int .i64 0] 154 (0, 0))) ∧ Aside0 (RdAt w' rd 0 [0, 0, 0, 0]) ∧ Aside0 (Kd.R (Kd.int .i64) 2 w' w.heap.size (fun _ => True) s_.2.1 vs) ∧ Aside0 (w'.heap[s_.2.2]? = some (.cells #[.slice none 0 0, .slice none 0 0, .slice none 0 0, .slice none 0 0, .slice none 0 0, .int .u32 0, .int .u32 0] 83 (0, 0))) ∧ Aside0 (w.heap.size ≤ s_.2.2) ∧ Aside0 (g6 < s_.2.2 ∧ rd < s_.2.2) ∧ Aside0 (Below w.heap.size w w')) ?_ ?_
  rotate_left
  · intro hCont
    refine two_ (i := 0) (j := 16) (Ni := some 15) (Nj := some 9) (bz 18 7803) (bz 18 73338) rfl rfl rfl rfl (by kernel_rfl) (by decide) (by decide) (fun K hK => ?_) (fun K hK => ?_)
    · skip
      refine Kd.R_lit_step (Kd.int .i64) (w0 := w) w.heap.size 2 (by rfl) (N := 15) (by rfl) (xs := ([] : List Int)) (inner := []) (ok := fun _ => True) (okp := fun _ => False) (by first | (go_simp; done) | (go_simp; rfl)) (Reps.none _ _) (fun _ _ => trivial) trivial HB.out HB.out.size (by simp) ?_
      intro v1 w5 hR hb hg ⟨b1, hv1, hb1⟩
      obtain ⟨crd, hcrd⟩ := rd_blk RD.out
      have L1 := Aside0.mk (show v1.ownBlock = some b1 ∧ rd < b1 from ⟨hv1, Nat.lt_of_lt_of_le (blk_lt hcrd) hb1⟩)
      clear hv1 hb1 hcrd crd
      have hb' : Below W1.heap.size W1 w5 := ⟨hg.os, hg.tape, hg.output, hg.size, fun k hk => hg.block k hk (by simp)⟩
      have RV := Aside0.mk hR
      replace BX := Aside0.mk (blk_below BX.out hb')
      replace B6 := Aside0.mk (blk_below B6.out hb')
      replace BE := Aside0.mk (blk_below BE.out hb')
      replace RD := Aside0.mk (RD.out.below hb')
      replace HB := Aside0.mk hb
      clear hR hb hg hb'
      refine hK.out _ _ ((blk_cell BE.out 0).trans rfl) (fun hHeld => ?_)
      clear hK K
      refine norm_ (a' := ?_) ?_ ?_
      rotate_left
      · show Act.put _ (some 15) _ = _
        simp only [Act.put, List.setIfInBounds_toArray, List.set_cons_zero, List.set_cons_succ, i64_w, i32_w]
        rfl
      refine two_ (i := 2) (j := 16) (Ni := some 17) (Nj := some 9) (bz 18 7807) (bz 18 73339) rfl rfl rfl rfl (by kernel_rfl) (by decide) (by decide) (fun K hK => ?_) (fun K hK => ?_)
      · skip
        refine Kd.R_append_rows_step (Kd.int .i64) (Rr := (Kd.int .i64).K w5) (w0 := w) w.heap.size (by rfl) (.tmp 15) (.tmp 16) 30 2 (.int .i64 0) 8 rfl Tryz.underlying30 infI rfl (by decide) (by omega) v1 ([] : List Int) vs _ _ _ (fun _ => True) (fun _ => False) rfl rfl RV.out (Kd.C_below HV.out HB.out) (by intro x cs hx; obtain rfl := hx; rfl) (fun _ hk => hk.elim) (fun _ _ => trivial) HB.out HB.out.size (by have := HN.out; have := HNV.out; simp; omega) ?_
        intro v2 w6 hR hb hg _
        have BX_ := Aside0.mk (blk_gro BX.out hg (Kd.R_ne RV.out BX.out (by decide)))
        have B6_ := Aside0.mk (blk_gro B6.out hg (Kd.R_ne RV.out B6.out (by decide)))
        have BE_ := Aside0.mk (blk_gro BE.out hg (Kd.R_ne RV.out BE.out (by decide)))
        replace RD := Aside0.mk (RdAtL.grown RD.out (L1.out.1 ▸ hg) L1.out.2)
        replace BX := BX_
        clear BX_
        replace B6 := B6_
        clear B6_
        replace BE := BE_
        clear BE_
        replace RV := Aside0.mk hR
        replace HB := Aside0.mk hb
        simp only [List.nil_append] at RV
        obtain ⟨A2, c2, rfl⟩ := Kd.R_slice RV.out
        clear hR hb hg L1
        refine hK.out _ _ ((blk_cell BE.out 0).trans rfl) (fun hHeld => ?_)
        clear hK K
        refine norm_ (a' := ?_) ?_ ?_
        rotate_left
        · show Act.put _ (some 17) _ = _
          simp only [Act.put, List.setIfInBounds_toArray, List.set_cons_zero, List.set_cons_succ, i64_w, i32_w]
          rfl
        refine two_ (i := 7) (j := 16) (Ni := some 22) (Nj := some 9) (bz 18 7935) (bz 18 73343) rfl rfl rfl rfl (by kernel_rfl) (by decide) (by decide) (fun K hK => ?_) (fun K hK => ?_)
        · skip
          refine goes_ Tryz.func72 (by kernel_rfl) rfl #[.pointer (some ⟨rd, 0, none⟩), .int .i64 4] (by rfl) rfl rfl zA ?_
          refine (num_calls2 (size := 4) (x := 1) (e := 0) (bs := [1, 0, 0, 0, 1, 0, 0, 0, 0, 0, 0, 0]) (l := [1, 0, 0, 0, 0, 0, 0, 0]) (by rfl) (by omega) (by omega) (bytes_ok _ (by decide)) RD.out).mono ?_
          rintro e w7 ⟨rfl, hR, hg⟩
          refine ⟨_, rfl, ?_⟩
          obtain ⟨crd, hcrd⟩ := rd_blk RD.out
          replace BX := Aside0.mk (blk_gr BX.out hg (ne_types BX.out hcrd))
          replace B6 := Aside0.mk (blk_gr B6.out hg (ne_types B6.out hcrd))
          replace BE := Aside0.mk (blk_gr BE.out hg (ne_types BE.out hcrd))
          replace RV := Aside0.mk (Kd.R_mono (Kd.R_grown (Kd.R_types RV.out hcrd (by decide)) hg (fun k hk e => hk.2 (Option.some.inj e))) (fun _ _ => trivial))
          replace HB := Aside0.mk (pw_below_grown HB.out (some rd) HB.out.size hg (fun k hk => by cases hk; exact GR.out))
          replace RD := Aside0.mk hR
          clear hR hg hcrd crd
          refine hK.out _ _ ((blk_cell BE.out 0).trans rfl) (fun hHeld => ?_)
          clear hK K
          refine norm_ (a' := ?_) ?_ ?_
          rotate_left
          · show Act.put _ (some 22) _ = _
            simp only [Act.put, List.setIfInBounds_toArray, List.set_cons_zero, List.set_cons_succ, i64_w, i32_w]
            rfl
          refine pureZ (some 23) (bz 18 8191) (i := 8) (hc := (by kernel_rfl)) (h := ?_)
          refine two_ (i := 13) (j := 16) (Ni := some 28) (Nj := some 9) (bz 18 16383) (bz 18 73727) rfl rfl rfl rfl (by kernel_rfl) (by decide) (by decide) (fun K hK => ?_) (fun K hK => ?_)
          · skip
            refine goes_ Tryz.func72 (by kernel_rfl) rfl #[.pointer (some ⟨rd, 0, none⟩), .int .i64 4] (by rfl) rfl rfl zA ?_
            refine (num_calls2 (size := 4) (x := 1) (e := 0) (bs := [1, 0, 0, 0, 0, 0, 0, 0]) (l := [0, 0, 0, 0]) (by rfl) (by omega) (by omega) (bytes_ok _ (by decide)) RD.out).mono ?_
            rintro e w8 ⟨rfl, hR, hg⟩
            refine ⟨_, rfl, ?_⟩
            obtain ⟨crd, hcrd⟩ := rd_blk RD.out
            replace BX := Aside0.mk (blk_gr BX.out hg (ne_types BX.out hcrd))
            replace B6 := Aside0.mk (blk_gr B6.out hg (ne_types B6.out hcrd))
            replace BE := Aside0.mk (blk_gr BE.out hg (ne_types BE.out hcrd))
            replace RV := Aside0.mk (Kd.R_mono (Kd.R_grown (Kd.R_types RV.out hcrd (by decide)) hg (fun k hk e => hk.2 (Option.some.inj e))) (fun _ _ => trivial))
            replace HB := Aside0.mk (pw_below_grown HB.out (some rd) HB.out.size hg (fun k hk => by cases hk; exact GR.out))
            replace RD := Aside0.mk hR
            clear hR hg hcrd crd
            refine hK.out _ _ ((blk_cell BE.out 0).trans rfl) (fun hHeld => ?_)
            clear hK K
            refine norm_ (a' := ?_) ?_ ?_
            rotate_left
            · show Act.put _ (some 28) _ = _
              simp only [Act.put, List.setIfInBounds_toArray, List.set_cons_zero, List.set_cons_succ, i64_w, i32_w]
              rfl
            refine pureZ (some 29) (bz 18 32767) (i := 14) (hc := (by kernel_rfl)) (h := ?_)
            refine pureZ (some 30) (bz 18 65535) (i := 15) (hc := (by kernel_rfl)) (h := ?_)
            refine one_ (i := 16) (N := some 9) (bz 18 131071) rfl rfl (by kernel_rfl) (by decide) (fun K hK => ?_)
            refine box_step (by rfl) (N := 9) (by rfl) (cs := #[.slice none 0 0, .slice none 0 0, .slice none 0 0, .slice none 0 0, .slice none 0 0, .int .u32 0, .int .u32 0]) (t := 83) (by first | (go_simp; done) | (go_simp; rfl)) ?_
            intro g9 hg9 w9 hB9 hb9
            have G9 := Aside0.mk (show w.heap.size ≤ g9 by have := HB.out.size; omega)
            have B9 := Aside0.mk hB9
            obtain ⟨crd, hcrd⟩ := rd_blk RD.out
            have L9 := Aside0.mk (show g6 < g9 ∧ rd < g9 by rw [hg9]; exact ⟨blk_lt B6.out, blk_lt hcrd⟩)
            clear hcrd crd
            replace BX := Aside0.mk (blk_below BX.out hb9)
            replace B6 := Aside0.mk (blk_below B6.out hb9)
            replace BE := Aside0.mk (blk_below BE.out hb9)
            replace RD := Aside0.mk (RD.out.below hb9)
            replace RV := Aside0.mk (Kd.R_below RV.out hb9)
            replace HB := Aside0.mk (below_step HB.out hb9)
            clear hB9 hb9 hg9
            refine hK.out _ _ ((blk_cell BE.out 0).trans rfl) (fun hHeld => ?_)
            clear hK K
            refine norm_ (a' := ?_) ?_ ?_
            rotate_left
            · show Act.put _ (some 9) _ = _
              simp only [Act.put, List.setIfInBounds_toArray, List.set_cons_zero, List.set_cons_succ, i64_w, i32_w]
              rfl
            exact norm_ (by simp only [putAll, Act.put, List.setIfInBounds_toArray, List.set_cons_zero, List.set_cons_succ, w321]) (hCont (v1, .slice A2 vs.length c2, g9) _ ⟨hHeld, BX, B6, BE, RD, RV, B9, G9, L9, HB⟩)
          · skip
            refine box_step (by rfl) (N := 9) (by rfl) (cs := #[.slice none 0 0, .slice none 0 0, .slice none 0 0, .slice none 0 0, .slice none 0 0, .int .u32 0, .int .u32 0]) (t := 83) (by first | (go_simp; done) | (go_simp; rfl)) ?_
            intro g9 hg9 w9 hB9 hb9
            have G9 := Aside0.mk (show w.heap.size ≤ g9 by have := HB.out.size; omega)
            have B9 := Aside0.mk hB9
            obtain ⟨crd, hcrd⟩ := rd_blk RD.out
            have L9 := Aside0.mk (show g6 < g9 ∧ rd < g9 by rw [hg9]; exact ⟨blk_lt B6.out, blk_lt hcrd⟩)
            clear hcrd crd
            replace BX := Aside0.mk (blk_below BX.out hb9)
            replace B6 := Aside0.mk (blk_below B6.out hb9)
            replace BE := Aside0.mk (blk_below BE.out hb9)
            replace RD := Aside0.mk (RD.out.below hb9)
            replace RV := Aside0.mk (Kd.R_below RV.out hb9)
            replace HB := Aside0.mk (below_step HB.out hb9)
            clear hB9 hb9 hg9
            refine hK.out _ _ ((blk_cell BE.out 0).trans rfl) (fun hHeld => ?_)
            clear hK K
            refine norm_ (a' := ?_) ?_ ?_
            rotate_left
            · show Act.put _ (some 9) _ = _
              simp only [Act.put, List.setIfInBounds_toArray, List.set_cons_zero, List.set_cons_succ, i64_w, i32_w]
              rfl
            refine one_ (i := 13) (N := some 28) (bz 18 81919) rfl rfl (by kernel_rfl) (by decide) (fun K hK => ?_)
            refine goes_ Tryz.func72 (by kernel_rfl) rfl #[.pointer (some ⟨rd, 0, none⟩), .int .i64 4] (by rfl) rfl rfl zA ?_
            refine (num_calls2 (size := 4) (x := 1) (e := 0) (bs := [1, 0, 0, 0, 0, 0, 0, 0]) (l := [0, 0, 0, 0]) (by rfl) (by omega) (by omega) (bytes_ok _ (by decide)) RD.out).mono ?_
            rintro e w8 ⟨rfl, hR, hg⟩
            refine ⟨_, rfl, ?_⟩
            obtain ⟨crd, hcrd⟩ := rd_blk RD.out
            replace BX := Aside0.mk (blk_gr BX.out hg (ne_types BX.out hcrd))
            replace B6 := Aside0.mk (blk_gr B6.out hg (ne_types B6.out hcrd))
            replace BE := Aside0.mk (blk_gr BE.out hg (ne_types BE.out hcrd))
            replace B9 := Aside0.mk (blk_gr B9.out hg (ne_types B9.out hcrd))
            replace RV := Aside0.mk (Kd.R_mono (Kd.R_grown (Kd.R_types RV.out hcrd (by decide)) hg (fun k hk e => hk.2 (Option.some.inj e))) (fun _ _ => trivial))
            replace HB := Aside0.mk (pw_below_grown HB.out (some rd) HB.out.size hg (fun k hk => by cases hk; exact GR.out))
            replace RD := Aside0.mk hR
            clear hR hg hcrd crd
            refine hK.out _ _ ((blk_cell BE.out 0).trans rfl) (fun hHeld => ?_)
            clear hK K
            refine norm_ (a' := ?_) ?_ ?_
            rotate_left
            · show Act.put _ (some 28) _ = _
              simp only [Act.put, List.setIfInBounds_toArray, List.set_cons_zero, List.set_cons_succ, i64_w, i32_w]
              rfl
            refine pureZ (some 29) (bz 18 98303) (i := 14) (hc := (by kernel_rfl)) (h := ?_)
            refine pureZ (some 30) (bz 18 131071) (i := 15) (hc := (by kernel_rfl)) (h := ?_)
            exact norm_ (by simp only [putAll, Act.put, List.setIfInBounds_toArray, List.set_cons_zero, List.set_cons_succ, w321]) (hCont (v1, .slice A2 vs.length c2, g9) _ ⟨hHeld, BX, B6, BE, RD, RV, B9, G9, L9, HB⟩)
        · skip
          refine box_step (by rfl) (N := 9) (by rfl) (cs := #[.slice none 0 0, .slice none 0 0, .slice none 0 0, .slice none 0 0, .slice none 0 0, .int .u32 0, .int .u32 0]) (t := 83) (by first | (go_simp; done) | (go_simp; rfl)) ?_
          intro g9 hg9 w9 hB9 hb9
          have G9 := Aside0.mk (show w.heap.size ≤ g9 by have := HB.out.size; omega)
          have B9 := Aside0.mk hB9
          obtain ⟨crd, hcrd⟩ := rd_blk RD.out
          have L9 := Aside0.mk (show g6 < g9 ∧ rd < g9 by rw [hg9]; exact ⟨blk_lt B6.out, blk_lt hcrd⟩)
          clear hcrd crd
          replace BX := Aside0.mk (blk_below BX.out hb9)
          replace B6 := Aside0.mk (blk_below B6.out hb9)
          replace BE := Aside0.mk (blk_below BE.out hb9)
          replace RD := Aside0.mk (RD.out.below hb9)
          replace RV := Aside0.mk (Kd.R_below RV.out hb9)
          replace HB := Aside0.mk (below_step HB.out hb9)
          clear hB9 hb9 hg9
          refine hK.out _ _ ((blk_cell BE.out 0).trans rfl) (fun hHeld => ?_)
          clear hK K
          refine norm_ (a' := ?_) ?_ ?_
          rotate_left
          · show Act.put _ (some 9) _ = _
            simp only [Act.put, List.setIfInBounds_toArray, List.set_cons_zero, List.set_cons_succ, i64_w, i32_w]
            rfl
          refine one_ (i := 7) (N := some 22) (bz 18 73471) rfl rfl (by kernel_rfl) (by decide) (fun K hK => ?_)
          refine goes_ Tryz.func72 (by kernel_rfl) rfl #[.pointer (some ⟨rd, 0, none⟩), .int .i64 4] (by rfl) rfl rfl zA ?_
          refine (num_calls2 (size := 4) (x := 1) (e := 0) (bs := [1, 0, 0, 0, 1, 0, 0, 0, 0, 0, 0, 0]) (l := [1, 0, 0, 0, 0, 0, 0, 0]) (by rfl) (by omega) (by omega) (bytes_ok _ (by decide)) RD.out).mono ?_
          rintro e w7 ⟨rfl, hR, hg⟩
          refine ⟨_, rfl, ?_⟩
          obtain ⟨crd, hcrd⟩ := rd_blk RD.out
          replace BX := Aside0.mk (blk_gr BX.out hg (ne_types BX.out hcrd))
          replace B6 := Aside0.mk (blk_gr B6.out hg (ne_types B6.out hcrd))
          replace BE := Aside0.mk (blk_gr BE.out hg (ne_types BE.out hcrd))
          replace B9 := Aside0.mk (blk_gr B9.out hg (ne_types B9.out hcrd))
          replace RV := Aside0.mk (Kd.R_mono (Kd.R_grown (Kd.R_types RV.out hcrd (by decide)) hg (fun k hk e => hk.2 (Option.some.inj e))) (fun _ _ => trivial))
          replace HB := Aside0.mk (pw_below_grown HB.out (some rd) HB.out.size hg (fun k hk => by cases hk; exact GR.out))
          replace RD := Aside0.mk hR
          clear hR hg hcrd crd
          refine hK.out _ _ ((blk_cell BE.out 0).trans rfl) (fun hHeld => ?_)
          clear hK K
          refine norm_ (a' := ?_) ?_ ?_
          rotate_left
          · show Act.put _ (some 22) _ = _
            simp only [Act.put, List.setIfInBounds_toArray, List.set_cons_zero, List.set_cons_succ, i64_w, i32_w]
            rfl
          refine pureZ (some 23) (bz 18 73727) (i := 8) (hc := (by kernel_rfl)) (h := ?_)
          refine one_ (i := 13) (N := some 28) (bz 18 81919) rfl rfl (by kernel_rfl) (by decide) (fun K hK => ?_)
          refine goes_ Tryz.func72 (by kernel_rfl) rfl #[.pointer (some ⟨rd, 0, none⟩), .int .i64 4] (by rfl) rfl rfl zA ?_
          refine (num_calls2 (size := 4) (x := 1) (e := 0) (bs := [1, 0, 0, 0, 0, 0, 0, 0]) (l := [0, 0, 0, 0]) (by rfl) (by omega) (by omega) (bytes_ok _ (by decide)) RD.out).mono ?_
          rintro e w8 ⟨rfl, hR, hg⟩
          refine ⟨_, rfl, ?_⟩
          obtain ⟨crd, hcrd⟩ := rd_blk RD.out
          replace BX := Aside0.mk (blk_gr BX.out hg (ne_types BX.out hcrd))
          replace B6 := Aside0.mk (blk_gr B6.out hg (ne_types B6.out hcrd))
          replace BE := Aside0.mk (blk_gr BE.out hg (ne_types BE.out hcrd))
          replace B9 := Aside0.mk (blk_gr B9.out hg (ne_types B9.out hcrd))
          replace RV := Aside0.mk (Kd.R_mono (Kd.R_grown (Kd.R_types RV.out hcrd (by decide)) hg (fun k hk e => hk.2 (Option.some.inj e))) (fun _ _ => trivial))
          replace HB := Aside0.mk (pw_below_grown HB.out (some rd) HB.out.size hg (fun k hk => by cases hk; exact GR.out))
          replace RD := Aside0.mk hR
          clear hR hg hcrd crd
          refine hK.out _ _ ((blk_cell BE.out 0).trans rfl) (fun hHeld => ?_)
          clear hK K
          refine norm_ (a' := ?_) ?_ ?_
          rotate_left
          · show Act.put _ (some 28) _ = _
            simp only [Act.put, List.setIfInBounds_toArray, List.set_cons_zero, List.set_cons_succ, i64_w, i32_w]
            rfl
          refine pureZ (some 29) (bz 18 98303) (i := 14) (hc := (by kernel_rfl)) (h := ?_)
          refine pureZ (some 30) (bz 18 131071) (i := 15) (hc := (by kernel_rfl)) (h := ?_)
          exact norm_ (by simp only [putAll, Act.put, List.setIfInBounds_toArray, List.set_cons_zero, List.set_cons_succ, w321]) (hCont (v1, .slice A2 vs.length c2, g9) _ ⟨hHeld, BX, B6, BE, RD, RV, B9, G9, L9, HB⟩)
      · skip
        refine box_step (by rfl) (N := 9) (by rfl) (cs := #[.slice none 0 0, .slice none 0 0, .slice none 0 0, .slice none 0 0, .slice none 0 0, .int .u32 0, .int .u32 0]) (t := 83) (by first | (go_simp; done) | (go_simp; rfl)) ?_
        intro g9 hg9 w9 hB9 hb9
        have G9 := Aside0.mk (show w.heap.size ≤ g9 by have := HB.out.size; omega)
        have B9 := Aside0.mk hB9
        obtain ⟨crd, hcrd⟩ := rd_blk RD.out
        have L9 := Aside0.mk (show g6 < g9 ∧ rd < g9 by rw [hg9]; exact ⟨blk_lt B6.out, blk_lt hcrd⟩)
        clear hcrd crd
        replace BX := Aside0.mk (blk_below BX.out hb9)
        replace B6 := Aside0.mk (blk_below B6.out hb9)
        replace BE := Aside0.mk (blk_below BE.out hb9)
        replace RD := Aside0.mk (RD.out.below hb9)
        replace RV := Aside0.mk (Kd.R_below RV.out hb9)
        replace HB := Aside0.mk (below_step HB.out hb9)
        clear hB9 hb9 hg9
        refine hK.out _ _ ((blk_cell BE.out 0).trans rfl) (fun hHeld => ?_)
        clear hK K
        refine norm_ (a' := ?_) ?_ ?_
        rotate_left
        · show Act.put _ (some 9) _ = _
          simp only [Act.put, List.setIfInBounds_toArray, List.set_cons_zero, List.set_cons_succ, i64_w, i32_w]
          rfl
        refine one_ (i := 2) (N := some 17) (bz 18 73343) rfl rfl (by kernel_rfl) (by decide) (fun K hK => ?_)
        refine Kd.R_append_rows_step (Kd.int .i64) (Rr := (Kd.int .i64).K w9) (w0 := w) w.heap.size (by rfl) (.tmp 15) (.tmp 16) 30 2 (.int .i64 0) 8 rfl Tryz.underlying30 infI rfl (by decide) (by omega) v1 ([] : List Int) vs _ _ _ (fun _ => True) (fun _ => False) rfl rfl RV.out (Kd.C_below HV.out HB.out) (by intro x cs hx; obtain rfl := hx; rfl) (fun _ hk => hk.elim) (fun _ _ => trivial) HB.out HB.out.size (by have := HN.out; have := HNV.out; simp; omega) ?_
        intro v2 w6 hR hb hg _
        have BX_ := Aside0.mk (blk_gro BX.out hg (Kd.R_ne RV.out BX.out (by decide)))
        have B6_ := Aside0.mk (blk_gro B6.out hg (Kd.R_ne RV.out B6.out (by decide)))
        have BE_ := Aside0.mk (blk_gro BE.out hg (Kd.R_ne RV.out BE.out (by decide)))
        have B9_ := Aside0.mk (blk_gro B9.out hg (Kd.R_ne RV.out B9.out (by decide)))
        replace RD := Aside0.mk (RdAtL.grown RD.out (L1.out.1 ▸ hg) L1.out.2)
        replace BX := BX_
        clear BX_
        replace B6 := B6_
        clear B6_
        replace BE := BE_
        clear BE_
        replace B9 := B9_
        clear B9_
        replace RV := Aside0.mk hR
        replace HB := Aside0.mk hb
        simp only [List.nil_append] at RV
        obtain ⟨A2, c2, rfl⟩ := Kd.R_slice RV.out
        clear hR hb hg L1
        refine hK.out _ _ ((blk_cell BE.out 0).trans rfl) (fun hHeld => ?_)
        clear hK K
        refine norm_ (a' := ?_) ?_ ?_
        rotate_left
        · show Act.put _ (some 17) _ = _
          simp only [Act.put, List.setIfInBounds_toArray, List.set_cons_zero, List.set_cons_succ, i64_w, i32_w]
          rfl
        refine one_ (i := 7) (N := some 22) (bz 18 73471) rfl rfl (by kernel_rfl) (by decide) (fun K hK => ?_)
        refine goes_ Tryz.func72 (by kernel_rfl) rfl #[.pointer (some ⟨rd, 0, none⟩), .int .i64 4] (by rfl) rfl rfl zA ?_
        refine (num_calls2 (size := 4) (x := 1) (e := 0) (bs := [1, 0, 0, 0, 1, 0, 0, 0, 0, 0, 0, 0]) (l := [1, 0, 0, 0, 0, 0, 0, 0]) (by rfl) (by omega) (by omega) (bytes_ok _ (by decide)) RD.out).mono ?_
        rintro e w7 ⟨rfl, hR, hg⟩
        refine ⟨_, rfl, ?_⟩
        obtain ⟨crd, hcrd⟩ := rd_blk RD.out
        replace BX := Aside0.mk (blk_gr BX.out hg (ne_types BX.out hcrd))
        replace B6 := Aside0.mk (blk_gr B6.out hg (ne_types B6.out hcrd))
        replace BE := Aside0.mk (blk_gr BE.out hg (ne_types BE.out hcrd))
        replace B9 := Aside0.mk (blk_gr B9.out hg (ne_types B9.out hcrd))
        replace RV := Aside0.mk (Kd.R_mono (Kd.R_grown (Kd.R_types RV.out hcrd (by decide)) hg (fun k hk e => hk.2 (Option.some.inj e))) (fun _ _ => trivial))
        replace HB := Aside0.mk (pw_below_grown HB.out (some rd) HB.out.size hg (fun k hk => by cases hk; exact GR.out))
        replace RD := Aside0.mk hR
        clear hR hg hcrd crd
        refine hK.out _ _ ((blk_cell BE.out 0).trans rfl) (fun hHeld => ?_)
        clear hK K
        refine norm_ (a' := ?_) ?_ ?_
        rotate_left
        · show Act.put _ (some 22) _ = _
          simp only [Act.put, List.setIfInBounds_toArray, List.set_cons_zero, List.set_cons_succ, i64_w, i32_w]
          rfl
        refine pureZ (some 23) (bz 18 73727) (i := 8) (hc := (by kernel_rfl)) (h := ?_)
        refine one_ (i := 13) (N := some 28) (bz 18 81919) rfl rfl (by kernel_rfl) (by decide) (fun K hK => ?_)
        refine goes_ Tryz.func72 (by kernel_rfl) rfl #[.pointer (some ⟨rd, 0, none⟩), .int .i64 4] (by rfl) rfl rfl zA ?_
        refine (num_calls2 (size := 4) (x := 1) (e := 0) (bs := [1, 0, 0, 0, 0, 0, 0, 0]) (l := [0, 0, 0, 0]) (by rfl) (by omega) (by omega) (bytes_ok _ (by decide)) RD.out).mono ?_
        rintro e w8 ⟨rfl, hR, hg⟩
        refine ⟨_, rfl, ?_⟩
        obtain ⟨crd, hcrd⟩ := rd_blk RD.out
        replace BX := Aside0.mk (blk_gr BX.out hg (ne_types BX.out hcrd))
        replace B6 := Aside0.mk (blk_gr B6.out hg (ne_types B6.out hcrd))
        replace BE := Aside0.mk (blk_gr BE.out hg (ne_types BE.out hcrd))
        replace B9 := Aside0.mk (blk_gr B9.out hg (ne_types B9.out hcrd))
        replace RV := Aside0.mk (Kd.R_mono (Kd.R_grown (Kd.R_types RV.out hcrd (by decide)) hg (fun k hk e => hk.2 (Option.some.inj e))) (fun _ _ => trivial))
        replace HB := Aside0.mk (pw_below_grown HB.out (some rd) HB.out.size hg (fun k hk => by cases hk; exact GR.out))
        replace RD := Aside0.mk hR
        clear hR hg hcrd crd
        refine hK.out _ _ ((blk_cell BE.out 0).trans rfl) (fun hHeld => ?_)
        clear hK K
        refine norm_ (a' := ?_) ?_ ?_
        rotate_left
        · show Act.put _ (some 28) _ = _
          simp only [Act.put, List.setIfInBounds_toArray, List.set_cons_zero, List.set_cons_succ, i64_w, i32_w]
          rfl
        refine pureZ (some 29) (bz 18 98303) (i := 14) (hc := (by kernel_rfl)) (h := ?_)
        refine pureZ (some 30) (bz 18 131071) (i := 15) (hc := (by kernel_rfl)) (h := ?_)
        exact norm_ (by simp only [putAll, Act.put, List.setIfInBounds_toArray, List.set_cons_zero, List.set_cons_succ, w321]) (hCont (v1, .slice A2 vs.length c2, g9) _ ⟨hHeld, BX, B6, BE, RD, RV, B9, G9, L9, HB⟩)
    · skip
      refine box_step (by rfl) (N := 9) (by rfl) (cs := #[.slice none 0 0, .slice none 0 0, .slice none 0 0, .slice none 0 0, .slice none 0 0, .int .u32 0, .int .u32 0]) (t := 83) (by first | (go_simp; done) | (go_simp; rfl)) ?_
      intro g9 hg9 w9 hB9 hb9
      have G9 := Aside0.mk (show w.heap.size ≤ g9 by have := HB.out.size; omega)
      have B9 := Aside0.mk hB9
      obtain ⟨crd, hcrd⟩ := rd_blk RD.out
      have L9 := Aside0.mk (show g6 < g9 ∧ rd < g9 by rw [hg9]; exact ⟨blk_lt B6.out, blk_lt hcrd⟩)
      clear hcrd crd
      replace BX := Aside0.mk (blk_below BX.out hb9)
      replace B6 := Aside0.mk (blk_below B6.out hb9)
      replace BE := Aside0.mk (blk_below BE.out hb9)
      replace RD := Aside0.mk (RD.out.below hb9)
      replace HB := Aside0.mk (below_step HB.out hb9)
      clear hB9 hb9 hg9
      refine hK.out _ _ ((blk_cell BE.out 0).trans rfl) (fun hHeld => ?_)
      clear hK K
      refine norm_ (a' := ?_) ?_ ?_
      rotate_left
      · show Act.put _ (some 9) _ = _
        simp only [Act.put, List.setIfInBounds_toArray, List.set_cons_zero, List.set_cons_succ, i64_w, i32_w]
        rfl
      refine one_ (i := 0) (N := some 15) (bz 18 73339) rfl rfl (by kernel_rfl) (by decide) (fun K hK => ?_)
      refine Kd.R_lit_step (Kd.int .i64) (w0 := w) w.heap.size 2 (by rfl) (N := 15) (by rfl) (xs := ([] : List Int)) (inner := []) (ok := fun _ => True) (okp := fun _ => False) (by first | (go_simp; done) | (go_simp; rfl)) (Reps.none _ _) (fun _ _ => trivial) trivial HB.out HB.out.size (by simp) ?_
      intro v1 w5 hR hb hg ⟨b1, hv1, hb1⟩
      obtain ⟨crd, hcrd⟩ := rd_blk RD.out
      have L1 := Aside0.mk (show v1.ownBlock = some b1 ∧ rd < b1 from ⟨hv1, Nat.lt_of_lt_of_le (blk_lt hcrd) hb1⟩)
      clear hv1 hb1 hcrd crd
      have hb' : Below w9.heap.size w9 w5 := ⟨hg.os, hg.tape, hg.output, hg.size, fun k hk => hg.block k hk (by simp)⟩
      have RV := Aside0.mk hR
      replace BX := Aside0.mk (blk_below BX.out hb')
      replace B6 := Aside0.mk (blk_below B6.out hb')
      replace BE := Aside0.mk (blk_below BE.out hb')
      replace B9 := Aside0.mk (blk_below B9.out hb')
      replace RD := Aside0.mk (RD.out.below hb')
      replace HB := Aside0.mk hb
      clear hR hb hg hb'
      refine hK.out _ _ ((blk_cell BE.out 0).trans rfl) (fun hHeld => ?_)
      clear hK K
      refine norm_ (a' := ?_) ?_ ?_
      rotate_left
      · show Act.put _ (some 15) _ = _
        simp only [Act.put, List.setIfInBounds_toArray, List.set_cons_zero, List.set_cons_succ, i64_w, i32_w]
        rfl
      refine one_ (i := 2) (N := some 17) (bz 18 73343) rfl rfl (by kernel_rfl) (by decide) (fun K hK => ?_)
      refine Kd.R_append_rows_step (Kd.int .i64) (Rr := (Kd.int .i64).K w5) (w0 := w) w.heap.size (by rfl) (.tmp 15) (.tmp 16) 30 2 (.int .i64 0) 8 rfl Tryz.underlying30 infI rfl (by decide) (by omega) v1 ([] : List Int) vs _ _ _ (fun _ => True) (fun _ => False) rfl rfl RV.out (Kd.C_below HV.out HB.out) (by intro x cs hx; obtain rfl := hx; rfl) (fun _ hk => hk.elim) (fun _ _ => trivial) HB.out HB.out.size (by have := HN.out; have := HNV.out; simp; omega) ?_
      intro v2 w6 hR hb hg _
      have BX_ := Aside0.mk (blk_gro BX.out hg (Kd.R_ne RV.out BX.out (by decide)))
      have B6_ := Aside0.mk (blk_gro B6.out hg (Kd.R_ne RV.out B6.out (by decide)))
      have BE_ := Aside0.mk (blk_gro BE.out hg (Kd.R_ne RV.out BE.out (by decide)))
      have B9_ := Aside0.mk (blk_gro B9.out hg (Kd.R_ne RV.out B9.out (by decide)))
      replace RD := Aside0.mk (RdAtL.grown RD.out (L1.out.1 ▸ hg) L1.out.2)
      replace BX := BX_
      clear BX_
      replace B6 := B6_
      clear B6_
      replace BE := BE_
      clear BE_
      replace B9 := B9_
      clear B9_
      replace RV := Aside0.mk hR
      replace HB := Aside0.mk hb
      simp only [List.nil_append] at RV
      obtain ⟨A2, c2, rfl⟩ := Kd.R_slice RV.out
      clear hR hb hg L1
      refine hK.out _ _ ((blk_cell BE.out 0).trans rfl) (fun hHeld => ?_)
      clear hK K
      refine norm_ (a' := ?_) ?_ ?_
      rotate_left
      · show Act.put _ (some 17) _ = _
        simp only [Act.put, List.setIfInBounds_toArray, List.set_cons_zero, List.set_cons_succ, i64_w, i32_w]
        rfl
      refine one_ (i := 7) (N := some 22) (bz 18 73471) rfl rfl (by kernel_rfl) (by decide) (fun K hK => ?_)
      refine goes_ Tryz.func72 (by kernel_rfl) rfl #[.pointer (some ⟨rd, 0, none⟩), .int .i64 4] (by rfl) rfl rfl zA ?_
      refine (num_calls2 (size := 4) (x := 1) (e := 0) (bs := [1, 0, 0, 0, 1, 0, 0, 0, 0, 0, 0, 0]) (l := [1, 0, 0, 0, 0, 0, 0, 0]) (by rfl) (by omega) (by omega) (bytes_ok _ (by decide)) RD.out).mono ?_
      rintro e w7 ⟨rfl, hR, hg⟩
      refine ⟨_, rfl, ?_⟩
      obtain ⟨crd, hcrd⟩ := rd_blk RD.out
      replace BX := Aside0.mk (blk_gr BX.out hg (ne_types BX.out hcrd))
      replace B6 := Aside0.mk (blk_gr B6.out hg (ne_types B6.out hcrd))
      replace BE := Aside0.mk (blk_gr BE.out hg (ne_types BE.out hcrd))
      replace B9 := Aside0.mk (blk_gr B9.out hg (ne_types B9.out hcrd))
      replace RV := Aside0.mk (Kd.R_mono (Kd.R_grown (Kd.R_types RV.out hcrd (by decide)) hg (fun k hk e => hk.2 (Option.some.inj e))) (fun _ _ => trivial))
      replace HB := Aside0.mk (pw_below_grown HB.out (some rd) HB.out.size hg (fun k hk => by cases hk; exact GR.out))
      replace RD := Aside0.mk hR
      clear hR hg hcrd crd
      refine hK.out _ _ ((blk_cell BE.out 0).trans rfl) (fun hHeld => ?_)
      clear hK K
      refine norm_ (a' := ?_) ?_ ?_
      rotate_left
      · show Act.put _ (some 22) _ = _
        simp only [Act.put, List.setIfInBounds_toArray, List.set_cons_zero, List.set_cons_succ, i64_w, i32_w]
        rfl
      refine pureZ (some 23) (bz 18 73727) (i := 8) (hc := (by kernel_rfl)) (h := ?_)
      refine one_ (i := 13) (N := some 28) (bz 18 81919) rfl rfl (by kernel_rfl) (by decide) (fun K hK => ?_)
      refine goes_ Tryz.func72 (by kernel_rfl) rfl #[.pointer (some ⟨rd, 0, none⟩), .int .i64 4] (by rfl) rfl rfl zA ?_
      refine (num_calls2 (size := 4) (x := 1) (e := 0) (bs := [1, 0, 0, 0, 0, 0, 0, 0]) (l := [0, 0, 0, 0]) (by rfl) (by omega) (by omega) (bytes_ok _ (by decide)) RD.out).mono ?_
      rintro e w8 ⟨rfl, hR, hg⟩
      refine ⟨_, rfl, ?_⟩
      obtain ⟨crd, hcrd⟩ := rd_blk RD.out
      replace BX := Aside0.mk (blk_gr BX.out hg (ne_types BX.out hcrd))
      replace B6 := Aside0.mk (blk_gr B6.out hg (ne_types B6.out hcrd))
      replace BE := Aside0.mk (blk_gr BE.out hg (ne_types BE.out hcrd))
      replace B9 := Aside0.mk (blk_gr B9.out hg (ne_types B9.out hcrd))
      replace RV := Aside0.mk (Kd.R_mono (Kd.R_grown (Kd.R_types RV.out hcrd (by decide)) hg (fun k hk e => hk.2 (Option.some.inj e))) (fun _ _ => trivial))
      replace HB := Aside0.mk (pw_below_grown HB.out (some rd) HB.out.size hg (fun k hk => by cases hk; exact GR.out))
      replace RD := Aside0.mk hR
      clear hR hg hcrd crd
      refine hK.out _ _ ((blk_cell BE.out 0).trans rfl) (fun hHeld => ?_)
      clear hK K
      refine norm_ (a' := ?_) ?_ ?_
      rotate_left
      · show Act.put _ (some 28) _ = _
        simp only [Act.put, List.setIfInBounds_toArray, List.set_cons_zero, List.set_cons_succ, i64_w, i32_w]
        rfl
      refine pureZ (some 29) (bz 18 98303) (i := 14) (hc := (by kernel_rfl)) (h := ?_)
      refine pureZ (some 30) (bz 18 131071) (i := 15) (hc := (by kernel_rfl)) (h := ?_)
      exact norm_ (by simp only [putAll, Act.put, List.setIfInBounds_toArray, List.set_cons_zero, List.set_cons_succ, w321]) (hCont (v1, .slice A2 vs.length c2, g9) _ ⟨hHeld, BX, B6, BE, RD, RV, B9, G9, L9, HB⟩)
  clear BX B6 BE RD HB hHeld HY HV
  rintro ⟨v1, v2, g9⟩ w10 ⟨hHeld, BX, B6, BE, RD, RV, B9, G9, L9, HB⟩
  dsimp only at RV B9 G9 L9
  obtain ⟨A2, c2, rfl⟩ := Kd.R_slice RV.out
  refine norm_ (a' := ?_) ?_ ?_
  rotate_left
  · simp only [putAll, Act.put, List.setIfInBounds_toArray, List.set_cons_zero, List.set_cons_succ, i64_w, i32_w]
    rfl
  refine last_ (i := 17) (N := none) (bz 18 262143) rfl rfl (by kernel_rfl) (by decide) (fun K hK => ?_)
  refine srow_step 83 (.tmp 9) (.tmp 30) g9 #[.slice A2 vs.length c2, .slice none 0 0, .slice none 0 0, .slice none 0 0, .slice none 0 0, .int .u32 1, .int .u32 1] B9.out (by rfl) rfl rfl (by rfl) (by rfl) (by kernel_rfl) rfl (by simp [Value.oneCell']) ?_
  intro w11 h9 hg
  refine hK.out _ _ ?_
  clear hK K
  replace BX := Aside0.mk (blk_gr BX.out hg (ne_types BX.out B9.out))
  replace B6 := Aside0.mk (blk_gr B6.out hg (Nat.ne_of_lt L9.out.1))
  replace BE := Aside0.mk (blk_gr BE.out hg (ne_types BE.out B9.out))
  replace RD := Aside0.mk (RdAtL.grown RD.out hg L9.out.2)
  replace RV := Aside0.mk (Kd.R_mono (Kd.R_grown (Kd.R_types RV.out B9.out (by decide)) hg (fun k hk e => hk.2 (Option.some.inj e))) (fun _ _ => trivial))
  replace HB := Aside0.mk (pw_below_grown HB.out (some g9) HB.out.size hg (fun k hk => by cases hk; exact G9.out))
  replace B9 := Aside0.mk h9
  clear h9 hg hHeld
  refine done_ (by kernel_rfl) ?_
  go_wp2_with (first | fail)
  refine (getT_nil ge rd [0, 0, 0] _ (bytes_ok _ (by decide)) _ BE.out RD.out).mono ?_
  rintro e w12 ⟨rfl, hR, hg⟩
  obtain ⟨crd, hcrd⟩ := rd_blk RD.out
  replace BX := Aside0.mk (blk_gr BX.out hg (ne_types BX.out hcrd))
  replace B6 := Aside0.mk (blk_gr B6.out hg (ne_types B6.out hcrd))
  replace BE := Aside0.mk (blk_gr BE.out hg (ne_types BE.out hcrd))
  replace B9 := Aside0.mk (blk_gr B9.out hg (ne_types B9.out hcrd))
  replace RV := Aside0.mk (Kd.R_mono (Kd.R_grown (Kd.R_types RV.out hcrd (by decide)) hg (fun k hk e => hk.2 (Option.some.inj e))) (fun _ _ => trivial))
  replace HB := Aside0.mk (pw_below_grown HB.out (some rd) HB.out.size hg (fun k hk => by cases hk; exact GR.out))
  replace RD := Aside0.mk hR
  clear hR hg hcrd crd
  obtain ⟨k0, k1, k2, k3, k4, k5, k6, f0, f1, f2, f3, f4, f5, f6⟩ := zcf7 B9.out
  have e0 := (blk_cell (blk_far (p := ⟨g9, 1, none⟩) BE.out (ne_types BE.out B9.out) (.slice none 0 0)) 0).trans rfl
  have e1 := (blk_cell (blk_far (p := ⟨g9, 1, none⟩) BE.out (ne_types BE.out B9.out) (.slice none 0 0)) 1).trans rfl
  go_wp2_with (first | fail)
  clear k0 k1 k2 k3 k4 k5 k6 f0 f1 f2 f3 f4 f5 f6 e0 e1
  replace BX := Aside0.mk (blk_far (p := ⟨g9, 1, none⟩) BX.out (ne_types BX.out B9.out) (.slice none 0 0))
  replace B6 := Aside0.mk (blk_far (p := ⟨g9, 1, none⟩) B6.out (Nat.ne_of_lt L9.out.1) (.slice none 0 0))
  replace BE := Aside0.mk (blk_far (p := ⟨g9, 1, none⟩) BE.out (ne_types BE.out B9.out) (.slice none 0 0))
  replace RD := Aside0.mk (RdAtL.far (p := ⟨g9, 1, none⟩) RD.out L9.out.2 (.slice none 0 0))
  replace RV := Aside0.mk (Kd.R_set RV.out B9.out (by decide) 1 (.slice none 0 0))
  replace HB := Aside0.mk (below_set (j := 1) (v := .slice none 0 0) HB.out G9.out)
  replace B9 := Aside0.mk (show (World.setCell w12 ⟨g9, 1, none⟩ (.slice none 0 0)).heap[g9]? = some (.cells #[.slice A2 vs.length c2, .slice none 0 0, .slice none 0 0, .slice none 0 0, .slice none 0 0, .int .u32 1, .int .u32 1] 83 (0, 0)) from blk_set B9.out 1 (.slice none 0 0))
  generalize (World.setCell w12 ⟨g9, 1, none⟩ (.slice none 0 0)) = w13 at *
  refine (getC_nil ge rd [0, 0] _ (bytes_ok _ (by decide)) _ BE.out RD.out).mono ?_
  rintro e w14 ⟨rfl, hR, hg⟩
  obtain ⟨crd, hcrd⟩ := rd_blk RD.out
  replace BX := Aside0.mk (blk_gr BX.out hg (ne_types BX.out hcrd))
  replace B6 := Aside0.mk (blk_gr B6.out hg (ne_types B6.out hcrd))
  replace BE := Aside0.mk (blk_gr BE.out hg (ne_types BE.out hcrd))
  replace B9 := Aside0.mk (blk_gr B9.out hg (ne_types B9.out hcrd))
  replace RV := Aside0.mk (Kd.R_mono (Kd.R_grown (Kd.R_types RV.out hcrd (by decide)) hg (fun k hk e => hk.2 (Option.some.inj e))) (fun _ _ => trivial))
  replace HB := Aside0.mk (pw_below_grown HB.out (some rd) HB.out.size hg (fun k hk => by cases hk; exact GR.out))
  replace RD := Aside0.mk hR
  clear hR hg hcrd crd
  obtain ⟨k0, k1, k2, k3, k4, k5, k6, f0, f1, f2, f3, f4, f5, f6⟩ := zcf7 B9.out
  have e0 := (blk_cell (blk_far (p := ⟨g9, 2, none⟩) BE.out (ne_types BE.out B9.out) (.slice none 0 0)) 0).trans rfl
  have e1 := (blk_cell (blk_far (p := ⟨g9, 2, none⟩) BE.out (ne_types BE.out B9.out) (.slice none 0 0)) 1).trans rfl
  go_wp2_with (first | fail)
  clear k0 k1 k2 k3 k4 k5 k6 f0 f1 f2 f3 f4 f5 f6 e0 e1
  replace BX := Aside0.mk (blk_far (p := ⟨g9, 2, none⟩) BX.out (ne_types BX.out B9.out) (.slice none 0 0))
  replace B6 := Aside0.mk (blk_far (p := ⟨g9, 2, none⟩) B6.out (Nat.ne_of_lt L9.out.1) (.slice none 0 0))
  replace BE := Aside0.mk (blk_far (p := ⟨g9, 2, none⟩) BE.out (ne_types BE.out B9.out) (.slice none 0 0))
  replace RD := Aside0.mk (RdAtL.far (p := ⟨g9, 2, none⟩) RD.out L9.out.2 (.slice none 0 0))
  replace RV := Aside0.mk (Kd.R_set RV.out B9.out (by decide) 2 (.slice none 0 0))
  replace HB := Aside0.mk (below_set (j := 2) (v := .slice none 0 0) HB.out G9.out)
  replace B9 := Aside0.mk (show (World.setCell w14 ⟨g9, 2, none⟩ (.slice none 0 0)).heap[g9]? = some (.cells #[.slice A2 vs.length c2, .slice none 0 0, .slice none 0 0, .slice none 0 0, .slice none 0 0, .int .u32 1, .int .u32 1] 83 (0, 0)) from blk_set B9.out 2 (.slice none 0 0))
  generalize (World.setCell w14 ⟨g9, 2, none⟩ (.slice none 0 0)) = w15 at *
  refine (getO_nil ge rd [0] _ (bytes_ok _ (by decide)) _ BE.out RD.out).mono ?_
  rintro e w16 ⟨rfl, hR, hg⟩
  obtain ⟨crd, hcrd⟩ := rd_blk RD.out
  replace BX := Aside0.mk (blk_gr BX.out hg (ne_types BX.out hcrd))
  replace B6 := Aside0.mk (blk_gr B6.out hg (ne_types B6.out hcrd))
  replace BE := Aside0.mk (blk_gr BE.out hg (ne_types BE.out hcrd))
  replace B9 := Aside0.mk (blk_gr B9.out hg (ne_types B9.out hcrd))
  replace RV := Aside0.mk (Kd.R_mono (Kd.R_grown (Kd.R_types RV.out hcrd (by decide)) hg (fun k hk e => hk.2 (Option.some.inj e))) (fun _ _ => trivial))
  replace HB := Aside0.mk (pw_below_grown HB.out (some rd) HB.out.size hg (fun k hk => by cases hk; exact GR.out))
  replace RD := Aside0.mk hR
  clear hR hg hcrd crd
  obtain ⟨k0, k1, k2, k3, k4, k5, k6, f0, f1, f2, f3, f4, f5, f6⟩ := zcf7 B9.out
  have e0 := (blk_cell (blk_far (p := ⟨g9, 3, none⟩) BE.out (ne_types BE.out B9.out) (.slice none 0 0)) 0).trans rfl
  have e1 := (blk_cell (blk_far (p := ⟨g9, 3, none⟩) BE.out (ne_types BE.out B9.out) (.slice none 0 0)) 1).trans rfl
  go_wp2_with (first | fail)
  clear k0 k1 k2 k3 k4 k5 k6 f0 f1 f2 f3 f4 f5 f6 e0 e1
  replace BX := Aside0.mk (blk_far (p := ⟨g9, 3, none⟩) BX.out (ne_types BX.out B9.out) (.slice none 0 0))
  replace B6 := Aside0.mk (blk_far (p := ⟨g9, 3, none⟩) B6.out (Nat.ne_of_lt L9.out.1) (.slice none 0 0))
  replace BE := Aside0.mk (blk_far (p := ⟨g9, 3, none⟩) BE.out (ne_types BE.out B9.out) (.slice none 0 0))
  replace RD := Aside0.mk (RdAtL.far (p := ⟨g9, 3, none⟩) RD.out L9.out.2 (.slice none 0 0))
  replace RV := Aside0.mk (Kd.R_set RV.out B9.out (by decide) 3 (.slice none 0 0))
  replace HB := Aside0.mk (below_set (j := 3) (v := .slice none 0 0) HB.out G9.out)
  replace B9 := Aside0.mk (show (World.setCell w16 ⟨g9, 3, none⟩ (.slice none 0 0)).heap[g9]? = some (.cells #[.slice A2 vs.length c2, .slice none 0 0, .slice none 0 0, .slice none 0 0, .slice none 0 0, .int .u32 1, .int .u32 1] 83 (0, 0)) from blk_set B9.out 3 (.slice none 0 0))
  generalize (World.setCell w16 ⟨g9, 3, none⟩ (.slice none 0 0)) = w17 at *
  refine (getW_nil ge rd [] _ (bytes_ok _ (by decide)) _ BE.out RD.out).mono ?_
  rintro e w18 ⟨rfl, hR, hg⟩
  obtain ⟨crd, hcrd⟩ := rd_blk RD.out
  replace BX := Aside0.mk (blk_gr BX.out hg (ne_types BX.out hcrd))
  replace B6 := Aside0.mk (blk_gr B6.out hg (ne_types B6.out hcrd))
  replace BE := Aside0.mk (blk_gr BE.out hg (ne_types BE.out hcrd))
  replace B9 := Aside0.mk (blk_gr B9.out hg (ne_types B9.out hcrd))
  replace RV := Aside0.mk (Kd.R_mono (Kd.R_grown (Kd.R_types RV.out hcrd (by decide)) hg (fun k hk e => hk.2 (Option.some.inj e))) (fun _ _ => trivial))
  replace HB := Aside0.mk (pw_below_grown HB.out (some rd) HB.out.size hg (fun k hk => by cases hk; exact GR.out))
  replace RD := Aside0.mk hR
  clear hR hg hcrd crd
  obtain ⟨k0, k1, k2, k3, k4, k5, k6, f0, f1, f2, f3, f4, f5, f6⟩ := zcf7 B9.out
  have e0 := (blk_cell (blk_far (p := ⟨g9, 4, none⟩) BE.out (ne_types BE.out B9.out) (.slice none 0 0)) 0).trans rfl
  have e1 := (blk_cell (blk_far (p := ⟨g9, 4, none⟩) BE.out (ne_types BE.out B9.out) (.slice none 0 0)) 1).trans rfl
  go_wp2_with (first | fail)
  clear k0 k1 k2 k3 k4 k5 k6 f0 f1 f2 f3 f4 f5 f6 e0 e1
  replace BX := Aside0.mk (blk_far (p := ⟨g9, 4, none⟩) BX.out (ne_types BX.out B9.out) (.slice none 0 0))
  replace B6 := Aside0.mk (blk_far (p := ⟨g9, 4, none⟩) B6.out (Nat.ne_of_lt L9.out.1) (.slice none 0 0))
  replace BE := Aside0.mk (blk_far (p := ⟨g9, 4, none⟩) BE.out (ne_types BE.out B9.out) (.slice none 0 0))
  replace RD := Aside0.mk (RdAtL.far (p := ⟨g9, 4, none⟩) RD.out L9.out.2 (.slice none 0 0))
  replace RV := Aside0.mk (Kd.R_set RV.out B9.out (by decide) 4 (.slice none 0 0))
  replace HB := Aside0.mk (below_set (j := 4) (v := .slice none 0 0) HB.out G9.out)
  replace B9 := Aside0.mk (show (World.setCell w18 ⟨g9, 4, none⟩ (.slice none 0 0)).heap[g9]? = some (.cells #[.slice A2 vs.length c2, .slice none 0 0, .slice none 0 0, .slice none 0 0, .slice none 0 0, .int .u32 1, .int .u32 1] 83 (0, 0)) from blk_set B9.out 4 (.slice none 0 0))
  generalize (World.setCell w18 ⟨g9, 4, none⟩ (.slice none 0 0)) = w19 at *
  refine (end_calls rd 0 [] _ RD.out).mono ?_
  rintro e w20 ⟨rfl, rfl⟩
  rw [show rEnd (0, []) = 0 from rfl]
  obtain ⟨k0, k1, k2, k3, k4, k5, k6, f0, f1, f2, f3, f4, f5, f6⟩ := zcf7 B9.out
  go_wp2_with (first | (refine load_cfg (cs := cs) (g := w.heap.size) (by rfl) (by rfl) (by rfl) HC.out.sz BX.out ?_) | fail)
  have HR := Aside0.mk (HVN.out.symm ▸ right_nil cs HC.out w20 Q.out.1 Q.out.2.1 Q.out.2.2.1 A2 c2)
  refine HR.out.mono ?_
  rintro e w21 ⟨rfl, hb⟩
  replace B6 := Aside0.mk (blk_below B6.out hb)
  replace B9 := Aside0.mk (blk_below B9.out hb)
  replace HB := Aside0.mk (below_step HB.out hb)
  clear hb HR k0 k1 k2 k3 k4 k5 k6 f0 f1 f2 f3 f4 f5 f6 BX BE RD RV
  obtain ⟨k0, k1, k2, k3, k4, k5, k6, f0, f1, f2, f3, f4, f5, f6⟩ := zcf7 B9.out
  go_wp2_with (first | (refine srow_list 83 (.tmp 6) (.tmp 77) g6 #[.slice A2 vs.length c2, .slice none 0 0, .slice none 0 0, .slice none 0 0, .slice none 0 0, .int .u32 1, .int .u32 1] B6.out (by rfl) (by rfl) (by rfl) (by rfl) (by kernel_rfl) rfl (by simp [Value.oneCell']) ?_; intro w21 h6 hg; replace HB := Aside0.mk (pw_below_grown HB.out (some g6) HB.out.size hg (fun k hk => by cases hk; exact G6.out)); have B6' := Aside0.mk h6; clear h6 hg k0 k1 k2 k3 k4 k5 k6 f0 f1 f2 f3 f4 f5 f6) | fail)
  obtain ⟨k0, k1, k2, k3, k4, k5, k6, f0, f1, f2, f3, f4, f5, f6⟩ := zcf7 B6'.out
  exact bodyPost_ret (v := .tuple #[.agg #[.slice A2 vs.length c2, .slice none 0 0, .slice none 0 0, .slice none 0 0, .slice none 0 0, .int .u32 1, .int .u32 1], .int .i64 0]) (by simp [results, Tryz.results29, go_sem, k0, k1, k2, k3, k4, k5, k6]) rfl ⟨A2, vs.length, c2, rfl, HB.out⟩
end Go.Proofs.YteeclengpnjlgaaGreat.I
