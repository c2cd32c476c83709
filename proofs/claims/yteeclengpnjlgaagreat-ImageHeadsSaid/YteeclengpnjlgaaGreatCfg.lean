import Derived.Test.YteeclengpnjlgaaGreatI1
import Derived.Test.YteeclengpnjlgaaGreatSq
import Derived.Laws.CopyOwn
/- The document's configuration: contracts. -/
namespace Go.Proofs.YteeclengpnjlgaaGreat.I
open Go.RowKit Go.Proofs.YteeclengpnjlgaaGreatW.PrintWords Go.Proofs.YteeclengpnjlgaaGreatW.PrintLast Go.Proofs.YteeclengpnjlgaaGreatW.PrintMore
set_option linter.unusedVariables false
set_option linter.unusedSimpArgs false
abbrev SK := S52
abbrev SD := S95
deriving instance DecidableEq for S52
/-- All keys of so many articles and warehouses. -/
def keysOf (sk wa : Int) : List SK := (pledgeref04_All.f 1000 sk wa).getD []
theorem keys_all : ∀ s : Nat, s < 3 → ∀ v : Nat, v < 3 → pledgeref04_All.f 1000 ((s : Int) + 1) ((v : Int) + 1) = some (keysOf ((s : Int) + 1) ((v : Int) + 1)) ∧ ((keysOf ((s : Int) + 1) ((v : Int) + 1)).length : Int) = 2 * ((s : Int) + 1) * ((v : Int) + 1) + 2 * ((s : Int) + 1) := by decide +kernel
theorem keys_is {sk wa : Int} (h1 : 1 ≤ sk ∧ sk ≤ 3) (h2 : 1 ≤ wa ∧ wa ≤ 3) : pledgeref04_All.f 1000 sk wa = some (keysOf sk wa) ∧ ((keysOf sk wa).length : Int) = 2 * sk * wa + 2 * sk := by
  obtain ⟨s, hs⟩ := Int.eq_ofNat_of_zero_le (show 0 ≤ sk - 1 by omega)
  obtain ⟨v, hv⟩ := Int.eq_ofNat_of_zero_le (show 0 ≤ wa - 1 by omega)
  obtain rfl : sk = (s : Int) + 1 := by omega
  obtain rfl : wa = (v : Int) + 1 := by omega
  exact keys_all s (by omega) v (by omega)
def blocksN (n m : Int) : Int := (pledgeref06_blocks.f n m).getD 0
theorem blocks_is (n m : Int) : pledgeref06_blocks.f n m = some (blocksN n m) := by
  unfold blocksN pledgeref06_blocks.f
  by_cases h : m < 1
  · rw [if_pos h]; rfl
  · rw [if_neg h, if_neg (show ¬ m = 0 by omega)]
    split <;> rfl
def mostN (sa od : Int) : Int := (pledgeref06_Most.f sa od).getD 0
theorem between_is (a b c : Int) : ∃ d, pledgeref06_between.f a b c = some d := by
  unfold pledgeref06_between.f
  split
  · exact ⟨_, rfl⟩
  · split <;> exact ⟨_, rfl⟩
theorem most_is (sa od : Int) : pledgeref06_Most.f sa od = some (mostN sa od) := by
  unfold mostN pledgeref06_Most.f
  obtain ⟨a, ha⟩ := between_is sa 0 8
  obtain ⟨b, hb⟩ := between_is od 0 32
  rw [ha, hb]
  rfl
theorem drawn_below {w w' : World} (h : Drawn0 w w') : Below w.heap.size w w' := h.below
def headsN (sk wa bl : Int) : Int := blocksN (2 * sk * wa + 2 * sk) (wrap64 (bl.tdiv 16))
def areaN (sk wa sa od bl : Int) : Int := wrap64 (headsN sk wa bl + blocksN (mostN sa od) bl)
def needN (sk wa sa od bl : Int) : Int := wrap64 (wrap64 (2 * areaN sk wa sa od bl) + 2)
/-- The cells of a configuration: its numbers; the slice of its fields. -/
structure Cf (cs : Array Value) (sk wa sa od re sg cp bl bs : Int) (A : Option Addr) (n c : Nat) : Prop where
  sz : cs.size = 26
  one : cs.all (·.oneCell') = true
  c0 : cs[0]? = some (.int .i64 sk)
  c1 : cs[1]? = some (.int .i64 wa)
  c2 : cs[2]? = some (.slice A n c)
  c19 : cs[19]? = some (.int .i64 sa)
  c20 : cs[20]? = some (.int .i64 od)
  c21 : cs[21]? = some (.int .i64 re)
  c22 : cs[22]? = some (.int .i64 sg)
  c23 : cs[23]? = some (.int .i64 cp)
  c24 : cs[24]? = some (.int .i64 bl)
  c25 : cs[25]? = some (.int .i64 bs)
theorem run_load_cfg {o : Oper} {a : Act} {x : Operand} (ho : o.op = .load 37 x) (w : World) (g : Nat) (cs : Array Value) (hx : a.eval x = .pointer (some ⟨g, 0, none⟩)) (hs : cs.size = 26) (h : w.heap[g]? = some (.cells cs 37 (0, 0))) : (execOp a.eval o).run Tryz.prog w = .ok (.value (.agg cs)) w := by
  have hi : (Tryz.prog.info? 37).map (·.size) = some cs.size := by rw [hs]; kernel_rfl
  unfold execOp
  simp only [ho, hx, Instr.loadAt, Instr.sureAddr, Sem.run_bind, Sem.run_pure, Result.andThen_ok, run_loadVar_row w g 37 37 cs (0, 0) _ h Tryz.underlying37 rfl hi]
theorem load_cfg {ops : Array Oper} {rest : List Oper} {o : Oper} {a : Act} {w : World} {Q : Exit → Act → World → Prop} {cs : Array Value} {g : Nat} {x : Operand} (hgd : o.guard = none) (ho : o.op = .load 37 x)
    (hx : a.eval x = .pointer (some ⟨g, 0, none⟩)) (hs : cs.size = 26) (hg : w.heap[g]? = some (.cells cs 37 (0, 0))) (h : wpList Tryz.prog ops Q rest (a.put o.dst (.agg cs)) w) : wpList Tryz.prog ops Q (o :: rest) a w :=
  wpList_load_row hgd _ x ho g hx _ cs _ _ hg Tryz.underlying37 rfl (by rw [hs]; kernel_rfl) h
theorem store_cfg {ops : Array Oper} {rest : List Oper} {o : Oper} {a : Act} {W w0 : World} {Q : Exit → Act → World → Prop} {cells old : Array Value} {g : Nat} {x y : Operand} (hgd : o.guard = none) (ho : o.op = .store 37 x y)
    (hx : a.eval x = .pointer (some ⟨g, 0, none⟩)) (hy : a.eval y = .agg cells) (hg : W.heap[g]? = some (.cells old 37 (0, 0))) (hold : old.size = 26) (hs : cells.size = 26) (h1 : cells.all (·.oneCell') = true) (HB : Below w0.heap.size w0 W) (hge : w0.heap.size ≤ g)
    (h : ∀ w1, w1.heap[g]? = some (.cells cells 37 (0, 0)) → W.grownBy w1 (some g) → Below w0.heap.size w0 w1 → wpList Tryz.prog ops Q rest (a.put o.dst undef) w1) : wpList Tryz.prog ops Q (o :: rest) a W :=
  wpList_store_row hgd _ x y ho g cells hx hy _ old hg (by rw [hs]; kernel_rfl) (by rw [hold, hs]) h1
    (h _ (setRow_heap W g old cells _ _ hg) ⟨rfl, rfl, rfl, by simp, fun k _ hk => setRow_other W g k cells (fun e => hk (by rw [e]))⟩ (below_setRow HB hge cells))
theorem all_set {cs : Array Value} (h : cs.all (·.oneCell') = true) (i : Nat) {v : Value} (hv : v.oneCell' = true) : (cs.setIfInBounds i v).all (·.oneCell') = true := by
  rw [Array.all_eq_true_iff_forall_mem] at h ⊢
  intro x hx
  rcases Array.mem_or_eq_of_mem_setIfInBounds hx with hx | rfl
  · exact h x hx
  · exact hv
theorem size_al (w : World) (o : Obj) : (w.alloc o).heap.size = w.heap.size + 1 := by simp
theorem ne_types {w : World} {g k : Nat} {cs cs' : Array Value} {t t' : TypeId} (h : w.heap[g]? = some (.cells cs t (0, 0))) (h' : w.heap[k]? = some (.cells cs' t' (0, 0))) (hne : t ≠ t' := by decide) : g ≠ k := by
  rintro rfl
  rw [h] at h'
  injection h' with h'
  injection h' with _ ht
  exact hne ht
theorem cf_at {w : World} {g : Nat} {t : TypeId} {cs : Array Value} (h : w.heap[g]? = some (.cells cs t (0, 0))) (i : Nat) {v : Value} (hc : cs[i]? = some v) : w.cell? ⟨g, i, none⟩ = some v := (blk_cell h i).trans hc
set_option maxHeartbeats 8000000 in
set_option maxRecDepth 100000 in
theorem heads_calls (cs : Array Value) {sk wa sa od re sg cp bl bs : Int} {A : Option Addr} {n c : Nat} (hc : Cf cs sk wa sa od re sg cp bl bs A n c) (w : World) (h1 : 1 ≤ sk ∧ sk ≤ 3) (h2 : 1 ≤ wa ∧ wa ≤ 3) (h3 : 64 ≤ bl ∧ bl ≤ 100000) :
    Calls Tryz.prog 36 #[.agg cs] w fun e w' => e = .returned (.int .i64 (headsN sk wa bl)) ∧ Below w.heap.size w w' := by
  obtain ⟨hk, hl⟩ := keys_is h1 h2
  have HK := Aside0.mk hk
  have HL := Aside0.mk hl
  have BX := Aside0.mk (heap_alloc_new w (.cells cs 37))
  have HC := Aside0.mk hc
  have c0 := cf_at BX.out 0 hc.c0
  have c1 := cf_at BX.out 1 hc.c1
  have c24 := cf_at BX.out 24 hc.c24
  clear hk hl hc
  have b1 : ¬ (bl < 16) := by omega
  obtain ⟨h3, h4⟩ := h3
  go_enter Tryz.func36, Tryz.ntmps36
  go_wp2_with (first | fail)
  replace BX := Aside0.mk (show (w.alloc (.cells cs 37)).drew.heap[w.heap.size]? = some (.cells cs 37 (0, 0)) from blk_drew BX.out)
  have HB := Aside0.mk (below_drew1 (below_alloc (Below.refl w.heap.size w) (.cells cs 37)))
  refine start_ (n := 11) (S := fun w' => w'.cell? ⟨w.heap.size, 0, none⟩ = some (.int .i64 sk) ∧ w'.cell? ⟨w.heap.size, 1, none⟩ = some (.int .i64 wa) ∧ w'.cell? ⟨w.heap.size, 24, none⟩ = some (.int .i64 bl)) (ds := []) (bz 11 0) (by kernel_rfl) rfl (by kernel_rfl) ⟨cf_at BX.out 0 HC.out.c0, cf_at BX.out 1 HC.out.c1, cf_at BX.out 24 HC.out.c24⟩ (fun hHeld => ?_)
  generalize (w.alloc (.cells cs 37)).drew = W1 at *
  refine pureZ (some 6) (bz 11 1) (i := 0) (hc := (by kernel_rfl)) (h := ?_)
  refine takeZ (some 7) (bz 11 3) (i := 1) (hc := (by kernel_rfl)) (h := ?_)
  refine pureZ (some 8) (bz 11 7) (i := 2) (hc := (by kernel_rfl)) (h := ?_)
  refine takeZ (some 9) (bz 11 15) (i := 3) (hc := (by kernel_rfl)) (h := ?_)
  refine pureZ (some 12) (bz 11 79) (i := 6) (hc := (by kernel_rfl)) (h := ?_)
  refine takeZ (some 13) (bz 11 207) (i := 7) (hc := (by kernel_rfl)) (h := ?_)
  refine pureZ (some 14) (bz 11 463) (i := 8) (hc := (by kernel_rfl)) (h := ?_)
  refine one_ (i := 4) (N := some 10) (bz 11 479) rfl rfl (by kernel_rfl) (by decide) (fun K hK => ?_)
  refine goes_ Tryz.func83 (by kernel_rfl) rfl #[.int .i64 sk, .int .i64 wa] (by rfl) rfl rfl zA ?_
  refine (pledgeref04_All.calls 1000 sk wa _ _ HK.out).mono ?_
  rintro e w2 ⟨v0, rfl, hv, hb⟩
  refine ⟨_, rfl, ?_⟩
  obtain ⟨Ak, ck, rfl⟩ := Kd.R_slice hv
  replace BX := Aside0.mk (blk_below BX.out hb)
  replace HB := Aside0.mk (below_step HB.out hb)
  clear hv hb
  refine hK.out _ _ ⟨cf_at BX.out 0 HC.out.c0, cf_at BX.out 1 HC.out.c1, cf_at BX.out 24 HC.out.c24⟩ (fun hHeld => ?_)
  clear hK K
  refine norm_ (a' := ?_) ?_ ?_
  rotate_left
  · show Act.put _ (some 10) _ = _
    simp only [Act.put, List.setIfInBounds_toArray, List.set_cons_zero, List.set_cons_succ, i64_w, i32_w]
    rfl
  refine pureZ (some 11) (bz 11 511) (i := 5) (hc := (by kernel_rfl)) (h := ?_)
  rw [HL.out]
  refine one_ (i := 9) (N := some 15) (bz 11 1023) rfl rfl (by kernel_rfl) (by decide) (fun K hK => ?_)
  refine goes_ Tryz.func88 (by kernel_rfl) rfl #[.int .i64 (2 * sk * wa + 2 * sk), .int .i64 (wrap64 (bl.tdiv 16))] (by rfl) rfl rfl zA ?_
  refine (pledgeref06_blocks.calls _ _ _ _ (blocks_is _ _)).mono ?_
  rintro e w3 ⟨rfl, hd⟩
  refine ⟨_, rfl, ?_⟩
  replace BX := Aside0.mk (blk_below BX.out (drawn_below hd))
  replace HB := Aside0.mk (below_step HB.out (drawn_below hd))
  clear hd
  refine hK.out _ _ ⟨cf_at BX.out 0 HC.out.c0, cf_at BX.out 1 HC.out.c1, cf_at BX.out 24 HC.out.c24⟩ (fun hHeld => ?_)
  clear hK K
  refine norm_ (a' := ?_) ?_ ?_
  rotate_left
  · show Act.put _ (some 15) _ = _
    simp only [Act.put, List.setIfInBounds_toArray, List.set_cons_zero, List.set_cons_succ, i64_w, i32_w]
    rfl
  refine pureZ (some 2) (bz 11 2047) (i := 10) (hc := (by kernel_rfl)) (h := ?_)
  refine done_ (by kernel_rfl) ?_
  go_wp2_with (first | fail)
  go_ret
  exact ⟨rfl, HB.out⟩
set_option maxHeartbeats 8000000 in
set_option maxRecDepth 100000 in
theorem area_calls (cs : Array Value) {sk wa sa od re sg cp bl bs : Int} {A : Option Addr} {n c : Nat} (hc : Cf cs sk wa sa od re sg cp bl bs A n c) (w : World) (h1 : 1 ≤ sk ∧ sk ≤ 3) (h2 : 1 ≤ wa ∧ wa ≤ 3) (h3 : 64 ≤ bl ∧ bl ≤ 100000) :
    Calls Tryz.prog 84 #[.agg cs] w fun e w' => e = .returned (.int .i64 (areaN sk wa sa od bl)) ∧ Below w.heap.size w w' := by
  have BX := Aside0.mk (heap_alloc_new w (.cells cs 37))
  have HC := Aside0.mk hc
  clear hc
  go_enter Tryz.func84, Tryz.ntmps84
  go_wp2_with (first | fail)
  replace BX := Aside0.mk (show (w.alloc (.cells cs 37)).drew.heap[w.heap.size]? = some (.cells cs 37 (0, 0)) from blk_drew BX.out)
  have HB := Aside0.mk (below_drew1 (below_alloc (Below.refl w.heap.size w) (.cells cs 37)))
  refine start_ (n := 12) (S := fun w' => w'.heap[w.heap.size]? = some (.cells cs 37 (0, 0)) ∧ w'.cell? ⟨w.heap.size, 19, none⟩ = some (.int .i64 sa) ∧ w'.cell? ⟨w.heap.size, 20, none⟩ = some (.int .i64 od) ∧ w'.cell? ⟨w.heap.size, 24, none⟩ = some (.int .i64 bl)) (ds := []) (bz 12 0) (by kernel_rfl) rfl (by kernel_rfl) ⟨BX.out, cf_at BX.out 19 HC.out.c19, cf_at BX.out 20 HC.out.c20, cf_at BX.out 24 HC.out.c24⟩ (fun hHeld => ?_)
  generalize (w.alloc (.cells cs 37)).drew = W1 at *
  refine takeZ (some 3) (bz 12 1) (i := 0) (hc := (by kernel_rfl)) (v := .agg cs) (hy := Or.inl ⟨by rfl, fun w' hs => run_load_cfg rfl w' _ cs rfl HC.out.sz hs.1⟩) (h := ?_)
  refine pureZ (some 5) (bz 12 5) (i := 2) (hc := (by kernel_rfl)) (h := ?_)
  refine takeZ (some 6) (bz 12 13) (i := 3) (hc := (by kernel_rfl)) (h := ?_)
  refine pureZ (some 7) (bz 12 29) (i := 4) (hc := (by kernel_rfl)) (h := ?_)
  refine takeZ (some 8) (bz 12 61) (i := 5) (hc := (by kernel_rfl)) (h := ?_)
  refine pureZ (some 10) (bz 12 189) (i := 7) (hc := (by kernel_rfl)) (h := ?_)
  refine takeZ (some 11) (bz 12 445) (i := 8) (hc := (by kernel_rfl)) (h := ?_)
  refine one_ (i := 1) (N := some 4) (bz 12 447) rfl rfl (by kernel_rfl) (by decide) (fun K hK => ?_)
  refine goes_ Tryz.func36 (by kernel_rfl) rfl #[.agg cs] (by rfl) rfl rfl zA ?_
  refine (heads_calls cs HC.out _ h1 h2 h3).mono ?_
  rintro e w2 ⟨rfl, hb⟩
  refine ⟨_, rfl, ?_⟩
  replace BX := Aside0.mk (blk_below BX.out hb)
  replace HB := Aside0.mk (below_step HB.out hb)
  clear hb
  refine hK.out _ _ ⟨BX.out, cf_at BX.out 19 HC.out.c19, cf_at BX.out 20 HC.out.c20, cf_at BX.out 24 HC.out.c24⟩ (fun hHeld => ?_)
  clear hK K
  refine norm_ (a' := ?_) ?_ ?_
  rotate_left
  · show Act.put _ (some 4) _ = _
    simp only [Act.put, List.setIfInBounds_toArray, List.set_cons_zero, List.set_cons_succ, i64_w, i32_w]
    rfl
  refine one_ (i := 6) (N := some 9) (bz 12 511) rfl rfl (by kernel_rfl) (by decide) (fun K hK => ?_)
  refine goes_ Tryz.func137 (by kernel_rfl) rfl #[.int .i64 sa, .int .i64 od] (by rfl) rfl rfl zA ?_
  refine (pledgeref06_Most.calls _ _ _ _ (most_is _ _)).mono ?_
  rintro e w3 ⟨rfl, hd⟩
  refine ⟨_, rfl, ?_⟩
  replace BX := Aside0.mk (blk_below BX.out (drawn_below hd))
  replace HB := Aside0.mk (below_step HB.out (drawn_below hd))
  clear hd
  refine hK.out _ _ ⟨BX.out, cf_at BX.out 19 HC.out.c19, cf_at BX.out 20 HC.out.c20, cf_at BX.out 24 HC.out.c24⟩ (fun hHeld => ?_)
  clear hK K
  refine norm_ (a' := ?_) ?_ ?_
  rotate_left
  · show Act.put _ (some 9) _ = _
    simp only [Act.put, List.setIfInBounds_toArray, List.set_cons_zero, List.set_cons_succ, i64_w, i32_w]
    rfl
  refine one_ (i := 9) (N := some 12) (bz 12 1023) rfl rfl (by kernel_rfl) (by decide) (fun K hK => ?_)
  refine goes_ Tryz.func88 (by kernel_rfl) rfl #[.int .i64 (mostN sa od), .int .i64 bl] (by rfl) rfl rfl zA ?_
  refine (pledgeref06_blocks.calls _ _ _ _ (blocks_is _ _)).mono ?_
  rintro e w4 ⟨rfl, hd⟩
  refine ⟨_, rfl, ?_⟩
  replace BX := Aside0.mk (blk_below BX.out (drawn_below hd))
  replace HB := Aside0.mk (below_step HB.out (drawn_below hd))
  clear hd
  refine hK.out _ _ ⟨BX.out, cf_at BX.out 19 HC.out.c19, cf_at BX.out 20 HC.out.c20, cf_at BX.out 24 HC.out.c24⟩ (fun hHeld => ?_)
  clear hK K
  refine norm_ (a' := ?_) ?_ ?_
  rotate_left
  · show Act.put _ (some 12) _ = _
    simp only [Act.put, List.setIfInBounds_toArray, List.set_cons_zero, List.set_cons_succ, i64_w, i32_w]
    rfl
  refine pureZ (some 13) (bz 12 2047) (i := 10) (hc := (by kernel_rfl)) (h := ?_)
  refine pureZ (some 2) (bz 12 4095) (i := 11) (hc := (by kernel_rfl)) (h := ?_)
  refine done_ (by kernel_rfl) ?_
  go_wp2_with (first | fail)
  go_ret
  exact ⟨rfl, HB.out⟩
set_option maxHeartbeats 8000000 in
set_option maxRecDepth 100000 in
theorem need_calls (cs : Array Value) {sk wa sa od re sg cp bl bs : Int} {A : Option Addr} {n c : Nat} (hc : Cf cs sk wa sa od re sg cp bl bs A n c) (w : World) (h1 : 1 ≤ sk ∧ sk ≤ 3) (h2 : 1 ≤ wa ∧ wa ≤ 3) (h3 : 64 ≤ bl ∧ bl ≤ 100000) :
    Calls Tryz.prog 31 #[.agg cs] w fun e w' => e = .returned (.int .i64 (needN sk wa sa od bl)) ∧ Below w.heap.size w w' := by
  have BX := Aside0.mk (heap_alloc_new w (.cells cs 37))
  have HC := Aside0.mk hc
  have HB := Aside0.mk (below_alloc (Below.refl w.heap.size w) (.cells cs 37))
  clear hc
  go_enter Tryz.func31, Tryz.ntmps31
  go_wp2_with (first | (refine load_cfg (cs := cs) (g := w.heap.size) (by rfl) (by rfl) (by rfl) HC.out.sz BX.out ?_) | fail)
  refine (area_calls cs HC.out _ h1 h2 h3).mono ?_
  rintro e w2 ⟨rfl, hb⟩
  replace HB := Aside0.mk (below_step HB.out hb)
  clear hb
  go_wp2_with (first | fail)
  go_ret
  exact ⟨rfl, HB.out⟩
theorem between_in {a b c : Int} (h : b ≤ a ∧ a ≤ c) : pledgeref06_between.f a b c = some a := by
  unfold pledgeref06_between.f
  rw [if_neg (by omega), if_neg (by omega)]
theorem Cf.set2 {cs : Array Value} {sk wa sa od re sg cp bl bs : Int} {A : Option Addr} {n c : Nat} (h : Cf cs sk wa sa od re sg cp bl bs A n c) (A' : Option Addr) (n' c' : Nat) : Cf (cs.setIfInBounds 2 (.slice A' n' c')) sk wa sa od re sg cp bl bs A' n' c' := by
  obtain ⟨h0, h1, h2, h3, h4, h5, h6, h7, h8, h9, h10, h11⟩ := h
  refine ⟨by simp [h0], all_set h1 2 rfl, ?_, ?_, ?_, ?_, ?_, ?_, ?_, ?_, ?_, ?_⟩
  all_goals first | (rw [Array.getElem?_setIfInBounds, if_pos rfl, if_pos (by rw [h0]; decide)]; done) | (rw [Array.getElem?_setIfInBounds, if_neg (by decide)]; assumption)
theorem Cf.setP {cs : Array Value} {sk wa sa od re sg cp bl bs : Int} {A : Option Addr} {n c : Nat} (h : Cf cs sk wa sa od re sg cp bl bs A n c) (i : Nat) (hi : 3 ≤ i ∧ i < 19) (z : Int) : Cf (cs.setIfInBounds i (.int .u8 z)) sk wa sa od re sg cp bl bs A n c := by
  obtain ⟨h0, h1, h2, h3, h4, h5, h6, h7, h8, h9, h10, h11⟩ := h
  refine ⟨by simp [h0], all_set h1 i rfl, ?_, ?_, ?_, ?_, ?_, ?_, ?_, ?_, ?_, ?_⟩ <;> (rw [Array.getElem?_setIfInBounds, if_neg (by omega)]; assumption)
theorem Cf.set25 {cs : Array Value} {sk wa sa od re sg cp bl bs : Int} {A : Option Addr} {n c : Nat} (h : Cf cs sk wa sa od re sg cp bl bs A n c) (z : Int) : Cf (cs.setIfInBounds 25 (.int .i64 z)) sk wa sa od re sg cp bl z A n c := by
  obtain ⟨h0, h1, h2, h3, h4, h5, h6, h7, h8, h9, h10, h11⟩ := h
  refine ⟨by simp [h0], all_set h1 25 rfl, ?_, ?_, ?_, ?_, ?_, ?_, ?_, ?_, ?_, ?_⟩
  all_goals first | (rw [Array.getElem?_setIfInBounds, if_pos rfl, if_pos (by rw [h0]; decide)]; done) | (rw [Array.getElem?_setIfInBounds, if_neg (by decide)]; assumption)
theorem Cf.set19 {cs : Array Value} {sk wa sa od re sg cp bl bs : Int} {A : Option Addr} {n c : Nat} (h : Cf cs sk wa sa od re sg cp bl bs A n c) (z : Int) : Cf (cs.setIfInBounds 19 (.int .i64 z)) sk wa z od re sg cp bl bs A n c := by
  obtain ⟨h0, h1, h2, h3, h4, h5, h6, h7, h8, h9, h10, h11⟩ := h
  refine ⟨by simp [h0], all_set h1 19 rfl, ?_, ?_, ?_, ?_, ?_, ?_, ?_, ?_, ?_, ?_⟩
  all_goals first | (rw [Array.getElem?_setIfInBounds, if_pos rfl, if_pos (by rw [h0]; decide)]; done) | (rw [Array.getElem?_setIfInBounds, if_neg (by decide)]; assumption)
theorem Cf.set20 {cs : Array Value} {sk wa sa od re sg cp bl bs : Int} {A : Option Addr} {n c : Nat} (h : Cf cs sk wa sa od re sg cp bl bs A n c) (z : Int) : Cf (cs.setIfInBounds 20 (.int .i64 z)) sk wa sa z re sg cp bl bs A n c := by
  obtain ⟨h0, h1, h2, h3, h4, h5, h6, h7, h8, h9, h10, h11⟩ := h
  refine ⟨by simp [h0], all_set h1 20 rfl, ?_, ?_, ?_, ?_, ?_, ?_, ?_, ?_, ?_, ?_⟩
  all_goals first | (rw [Array.getElem?_setIfInBounds, if_pos rfl, if_pos (by rw [h0]; decide)]; done) | (rw [Array.getElem?_setIfInBounds, if_neg (by decide)]; assumption)
theorem Cf.set21 {cs : Array Value} {sk wa sa od re sg cp bl bs : Int} {A : Option Addr} {n c : Nat} (h : Cf cs sk wa sa od re sg cp bl bs A n c) (z : Int) : Cf (cs.setIfInBounds 21 (.int .i64 z)) sk wa sa od z sg cp bl bs A n c := by
  obtain ⟨h0, h1, h2, h3, h4, h5, h6, h7, h8, h9, h10, h11⟩ := h
  refine ⟨by simp [h0], all_set h1 21 rfl, ?_, ?_, ?_, ?_, ?_, ?_, ?_, ?_, ?_, ?_⟩
  all_goals first | (rw [Array.getElem?_setIfInBounds, if_pos rfl, if_pos (by rw [h0]; decide)]; done) | (rw [Array.getElem?_setIfInBounds, if_neg (by decide)]; assumption)
theorem Cf.set22 {cs : Array Value} {sk wa sa od re sg cp bl bs : Int} {A : Option Addr} {n c : Nat} (h : Cf cs sk wa sa od re sg cp bl bs A n c) (z : Int) : Cf (cs.setIfInBounds 22 (.int .i64 z)) sk wa sa od re z cp bl bs A n c := by
  obtain ⟨h0, h1, h2, h3, h4, h5, h6, h7, h8, h9, h10, h11⟩ := h
  refine ⟨by simp [h0], all_set h1 22 rfl, ?_, ?_, ?_, ?_, ?_, ?_, ?_, ?_, ?_, ?_⟩
  all_goals first | (rw [Array.getElem?_setIfInBounds, if_pos rfl, if_pos (by rw [h0]; decide)]; done) | (rw [Array.getElem?_setIfInBounds, if_neg (by decide)]; assumption)
theorem Cf.set23 {cs : Array Value} {sk wa sa od re sg cp bl bs : Int} {A : Option Addr} {n c : Nat} (h : Cf cs sk wa sa od re sg cp bl bs A n c) (z : Int) : Cf (cs.setIfInBounds 23 (.int .i64 z)) sk wa sa od re sg z bl bs A n c := by
  obtain ⟨h0, h1, h2, h3, h4, h5, h6, h7, h8, h9, h10, h11⟩ := h
  refine ⟨by simp [h0], all_set h1 23 rfl, ?_, ?_, ?_, ?_, ?_, ?_, ?_, ?_, ?_, ?_⟩
  all_goals first | (rw [Array.getElem?_setIfInBounds, if_pos rfl, if_pos (by rw [h0]; decide)]; done) | (rw [Array.getElem?_setIfInBounds, if_neg (by decide)]; assumption)
theorem Cf.set24 {cs : Array Value} {sk wa sa od re sg cp bl bs : Int} {A : Option Addr} {n c : Nat} (h : Cf cs sk wa sa od re sg cp bl bs A n c) (z : Int) : Cf (cs.setIfInBounds 24 (.int .i64 z)) sk wa sa od re sg cp z bs A n c := by
  obtain ⟨h0, h1, h2, h3, h4, h5, h6, h7, h8, h9, h10, h11⟩ := h
  refine ⟨by simp [h0], all_set h1 24 rfl, ?_, ?_, ?_, ?_, ?_, ?_, ?_, ?_, ?_, ?_⟩
  all_goals first | (rw [Array.getElem?_setIfInBounds, if_pos rfl, if_pos (by rw [h0]; decide)]; done) | (rw [Array.getElem?_setIfInBounds, if_neg (by decide)]; assumption)
theorem Cf.at_ {cs : Array Value} {sk wa sa od re sg cp bl bs : Int} {A : Option Addr} {n c : Nat} (h : Cf cs sk wa sa od re sg cp bl bs A n c) (i : Nat) (hi : i < 26) : ∃ v, cs[i]? = some v := ⟨_, Array.getElem?_eq_getElem (by rw [h.sz]; exact hi)⟩
def zcfg : Array Value := #[.int .i64 0, .int .i64 0, .slice none 0 0, .int .u8 0, .int .u8 0, .int .u8 0, .int .u8 0, .int .u8 0, .int .u8 0, .int .u8 0, .int .u8 0, .int .u8 0, .int .u8 0, .int .u8 0, .int .u8 0, .int .u8 0, .int .u8 0, .int .u8 0, .int .u8 0, .int .i64 0, .int .i64 0, .int .i64 0, .int .i64 0, .int .i64 0, .int .i64 0, .int .i64 0]
theorem blk_gr {w w1 : World} {k g : Nat} {o : Obj} (h : w.heap[k]? = some o) (hg : w.grownBy w1 (some g)) (hne : k ≠ g) : w1.heap[k]? = some o := (hg.block k (blk_lt h) (fun e => hne (by cases e; rfl))).trans h
theorem key_row {w : World} {base : Nat} {ok : Nat → Prop} {A : Option Addr} {c : Nat} {l : List SK} (hC : Kd.C k52 w A l.length l) (hp : 0 < l.length) (hR : Kd.R k52 52 w base ok (.slice A l.length c) l) :
    ∃ (g : Nat) (kc : Array Value), A = some ⟨g, 0, none⟩ ∧ w.heap[g]? = some (.cells kc 52 (0, 0)) ∧ ∀ j x, l[j]? = some x → kc[j * 3]? = some (.int .u8 x.f0) ∧ kc[j * 3 + 1]? = some (.int .u8 x.f1) ∧ kc[j * 3 + 2]? = some (.int .u8 x.f2) := by
  obtain ⟨g, cap, e, _, _, kc, hkc⟩ := Kd.R_form hR hp
  injection e with e _ _
  subst e
  refine ⟨g, kc, rfl, hkc, fun j x hx => ?_⟩
  have hj := (List.getElem?_eq_some_iff.1 hx).1
  obtain ⟨ad, e, h0, h1, h2⟩ := at_T52 hC (j : Int) (by omega) (by omega)
  injection e with e
  subst e
  have hr : rd_T52 l (j : Int) = x := by simp [rd_T52, List.getD_eq_getElem?_getD, hx]
  rw [hr] at h0 h1 h2
  simp only [Int.toNat_natCast] at h0 h1 h2
  have ha : (⟨g, 0, none⟩ : Addr).add (j * 3) = ⟨g, j * 3, none⟩ := by unfold Addr.add; split <;> simp_all
  rw [ha] at h0 h1 h2
  exact ⟨(blk_cell hkc _).symm.trans h0, (blk_cell hkc _).symm.trans h1, (blk_cell hkc _).symm.trans h2⟩
theorem infD : (Tryz.prog.info? 95).map (fun i => (i.zero, i.size, i.bytes)) = some (some (.agg #[.int .u8 0, .int .u8 0, .int .u8 0, .int .i64 0, .int .i64 0, .int .i64 0]), 6, 32) := by kernel_rfl
theorem blk_gro {w w1 : World} {k : Nat} {o : Obj} {row : Option Nat} (h : w.heap[k]? = some o) (hg : w.grownBy w1 row) (hne : some k ≠ row) : w1.heap[k]? = some o := (hg.block k (blk_lt h) hne).trans h
theorem lenN {sk wa : Int} (h1 : 1 ≤ sk ∧ sk ≤ 3) (h2 : 1 ≤ wa ∧ wa ≤ 3) : 2 * sk * wa + 2 * sk ≤ 24 := by
  have h : sk = 1 ∨ sk = 2 ∨ sk = 3 := by omega
  rcases h with rfl | rfl | rfl <;> omega
def plainD (init hi : Int) (k : SK) : SD := ⟨k, 0, if k.f0 = 1 then init else 0, hi⟩
theorem decl_M (w : World) (base : Nat) (ok : Nat → Prop) {init hi : Int} (k : SK) {b : Bool} (h : (k.f0 == 1) = b) : k95.M w base ok (plainD init hi k) [.int .u8 k.f0, .int .u8 k.f1, .int .u8 k.f2, .int .i64 0, .int .i64 (if b = true then init else 0), .int .i64 hi] := by
  have e : (if b = true then init else 0) = (if k.f0 = 1 then init else 0) := by rw [← h]; simp
  rw [e]
  exact k95_mkM w base ok (plainD init hi k)
set_option maxHeartbeats 8000000 in
set_option maxRecDepth 100000 in
theorem plain_calls (sk wa init hi0 : Int) (w : World) (h1 : 1 ≤ sk ∧ sk ≤ 3) (h2 : 1 ≤ wa ∧ wa ≤ 3) (h3 : 0 ≤ init ∧ init ≤ 100000) (h4 : 0 ≤ hi0 ∧ hi0 ≤ 100000) (hi : Int) (hhi : hi = if hi0 < init then init else hi0) :
    Calls Tryz.prog 30 #[.int .i64 sk, .int .i64 wa, .int .i64 init, .int .i64 hi0] w fun e w' => ∃ (cs : Array Value) (A : Option Addr) (c : Nat), e = .returned (.agg cs) ∧ Cf cs sk wa 8 32 2 256 65536 256 (needN sk wa 8 32 256) A (keysOf sk wa).length c ∧ Kd.R k95 95 w' w.heap.size (fun _ => True) (.slice A (keysOf sk wa).length c) ((keysOf sk wa).map (plainD init hi)) ∧ Below w.heap.size w w' := by
  obtain ⟨hk, hl⟩ := keys_is h1 h2
  have HK := Aside0.mk hk
  have HL := Aside0.mk hl
  clear hk hl
  have b1 : ¬ (init < 0) := by omega
  have HH := Aside0.mk hhi
  clear hhi
  go_enter Tryz.func30, Tryz.ntmps30
  go_upto_if 19 with (first | (refine zbox (N := 8) (t := 37) (cs := zcfg) (h := ?_); intro g8 hg8 w1 B8_ hb1; have B8 := Aside0.mk B8_; have HB := Aside0.mk hb1; have G8 := Aside0.mk (show w.heap.size ≤ g8 by omega); clear B8_ hb1 hg8) | fail)
  go_cut [3] (fun v3 wc => v3 = .int .i64 hi ∧ wc = w1)
  case first =>
    have hh := HH.out
    by_cases hlt : hi0 < init
    · rw [if_pos hlt] at hh
      subst hh
      go_wp2
      go_meet
      case rel => exact ⟨rfl, rfl⟩
    · rw [if_neg hlt] at hh
      subst hh
      go_wp2
      go_meet
      case rel => exact ⟨rfl, rfl⟩
  obtain ⟨rfl, rfl⟩ := hcut
  go_wp2_with (first | fail)
  refine (pledgeref06_between.calls sk 1 4 sk _ (between_in (by omega))).mono ?_
  rintro e w2 ⟨rfl, hd⟩
  replace HB := Aside0.mk (below_step HB.out (drawn_below hd))
  replace B8 := Aside0.mk (blk_below B8.out (drawn_below hd))
  clear hd
  go_wp2_with (first | fail)
  refine (pledgeref06_between.calls wa 1 4 wa _ (between_in (by omega))).mono ?_
  rintro e w3 ⟨rfl, hd⟩
  replace HB := Aside0.mk (below_step HB.out (drawn_below hd))
  replace B8 := Aside0.mk (blk_below B8.out (drawn_below hd))
  clear hd
  go_wp2_with (first | (refine zbox (N := 9) (t := 37) (cs := zcfg) (h := ?_); intro g9 hg9 w4 B9_ hb1; have B9 := Aside0.mk B9_; have G9 := Aside0.mk (show w.heap.size ≤ g9 by have := HB.out.size; omega); have N9 := Aside0.mk (show g8 ≠ g9 by have := blk_lt B8.out; omega); replace B8 := Aside0.mk (blk_below B8.out hb1); replace HB := Aside0.mk (below_step HB.out hb1); clear B9_ hb1 hg9) | (refine store_cfg (w0 := w) (g := g9) (by rfl) (by rfl) (by rfl) (by rfl) B9.out (by rfl) (by rfl) (by simp [Value.oneCell']) HB.out G9.out ?_; intro w5 B9_ hgr hb1; replace B9 := Aside0.mk B9_; replace B8 := Aside0.mk (blk_gr B8.out hgr N9.out); replace HB := Aside0.mk hb1; have c0 : w5.cell? ⟨g9, 0, none⟩ = some (.int .i64 sk) := (blk_cell B9_ 0).trans rfl; have c1 : w5.cell? ⟨g9, 1, none⟩ = some (.int .i64 wa) := (blk_cell B9_ 1).trans rfl; clear B9_ hgr hb1) | fail)
  refine (pledgeref04_All.calls 1000 sk wa _ _ HK.out).mono ?_
  rintro e w6 ⟨vk, rfl, hvk, hb⟩
  have RK := Aside0.mk hvk
  obtain ⟨Ak, ck, rfl⟩ := Kd.R_slice hvk
  replace B8 := Aside0.mk (blk_below B8.out hb)
  replace B9 := Aside0.mk (blk_below B9.out hb)
  have CK := Aside0.mk (Kd.R_reads' RK.out).2.2
  replace HB := Aside0.mk (below_step HB.out hb)
  clear hvk hb c0 c1
  obtain ⟨cs0, hcs0, D9⟩ : ∃ cs0, w6.heap[g9]? = some (.cells cs0 37 (0, 0)) ∧ Aside0 (Cf cs0 sk wa 8 32 2 256 65536 256 0 none 0 0) := ⟨_, B9.out, Aside0.mk ⟨rfl, by simp [Value.oneCell'], rfl, rfl, rfl, rfl, rfl, rfl, rfl, rfl, rfl, rfl⟩⟩
  clear B9
  have B9 := Aside0.mk hcs0
  have hkp : 0 < (keysOf sk wa).length := by
    have h6 := HL.out
    have h5 : 0 < 2 * sk * wa := Int.mul_pos (by omega) (by omega)
    omega
  obtain ⟨gk, kc, rfl, hbk, hkc⟩ := key_row CK.out hkp RK.out
  have BK := Aside0.mk hbk
  have KC := Aside0.mk hkc
  clear hcs0 hbk hkc CK RK hkp
  go_wp2_with (first | fail)
  go_loopw [11] (fun v11 wr => ∃ (j : Nat) (cs : Array Value) (A : Option Addr) (c : Nat), v11 = .int .i64 (j : Int) ∧ j ≤ (keysOf sk wa).length ∧ Aside0 (Cf cs sk wa 8 32 2 256 65536 256 0 A j c) ∧ Aside0 (wr.heap[g9]? = some (.cells cs 37 (0, 0))) ∧ Aside0 (wr.heap[g8]? = some (.cells zcfg 37 (0, 0))) ∧ Aside0 (wr.heap[gk]? = some (.cells kc 52 (0, 0))) ∧ Aside0 (Kd.R k95 95 wr w.heap.size (fun _ => True) (.slice A j c) (((keysOf sk wa).take j).map (plainD init hi))) ∧ Aside0 (Below w.heap.size w wr)) (fun v _ => (keysOf sk wa).length - (RowKit.intOf v).toNat)
  case atStart => exact ⟨0, cs0, none, 0, rfl, Nat.zero_le _, D9, B9, B8, BK, Aside0.mk (Kd.R_nil _ _ _ _ _), HB⟩
  case round =>
    clear B9 B8 BK D9 HB
    obtain ⟨j, cs, A, c, rfl, hj, D9, B9, B8, BK, RD, HB⟩ := hrel
    by_cases hlt : j < (keysOf sk wa).length
    · have HLT := Aside0.mk hlt
      have q1 : (0 : Int) ≤ (j : Int) := by omega
      have q2 : (j : Int) < ((keysOf sk wa).length : Int) := by omega
      obtain ⟨x0, x1, x2⟩ := KC.out j _ (List.getElem?_eq_getElem hlt)
      have e1 : (keysOf sk wa).take (j + 1) = (keysOf sk wa).take j ++ [(keysOf sk wa)[j]] := List.take_succ_eq_append_getElem hlt
      have ET := Aside0.mk e1
      clear e1
      generalize (keysOf sk wa)[j] = kx at *
      have y0 := (blk_cell BK.out (j * 3)).trans x0
      have y1 := (blk_cell BK.out (j * 3 + 1)).trans x1
      have y2 := (blk_cell BK.out (j * 3 + 2)).trans x2
      have ya := fun o => (blk_cell (blk_alloc BK.out o) (j * 3)).trans x0
      have cfa := fun o => cf_at (blk_alloc B9.out o) 2 D9.out.c2
      clear x0 x1 x2
      have hlj : ((keysOf sk wa).take j).length = j := List.length_take_of_le hj
      have LL := Aside0.mk (show ((((keysOf sk wa).take j).map (plainD init hi)).length + 1) * 32 ≤ 140737488355328 by rw [List.length_map, hlj]; have h6 := HL.out; have h7 := lenN h1 h2; omega)
      have LJ := Aside0.mk (show (((keysOf sk wa).take j).map (plainD init hi) ++ [plainD init hi kx]).length = j + 1 by rw [List.length_append, List.length_map, hlj]; rfl)
      have HWR := Aside0.mk (show wrap64 ((j : Int) + 1) = (j : Int) + 1 by have h6 := HL.out; have h7 := lenN h1 h2; simp only [wrap64]; omega)
      clear hlj
      by_cases hk1 : kx.f0 = 1
      · obtain ⟨z1, z2⟩ := zeq hk1
        clear hk1
        go_wp2_with (first | ((with_reducible refine gate_builtin (b := .append) (xs := #[.tmp 52, .tmp 54]) rfl ?_); at_builtin; refine Kd.R_append k95 (w0 := w) w.heap.size rfl (.tmp 52) (.tmp 54) 33 95 (.agg #[.int .u8 0, .int .u8 0, .int .u8 0, .int .i64 0, .int .i64 0, .int .i64 0]) 32 rfl Tryz.underlying33 infD rfl (by decide) (by omega) (.slice A j c) (((keysOf sk wa).take j).map (plainD init hi)) (plainD init hi kx) [.int .u8 kx.f0, .int .u8 kx.f1, .int .u8 kx.f2, .int .i64 0, .int .i64 init, .int .i64 hi] (fun _ => True) (fun _ => False) rfl ?aX ?aP (fun _ hk => hk.elim) (fun _ _ => trivial) ?aO ?aB ?aS ?aL ?_; (case aX => rw [size_al]; rfl); (case aP => exact decl_M _ _ _ kx z1); (case aO => exact Kd.R_alloc RD.out _); (case aB => exact below_alloc HB.out _); (case aS => exact (below_alloc HB.out _).size); (case aL => exact LL.out); intro v1 w7 hR hb7 hg7 _; obtain ⟨B9', B8', BK'⟩ := And.intro (blk_gro (blk_alloc B9.out _) hg7 (Kd.R_ne RD.out B9.out (by decide))) (And.intro (blk_gro (blk_alloc B8.out _) hg7 (Kd.R_ne RD.out B8.out (by decide))) (blk_gro (blk_alloc BK.out _) hg7 (Kd.R_ne RD.out BK.out (by decide)))); obtain ⟨A1, c1, rfl⟩ := Kd.R_slice hR; have NR := Aside0.mk hR; have NB := Aside0.mk hb7; have N9_ := Aside0.mk B9'; have N8_ := Aside0.mk B8'; have NK_ := Aside0.mk BK'; have cf9 := cf_at B9' 2 D9.out.c2; have fz9 := blk_frozen B9' 2; clear hR hb7 hg7 B9' B8' BK'))
        go_roundw
        case measure => have := HLT.out; rw [HWR.out]; simp only [RowKit.intOf]; omega
        case rel => exact ⟨j + 1, _, _, _, by rw [HWR.out]; go_num, HLT.out, Aside0.mk (D9.out.set2 _ _ _), Aside0.mk (blk_set N9_.out 2 _), Aside0.mk (blk_far N8_.out N9.out _), Aside0.mk (blk_far NK_.out (ne_types NK_.out N9_.out) _), Aside0.mk (by have h := Kd.R_set NR.out N9_.out (by decide) 2 (.slice A1 (j + 1) c1); rw [LJ.out] at h; rw [ET.out, List.map_append]; exact h), Aside0.mk (below_set NB.out G9.out)⟩
      · obtain ⟨z1, z2⟩ := zne hk1
        clear hk1
        go_wp2_with (first | ((with_reducible refine gate_builtin (b := .append) (xs := #[.tmp 52, .tmp 54]) rfl ?_); at_builtin; refine Kd.R_append k95 (w0 := w) w.heap.size rfl (.tmp 52) (.tmp 54) 33 95 (.agg #[.int .u8 0, .int .u8 0, .int .u8 0, .int .i64 0, .int .i64 0, .int .i64 0]) 32 rfl Tryz.underlying33 infD rfl (by decide) (by omega) (.slice A j c) (((keysOf sk wa).take j).map (plainD init hi)) (plainD init hi kx) [.int .u8 kx.f0, .int .u8 kx.f1, .int .u8 kx.f2, .int .i64 0, .int .i64 0, .int .i64 hi] (fun _ => True) (fun _ => False) rfl ?aX ?aP (fun _ hk => hk.elim) (fun _ _ => trivial) ?aO ?aB ?aS ?aL ?_; (case aX => rw [size_al]; rfl); (case aP => exact decl_M _ _ _ kx z1); (case aO => exact Kd.R_alloc RD.out _); (case aB => exact below_alloc HB.out _); (case aS => exact (below_alloc HB.out _).size); (case aL => exact LL.out); intro v1 w7 hR hb7 hg7 _; obtain ⟨B9', B8', BK'⟩ := And.intro (blk_gro (blk_alloc B9.out _) hg7 (Kd.R_ne RD.out B9.out (by decide))) (And.intro (blk_gro (blk_alloc B8.out _) hg7 (Kd.R_ne RD.out B8.out (by decide))) (blk_gro (blk_alloc BK.out _) hg7 (Kd.R_ne RD.out BK.out (by decide)))); obtain ⟨A1, c1, rfl⟩ := Kd.R_slice hR; have NR := Aside0.mk hR; have NB := Aside0.mk hb7; have N9_ := Aside0.mk B9'; have N8_ := Aside0.mk B8'; have NK_ := Aside0.mk BK'; have cf9 := cf_at B9' 2 D9.out.c2; have fz9 := blk_frozen B9' 2; clear hR hb7 hg7 B9' B8' BK'))
        go_roundw
        case measure => have := HLT.out; rw [HWR.out]; simp only [RowKit.intOf]; omega
        case rel => exact ⟨j + 1, _, _, _, by rw [HWR.out]; go_num, HLT.out, Aside0.mk (D9.out.set2 _ _ _), Aside0.mk (blk_set N9_.out 2 _), Aside0.mk (blk_far N8_.out N9.out _), Aside0.mk (blk_far NK_.out (ne_types NK_.out N9_.out) _), Aside0.mk (by have h := Kd.R_set NR.out N9_.out (by decide) 2 (.slice A1 (j + 1) c1); rw [LJ.out] at h; rw [ET.out, List.map_append]; exact h), Aside0.mk (below_set NB.out G9.out)⟩
    · obtain rfl : j = (keysOf sk wa).length := by omega
      rw [List.take_length] at RD
      clear BK KC hlt hj
      have hend : ¬ (((keysOf sk wa).length : Int) < ((keysOf sk wa).length : Int)) := by omega
      go_wp2_with (first | fail)
      go_loopw [13] (fun v13 wr => ∃ (s : Int) (cs : Array Value), v13 = .int .i64 s ∧ 0 ≤ s ∧ s ≤ sk ∧ Aside0 (Cf cs sk wa 8 32 2 256 65536 256 0 A (keysOf sk wa).length c) ∧ Aside0 (wr.heap[g9]? = some (.cells cs 37 (0, 0))) ∧ Aside0 (wr.heap[g8]? = some (.cells zcfg 37 (0, 0))) ∧ Aside0 (Kd.R k95 95 wr w.heap.size (fun _ => True) (.slice A (keysOf sk wa).length c) ((keysOf sk wa).map (plainD init hi))) ∧ Aside0 (Below w.heap.size w wr)) (fun v _ => (sk - RowKit.intOf v).toNat)
      case atStart => exact ⟨0, cs, rfl, Int.le_refl _, by omega, D9, B9, B8, RD, HB⟩
      case round =>
        rename_i wo0 _
        clear B9 B8 D9 HB RD
        obtain ⟨s, cs, rfl, s0, s1, D9, B9, B8, RD, HB⟩ := hrel
        have c0 := cf_at B9.out 0 D9.out.c0
        by_cases hs : s < sk
        · go_wp2_with (first | fail)
          clear c0
          go_loopw [14] (fun v14 wr => ∃ (u : Int) (cs : Array Value), v14 = .int .i64 u ∧ 0 ≤ u ∧ u ≤ wa ∧ Aside0 (Cf cs sk wa 8 32 2 256 65536 256 0 A (keysOf sk wa).length c) ∧ Aside0 (wr.heap[g9]? = some (.cells cs 37 (0, 0))) ∧ Aside0 (wr.heap[g8]? = some (.cells zcfg 37 (0, 0))) ∧ Aside0 (Kd.R k95 95 wr w.heap.size (fun _ => True) (.slice A (keysOf sk wa).length c) ((keysOf sk wa).map (plainD init hi))) ∧ Aside0 (Below w.heap.size w wr)) (fun v _ => (wa - RowKit.intOf v).toNat)
          case atStart => exact ⟨0, cs, rfl, Int.le_refl _, by omega, D9, B9, B8, RD, HB⟩
          case round =>
            clear B9 B8 D9 HB RD
            obtain ⟨u, cs, rfl, u0, u1, D9, B9, B8, RD, HB⟩ := hrel
            have c1 := cf_at B9.out 1 D9.out.c1
            by_cases hu : u < wa
            · have hs3 : s = 0 ∨ s = 1 ∨ s = 2 := by omega
              have hu3 : u = 0 ∨ u = 1 ∨ u = 2 := by omega
              rcases hs3 with rfl | rfl | rfl <;> rcases hu3 with rfl | rfl | rfl
              · obtain ⟨v0, hv0⟩ := Cf.at_ D9.out 3 (by decide)
                have cp := cf_at B9.out 3 hv0
                have fp := blk_frozen B9.out 3
                clear hv0
                go_wp2_with (first | fail)
                go_roundw
                case measure => simp [RowKit.intOf]; omega
                case rel => exact ⟨1, _, rfl, by omega, by omega, Aside0.mk (D9.out.setP 3 (by decide) 0), Aside0.mk (blk_set B9.out 3 _), Aside0.mk (blk_far B8.out N9.out _), Aside0.mk (Kd.R_set RD.out B9.out (by decide) 3 _), Aside0.mk (below_set HB.out G9.out)⟩
              · obtain ⟨v0, hv0⟩ := Cf.at_ D9.out 4 (by decide)
                have cp := cf_at B9.out 4 hv0
                have fp := blk_frozen B9.out 4
                clear hv0
                go_wp2_with (first | fail)
                go_roundw
                case measure => simp [RowKit.intOf]; omega
                case rel => exact ⟨2, _, rfl, by omega, by omega, Aside0.mk (D9.out.setP 4 (by decide) 1), Aside0.mk (blk_set B9.out 4 _), Aside0.mk (blk_far B8.out N9.out _), Aside0.mk (Kd.R_set RD.out B9.out (by decide) 4 _), Aside0.mk (below_set HB.out G9.out)⟩
              · obtain ⟨v0, hv0⟩ := Cf.at_ D9.out 5 (by decide)
                have cp := cf_at B9.out 5 hv0
                have fp := blk_frozen B9.out 5
                clear hv0
                go_wp2_with (first | fail)
                go_roundw
                case measure => simp [RowKit.intOf]; omega
                case rel => exact ⟨3, _, rfl, by omega, by omega, Aside0.mk (D9.out.setP 5 (by decide) 2), Aside0.mk (blk_set B9.out 5 _), Aside0.mk (blk_far B8.out N9.out _), Aside0.mk (Kd.R_set RD.out B9.out (by decide) 5 _), Aside0.mk (below_set HB.out G9.out)⟩
              · obtain ⟨v0, hv0⟩ := Cf.at_ D9.out 7 (by decide)
                have cp := cf_at B9.out 7 hv0
                have fp := blk_frozen B9.out 7
                clear hv0
                go_wp2_with (first | fail)
                go_roundw
                case measure => simp [RowKit.intOf]; omega
                case rel => exact ⟨1, _, rfl, by omega, by omega, Aside0.mk (D9.out.setP 7 (by decide) 0), Aside0.mk (blk_set B9.out 7 _), Aside0.mk (blk_far B8.out N9.out _), Aside0.mk (Kd.R_set RD.out B9.out (by decide) 7 _), Aside0.mk (below_set HB.out G9.out)⟩
              · obtain ⟨v0, hv0⟩ := Cf.at_ D9.out 8 (by decide)
                have cp := cf_at B9.out 8 hv0
                have fp := blk_frozen B9.out 8
                clear hv0
                go_wp2_with (first | fail)
                go_roundw
                case measure => simp [RowKit.intOf]; omega
                case rel => exact ⟨2, _, rfl, by omega, by omega, Aside0.mk (D9.out.setP 8 (by decide) 1), Aside0.mk (blk_set B9.out 8 _), Aside0.mk (blk_far B8.out N9.out _), Aside0.mk (Kd.R_set RD.out B9.out (by decide) 8 _), Aside0.mk (below_set HB.out G9.out)⟩
              · obtain ⟨v0, hv0⟩ := Cf.at_ D9.out 9 (by decide)
                have cp := cf_at B9.out 9 hv0
                have fp := blk_frozen B9.out 9
                clear hv0
                go_wp2_with (first | fail)
                go_roundw
                case measure => simp [RowKit.intOf]; omega
                case rel => exact ⟨3, _, rfl, by omega, by omega, Aside0.mk (D9.out.setP 9 (by decide) 2), Aside0.mk (blk_set B9.out 9 _), Aside0.mk (blk_far B8.out N9.out _), Aside0.mk (Kd.R_set RD.out B9.out (by decide) 9 _), Aside0.mk (below_set HB.out G9.out)⟩
              · obtain ⟨v0, hv0⟩ := Cf.at_ D9.out 11 (by decide)
                have cp := cf_at B9.out 11 hv0
                have fp := blk_frozen B9.out 11
                clear hv0
                go_wp2_with (first | fail)
                go_roundw
                case measure => simp [RowKit.intOf]; omega
                case rel => exact ⟨1, _, rfl, by omega, by omega, Aside0.mk (D9.out.setP 11 (by decide) 0), Aside0.mk (blk_set B9.out 11 _), Aside0.mk (blk_far B8.out N9.out _), Aside0.mk (Kd.R_set RD.out B9.out (by decide) 11 _), Aside0.mk (below_set HB.out G9.out)⟩
              · obtain ⟨v0, hv0⟩ := Cf.at_ D9.out 12 (by decide)
                have cp := cf_at B9.out 12 hv0
                have fp := blk_frozen B9.out 12
                clear hv0
                go_wp2_with (first | fail)
                go_roundw
                case measure => simp [RowKit.intOf]; omega
                case rel => exact ⟨2, _, rfl, by omega, by omega, Aside0.mk (D9.out.setP 12 (by decide) 1), Aside0.mk (blk_set B9.out 12 _), Aside0.mk (blk_far B8.out N9.out _), Aside0.mk (Kd.R_set RD.out B9.out (by decide) 12 _), Aside0.mk (below_set HB.out G9.out)⟩
              · obtain ⟨v0, hv0⟩ := Cf.at_ D9.out 13 (by decide)
                have cp := cf_at B9.out 13 hv0
                have fp := blk_frozen B9.out 13
                clear hv0
                go_wp2_with (first | fail)
                go_roundw
                case measure => simp [RowKit.intOf]; omega
                case rel => exact ⟨3, _, rfl, by omega, by omega, Aside0.mk (D9.out.setP 13 (by decide) 2), Aside0.mk (blk_set B9.out 13 _), Aside0.mk (blk_far B8.out N9.out _), Aside0.mk (Kd.R_set RD.out B9.out (by decide) 13 _), Aside0.mk (below_set HB.out G9.out)⟩
            · go_wp2_with (first | fail)
              exact ⟨⟨s + 1, cs, rfl, by omega, by omega, D9, B9, B8, RD, HB⟩, by simp [RowKit.intOf]; omega⟩
        · go_wp2_with (first | (refine load_cfg (cs := cs) (g := g9) (by rfl) (by rfl) (by rfl) D9.out.sz B9.out ?_) | fail)
          refine (need_calls cs D9.out _ h1 h2 (by omega)).mono ?_
          rintro e w9 ⟨rfl, hb⟩
          replace B9 := Aside0.mk (blk_below B9.out hb)
          replace B8 := Aside0.mk (blk_below B8.out hb)
          replace RD := Aside0.mk (Kd.R_below RD.out hb)
          replace HB := Aside0.mk (below_step HB.out hb)
          have c25 := cf_at B9.out 25 D9.out.c25
          have f25 := blk_frozen B9.out 25
          clear hb c0
          have DN := Aside0.mk (D9.out.set25 (needN sk wa 8 32 256))
          go_wp2_with (first | (refine load_cfg (cs := cs.setIfInBounds 25 (.int .i64 (needN sk wa 8 32 256))) (g := g9) (by rfl) (by rfl) (by rfl) DN.out.sz (blk_set B9.out 25 _) ?_) | (refine store_cfg (w0 := w) (g := g8) (cells := cs.setIfInBounds 25 (.int .i64 (needN sk wa 8 32 256))) (by rfl) (by rfl) (by rfl) (by rfl) (blk_far B8.out N9.out _) (by rfl) DN.out.sz DN.out.one (below_set HB.out G9.out) G8.out ?_; intro w10 B8_ hgr hb1; have RE := Aside0.mk (Kd.R_mono (Kd.R_grown (Kd.R_types (Kd.R_set RD.out B9.out (by decide) 25 _) (blk_far B8.out N9.out _) (by decide)) hgr (fun k hk e => hk.2 (by injection e))) (fun _ _ => trivial) : Kd.R k95 95 w10 w.heap.size (fun _ => True) _ _); have BE := Aside0.mk B8_; have HE := Aside0.mk hb1; clear B8_ hgr hb1) | fail)
          exact bodyPost_ret (v := .agg (cs.setIfInBounds 25 (.int .i64 (needN sk wa 8 32 256)))) (results_cell_row (g := g8) (t := 37) (fr := (0, 0)) rfl _ _ _ _ rfl BE.out Tryz.underlying37 rfl (by rw [DN.out.sz]; kernel_rfl)) rfl ⟨_, A, c, rfl, DN.out, RE.out, HE.out⟩
theorem seg_set {α : Type} (l : List α) (j m k sz : Nat) (u : α) (hk : k < sz) : ((l.set (j * sz + k) u).drop (m * sz)).take sz = if m = j then ((l.drop (j * sz)).take sz).set k u else (l.drop (m * sz)).take sz := by
  rw [List.drop_set]
  by_cases h : m = j
  · subst h
    rw [if_pos rfl, if_neg (by omega), List.take_set, show m * sz + k - m * sz = k from by omega]
  · rw [if_neg h]
    split
    · rfl
    · rename_i hn
      have hm : m < j := by
        rcases Nat.lt_or_gt_of_ne h with h | h
        · exact h
        · have := Nat.mul_le_mul_right sz (show j + 1 ≤ m from h)
          rw [Nat.succ_mul] at this
          omega
      have := Nat.mul_le_mul_right sz (show m + 1 ≤ j from hm)
      rw [Nat.succ_mul] at this
      rw [List.take_set, List.set_eq_of_length_le (by rw [List.length_take]; omega)]
/-- One cell of an element of a row of the call's own is written. -/
theorem R_setf {α : Type} {d : Kd α} {e base g n cap : Nat} {W : World} {ok : Nat → Prop} {xs : List α} (h : d.R e W base ok (.slice (some ⟨g, 0, none⟩) n cap) xs) (j k : Nat) (hj : j < xs.length) (hk : k < d.sz) (u : Value) (x' : α)
    (hM : ∀ cs okp, d.M W base okp xs[j] cs → d.M (W.setCell ⟨g, j * d.sz + k, none⟩ u) base okp x' (cs.set k u)) (hK : ∀ x cs okp, d.M W base okp x cs → d.M (W.setCell ⟨g, j * d.sz + k, none⟩ u) base okp x cs) : d.R e (W.setCell ⟨g, j * d.sz + k, none⟩ u) base ok (.slice (some ⟨g, 0, none⟩) n cap) (xs.set j x') := by
  have hn := (Kd.R_reads' h).1
  obtain ⟨h0, inner, ⟨ho1, ho2⟩, hr⟩ := h
  rcases ho2 with ⟨hv, _⟩ | ⟨g', cap', cur, hv, hb, hh, hnc, hcm, hcs, ht⟩
  · cases hv
  injection hv with ha _ hc
  injection ha with ha
  injection ha with hg
  subst hg; subst hc
  refine ⟨h0, inner.set (j * d.sz + k) u, ⟨by rw [List.length_set, List.length_set]; exact ho1, Or.inr ⟨g, cap, cur.setIfInBounds (j * d.sz + k) u, by rw [List.length_set, hn], hb, blk_set hh _ _, by rw [List.length_set]; exact hnc, hcm, by simpa using hcs, ?_⟩⟩, by rw [List.length_set, List.length_set]; exact hr.1, fun m p hm => ?_⟩
  · rw [Array.toList_setIfInBounds, List.take_set, List.length_set, ht]
  · rw [seg_set _ _ _ _ _ _ hk]
    by_cases hmj : m = j
    · subst hmj
      rw [if_pos rfl]
      rw [List.getElem?_set_self hj] at hm
      injection hm with hm
      subst hm
      exact hM _ _ (hr.2 m _ (List.getElem?_eq_getElem hj))
    · rw [if_neg hmj]
      rw [List.getElem?_set_ne (Ne.symm hmj)] at hm
      exact hK _ _ _ (hr.2 m p hm)
def cfgD (lo init hi : Int) (k : SK) : SD := ⟨k, -lo, if k.f0 = 1 then init else 0, hi⟩
theorem decl_setLo {base g n cap : Nat} {W : World} {ok : Nat → Prop} {xs : List SD} (h : k95.R 95 W base ok (.slice (some ⟨g, 0, none⟩) n cap) xs) (j : Nat) (hj : j < xs.length) (z : Int) :
    k95.R 95 (W.setCell ⟨g, j * 6 + 3, none⟩ (.int .i64 z)) base ok (.slice (some ⟨g, 0, none⟩) n cap) (xs.set j ⟨xs[j].f0, z, xs[j].f2, xs[j].f3⟩) := by
  refine R_setf (d := k95) h j 3 hj (by decide) (.int .i64 z) _ (fun cs okp hM => ?_) (fun x cs okp hM => ?_)
  · obtain rfl := k95_openM hM
    exact k95_mkM _ _ _ (⟨xs[j].f0, z, xs[j].f2, xs[j].f3⟩ : SD)
  · obtain rfl := k95_openM hM
    exact k95_mkM _ _ _ x
theorem mix_set {α : Type} (a b : List α) (i : Nat) (h : a.length = b.length) (hi : i < a.length) : (a.take i ++ b.drop i).set i a[i] = a.take (i + 1) ++ b.drop (i + 1) := by
  rw [List.set_append_right _ _ (by rw [List.length_take]; omega), List.length_take, show i - min i a.length = 0 from by omega, List.drop_eq_getElem_cons (by omega), List.set_cons_zero, List.take_succ_eq_append_getElem hi, List.append_assoc]
  rfl
def mixD (l : List SK) (lo init hi : Int) (i : Nat) : List SD := (l.map (cfgD lo init hi)).take i ++ (l.map (plainD init hi)).drop i
theorem mixD_len (l : List SK) (lo init hi : Int) (i : Nat) (h : i ≤ l.length) : (mixD l lo init hi i).length = l.length := by
  unfold mixD
  rw [List.length_append, List.length_take, List.length_drop, List.length_map, List.length_map]
  omega
theorem mixD_at (l : List SK) (lo init hi : Int) (i : Nat) (h : i < l.length) : (mixD l lo init hi i)[i]? = some (plainD init hi l[i]) := by
  unfold mixD
  rw [List.getElem?_append_right (by rw [List.length_take]; omega), List.length_take, List.length_map, show i - min i l.length = 0 from by omega, List.getElem?_drop, Nat.add_zero, List.getElem?_map, List.getElem?_eq_getElem h]
  rfl
theorem decl_cell3 {base g cap : Nat} {W : World} {ok : Nat → Prop} {l : List SK} {lo init hi : Int} {i : Nat} (h : k95.R 95 W base ok (.slice (some ⟨g, 0, none⟩) l.length cap) (mixD l lo init hi i)) (j : Nat) (hj : j < l.length) : ∃ v, W.cell? ⟨g, j * 6 + 3, none⟩ = some v ∧ W.frozen? ⟨g, j * 6 + 3, none⟩ = false := by
  obtain ⟨c, hl, hM, hc, hf⟩ := Kd.R_elem h z95 (j : Int) (by omega) (by omega)
  obtain rfl := k95_openM hM
  exact ⟨_, hc 3 _ rfl, hf 3⟩
theorem R_blk {base g n cap : Nat} {W : World} {ok : Nat → Prop} {xs : List SD} (h : k95.R 95 W base ok (.slice (some ⟨g, 0, none⟩) n cap) xs) (hp : 0 < n) : base ≤ g ∧ ∃ cells, W.heap[g]? = some (.cells cells 95 (0, 0)) := by
  obtain ⟨g', cap', e, hb, _, cells, hc⟩ := Kd.R_form h (by rw [← (Kd.R_reads' h).1]; exact hp)
  injection e with e _ _
  injection e with e
  injection e with e
  subst e
  exact ⟨hb, cells, hc⟩
theorem mixD_step {base g cap : Nat} {W : World} {ok : Nat → Prop} {l : List SK} {lo init hi : Int} {i : Nat} (h : k95.R 95 W base ok (.slice (some ⟨g, 0, none⟩) l.length cap) (mixD l lo init hi i)) (j : Nat) (hj : i < l.length) :
    k95.R 95 (W.setCell ⟨g, i * 6 + 3, none⟩ (.int .i64 (-lo))) base ok (.slice (some ⟨g, 0, none⟩) l.length cap) (mixD l lo init hi (i + 1)) := by
  have hlen := mixD_len l lo init hi i (by omega)
  have h2 := decl_setLo h i (by omega) (-lo)
  have he : (mixD l lo init hi i)[i]'(by omega) = plainD init hi l[i] := by
    have := mixD_at l lo init hi i hj
    rw [List.getElem?_eq_getElem (by omega)] at this
    exact Option.some.inj this
  rw [he] at h2
  have e2 := mix_set (l.map (cfgD lo init hi)) (l.map (plainD init hi)) i (by rw [List.length_map, List.length_map]) (by rw [List.length_map]; exact hj)
  rw [List.getElem_map] at e2
  unfold mixD at h2 ⊢
  rw [← e2]
  exact h2
theorem mixD_end {base g cap : Nat} {W : World} {ok : Nat → Prop} {l : List SK} {lo init hi : Int} (h : k95.R 95 W base ok (.slice (some ⟨g, 0, none⟩) l.length cap) (mixD l lo init hi l.length)) :
    k95.R 95 W base ok (.slice (some ⟨g, 0, none⟩) l.length cap) (l.map (cfgD lo init hi)) := by
  unfold mixD at h
  rwa [List.take_of_length_le (by rw [List.length_map]; exact Nat.le_refl _), List.drop_of_length_le (by rw [List.length_map]; exact Nat.le_refl _), List.append_nil] at h
theorem sp13 {w : World} {g1 : Nat} {t : TypeId} {a6 a7 a8 : Int} {v0 v1 v2 v3 v4 v5 v9 v10 v11 : Value} (h : w.heap[g1]? = some (.cells #[v0, v1, v2, v3, v4, v5, .int .u8 a6, .int .u8 a7, .int .u8 a8, v9, v10, v11] t (0, 0))) : w.cell? ⟨g1, 6, none⟩ = some (.int .u8 a6) ∧ w.cell? ⟨g1, 7, none⟩ = some (.int .u8 a7) ∧ w.cell? ⟨g1, 8, none⟩ = some (.int .u8 a8) := ⟨(blk_cell h 6).trans rfl, (blk_cell h 7).trans rfl, (blk_cell h 8).trans rfl⟩
theorem sp14 {w : World} {g1 : Nat} {t : TypeId} {a9 a11 : Int} {v0 v1 v2 v3 v4 v5 v6 v7 v8 v10 : Value} (h : w.heap[g1]? = some (.cells #[v0, v1, v2, v3, v4, v5, v6, v7, v8, .int .u8 a9, v10, .int .u8 a11] t (0, 0))) : w.cell? ⟨g1, 9, none⟩ = some (.int .u8 a9) ∧ w.cell? ⟨g1, 11, none⟩ = some (.int .u8 a11) := ⟨(blk_cell h 9).trans rfl, (blk_cell h 11).trans rfl⟩
theorem set_ne {cs : Array Value} {i j : Nat} {v : Value} (h : i ≠ j) (u : Value) (hc : cs[j]? = some v) : (cs.setIfInBounds i u)[j]? = some v := by
  rw [Array.getElem?_setIfInBounds, if_neg h]
  exact hc
set_option maxHeartbeats 8000000 in
set_option maxRecDepth 100000 in
theorem config_calls (a0 a1 a2 a3 a4 a5 a6 a7 a8 a9 a10 a11 : Int) (w : World) (h0 : 0 ≤ a0 ∧ a0 ≤ 255) (h1 : 0 ≤ a1 ∧ a1 ≤ 255) (h2 : 0 ≤ a2 ∧ a2 ≤ 255) (h3 : 0 ≤ a3 ∧ a3 ≤ 65535) (h4 : 0 ≤ a4 ∧ a4 ≤ 255) (h5 : 0 ≤ a5 ∧ a5 ≤ 255) (h6 : 0 ≤ a6 ∧ a6 ≤ 255) (h7 : 0 ≤ a7 ∧ a7 ≤ 255) (h8 : 0 ≤ a8 ∧ a8 ≤ 255) (h9 : 0 ≤ a9 ∧ a9 ≤ 255) (h10 : 0 ≤ a10 ∧ a10 ≤ 65535) (h11 : 0 ≤ a11 ∧ a11 ≤ 255) (hi : Int) (hhi : hi = if a3 < a2 then a2 else a3) :
    Calls Tryz.prog 9 #[.agg #[.int .u8 a0, .int .u8 a1, .int .u8 a2, .int .u16 a3, .int .u8 a4, .int .u8 a5, .int .u8 a6, .int .u8 a7, .int .u8 a8, .int .u8 a9, .int .u16 a10, .int .u8 a11]] w fun e w' => ∃ (cs : Array Value) (A : Option Addr) (c : Nat), e = .returned (.agg cs) ∧ Cf cs (1 + a0 % 3) (1 + a1 % 3) (1 + a6 % 8) (1 + a7 % 32) (a8 % 5) (64 + a9) (64 + a9 + 1 + a10) (64 + 2 * a11) (needN (1 + a0 % 3) (1 + a1 % 3) (1 + a6 % 8) (1 + a7 % 32) (64 + 2 * a11)) A (keysOf (1 + a0 % 3) (1 + a1 % 3)).length c ∧ Kd.R k95 95 w' w.heap.size (fun _ => True) (.slice A (keysOf (1 + a0 % 3) (1 + a1 % 3)).length c) ((keysOf (1 + a0 % 3) (1 + a1 % 3)).map (cfgD (a4 % 4) a2 hi)) ∧ Below w.heap.size w w' := by
  have h1 : 1 ≤ 1 + a0 % 3 ∧ 1 + a0 % 3 ≤ 3 := by omega
  have h2 : 1 ≤ 1 + a1 % 3 ∧ 1 + a1 % 3 ≤ 3 := by omega
  obtain ⟨sk, hsk⟩ : ∃ sk, sk = 1 + a0 % 3 := ⟨_, rfl⟩
  obtain ⟨wa, hwa⟩ : ∃ wa, wa = 1 + a1 % 3 := ⟨_, rfl⟩
  rw [← hsk] at h1 ⊢
  rw [← hwa] at h2 ⊢
  have HS := Aside0.mk hsk
  have HW := Aside0.mk hwa
  have HH := Aside0.mk hhi
  obtain ⟨hk, hl⟩ := keys_is h1 h2
  have HL := Aside0.mk hl
  clear hk hl hsk hwa hhi
  go_enter Tryz.func9, Tryz.ntmps9
  go_wp2_with (first | (refine zbox (N := 1) (t := 29) (cs := #[.int .u8 a0, .int .u8 a1, .int .u8 a2, .int .u16 a3, .int .u8 a4, .int .u8 a5, .int .u8 a6, .int .u8 a7, .int .u8 a8, .int .u8 a9, .int .u16 a10, .int .u8 a11]) (h := ?_); intro g1 hg1 w1 BP_ hb1; have BP := Aside0.mk BP_; have HB := Aside0.mk hb1; have G1 := Aside0.mk (show w.heap.size ≤ g1 by omega); clear BP_ hb1 hg1) | (refine zbox (N := 2) (t := 37) (cs := zcfg) (h := ?_); intro g8 hg8 w2 B8_ hb1; have B8 := Aside0.mk B8_; have G8 := Aside0.mk (show w.heap.size ≤ g8 by have := HB.out.size; omega); have p0 := (blk_cell (blk_below BP.out hb1) 0).trans rfl; have p1 := (blk_cell (blk_below BP.out hb1) 1).trans rfl; have p2 := (blk_cell (blk_below BP.out hb1) 2).trans rfl; have p3 := (blk_cell (blk_below BP.out hb1) 3).trans rfl; replace BP := Aside0.mk (blk_below BP.out hb1); replace HB := Aside0.mk (below_step HB.out hb1); clear B8_ hb1 hg8) | fail)
  rw [← HS.out, ← HW.out]
  refine (plain_calls sk wa a2 a3 _ h1 h2 (by omega) (by omega) hi HH.out).mono ?_
  rintro e w3 ⟨cs, A, c, rfl, hD, hR, hb⟩
  have hkp : 0 < (keysOf sk wa).length := by
    have h6 := HL.out
    have h5 : 0 < 2 * sk * wa := Int.mul_pos (by omega) (by omega)
    omega
  have HKP := Aside0.mk hkp
  obtain ⟨gD, cap, e1, _, hgD, cellsD, hcD⟩ := Kd.R_form hR (by rw [List.length_map]; exact hkp)
  injection e1 with e1 e3 e2
  subst e1
  subst e2
  clear e3
  have D3 := Aside0.mk hD
  have RD := Aside0.mk (Kd.R_lower hR HB.out.size)
  replace BP := Aside0.mk (blk_below BP.out hb)
  replace B8 := Aside0.mk (blk_below B8.out hb)
  replace HB := Aside0.mk (below_step HB.out hb)
  clear hD hR hb hcD hgD hkp p0 p1 p2 p3
  go_wp2_with (first | (refine zbox (N := 3) (t := 37) (cs := zcfg) (h := ?_); intro g9 hg9 w4 B9_ hb1; have B9 := Aside0.mk B9_; have G9 := Aside0.mk (show w.heap.size ≤ g9 by have := HB.out.size; omega); have N9 := Aside0.mk (show g8 ≠ g9 by have := blk_lt B8.out; omega); replace B8 := Aside0.mk (blk_below B8.out hb1); replace BP := Aside0.mk (blk_below BP.out hb1); replace RD := Aside0.mk (Kd.R_below RD.out hb1); replace HB := Aside0.mk (below_step HB.out hb1); clear B9_ hb1 hg9) | (refine store_cfg (w0 := w) (g := g9) (cells := cs) (by rfl) (by rfl) (by rfl) (by rfl) B9.out (by rfl) D3.out.sz D3.out.one HB.out G9.out ?_; intro w5 B9_ hgr hb1; have RE := Aside0.mk (Kd.R_mono (Kd.R_grown (Kd.R_types RD.out B9.out (by decide)) hgr (fun k hk e => hk.2 (by injection e))) (fun _ _ => trivial) : Kd.R k95 95 w5 w.heap.size (fun _ => True) _ _); replace BP := Aside0.mk (blk_gr BP.out hgr (ne_types BP.out B9.out)); replace B8 := Aside0.mk (blk_gr B8.out hgr N9.out); replace B9 := Aside0.mk B9_; replace HB := Aside0.mk hb1; clear B9_ hgr hb1 RD) | fail)
  go_loopw [4] (fun v4 wr => ∃ (i : Nat), v4 = .int .i64 (i : Int) ∧ i ≤ (keysOf sk wa).length ∧ Aside0 (wr.heap[g1]? = some (.cells #[.int .u8 a0, .int .u8 a1, .int .u8 a2, .int .u16 a3, .int .u8 a4, .int .u8 a5, .int .u8 a6, .int .u8 a7, .int .u8 a8, .int .u8 a9, .int .u16 a10, .int .u8 a11] 29 (0, 0))) ∧ Aside0 (wr.heap[g8]? = some (.cells zcfg 37 (0, 0))) ∧ Aside0 (wr.heap[g9]? = some (.cells cs 37 (0, 0))) ∧ Aside0 (Kd.R k95 95 wr w.heap.size (fun _ => True) (.slice (some ⟨gD, 0, none⟩) (keysOf sk wa).length c) (mixD (keysOf sk wa) (a4 % 4) a2 hi i)) ∧ Aside0 (Below w.heap.size w wr)) (fun v _ => (keysOf sk wa).length - (RowKit.intOf v).toNat)
  case atStart => exact ⟨0, rfl, Nat.zero_le _, BP, B8, B9, RE, HB⟩
  case round =>
    clear BP B8 B9 RE HB
    obtain ⟨i, rfl, hi1, BP, B8, B9, RE, HB⟩ := hrel
    have c2 := cf_at B9.out 2 D3.out.c2
    by_cases hlt : i < (keysOf sk wa).length
    · have HLT := Aside0.mk hlt
      have q1 : (0 : Int) ≤ (i : Int) := by omega
      have q2 : (i : Int) < ((keysOf sk wa).length : Int) := by omega
      have HWR := Aside0.mk (show wrap64 ((i : Int) + 1) = (i : Int) + 1 by have h6 := HL.out; have h7 := lenN h1 h2; simp only [wrap64]; omega)
      have p4 := (blk_cell BP.out 4).trans rfl
      obtain ⟨v0, y0, f0⟩ := decl_cell3 RE.out i hlt
      go_wp2_with (first | fail)
      go_roundw
      case measure => have := HLT.out; rw [HWR.out]; simp only [RowKit.intOf]; omega
      case rel =>
        obtain ⟨gge, cx, hx⟩ := R_blk RE.out (by have := HLT.out; omega)
        exact ⟨i + 1, by rw [HWR.out]; go_num, HLT.out, Aside0.mk (blk_far BP.out (ne_types BP.out hx) _), Aside0.mk (blk_far B8.out (ne_types B8.out hx) _), Aside0.mk (blk_far B9.out (ne_types B9.out hx) _), Aside0.mk (mixD_step RE.out i HLT.out), Aside0.mk (below_set HB.out gge)⟩
    · obtain rfl : i = (keysOf sk wa).length := by omega
      have hend : ¬ (((keysOf sk wa).length : Int) < ((keysOf sk wa).length : Int)) := by omega
      replace RE := Aside0.mk (mixD_end RE.out)
      clear hlt hi1
      go_wp2_with (first | fail)
      go_loopw [5] (fun v5 wr => ∃ (s : Int) (cs : Array Value), v5 = .int .i64 s ∧ 0 ≤ s ∧ s ≤ sk ∧ Aside0 (Cf cs sk wa 8 32 2 256 65536 256 (needN sk wa 8 32 256) (some ⟨gD, 0, none⟩) (keysOf sk wa).length c) ∧ Aside0 (wr.heap[g1]? = some (.cells #[.int .u8 a0, .int .u8 a1, .int .u8 a2, .int .u16 a3, .int .u8 a4, .int .u8 a5, .int .u8 a6, .int .u8 a7, .int .u8 a8, .int .u8 a9, .int .u16 a10, .int .u8 a11] 29 (0, 0))) ∧ Aside0 (wr.heap[g8]? = some (.cells zcfg 37 (0, 0))) ∧ Aside0 (wr.heap[g9]? = some (.cells cs 37 (0, 0))) ∧ Aside0 (Kd.R k95 95 wr w.heap.size (fun _ => True) (.slice (some ⟨gD, 0, none⟩) (keysOf sk wa).length c) ((keysOf sk wa).map (cfgD (a4 % 4) a2 hi))) ∧ Aside0 (Below w.heap.size w wr)) (fun v _ => (sk - RowKit.intOf v).toNat)
      case atStart => exact ⟨0, cs, rfl, Int.le_refl _, by omega, D3, BP, B8, B9, RE, HB⟩
      case round =>
        clear BP B8 B9 RE HB D3 c2
        obtain ⟨s, cs, rfl, s0, s1, D3, BP, B8, B9, RE, HB⟩ := hrel
        have c0 := cf_at B9.out 0 D3.out.c0
        by_cases hs : s < sk
        · go_wp2_with (first | fail)
          clear c0
          go_loopw [6] (fun v6 wr => ∃ (u : Int) (cs : Array Value), v6 = .int .i64 u ∧ 0 ≤ u ∧ u ≤ wa ∧ Aside0 (Cf cs sk wa 8 32 2 256 65536 256 (needN sk wa 8 32 256) (some ⟨gD, 0, none⟩) (keysOf sk wa).length c) ∧ Aside0 (wr.heap[g1]? = some (.cells #[.int .u8 a0, .int .u8 a1, .int .u8 a2, .int .u16 a3, .int .u8 a4, .int .u8 a5, .int .u8 a6, .int .u8 a7, .int .u8 a8, .int .u8 a9, .int .u16 a10, .int .u8 a11] 29 (0, 0))) ∧ Aside0 (wr.heap[g8]? = some (.cells zcfg 37 (0, 0))) ∧ Aside0 (wr.heap[g9]? = some (.cells cs 37 (0, 0))) ∧ Aside0 (Kd.R k95 95 wr w.heap.size (fun _ => True) (.slice (some ⟨gD, 0, none⟩) (keysOf sk wa).length c) ((keysOf sk wa).map (cfgD (a4 % 4) a2 hi))) ∧ Aside0 (Below w.heap.size w wr)) (fun v _ => (wa - RowKit.intOf v).toNat)
          case atStart => exact ⟨0, cs, rfl, Int.le_refl _, by omega, D3, BP, B8, B9, RE, HB⟩
          case round =>
            clear BP B8 B9 RE HB D3
            obtain ⟨u, cs, rfl, u0, u1, D3, BP, B8, B9, RE, HB⟩ := hrel
            have c1 := cf_at B9.out 1 D3.out.c1
            by_cases hu : u < wa
            · obtain ⟨sn, rfl⟩ := Int.eq_ofNat_of_zero_le s0
              obtain ⟨un, rfl⟩ := Int.eq_ofNat_of_zero_le u0
              have q1 : (0 : Int) ≤ (sn : Int) := by omega
              have q2 : (sn : Int) < 4 := by omega
              have q3 : (0 : Int) ≤ (un : Int) := by omega
              have q4 : (un : Int) < 4 := by omega
              have q5 : (wa = 0) = False := eq_false (by omega)
              obtain ⟨v0, hv0⟩ := Cf.at_ D3.out (3 + sn * 4 + un) (by omega)
              have SN := Aside0.mk (show sn < 3 by omega)
              have UN := Aside0.mk (show un < 3 ∧ (un : Int) < wa by omega)
              go_wp2_with (first | fail)
              have cp := cf_at (blk_drew B9.out) (3 + sn * 4 + un) hv0
              have fp := blk_frozen (blk_drew B9.out) (3 + sn * 4 + un)
              refine start_ (n := 17) (S := fun w' => w'.cell? ⟨g1, 5, none⟩ = some (.int .u8 a5) ∧ w'.cell? ⟨g9, 1, none⟩ = some (.int .i64 wa)) (ds := [16]) (bz 17 0) (by kernel_rfl) rfl (by kernel_rfl) ⟨(blk_cell (blk_drew BP.out) 5).trans rfl, cf_at (blk_drew B9.out) 1 D3.out.c1⟩ (fun hHeld => ?_)
              replace BP := Aside0.mk (blk_drew BP.out)
              replace B8 := Aside0.mk (blk_drew B8.out)
              replace B9 := Aside0.mk (blk_drew B9.out)
              replace RE := Aside0.mk (Kd.R_drew RE.out)
              replace HB := Aside0.mk (below_drew1 HB.out)
              generalize World.drew _ = W1 at *
              refine pureZ (some 53) (bz 17 1) (i := 0) (hc := (by kernel_rfl)) (h := ?_)
              refine pureZ (some 54) (bz 17 3) (i := 1) (hc := (by kernel_rfl)) (h := ?_)
              refine pureZ (some 55) (bz 17 7) (i := 2) (hc := (by kernel_rfl)) (h := ?_)
              refine pureZ (some 56) (bz 17 15) (i := 3) (hc := (by kernel_rfl)) (h := ?_)
              refine pureZ (some 57) (bz 17 31) (i := 4) (hc := (by kernel_rfl)) (h := ?_)
              refine pureZ (some 58) (bz 17 63) (i := 5) (hc := (by kernel_rfl)) (h := ?_)
              refine takeZ (some 59) (bz 17 127) (i := 6) (hc := (by kernel_rfl)) (h := ?_)
              refine pureZ (some 60) (bz 17 255) (i := 7) (hc := (by kernel_rfl)) (h := ?_)
              refine pureZ (some 61) (bz 17 511) (i := 8) (hc := (by kernel_rfl)) (h := ?_)
              refine pureZ (some 62) (bz 17 1023) (i := 9) (hc := (by kernel_rfl)) (h := ?_)
              refine takeZ (some 63) (bz 17 2047) (i := 10) (hc := (by kernel_rfl)) (h := ?_)
              refine pureZ (some 64) (bz 17 4095) (i := 11) (hc := (by kernel_rfl)) (h := ?_)
              refine pureZ (some 65) (bz 17 8191) (i := 12) (hc := (by kernel_rfl)) (h := ?_)
              refine pureZ (some 66) (bz 17 16383) (i := 13) (hc := (by kernel_rfl)) (h := ?_)
              refine pureZ (some 67) (bz 17 32767) (i := 14) (hc := (by kernel_rfl)) (h := ?_)
              refine pureZ (some 68) (bz 17 65535) (i := 15) (hc := (by kernel_rfl)) (h := ?_)
              refine last_ (i := 16) (N := none) (bz 17 131071) rfl rfl (by kernel_rfl) (by decide) (fun K hK => ?_)
              refine skip_ (w1 := ?_) (by rfl) rfl ?_ ?_
              rotate_left
              · go_simp
                rfl
              refine hK.out _ _ ?_
              clear hK K
              refine done_ (by kernel_rfl) ?_
              clear q1 q2 q3 q4 cp fp c1
              go_wp2_with (first | fail)
              go_roundw
              case measure => have := UN.out; simp [RowKit.intOf]; omega
              case rel => exact ⟨(un : Int) + 1, _, by first | rfl | go_num, by omega, by have := UN.out; omega, Aside0.mk (D3.out.setP (3 + sn * 4 + un) (by have := SN.out; have := UN.out; omega) _), Aside0.mk (blk_far BP.out (ne_types BP.out B9.out) _), Aside0.mk (blk_far B8.out N9.out _), Aside0.mk (blk_set B9.out _ _), Aside0.mk (Kd.R_set RE.out B9.out (by decide) _ _), Aside0.mk (below_set HB.out G9.out)⟩
            · go_wp2_with (first | fail)
              exact ⟨⟨s + 1, cs, rfl, by omega, by omega, D3, BP, B8, B9, RE, HB⟩, by simp [RowKit.intOf]; omega⟩
        · obtain rfl : s = sk := by omega
          clear hs s0 s1
          go_wp2_with (first | fail)
          have NP := ne_types BP.out B9.out
          clear c0
          refine start_ (n := 20) (S := fun w' => w'.cell? ⟨g1, 6, none⟩ = some (.int .u8 a6) ∧ w'.cell? ⟨g1, 7, none⟩ = some (.int .u8 a7) ∧ w'.cell? ⟨g1, 8, none⟩ = some (.int .u8 a8)) (ds := []) (bz 20 0) (by kernel_rfl) rfl (by kernel_rfl) (sp13 (blk_drew BP.out)) (fun hHeld => ?_)
          replace BP := Aside0.mk (blk_drew BP.out)
          replace B8 := Aside0.mk (blk_drew B8.out)
          replace B9 := Aside0.mk (blk_drew B9.out)
          replace RE := Aside0.mk (Kd.R_drew RE.out)
          replace HB := Aside0.mk (below_drew1 HB.out)
          generalize World.drew _ = W1 at *
          refine pureZ (some 69) (bz 20 1) (i := 0) (hc := (by kernel_rfl)) (h := ?_)
          refine takeZ (some 70) (bz 20 3) (i := 1) (hc := (by kernel_rfl)) (h := ?_)
          refine pureZ (some 71) (bz 20 7) (i := 2) (hc := (by kernel_rfl)) (h := ?_)
          refine pureZ (some 72) (bz 20 15) (i := 3) (hc := (by kernel_rfl)) (h := ?_)
          refine pureZ (some 73) (bz 20 31) (i := 4) (hc := (by kernel_rfl)) (h := ?_)
          refine pureZ (some 74) (bz 20 63) (i := 5) (hc := (by kernel_rfl)) (h := ?_)
          refine takeZ (some 75) (bz 20 127) (i := 6) (hc := (by kernel_rfl)) (h := ?_)
          refine pureZ (some 76) (bz 20 255) (i := 7) (hc := (by kernel_rfl)) (h := ?_)
          refine pureZ (some 77) (bz 20 511) (i := 8) (hc := (by kernel_rfl)) (h := ?_)
          refine pureZ (some 78) (bz 20 1023) (i := 9) (hc := (by kernel_rfl)) (h := ?_)
          refine pureZ (some 79) (bz 20 2047) (i := 10) (hc := (by kernel_rfl)) (h := ?_)
          refine takeZ (some 80) (bz 20 4095) (i := 11) (hc := (by kernel_rfl)) (h := ?_)
          refine pureZ (some 81) (bz 20 8191) (i := 12) (hc := (by kernel_rfl)) (h := ?_)
          refine pureZ (some 82) (bz 20 16383) (i := 13) (hc := (by kernel_rfl)) (h := ?_)
          refine pureZ (some 83) (bz 20 32767) (i := 14) (hc := (by kernel_rfl)) (h := ?_)
          have k19 := cf_at B9.out 19 D3.out.c19
          have k20 := fun u => cf_at (blk_set B9.out 19 u) 20 (set_ne (by decide) u D3.out.c20)
          have k21 := fun u v => cf_at (blk_set (blk_set B9.out 19 u) 20 v) 21 (set_ne (by decide) v (set_ne (by decide) u D3.out.c21))
          have f19 := blk_frozen B9.out 19
          have f20 := fun u => blk_frozen (blk_set B9.out 19 u) 20
          have f21 := fun u v => blk_frozen (blk_set (blk_set B9.out 19 u) 20 v) 21
          refine one_ (i := 15) (N := none) (bz 20 65535) rfl rfl (by kernel_rfl) (by decide) (fun K hK => ?_)
          refine skip_ (w1 := ?_) (by rfl) rfl ?_ ?_
          rotate_left
          · go_simp
            rfl
          refine hK.out _ _ (sp13 (blk_far BP.out NP _)) (fun hHeld => ?_)
          clear hK K
          refine pureZ (some 84) (bz 20 131071) (i := 16) (hc := (by kernel_rfl)) (h := ?_)
          refine one_ (i := 17) (N := none) (bz 20 262143) rfl rfl (by kernel_rfl) (by decide) (fun K hK => ?_)
          refine skip_ (w1 := ?_) (by rfl) rfl ?_ ?_
          rotate_left
          · go_simp
            rfl
          refine hK.out _ _ (sp13 (blk_far (blk_far BP.out NP _) NP _)) (fun hHeld => ?_)
          clear hK K
          refine pureZ (some 85) (bz 20 524287) (i := 18) (hc := (by kernel_rfl)) (h := ?_)
          refine one_ (i := 19) (N := none) (bz 20 1048575) rfl rfl (by kernel_rfl) (by decide) (fun K hK => ?_)
          refine skip_ (w1 := ?_) (by rfl) rfl ?_ ?_
          rotate_left
          · go_simp
            rfl
          refine hK.out _ _ (sp13 (blk_far (blk_far (blk_far BP.out NP _) NP _) NP _)) (fun hHeld => ?_)
          clear hK K
          refine done_ (by kernel_rfl) ?_
          clear k19 k20 k21 f19 f20 f21
          have e19 : wrap64 (1 + wrap64 (a6.tmod 8)) = 1 + a6 % 8 := by simp only [wrap64]; first | omega | (rw [Int.tmod_eq_emod_of_nonneg (by omega)]; omega)
          have e20 : wrap64 (1 + wrap64 (a7.tmod 32)) = 1 + a7 % 32 := by simp only [wrap64]; first | omega | (rw [Int.tmod_eq_emod_of_nonneg (by omega)]; omega)
          have e21 : wrap64 (a8.tmod 5) = a8 % 5 := by simp only [wrap64]; first | omega | (rw [Int.tmod_eq_emod_of_nonneg (by omega)]; omega)
          rw [e19, e20, e21]
          clear e19 e20 e21
          replace D3 := Aside0.mk (((D3.out.set19 (1 + a6 % 8)).set20 (1 + a7 % 32)).set21 (a8 % 5))
          replace BP := Aside0.mk (blk_far (p := ⟨g9, 21, none⟩) (blk_far (p := ⟨g9, 20, none⟩) (blk_far (p := ⟨g9, 19, none⟩) BP.out NP (.int .i64 (1 + a6 % 8))) NP (.int .i64 (1 + a7 % 32))) NP (.int .i64 (a8 % 5)))
          replace B8 := Aside0.mk (blk_far (p := ⟨g9, 21, none⟩) (blk_far (p := ⟨g9, 20, none⟩) (blk_far (p := ⟨g9, 19, none⟩) B8.out N9.out (.int .i64 (1 + a6 % 8))) N9.out (.int .i64 (1 + a7 % 32))) N9.out (.int .i64 (a8 % 5)))
          replace RE := Aside0.mk (Kd.R_set (Kd.R_set (Kd.R_set RE.out B9.out (by decide) 19 (.int .i64 (1 + a6 % 8))) (blk_set B9.out 19 (.int .i64 (1 + a6 % 8))) (by decide) 20 (.int .i64 (1 + a7 % 32))) (blk_set (blk_set B9.out 19 (.int .i64 (1 + a6 % 8))) 20 (.int .i64 (1 + a7 % 32))) (by decide) 21 (.int .i64 (a8 % 5)))
          replace B9 := Aside0.mk (blk_set (blk_set (blk_set B9.out 19 (.int .i64 (1 + a6 % 8))) 20 (.int .i64 (1 + a7 % 32))) 21 (.int .i64 (a8 % 5)))
          replace HB := Aside0.mk (below_set (v := (.int .i64 (a8 % 5))) (j := 21) (below_set (v := (.int .i64 (1 + a7 % 32))) (j := 20) (below_set (v := (.int .i64 (1 + a6 % 8))) (j := 19) HB.out G9.out) G9.out) G9.out)
          generalize World.setCell _ ⟨g9, 21, none⟩ (.int .i64 (a8 % 5)) = W2 at *
          go_wp2_with (first | fail)
          refine start_ (n := 13) (S := fun w' => w'.cell? ⟨g1, 9, none⟩ = some (.int .u8 a9) ∧ w'.cell? ⟨g1, 11, none⟩ = some (.int .u8 a11)) (ds := []) (bz 13 0) (by kernel_rfl) rfl (by kernel_rfl) (sp14 (blk_drew BP.out)) (fun hHeld => ?_)
          replace BP := Aside0.mk (blk_drew BP.out)
          replace B8 := Aside0.mk (blk_drew B8.out)
          replace B9 := Aside0.mk (blk_drew B9.out)
          replace RE := Aside0.mk (Kd.R_drew RE.out)
          replace HB := Aside0.mk (below_drew1 HB.out)
          generalize World.drew _ = W1 at *
          refine pureZ (some 86) (bz 13 1) (i := 0) (hc := (by kernel_rfl)) (h := ?_)
          refine takeZ (some 87) (bz 13 3) (i := 1) (hc := (by kernel_rfl)) (h := ?_)
          refine pureZ (some 88) (bz 13 7) (i := 2) (hc := (by kernel_rfl)) (h := ?_)
          refine pureZ (some 89) (bz 13 15) (i := 3) (hc := (by kernel_rfl)) (h := ?_)
          refine pureZ (some 90) (bz 13 31) (i := 4) (hc := (by kernel_rfl)) (h := ?_)
          refine takeZ (some 91) (bz 13 63) (i := 5) (hc := (by kernel_rfl)) (h := ?_)
          refine pureZ (some 92) (bz 13 127) (i := 6) (hc := (by kernel_rfl)) (h := ?_)
          refine pureZ (some 93) (bz 13 255) (i := 7) (hc := (by kernel_rfl)) (h := ?_)
          refine pureZ (some 94) (bz 13 511) (i := 8) (hc := (by kernel_rfl)) (h := ?_)
          refine pureZ (some 95) (bz 13 1023) (i := 9) (hc := (by kernel_rfl)) (h := ?_)
          have k22 := cf_at B9.out 22 D3.out.c22
          have k24 := fun u => cf_at (blk_set B9.out 22 u) 24 (set_ne (by decide) u D3.out.c24)
          have f22 := blk_frozen B9.out 22
          have f24 := fun u => blk_frozen (blk_set B9.out 22 u) 24
          refine one_ (i := 10) (N := none) (bz 13 2047) rfl rfl (by kernel_rfl) (by decide) (fun K hK => ?_)
          refine skip_ (w1 := ?_) (by rfl) rfl ?_ ?_
          rotate_left
          · go_simp
            rfl
          refine hK.out _ _ (sp14 (blk_far BP.out NP _)) (fun hHeld => ?_)
          clear hK K
          refine pureZ (some 96) (bz 13 4095) (i := 11) (hc := (by kernel_rfl)) (h := ?_)
          refine one_ (i := 12) (N := none) (bz 13 8191) rfl rfl (by kernel_rfl) (by decide) (fun K hK => ?_)
          refine skip_ (w1 := ?_) (by rfl) rfl ?_ ?_
          rotate_left
          · go_simp
            rfl
          refine hK.out _ _ (sp14 (blk_far (blk_far BP.out NP _) NP _)) (fun hHeld => ?_)
          clear hK K
          refine done_ (by kernel_rfl) ?_
          clear k22 k24 f22 f24
          have e22 : wrap64 (64 + wrap64 a9) = 64 + a9 := by simp only [wrap64]; first | omega | (rw [Int.tmod_eq_emod_of_nonneg (by omega)]; omega)
          have e24 : wrap64 (64 + wrap64 (2 * wrap64 a11)) = 64 + 2 * a11 := by simp only [wrap64]; first | omega | (rw [Int.tmod_eq_emod_of_nonneg (by omega)]; omega)
          rw [e22, e24]
          clear e22 e24
          replace D3 := Aside0.mk ((D3.out.set22 (64 + a9)).set24 (64 + 2 * a11))
          replace BP := Aside0.mk (blk_far (p := ⟨g9, 24, none⟩) (blk_far (p := ⟨g9, 22, none⟩) BP.out NP (.int .i64 (64 + a9))) NP (.int .i64 (64 + 2 * a11)))
          replace B8 := Aside0.mk (blk_far (p := ⟨g9, 24, none⟩) (blk_far (p := ⟨g9, 22, none⟩) B8.out N9.out (.int .i64 (64 + a9))) N9.out (.int .i64 (64 + 2 * a11)))
          replace RE := Aside0.mk (Kd.R_set (Kd.R_set RE.out B9.out (by decide) 22 (.int .i64 (64 + a9))) (blk_set B9.out 22 (.int .i64 (64 + a9))) (by decide) 24 (.int .i64 (64 + 2 * a11)))
          replace B9 := Aside0.mk (blk_set (blk_set B9.out 22 (.int .i64 (64 + a9))) 24 (.int .i64 (64 + 2 * a11)))
          replace HB := Aside0.mk (below_set (v := (.int .i64 (64 + 2 * a11))) (j := 24) (below_set (v := (.int .i64 (64 + a9))) (j := 22) HB.out G9.out) G9.out)
          generalize World.setCell _ ⟨g9, 24, none⟩ (.int .i64 (64 + 2 * a11)) = W3 at *
          have k22 := cf_at B9.out 22 D3.out.c22
          have k23 := cf_at B9.out 23 D3.out.c23
          have f23 := blk_frozen B9.out 23
          have p10 := (blk_cell BP.out 10).trans rfl
          have D5 := Aside0.mk (D3.out.set23 (64 + a9 + 1 + a10))
          go_wp2_with (first | (refine load_cfg (g := g9) (by rfl) (by rfl) (by rfl) D5.out.sz (blk_set B9.out 23 _) ?_) | fail)
          replace B8 := Aside0.mk (blk_far (p := ⟨g9, 23, none⟩) B8.out N9.out (.int .i64 (64 + a9 + 1 + a10)))
          replace RE := Aside0.mk (Kd.R_set RE.out B9.out (by decide) 23 (.int .i64 (64 + a9 + 1 + a10)))
          replace HB := Aside0.mk (below_set (v := .int .i64 (64 + a9 + 1 + a10)) (j := 23) HB.out G9.out)
          replace B9 := Aside0.mk (blk_set B9.out 23 (.int .i64 (64 + a9 + 1 + a10)))
          clear D3 k22 k23 f23 p10 BP
          generalize World.setCell _ ⟨g9, 23, none⟩ (Value.int IntKind.i64 (64 + a9 + 1 + a10)) = W4 at *
          generalize Array.setIfInBounds _ 23 (Value.int IntKind.i64 (64 + a9 + 1 + a10)) = cs5 at *
          refine (need_calls cs5 D5.out W4 h1 h2 (by omega)).mono ?_
          rintro e w9 ⟨rfl, hb⟩
          replace B9 := Aside0.mk (blk_below B9.out hb)
          replace B8 := Aside0.mk (blk_below B8.out hb)
          replace RE := Aside0.mk (Kd.R_below RE.out hb)
          replace HB := Aside0.mk (below_step HB.out hb)
          have c25 := cf_at B9.out 25 D5.out.c25
          have f25 := blk_frozen B9.out 25
          clear hb
          obtain ⟨nd, hnd⟩ : ∃ nd, nd = needN s wa (1 + a6 % 8) (1 + a7 % 32) (64 + 2 * a11) := ⟨_, rfl⟩
          rw [← hnd]
          have HND := Aside0.mk hnd
          clear hnd
          have DN := Aside0.mk (D5.out.set25 nd)
          go_wp2_with (first | (refine load_cfg (cs := cs5.setIfInBounds 25 (.int .i64 nd)) (g := g9) (by rfl) (by rfl) (by rfl) DN.out.sz (blk_set B9.out 25 _) ?_) | (refine store_cfg (w0 := w) (g := g8) (cells := cs5.setIfInBounds 25 (.int .i64 nd)) (by rfl) (by rfl) (by rfl) (by rfl) (blk_far B8.out N9.out _) (by rfl) DN.out.sz DN.out.one (below_set HB.out G9.out) G8.out ?_; intro w10 B8_ hgr hb1; have RF := Aside0.mk (Kd.R_mono (Kd.R_grown (Kd.R_types (Kd.R_set RE.out B9.out (by decide) 25 _) (blk_far B8.out N9.out _) (by decide)) hgr (fun k hk e => hk.2 (by injection e))) (fun _ _ => trivial) : Kd.R k95 95 w10 w.heap.size (fun _ => True) _ _); have BE := Aside0.mk B8_; have HE := Aside0.mk hb1; clear B8_ hgr hb1) | fail)
          refine bodyPost_ret (v := .agg (cs5.setIfInBounds 25 (.int .i64 nd))) (results_cell_row (g := g8) (t := 37) (fr := (0, 0)) rfl _ _ _ _ rfl BE.out Tryz.underlying37 rfl (by rw [DN.out.sz]; kernel_rfl)) rfl ?_
          have dn := DN.out
          rw [HND.out] at dn
          exact ⟨_, _, c, by rw [HND.out], dn, RF.out, HE.out⟩

end Go.Proofs.YteeclengpnjlgaaGreat.I
