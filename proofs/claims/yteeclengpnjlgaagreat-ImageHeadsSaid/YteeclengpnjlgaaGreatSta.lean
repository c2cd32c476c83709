import Derived.Test.YteeclengpnjlgaaGreatCfg
import Derived.Test.YteeclengpnjlgaaGreatEmp
import Derived.Carry
/- Books without records: contracts. -/
namespace Go.Proofs.YteeclengpnjlgaaGreat.I
open Go.RowKit Go.Proofs.YteeclengpnjlgaaGreatW.PrintWords Go.Proofs.YteeclengpnjlgaaGreatW.PrintLast Go.Proofs.YteeclengpnjlgaaGreatW.PrintMore
set_option linter.unusedVariables false
set_option linter.unusedSimpArgs false
set_option maxRecDepth 100000 in
theorem jnew_calls (w : World) : Calls Tryz.prog 70 #[.slice none 0 0] w fun e w' => ∃ g h, w.heap.size ≤ g ∧ w.heap.size ≤ h ∧ e = .returned (.pointer (some ⟨g, 0, none⟩)) ∧ w'.heap[g]? = some (.cells #[.map (some h)] 184 (0, 0)) ∧ w'.heap[h]? = some (.map #[] 0) ∧ Below w.heap.size w w' := by
  have hmm := @run_makeMap Tryz.prog
  go_enter Tryz.func70, Tryz.ntmps70
  go_wp2_with (first | fail)
  refine wp_loop_rounds 1 ?_
  rw [rounds_succ]
  go_wp2_with (first | fail)
  go_ret
  refine ⟨w.heap.size + 1, w.heap.size, by omega, by omega, by simp, ?_, ?_, ?_⟩
  · have := heap_alloc_new (w.alloc (.map #[] 0)) (.cells #[.map (some w.heap.size)] 184)
    rwa [size_al] at this
  · exact blk_alloc (heap_alloc_new w _) _
  · exact below_alloc (below_alloc (Below.refl w.heap.size w) _) _
/-- The cells of books without records: the configuration's cs; the values at the start st. -/
def bkA (cs : Array Value) (st : Value) (jg mh : Nat) : Array Value := #[.int .u32 1, .int .u32 1] ++ cs ++ #[st, .pointer (some ⟨jg, 0, none⟩), .map (some mh), .slice none 0 0, .slice none 0 0]
theorem bkA_built {cs : Array Value} (h : cs.size = 26) (jg mh : Nat) : Tryz.prog.built 117 [(0, .agg #[.int .u32 1, .int .u32 1]), (1, .agg cs), (3, .pointer (some ⟨jg, 0, none⟩)), (4, .map (some mh))] = some (bkA cs (.slice none 0 0) jg mh) := by
  obtain ⟨l⟩ := cs
  rcases l with _ | ⟨c0, l⟩
  · simp at h
  rcases l with _ | ⟨c1, l⟩
  · simp at h
  rcases l with _ | ⟨c2, l⟩
  · simp at h
  rcases l with _ | ⟨c3, l⟩
  · simp at h
  rcases l with _ | ⟨c4, l⟩
  · simp at h
  rcases l with _ | ⟨c5, l⟩
  · simp at h
  rcases l with _ | ⟨c6, l⟩
  · simp at h
  rcases l with _ | ⟨c7, l⟩
  · simp at h
  rcases l with _ | ⟨c8, l⟩
  · simp at h
  rcases l with _ | ⟨c9, l⟩
  · simp at h
  rcases l with _ | ⟨c10, l⟩
  · simp at h
  rcases l with _ | ⟨c11, l⟩
  · simp at h
  rcases l with _ | ⟨c12, l⟩
  · simp at h
  rcases l with _ | ⟨c13, l⟩
  · simp at h
  rcases l with _ | ⟨c14, l⟩
  · simp at h
  rcases l with _ | ⟨c15, l⟩
  · simp at h
  rcases l with _ | ⟨c16, l⟩
  · simp at h
  rcases l with _ | ⟨c17, l⟩
  · simp at h
  rcases l with _ | ⟨c18, l⟩
  · simp at h
  rcases l with _ | ⟨c19, l⟩
  · simp at h
  rcases l with _ | ⟨c20, l⟩
  · simp at h
  rcases l with _ | ⟨c21, l⟩
  · simp at h
  rcases l with _ | ⟨c22, l⟩
  · simp at h
  rcases l with _ | ⟨c23, l⟩
  · simp at h
  rcases l with _ | ⟨c24, l⟩
  · simp at h
  rcases l with _ | ⟨c25, l⟩
  · simp at h
  rcases l with _ | ⟨c26, l⟩
  · kernel_rfl
  · simp at h
theorem bkA_size {cs : Array Value} (h : cs.size = 26) (st : Value) (jg mh : Nat) : (bkA cs st jg mh).size = 33 := by simp [bkA, h]
theorem bkA_one {cs : Array Value} (h : cs.all (·.oneCell') = true) {st : Value} (hs : st.oneCell' = true) (jg mh : Nat) : (bkA cs st jg mh).all (·.oneCell') = true := by
  simp only [bkA, Array.all_append, h, Bool.true_and, Bool.and_true]
  cases st <;> first | (simp [Value.oneCell']; done) | (simp [Value.oneCell'] at hs)
theorem bkA_hi {cs : Array Value} (h : cs.size = 26) (st : Value) (jg mh : Nat) (i : Nat) : (bkA cs st jg mh)[28 + i]? = #[st, .pointer (some ⟨jg, 0, none⟩), .map (some mh), .slice none 0 0, .slice none 0 0][i]? := by
  unfold bkA
  rw [Array.getElem?_append_right (by simp [h])]
  congr 1
  simp [h]
theorem bkA_lo {cs : Array Value} (h : cs.size = 26) (st : Value) (jg mh : Nat) (i : Nat) (hi : i < 2) : (bkA cs st jg mh)[i]? = some (.int .u32 1) := by
  unfold bkA
  rw [Array.getElem?_append_left (by simp [h]; omega), Array.getElem?_append_left (by simpa using hi)]
  rcases i with _ | _ | i
  · rfl
  · rfl
  · omega
theorem bkA_cs {cs : Array Value} (h : cs.size = 26) (st : Value) (jg mh : Nat) (i : Nat) (hi : i < 26) : (bkA cs st jg mh)[2 + i]? = cs[i]? := by
  unfold bkA
  rw [Array.getElem?_append_left (by simp [h]; omega), Array.getElem?_append_right (by simp)]
  congr 1
  simp
theorem bkA_setc {cs : Array Value} (h : cs.size = 26) (st : Value) (jg mh : Nat) (i : Nat) (hi : i < 26) (v : Value) : (bkA cs st jg mh).setIfInBounds (2 + i) v = bkA (cs.setIfInBounds i v) st jg mh := by
  unfold bkA
  rw [Array.setIfInBounds_append_left (by simp [h]; omega), Array.setIfInBounds_append_right (by simp)]
  simp
theorem bkA_sets {cs : Array Value} (h : cs.size = 26) (st : Value) (jg mh : Nat) (v : Value) : (bkA cs st jg mh).setIfInBounds 28 v = bkA cs v jg mh := by
  unfold bkA
  rw [Array.setIfInBounds_append_right (by simp [h])]
  simp [h]
theorem run_built {o : Oper} {a : Act} {t : TypeId} {ps : Array (Nat × Operand)} {cells : Array Value} (ho : o.op = .build t ps) (w : World) {L : List (Nat × Value)} (hp : (ps.map fun (i, x) => (i, a.eval x)).toList = L) (h : Tryz.prog.built t L = some cells) : (execOp a.eval o).run Tryz.prog w = .ok (.value (.agg cells)) w := by
  unfold execOp
  subst hp
  simp only [ho, Sem.run_bind, run_build w t _ cells h, Result.andThen_ok]
  rfl
theorem run_made {o : Oper} {a : Act} {t : TypeId} (ho : o.op = .makeMap t none) (w : World) : (execOp a.eval o).run Tryz.prog w = .ok (.value (.map (some w.heap.size))) (w.alloc (.map #[] 0)) := by
  unfold execOp
  simp only [ho, Option.map_none, Sem.run_bind, run_makeMap, Result.andThen_ok]
  rfl
theorem map_ne {α : Type} {d : Kd α} {e : Nat} {w : World} {base : Nat} {ok : Nat → Prop} {v : Value} {xs : List α} (h : d.R e w base ok v xs) {k m : Nat} (hk : w.heap[k]? = some (.map #[] m)) : some k ≠ v.ownBlock := by
  intro he
  obtain ⟨cells, hc⟩ := Kd.R_typed h k he.symm
  rw [hk] at hc
  injection hc with hc
  cases hc
theorem obj_gro {w w1 : World} {k : Nat} {o : Obj} {row : Option Nat} (h : w.heap[k]? = some o) (hg : w.grownBy w1 row) (hne : some k ≠ row) : w1.heap[k]? = some o := (hg.block k (blk_lt h) hne).trans h
theorem take_map {α β : Type} (f : α → β) {l : List α} {i : Nat} (h : i < l.length) : (l.take i).map f ++ [f l[i]] = (l.take (i + 1)).map f := by rw [List.take_succ_eq_append_getElem h, List.map_append]; rfl
theorem store_decl {ops : Array Oper} {rest : List Oper} {o : Oper} {a : Act} {W w0 : World} {Q : Exit → Act → World → Prop} {cells old : Array Value} {g : Nat} {x y : Operand} (hgd : o.guard = none) (ho : o.op = .store 95 x y)
    (hx : a.eval x = .pointer (some ⟨g, 0, none⟩)) (hy : a.eval y = .agg cells) (hg : W.heap[g]? = some (.cells old 95 (0, 0))) (hold : old.size = 6) (hs : cells.size = 6) (h1 : cells.all (·.oneCell') = true) (HB : Below w0.heap.size w0 W) (hge : w0.heap.size ≤ g)
    (h : ∀ w1, w1.heap[g]? = some (.cells cells 95 (0, 0)) → Below w0.heap.size w0 w1 → wpList Tryz.prog ops Q rest (a.put o.dst undef) w1) : wpList Tryz.prog ops Q (o :: rest) a W :=
  wpList_store_row hgd _ x y ho g cells hx hy _ old hg (by rw [hs]; kernel_rfl) (by rw [hold, hs]) h1
    (h _ (setRow_heap W g old cells _ _ hg) (below_setRow HB hge cells))
theorem at_getD {l : List SD} {i : Nat} (h : i < l.length) : rd_T95 l (i : Int) = l[i] := by
  unfold rd_T95
  rw [Int.toNat_natCast, List.getD_eq_getElem?_getD, List.getElem?_eq_getElem h]
  rfl
theorem obj_far {w : World} {k : Nat} {o : Obj} (h : w.heap[k]? = some o) {p : Addr} (hp : k ≠ p.block) (u : Value) : (w.setCell p u).heap[k]? = some o := (Below.heap_setCell w p u k hp).trans h
theorem ne_map {w : World} {g k : Nat} {m : Nat} {cs : Array Value} {t : TypeId} (h : w.heap[k]? = some (.map #[] m)) (h' : w.heap[g]? = some (.cells cs t (0, 0))) : k ≠ g := by
  rintro rfl
  rw [h] at h'
  injection h' with h'
  cases h'
set_option maxHeartbeats 8000000 in
set_option maxRecDepth 100000 in
theorem new_calls (cs : Array Value) {sk wa sa od re sg cp bl bs : Int} {A : Option Addr} {c : Nat} (l : List SD) (hc : Cf cs sk wa sa od re sg cp bl bs A l.length c) (w : World) (hl : Kd.C k95 w A l.length l) (hlc : l.length ≤ c) (hl24 : l.length ≤ 24) :
    Calls Tryz.prog 28 #[.agg cs] w fun e w' => ∃ (g : Nat), e = .returned (.pointer (some ⟨g, 0, none⟩)) ∧ ∃ (jg jm mh : Nat) (st : Value) (cs' : Array Value) (A' : Option Addr) (c' : Nat), w'.heap[g]? = some (.cells (bkA cs' st jg mh) 117 (0, 0)) ∧ Cf cs' sk wa sa od re sg cp bl bs A' l.length c' ∧
      Kd.R k95 95 w' w.heap.size (fun _ => True) (.slice A' l.length c') l ∧ Kd.R (Kd.int .i64) 2 w' w.heap.size (fun _ => True) st (l.map (·.f2)) ∧ w'.heap[jg]? = some (.cells #[.map (some jm)] 184 (0, 0)) ∧ w'.heap[jm]? = some (.map #[] 0) ∧ w'.heap[mh]? = some (.map #[] 0) ∧ Below w.heap.size w w' := by
  have BX := Aside0.mk (heap_alloc_new w (.cells cs 37))
  have HC := Aside0.mk hc
  have HL := Aside0.mk hl
  clear hc hl
  go_enter Tryz.func28, Tryz.ntmps28
  go_wp2_with (first | fail)
  replace BX := Aside0.mk (show (w.alloc (.cells cs 37)).drew.heap[w.heap.size]? = some (.cells cs 37 (0, 0)) from blk_drew BX.out)
  have HB := Aside0.mk (below_drew1 (below_alloc (Below.refl w.heap.size w) (.cells cs 37)))
  refine start_ (n := 7) (S := fun w' => w'.heap[w.heap.size]? = some (.cells cs 37 (0, 0))) (ds := []) (bz 7 0) (by kernel_rfl) rfl (by kernel_rfl) BX.out (fun hHeld => ?_)
  generalize (w.alloc (.cells cs 37)).drew = W1 at *
  refine pureZ (some 6) (bz 7 1) (i := 0) (hc := (by kernel_rfl)) (h := ?_)
  refine takeZ (some 7) (bz 7 3) (i := 1) (hc := (by kernel_rfl)) (v := .agg cs) (hy := Or.inl ⟨by rfl, fun w' hs => run_load_cfg rfl w' _ cs rfl HC.out.sz hs⟩) (h := ?_)
  refine join_ (σ := Nat × Nat × Nat) 3 (bz 7 15) (fun s_ => [(8, .pointer (some ⟨s_.1, 0, none⟩)), (9, .map (some s_.2.2))]) (fun s_ w' => (w'.heap[w.heap.size]? = some (.cells cs 37 (0, 0))) ∧ Aside0 (w.heap.size ≤ s_.1) ∧ Aside0 (w'.heap[s_.1]? = some (.cells #[.map (some s_.2.1)] 184 (0, 0))) ∧ Aside0 (w'.heap[s_.2.1]? = some (.map #[] 0)) ∧ Aside0 (w'.heap[s_.2.2]? = some (.map #[] 0)) ∧ Aside0 (Below w.heap.size w w')) ?_ ?_
  rotate_left
  · intro hCont
    refine two_ (i := 2) (j := 3) (Ni := some 8) (Nj := some 9) (bz 7 7) (bz 7 11) rfl rfl rfl rfl (by kernel_rfl) (by decide) (by decide) (fun K hK => ?_) (fun K hK => ?_)
    · skip
      refine goes_ Tryz.func70 (by kernel_rfl) rfl #[.slice none 0 0] (by rfl) rfl rfl zA ?_
      refine (jnew_calls _).mono ?_
      rintro e w2 ⟨jg, jm, j1, j2, rfl, hj, hm, hb⟩
      refine ⟨_, rfl, ?_⟩
      replace BX := Aside0.mk (blk_below BX.out hb)
      have GJ := Aside0.mk (Nat.le_trans (HB.out.size) j1)
      replace HB := Aside0.mk (below_step HB.out hb)
      clear hb j1 j2
      refine hK.out _ _ BX.out (fun hHeld => ?_)
      clear hK K
      refine norm_ (a' := ?_) ?_ ?_
      rotate_left
      · show Act.put _ (some 8) _ = _
        simp only [Act.put, List.setIfInBounds_toArray, List.set_cons_zero, List.set_cons_succ, i64_w, i32_w]
        rfl
      refine one_ (i := 3) (N := some 9) (bz 7 15) rfl rfl (by kernel_rfl) (by decide) (fun K hK => ?_)
      refine value_ (w1 := w2.alloc (.map #[] 0)) (v := .map (some w2.heap.size)) (by rfl) rfl (run_made (by rfl) _) ?_
      replace BX := Aside0.mk (blk_alloc BX.out (.map #[] 0))
      refine hK.out _ _ BX.out (fun hHeld => ?_)
      clear hK K
      refine norm_ (a' := ?_) ?_ ?_
      rotate_left
      · show Act.put _ (some 9) _ = _
        simp only [Act.put, List.setIfInBounds_toArray, List.set_cons_zero, List.set_cons_succ, i64_w, i32_w]
        rfl
      exact norm_ (by simp only [putAll, Act.put, List.setIfInBounds_toArray, List.set_cons_zero, List.set_cons_succ]) (hCont (jg, jm, w2.heap.size) _ ⟨hHeld, GJ, Aside0.mk (blk_alloc hj _), Aside0.mk (blk_alloc hm _), Aside0.mk (heap_alloc_new _ _), Aside0.mk (below_alloc HB.out _)⟩)
    · skip
      refine value_ (w1 := W1.alloc (.map #[] 0)) (v := .map (some W1.heap.size)) (by rfl) rfl (run_made (by rfl) _) ?_
      replace BX := Aside0.mk (blk_alloc BX.out (.map #[] 0))
      have MH := Aside0.mk (heap_alloc_new W1 (.map #[] 0))
      replace HB := Aside0.mk (below_alloc HB.out (.map #[] 0))
      refine hK.out _ _ BX.out (fun hHeld => ?_)
      clear hK K
      refine norm_ (a' := ?_) ?_ ?_
      rotate_left
      · show Act.put _ (some 9) _ = _
        simp only [Act.put, List.setIfInBounds_toArray, List.set_cons_zero, List.set_cons_succ, i64_w, i32_w]
        rfl
      refine one_ (i := 2) (N := some 8) (bz 7 15) rfl rfl (by kernel_rfl) (by decide) (fun K hK => ?_)
      refine goes_ Tryz.func70 (by kernel_rfl) rfl #[.slice none 0 0] (by rfl) rfl rfl zA ?_
      refine (jnew_calls _).mono ?_
      rintro e w2 ⟨jg, jm, j1, j2, rfl, hj, hm, hb⟩
      refine ⟨_, rfl, ?_⟩
      replace BX := Aside0.mk (blk_below BX.out hb)
      have GJ := Aside0.mk (Nat.le_trans (HB.out.size) j1)
      replace HB := Aside0.mk (below_step HB.out hb)
      replace MH := Aside0.mk (blk_below MH.out hb)
      clear hb j1 j2
      refine hK.out _ _ BX.out (fun hHeld => ?_)
      clear hK K
      refine norm_ (a' := ?_) ?_ ?_
      rotate_left
      · show Act.put _ (some 8) _ = _
        simp only [Act.put, List.setIfInBounds_toArray, List.set_cons_zero, List.set_cons_succ, i64_w, i32_w]
        rfl
      exact norm_ (by simp only [putAll, Act.put, List.setIfInBounds_toArray, List.set_cons_zero, List.set_cons_succ]) (hCont (jg, jm, W1.heap.size) _ ⟨hHeld, GJ, Aside0.mk hj, Aside0.mk hm, MH, HB⟩)
  clear BX HB hHeld
  rintro ⟨jg, jm, mh⟩ w3 ⟨hHeld, GJ, JB, JM, MH, HB⟩
  have BX := Aside0.mk hHeld
  dsimp only at GJ JB JM MH HB
  refine norm_ (a' := ?_) ?_ ?_
  rotate_left
  · simp only [putAll, Act.put, List.setIfInBounds_toArray, List.set_cons_zero, List.set_cons_succ, i64_w, i32_w]
    rfl
  refine pureZ (some 10) (bz 7 31) (i := 4) (v := .agg (bkA cs (.slice none 0 0) jg mh)) (hc := (by kernel_rfl)) (hy := Or.inl ⟨by rfl, fun w' => run_built (by rfl) w' (by first | kernel_rfl | (simp [Act.eval]; done)) (bkA_built HC.out.sz jg mh)⟩) (h := ?_)
  refine one_ (i := 5) (N := some 11) (bz 7 63) rfl rfl (by kernel_rfl) (by decide) (fun K hK => ?_)
  refine box_step (by rfl) (N := 11) (by rfl) (cs := bkA cs (.slice none 0 0) jg mh) (t := 117) ?_ ?_
  · first | (go_simp; done) | (go_simp; rfl)
  intro g hg w4 hB hb
  have GB := Aside0.mk (show w.heap.size ≤ g by have := HB.out.size; omega)
  replace BX := Aside0.mk (blk_below BX.out hb)
  replace JB := Aside0.mk (blk_below JB.out hb)
  replace JM := Aside0.mk (blk_below JM.out hb)
  replace MH := Aside0.mk (blk_below MH.out hb)
  replace HB := Aside0.mk (below_step HB.out hb)
  have BB := Aside0.mk hB
  clear hB hb hg
  refine hK.out _ _ BX.out (fun hHeld => ?_)
  clear hK K
  refine norm_ (a' := ?_) ?_ ?_
  rotate_left
  · show Act.put _ (some 11) _ = _
    simp only [Act.put, List.setIfInBounds_toArray, List.set_cons_zero, List.set_cons_succ, i64_w, i32_w]
    rfl
  refine pureZ (some 3) (bz 7 127) (i := 6) (hc := (by kernel_rfl)) (h := ?_)
  refine done_ (by kernel_rfl) ?_
  have c2 := cf_at BX.out 2 HC.out.c2
  go_wp2_with (first | fail)
  refine (api_Decl.calls A c l l _ (Kd.C_below (Kd.C_below HL.out HB.out) (Below.refl _ _)) hlc (by unfold api_Decl.f; rw [if_pos (by omega)])).mono ?_
  rintro e w5 ⟨v0, rfl, hR, hb⟩
  obtain ⟨A', c', rfl⟩ := Kd.R_slice hR
  have RD := Aside0.mk (Kd.R_lower hR HB.out.size)
  replace BX := Aside0.mk (blk_below BX.out hb)
  replace BB := Aside0.mk (blk_below BB.out hb)
  replace JB := Aside0.mk (blk_below JB.out hb)
  replace JM := Aside0.mk (blk_below JM.out hb)
  replace MH := Aside0.mk (blk_below MH.out hb)
  replace HB := Aside0.mk (below_step HB.out hb)
  clear hR hb c2 hHeld
  have k4 : w5.cell? ⟨g, 4, none⟩ = some (.slice A l.length c) := (blk_cell BB.out 4).trans ((bkA_cs HC.out.sz _ _ _ 2 (by omega)).trans HC.out.c2)
  have f4 := blk_frozen BB.out 4
  have NX := Aside0.mk (ne_types BX.out BB.out)
  have NJ := Aside0.mk (ne_types JB.out BB.out)
  have c3 := cf_at (blk_far (p := ⟨g, 4, none⟩) BX.out NX.out (.slice A' l.length c')) 2 HC.out.c2
  go_wp2_with (first | fail)
  replace RD := Aside0.mk (Kd.R_set RD.out BB.out (by decide) 4 (.slice A' l.length c'))
  replace HB := Aside0.mk (below_set (j := 4) (v := .slice A' l.length c') HB.out GB.out)
  replace JB := Aside0.mk (blk_far (p := ⟨g, 4, none⟩) JB.out NJ.out (.slice A' l.length c'))
  replace JM := Aside0.mk (obj_far (p := ⟨g, 4, none⟩) JM.out (ne_map JM.out BB.out) (.slice A' l.length c'))
  replace MH := Aside0.mk (obj_far (p := ⟨g, 4, none⟩) MH.out (ne_map MH.out BB.out) (.slice A' l.length c'))
  replace BX := Aside0.mk (blk_far (p := ⟨g, 4, none⟩) BX.out NX.out (.slice A' l.length c'))
  replace BB := Aside0.mk (show (w5.setCell ⟨g, 4, none⟩ (.slice A' l.length c')).heap[g]? = some (.cells (bkA (cs.setIfInBounds 2 (.slice A' l.length c')) (.slice none 0 0) jg mh) 117 (0, 0)) from bkA_setc HC.out.sz (.slice none 0 0) jg mh 2 (by omega) (.slice A' l.length c') ▸ blk_set BB.out 4 (.slice A' l.length c'))
  have HC' := Aside0.mk (HC.out.set2 A' l.length c')
  generalize cs.setIfInBounds 2 (.slice A' l.length c') = cs' at BB HC'
  clear c3 k4 f4
  generalize w5.setCell ⟨g, 4, none⟩ (.slice A' l.length c') = w6 at RD HB JB JM MH BX BB ⊢
  go_loopw [22] (fun v22 wr => ∃ (i : Nat) (st : Value), v22 = .int .i64 (i : Int) ∧ i ≤ l.length ∧ Aside0 (wr.heap[w.heap.size]? = some (.cells cs 37 (0, 0))) ∧ Aside0 (wr.heap[g]? = some (.cells (bkA cs' st jg mh) 117 (0, 0))) ∧ Aside0 (wr.heap[jg]? = some (.cells #[.map (some jm)] 184 (0, 0))) ∧ Aside0 (wr.heap[jm]? = some (.map #[] 0)) ∧ Aside0 (wr.heap[mh]? = some (.map #[] 0)) ∧
    Aside0 (Kd.R k95 95 wr w.heap.size (fun _ => True) (.slice A' l.length c') l) ∧ Aside0 (Kd.R (Kd.int .i64) 2 wr w.heap.size (fun _ => True) st ((l.take i).map (·.f2))) ∧ Aside0 (Below w.heap.size w wr)) (fun v _ => l.length - (RowKit.intOf v).toNat)
  case atStart => exact ⟨0, _, rfl, Nat.zero_le _, BX, BB, JB, JM, MH, RD, Aside0.mk (Kd.R_nil _ _ _ _ _), HB⟩
  case round =>
    clear BX BB JB JM MH RD HB
    obtain ⟨i, st, rfl, hi1, BX, BB, JB, JM, MH, RD, RS, HB⟩ := hrel
    by_cases hlt : i < l.length
    · have HLT := Aside0.mk hlt
      have q1 : (0 : Int) ≤ (i : Int) := by omega
      have q2 : (i : Int) < (l.length : Int) := by omega
      obtain ⟨ad, rfl, x0, x1, x2, x3, x4, x5⟩ := at_T95 (Kd.C_below HL.out HB.out) (i : Int) q1 q2
      simp only [Int.toNat_natCast] at x0 x1 x2 x3 x4 x5
      have HX := Aside0.mk (show rd_T95 l (i : Int) = l[i] from at_getD hlt)
      rw [HX.out] at x0 x1 x2 x3 x4 x5
      go_wp2_with (first | (refine zbox (N := 5) (t := 95) (cs := #[.int .u8 0, .int .u8 0, .int .u8 0, .int .i64 0, .int .i64 0, .int .i64 0]) (h := ?_); intro g5 hg5 w7 B5_ hb7) | (refine store_decl (w0 := wr) (g := g5) (cells := #[.int .u8 l[i].f0.f0, .int .u8 l[i].f0.f1, .int .u8 l[i].f0.f2, .int .i64 l[i].f1, .int .i64 l[i].f2, .int .i64 l[i].f3]) (by rfl) (by rfl) (by rfl) (by rfl) B5_ (by rfl) (by rfl) (by simp [Value.oneCell']) hb7 (Nat.le_of_eq hg5.symm) ?_; intro w8 B8_ hb8) | fail)
      clear x0 x1 x2 x3 x4 x5
      have hl0 : ((l.take i).map (·.f2)).length = i := by rw [List.length_map, List.length_take]; have := HLT.out; omega
      obtain ⟨As, cs_, hv0⟩ := Kd.R_slice RS.out
      rw [hl0] at hv0
      subst hv0
      have hl1 : (((l.take i).map (·.f2)) ++ [l[i].f2]).length = i + 1 := by rw [List.length_append, hl0]; rfl
      have HL1 := Aside0.mk hl1
      clear hl0 hl1
      replace BX := Aside0.mk (blk_drew (blk_below BX.out hb8))
      replace BB := Aside0.mk (blk_drew (blk_below BB.out hb8))
      replace JB := Aside0.mk (blk_drew (blk_below JB.out hb8))
      replace JM := Aside0.mk (blk_drew (blk_below JM.out hb8))
      replace MH := Aside0.mk (blk_drew (blk_below MH.out hb8))
      replace RD := Aside0.mk (Kd.R_drew (Kd.R_below RD.out hb8))
      replace RS := Aside0.mk (Kd.R_drew (Kd.R_below RS.out hb8))
      have B5 := Aside0.mk (blk_drew B8_)
      replace HB := Aside0.mk (below_drew1 (below_step HB.out hb8))
      clear B5_ B8_ hb7 hb8 hg5
      refine start_ (n := 12) (S := fun w' => w'.cell? ⟨g, 28, none⟩ = some (.slice As i cs_) ∧ w'.cell? ⟨g5, 4, none⟩ = some (.int .i64 l[i].f2)) (ds := [11]) (bz 12 0) (by kernel_rfl) rfl (by kernel_rfl) ⟨(blk_cell BB.out 28).trans ((bkA_hi HC'.out.sz _ _ _ 0).trans rfl), (blk_cell B5.out 4).trans rfl⟩ (fun hHeld => ?_)
      generalize w8.drew = W2 at *
      refine pureZ (some 26) (bz 12 1) (i := 0) (hc := (by kernel_rfl)) (h := ?_)
      refine pureZ (some 27) (bz 12 3) (i := 1) (hc := (by kernel_rfl)) (h := ?_)
      refine pureZ (some 28) (bz 12 7) (i := 2) (hc := (by kernel_rfl)) (h := ?_)
      refine pureZ (some 29) (bz 12 15) (i := 3) (hc := (by kernel_rfl)) (h := ?_)
      refine takeZ (some 30) (bz 12 31) (i := 4) (hc := (by kernel_rfl)) (h := ?_)
      refine pureZ (some 31) (bz 12 63) (i := 5) (hc := (by kernel_rfl)) (h := ?_)
      refine takeZ (some 32) (bz 12 127) (i := 6) (hc := (by kernel_rfl)) (h := ?_)
      refine one_ (i := 7) (N := some 33) (bz 12 255) rfl rfl (by kernel_rfl) (by decide) (fun K hK => ?_)
      refine value_ (w1 := ?_) (v := ?_) (by rfl) rfl ?_ ?_
      rotate_left 2
      · go_simp
        constructor
        · rfl
        · rfl
      refine hK.out _ _ ⟨(blk_cell (blk_alloc BB.out _) 28).trans ((bkA_hi HC'.out.sz _ _ _ 0).trans rfl), (blk_cell (blk_alloc B5.out _) 4).trans rfl⟩ (fun hHeld => ?_)
      clear hK K
      refine norm_ (a' := ?_) ?_ ?_
      rotate_left
      · show Act.put _ (some 33) _ = _
        simp only [Act.put, List.setIfInBounds_toArray, List.set_cons_zero, List.set_cons_succ, i64_w, i32_w]
        rfl
      refine one_ (i := 8) (N := some 34) (bz 12 511) rfl rfl (by kernel_rfl) (by decide) (fun K hK => ?_)
      refine Kd.R_append_step (Kd.int .i64) (w0 := w) w.heap.size (by rfl) (.tmp 30) (.tmp 33) 30 2 (.int .i64 0) 8 rfl Tryz.underlying30 slices_Clone_int64_int64.inf rfl (by decide) (by omega) (.slice As i cs_) ((l.take i).map (·.f2)) l[i].f2 [.int .i64 l[i].f2] (fun _ => True) (fun _ => False) rfl rfl ?aP (fun _ hk => hk.elim) (fun _ _ => trivial) ?aO ?aB ?aS ?aL ?_
      (case aP => rfl)
      (case aO => exact RS.out)
      (case aB => exact HB.out)
      (case aS => exact HB.out.size)
      (case aL => rw [List.length_map, List.length_take]; have := HLT.out; omega)
      intro v1 w9 hR hb hg hat
      replace RD := Aside0.mk (Kd.R_over RD.out RS.out (by decide) hg)
      replace JM := Aside0.mk (obj_gro JM.out hg (map_ne RS.out JM.out))
      replace MH := Aside0.mk (obj_gro MH.out hg (map_ne RS.out MH.out))
      have BX_ := Aside0.mk (blk_gro BX.out hg (Kd.R_ne RS.out BX.out (by decide)))
      have BB_ := Aside0.mk (blk_gro BB.out hg (Kd.R_ne RS.out BB.out (by decide)))
      have JB_ := Aside0.mk (blk_gro JB.out hg (Kd.R_ne RS.out JB.out (by decide)))
      have B5_ := Aside0.mk (blk_gro B5.out hg (Kd.R_ne RS.out B5.out (by decide)))
      replace BX := BX_
      clear BX_
      replace BB := BB_
      clear BB_
      replace JB := JB_
      clear JB_
      replace B5 := B5_
      clear B5_
      replace HB := Aside0.mk hb
      obtain ⟨Av, cv, hv1⟩ := Kd.R_slice hR
      rw [HL1.out] at hv1
      subst hv1
      replace RS := Aside0.mk hR
      clear hR hb hg hat
      refine hK.out _ _ ⟨(blk_cell BB.out 28).trans ((bkA_hi HC'.out.sz _ _ _ 0).trans rfl), (blk_cell B5.out 4).trans rfl⟩ (fun hHeld => ?_)
      clear hK K
      refine norm_ (a' := ?_) ?_ ?_
      rotate_left
      · show Act.put _ (some 34) _ = _
        simp only [Act.put, List.setIfInBounds_toArray, List.set_cons_zero, List.set_cons_succ, i64_w, i32_w]
        rfl
      refine pureZ (some 35) (bz 12 1023) (i := 9) (hc := (by kernel_rfl)) (h := ?_)
      refine pureZ (some 36) (bz 12 2047) (i := 10) (hc := (by kernel_rfl)) (h := ?_)
      have k28 := hHeld.1
      have f28 := blk_frozen BB.out 28
      refine last_ (i := 11) (N := none) (bz 12 4095) rfl rfl (by kernel_rfl) (by decide) (fun K hK => ?_)
      refine skip_ (w1 := ?_) (by rfl) rfl ?_ ?_
      rotate_left
      · go_simp
        rfl
      refine hK.out _ _ ?_
      clear hK K
      refine done_ (by kernel_rfl) ?_
      clear k28 f28
      go_wp2_with (first | fail)
      go_roundw
      case measure => have := HLT.out; simp only [RowKit.intOf]; omega
      case rel => exact ⟨i + 1, _, by go_num, HLT.out, Aside0.mk (blk_far (p := ⟨g, 28, none⟩) BX.out NX.out _), Aside0.mk (bkA_sets HC'.out.sz _ jg mh (.slice Av (i + 1) cv) ▸ blk_set BB.out 28 _), Aside0.mk (blk_far (p := ⟨g, 28, none⟩) JB.out NJ.out _), Aside0.mk (obj_far (p := ⟨g, 28, none⟩) JM.out (ne_map JM.out BB.out) _), Aside0.mk (obj_far (p := ⟨g, 28, none⟩) MH.out (ne_map MH.out BB.out) _), Aside0.mk (Kd.R_set RD.out BB.out (by decide) 28 _), Aside0.mk (take_map (·.f2) HLT.out ▸ Kd.R_set RS.out BB.out (by decide) 28 _), Aside0.mk (below_set HB.out GB.out)⟩
    · obtain rfl : i = l.length := by omega
      have hend : ¬ ((l.length : Int) < (l.length : Int)) := by omega
      go_wp2_with (first | fail)
      rw [List.take_length] at RS
      go_ret
      exact ⟨g, rfl, jg, jm, mh, st, cs', BB.out, A', c', HC'.out, RD.out, RS.out, JB.out, JM.out, MH.out, HB.out⟩
set_option maxRecDepth 100000 in
theorem keysT_calls (b : Nat) (w : World) : Calls Tryz.prog 103 #[.map (some b)] w fun e w' => ∃ Bm, e = .returned (.func (.func 154) #[] #[.pointer (some ⟨Bm, 0, none⟩)]) ∧ w'.heap[Bm]? = some (.cells #[.map (some b)] 182 (0, 0)) ∧ Below w.heap.size w w' := by
  go_enter Tryz.func103, Tryz.ntmps103
  go_wp2_with (first | fail)
  go_ret
  exact ⟨_, rfl, heap_alloc_new w _, below_alloc (Below.refl w.heap.size w) _⟩
set_option maxRecDepth 100000 in
theorem keysC_calls (b : Nat) (w : World) : Calls Tryz.prog 104 #[.map (some b)] w fun e w' => ∃ Bm, e = .returned (.func (.func 155) #[] #[.pointer (some ⟨Bm, 0, none⟩)]) ∧ w'.heap[Bm]? = some (.cells #[.map (some b)] 115 (0, 0)) ∧ Below w.heap.size w w' := by
  go_enter Tryz.func104, Tryz.ntmps104
  go_wp2_with (first | fail)
  go_ret
  exact ⟨_, rfl, heap_alloc_new w _, below_alloc (Below.refl w.heap.size w) _⟩
set_option maxRecDepth 100000 in
theorem jall_calls (w : World) (jg jm : Nat) (hJ : w.heap[jg]? = some (.cells #[.map (some jm)] 184 (0, 0))) (hM : w.heap[jm]? = some (.map #[] 0)) : Calls Tryz.prog 54 #[.pointer (some ⟨jg, 0, none⟩)] w fun e w' => e = .returned (.slice none 0 0) ∧ Below w.heap.size w w' := by
  have c0 := (blk_cell hJ 0).trans rfl
  go_enter Tryz.func54, Tryz.ntmps54
  go_wp2_with (first | fail)
  refine (keysT_calls _ _).mono ?_
  rintro e w2 ⟨Bm, rfl, hB, hb⟩
  go_wp2_with (first | fail)
  refine (sorted_e w2 Bm _ (blk_lt hB) ((blk_cell hB 0).trans rfl) (blk_below hM hb)).mono ?_
  rintro e w3 ⟨rfl, hb3⟩
  go_wp2_with (first | fail)
  refine wp_loop_rounds 1 ?_
  rw [rounds_succ]
  go_wp2_with (first | fail)
  go_ret
  exact ⟨rfl, below_step hb hb3⟩
set_option maxRecDepth 100000 in
theorem ball_calls (w : World) (cs : Array Value) (st : Value) (g jg mh : Nat) (hs : cs.size = 26) (hB : w.heap[g]? = some (.cells (bkA cs st jg mh) 117 (0, 0))) (hM : w.heap[mh]? = some (.map #[] 0)) : Calls Tryz.prog 55 #[.pointer (some ⟨g, 0, none⟩)] w fun e w' => e = .returned (.slice none 0 0) ∧ Below w.heap.size w w' := by
  have c0 : w.cell? ⟨g, 30, none⟩ = some (.map (some mh)) := (blk_cell hB 30).trans ((bkA_hi hs st jg mh 2).trans rfl)
  go_enter Tryz.func55, Tryz.ntmps55
  go_wp2_with (first | fail)
  refine (keysC_calls _ _).mono ?_
  rintro e w2 ⟨Bm, rfl, hB, hb⟩
  go_wp2_with (first | fail)
  refine (sortedC_e w2 Bm _ (blk_lt hB) ((blk_cell hB 0).trans rfl) (blk_below hM hb)).mono ?_
  rintro e w3 ⟨rfl, hb3⟩
  go_wp2_with (first | fail)
  refine wp_loop_rounds 1 ?_
  rw [rounds_succ]
  go_wp2_with (first | fail)
  go_ret
  exact ⟨rfl, below_step hb hb3⟩
theorem clonew_nil (w : World) : Calls Tryz.prog 106 #[.slice none 0 0] w fun e w' => e = .returned (.slice none 0 0) ∧ Below w.heap.size w w' := by
  have hq := fun (w : World) (a : Option Addr) (n c : Nat) => Lib.run_eql_slice_nil (P := Tryz.prog) w 79 148 a n c 0 0 Tryz.underlying79
  go_enter Tryz.func106, Tryz.ntmps106
  go_wp2_with (first | fail)
  go_ret
  exact ⟨rfl, Below.refl _ _⟩
set_option maxRecDepth 100000 in
theorem copy_nil (w : World) : Calls Tryz.prog 56 #[.agg #[.slice none 0 0, .slice none 0 0]] w fun e w' => e = .returned (.agg #[.slice none 0 0, .slice none 0 0]) ∧ Below w.heap.size w w' := by
  go_enter Tryz.func56, Tryz.ntmps56
  go_wp2_with (first | fail)
  refine wp_loop_rounds 1 ?_
  rw [rounds_succ]
  go_wp2_with (first | fail)
  refine (clonew_nil _).mono ?_
  rintro e w2 ⟨rfl, hb⟩
  have B2 := blk_below (blk_new (w.alloc (.cells #[.slice none 0 0, .slice none 0 0] 81)) (.cells #[.slice none 0 0, .slice none 0 0] 81)) hb
  rw [size_al] at B2
  have B3 := blk_set (blk_set B2 0 (.slice none 0 0)) 1 (.slice none 0 0)
  obtain ⟨c0, c1, f0, f1⟩ := zcf2 B2
  have HB := Aside0.mk (below_set (j := 1) (v := .slice none 0 0) (below_set (j := 0) (v := .slice none 0 0) (below_step (below_alloc (below_alloc (Below.refl w.heap.size w) (.cells #[.slice none 0 0, .slice none 0 0] 81)) (.cells #[.slice none 0 0, .slice none 0 0] 81)) hb) (show w.heap.size ≤ w.heap.size + 1 by omega)) (show w.heap.size ≤ w.heap.size + 1 by omega))
  go_wp2_with (first | fail)
  exact bodyPost_ret (v := .agg #[.slice none 0 0, .slice none 0 0]) (results_cell_row (g := w.heap.size + 1) (t := 81) (fr := (0, 0)) rfl _ _ _ _ rfl B3 Tryz.underlying81 rfl (by kernel_rfl)) rfl ⟨rfl, HB.out⟩
set_option maxHeartbeats 8000000 in
set_option maxRecDepth 100000 in
theorem bstate_calls (cs : Array Value) (As : Option Addr) (n cc : Nat) (xs : List Int) (g jg jm mh : Nat) (hs : cs.size = 26) (w : World) (hB_ : w.heap[g]? = some (.cells (bkA cs (.slice As n cc) jg mh) 117 (0, 0))) (hn : n = xs.length) (hR_ : Kd.C (Kd.int .i64) w As n xs) (hcc : n ≤ cc) (hn24 : n ≤ 24)
    (hJ_ : w.heap[jg]? = some (.cells #[.map (some jm)] 184 (0, 0))) (hM_ : w.heap[jm]? = some (.map #[] 0)) (hH_ : w.heap[mh]? = some (.map #[] 0)) :
    Calls Tryz.prog 24 #[.pointer (some ⟨g, 0, none⟩)] w fun e w' => ∃ v, e = .returned (.agg #[v, .slice none 0 0, .slice none 0 0, .slice none 0 0, .slice none 0 0, .int .u32 1, .int .u32 1]) ∧ Kd.R (Kd.int .i64) 2 w' w.heap.size (fun _ => True) v xs ∧ Below w.heap.size w w' := by
  subst hn
  have BB := Aside0.mk hB_
  have JB := Aside0.mk hJ_
  have JM := Aside0.mk hM_
  have MH := Aside0.mk hH_
  have CS := Aside0.mk hR_
  clear hB_ hJ_ hM_ hH_ hR_
  go_enter Tryz.func24, Tryz.ntmps24
  go_wp2_with (first | (refine zbox (N := 2) (t := 83) (cs := #[.slice none 0 0, .slice none 0 0, .slice none 0 0, .slice none 0 0, .slice none 0 0, .int .u32 0, .int .u32 0]) (h := ?_); intro g2 hg2 w1 B2_ hb1; have B2 := Aside0.mk B2_; have G2 := Aside0.mk (show w.heap.size ≤ g2 by omega); have HB := Aside0.mk hb1; clear B2_ hb1 hg2) | fail)
  replace BB := Aside0.mk (blk_drew (blk_below BB.out HB.out))
  replace JB := Aside0.mk (blk_drew (blk_below JB.out HB.out))
  replace JM := Aside0.mk (blk_drew (blk_below JM.out HB.out))
  replace MH := Aside0.mk (blk_drew (blk_below MH.out HB.out))
  replace CS := Aside0.mk (Kd.C_drew (Kd.C_below CS.out HB.out))
  replace B2 := Aside0.mk (blk_drew B2.out)
  replace HB := Aside0.mk (below_drew1 HB.out)
  refine start_ (n := 29) (S := fun w' => w'.cell? ⟨g, 28, none⟩ = some (.slice As xs.length cc) ∧ w'.cell? ⟨g, 29, none⟩ = some (.pointer (some ⟨jg, 0, none⟩)) ∧ w'.cell? ⟨g, 31, none⟩ = some (.slice none 0 0) ∧ w'.cell? ⟨g, 32, none⟩ = some (.slice none 0 0) ∧ w'.cell? ⟨g, 0, none⟩ = some (.int .u32 1) ∧ w'.cell? ⟨g, 1, none⟩ = some (.int .u32 1)) (ds := [28]) (bz 29 0) (by kernel_rfl) rfl (by kernel_rfl) ⟨(blk_cell BB.out 28).trans ((bkA_hi hs _ _ _ 0).trans rfl), (blk_cell BB.out 29).trans ((bkA_hi hs _ _ _ 1).trans rfl), (blk_cell BB.out 31).trans ((bkA_hi hs _ _ _ 3).trans rfl), (blk_cell BB.out 32).trans ((bkA_hi hs _ _ _ 4).trans rfl), (blk_cell BB.out 0).trans (bkA_lo hs _ _ _ 0 (by omega)), (blk_cell BB.out 1).trans (bkA_lo hs _ _ _ 1 (by omega))⟩ (fun hHeld => ?_)
  generalize w1.drew = W1 at *
  refine pureZ (some 6) (bz 29 1) (i := 0) (hc := (by kernel_rfl)) (h := ?_)
  refine pureZ (some 7) (bz 29 3) (i := 1) (hc := (by kernel_rfl)) (h := ?_)
  refine pureZ (some 8) (bz 29 7) (i := 2) (hc := (by kernel_rfl)) (h := ?_)
  refine takeZ (some 9) (bz 29 15) (i := 3) (hc := (by kernel_rfl)) (h := ?_)
  refine pureZ (some 11) (bz 29 47) (i := 5) (hc := (by kernel_rfl)) (h := ?_)
  refine pureZ (some 12) (bz 29 111) (i := 6) (hc := (by kernel_rfl)) (h := ?_)
  refine pureZ (some 13) (bz 29 239) (i := 7) (hc := (by kernel_rfl)) (h := ?_)
  refine takeZ (some 14) (bz 29 495) (i := 8) (hc := (by kernel_rfl)) (h := ?_)
  refine pureZ (some 16) (bz 29 1519) (i := 10) (hc := (by kernel_rfl)) (h := ?_)
  refine pureZ (some 18) (bz 29 5615) (i := 12) (hc := (by kernel_rfl)) (h := ?_)
  refine pureZ (some 19) (bz 29 13807) (i := 13) (hc := (by kernel_rfl)) (h := ?_)
  refine pureZ (some 20) (bz 29 30191) (i := 14) (hc := (by kernel_rfl)) (h := ?_)
  refine takeZ (some 21) (bz 29 62959) (i := 15) (hc := (by kernel_rfl)) (h := ?_)
  refine pureZ (some 23) (bz 29 194031) (i := 17) (hc := (by kernel_rfl)) (h := ?_)
  refine pureZ (some 24) (bz 29 456175) (i := 18) (hc := (by kernel_rfl)) (h := ?_)
  refine pureZ (some 25) (bz 29 980463) (i := 19) (hc := (by kernel_rfl)) (h := ?_)
  refine pureZ (some 26) (bz 29 2029039) (i := 20) (hc := (by kernel_rfl)) (h := ?_)
  refine takeZ (some 27) (bz 29 4126191) (i := 21) (hc := (by kernel_rfl)) (h := ?_)
  refine pureZ (some 28) (bz 29 8320495) (i := 22) (hc := (by kernel_rfl)) (h := ?_)
  refine pureZ (some 29) (bz 29 16709103) (i := 23) (hc := (by kernel_rfl)) (h := ?_)
  refine pureZ (some 30) (bz 29 33486319) (i := 24) (hc := (by kernel_rfl)) (h := ?_)
  refine pureZ (some 31) (bz 29 67040751) (i := 25) (hc := (by kernel_rfl)) (h := ?_)
  refine takeZ (some 32) (bz 29 134149615) (i := 26) (hc := (by kernel_rfl)) (h := ?_)
  refine one_ (i := 4) (N := some 10) (bz 29 134149631) rfl rfl (by kernel_rfl) (by decide) (fun K hK => ?_)
  refine goes_ Tryz.func53 (by kernel_rfl) rfl #[.slice As xs.length cc] (by rfl) rfl rfl zA ?_
  refine (slices_Clone_int64_int64.calls As cc xs xs _ CS.out hcc (by unfold slices_Clone_int64_int64.f; rw [if_pos (by omega)])).mono ?_
  rintro e w2 ⟨v, rfl, hR, hb⟩
  refine ⟨_, rfl, ?_⟩
  have RV := Aside0.mk (Kd.R_lower hR HB.out.size)
  replace BB := Aside0.mk (blk_below BB.out hb)
  replace JB := Aside0.mk (blk_below JB.out hb)
  replace JM := Aside0.mk (blk_below JM.out hb)
  replace MH := Aside0.mk (blk_below MH.out hb)
  replace B2 := Aside0.mk (blk_below B2.out hb)
  replace HB := Aside0.mk (below_step HB.out hb)
  clear hR hb
  refine hK.out _ _ ⟨(blk_cell BB.out 28).trans ((bkA_hi hs _ _ _ 0).trans rfl), (blk_cell BB.out 29).trans ((bkA_hi hs _ _ _ 1).trans rfl), (blk_cell BB.out 31).trans ((bkA_hi hs _ _ _ 3).trans rfl), (blk_cell BB.out 32).trans ((bkA_hi hs _ _ _ 4).trans rfl), (blk_cell BB.out 0).trans (bkA_lo hs _ _ _ 0 (by omega)), (blk_cell BB.out 1).trans (bkA_lo hs _ _ _ 1 (by omega))⟩ (fun hHeld => ?_)
  clear hK K
  refine norm_ (a' := ?_) ?_ ?_
  rotate_left
  · show Act.put _ (some 10) _ = _
    simp only [Act.put, List.setIfInBounds_toArray, List.set_cons_zero, List.set_cons_succ, i64_w, i32_w]
    rfl
  refine one_ (i := 9) (N := some 15) (bz 29 134150143) rfl rfl (by kernel_rfl) (by decide) (fun K hK => ?_)
  refine goes_ Tryz.func54 (by kernel_rfl) rfl #[.pointer (some ⟨jg, 0, none⟩)] (by rfl) rfl rfl zA ?_
  refine (jall_calls _ jg jm JB.out JM.out).mono ?_
  rintro e w3 ⟨rfl, hb⟩
  refine ⟨_, rfl, ?_⟩
  replace BB := Aside0.mk (blk_below BB.out hb)
  replace JB := Aside0.mk (blk_below JB.out hb)
  replace JM := Aside0.mk (blk_below JM.out hb)
  replace MH := Aside0.mk (blk_below MH.out hb)
  replace B2 := Aside0.mk (blk_below B2.out hb)
  replace HB := Aside0.mk (below_step HB.out hb)
  replace RV := Aside0.mk (Kd.R_below RV.out hb)
  clear hb
  refine hK.out _ _ ⟨(blk_cell BB.out 28).trans ((bkA_hi hs _ _ _ 0).trans rfl), (blk_cell BB.out 29).trans ((bkA_hi hs _ _ _ 1).trans rfl), (blk_cell BB.out 31).trans ((bkA_hi hs _ _ _ 3).trans rfl), (blk_cell BB.out 32).trans ((bkA_hi hs _ _ _ 4).trans rfl), (blk_cell BB.out 0).trans (bkA_lo hs _ _ _ 0 (by omega)), (blk_cell BB.out 1).trans (bkA_lo hs _ _ _ 1 (by omega))⟩ (fun hHeld => ?_)
  clear hK K
  refine norm_ (a' := ?_) ?_ ?_
  rotate_left
  · show Act.put _ (some 15) _ = _
    simp only [Act.put, List.setIfInBounds_toArray, List.set_cons_zero, List.set_cons_succ, i64_w, i32_w]
    rfl
  refine one_ (i := 11) (N := some 17) (bz 29 134152191) rfl rfl (by kernel_rfl) (by decide) (fun K hK => ?_)
  refine goes_ Tryz.func55 (by kernel_rfl) rfl #[.pointer (some ⟨g, 0, none⟩)] (by rfl) rfl rfl zA ?_
  refine (ball_calls _ cs (.slice As xs.length cc) g jg mh hs BB.out MH.out).mono ?_
  rintro e w4 ⟨rfl, hb⟩
  refine ⟨_, rfl, ?_⟩
  replace BB := Aside0.mk (blk_below BB.out hb)
  replace JB := Aside0.mk (blk_below JB.out hb)
  replace JM := Aside0.mk (blk_below JM.out hb)
  replace MH := Aside0.mk (blk_below MH.out hb)
  replace B2 := Aside0.mk (blk_below B2.out hb)
  replace HB := Aside0.mk (below_step HB.out hb)
  replace RV := Aside0.mk (Kd.R_below RV.out hb)
  clear hb
  refine hK.out _ _ ⟨(blk_cell BB.out 28).trans ((bkA_hi hs _ _ _ 0).trans rfl), (blk_cell BB.out 29).trans ((bkA_hi hs _ _ _ 1).trans rfl), (blk_cell BB.out 31).trans ((bkA_hi hs _ _ _ 3).trans rfl), (blk_cell BB.out 32).trans ((bkA_hi hs _ _ _ 4).trans rfl), (blk_cell BB.out 0).trans (bkA_lo hs _ _ _ 0 (by omega)), (blk_cell BB.out 1).trans (bkA_lo hs _ _ _ 1 (by omega))⟩ (fun hHeld => ?_)
  clear hK K
  refine norm_ (a' := ?_) ?_ ?_
  rotate_left
  · show Act.put _ (some 17) _ = _
    simp only [Act.put, List.setIfInBounds_toArray, List.set_cons_zero, List.set_cons_succ, i64_w, i32_w]
    rfl
  refine one_ (i := 16) (N := some 22) (bz 29 134217727) rfl rfl (by kernel_rfl) (by decide) (fun K hK => ?_)
  refine goes_ Tryz.func56 (by kernel_rfl) rfl #[.agg #[.slice none 0 0, .slice none 0 0]] (by rfl) rfl rfl zA ?_
  refine (copy_nil _).mono ?_
  rintro e w5 ⟨rfl, hb⟩
  refine ⟨_, rfl, ?_⟩
  replace BB := Aside0.mk (blk_below BB.out hb)
  replace JB := Aside0.mk (blk_below JB.out hb)
  replace JM := Aside0.mk (blk_below JM.out hb)
  replace MH := Aside0.mk (blk_below MH.out hb)
  replace B2 := Aside0.mk (blk_below B2.out hb)
  replace HB := Aside0.mk (below_step HB.out hb)
  replace RV := Aside0.mk (Kd.R_below RV.out hb)
  clear hb
  refine hK.out _ _ ⟨(blk_cell BB.out 28).trans ((bkA_hi hs _ _ _ 0).trans rfl), (blk_cell BB.out 29).trans ((bkA_hi hs _ _ _ 1).trans rfl), (blk_cell BB.out 31).trans ((bkA_hi hs _ _ _ 3).trans rfl), (blk_cell BB.out 32).trans ((bkA_hi hs _ _ _ 4).trans rfl), (blk_cell BB.out 0).trans (bkA_lo hs _ _ _ 0 (by omega)), (blk_cell BB.out 1).trans (bkA_lo hs _ _ _ 1 (by omega))⟩ (fun hHeld => ?_)
  clear hK K
  refine norm_ (a' := ?_) ?_ ?_
  rotate_left
  · show Act.put _ (some 22) _ = _
    simp only [Act.put, List.setIfInBounds_toArray, List.set_cons_zero, List.set_cons_succ, i64_w, i32_w]
    rfl
  obtain ⟨Av, cv, rfl⟩ := Kd.R_slice RV.out
  refine pureZ (some 33) (bz 29 268435455) (i := 27) (hc := (by kernel_rfl)) (h := ?_)
  obtain ⟨k0, k1, k2, k3, k4, k5, k6, f0, f1, f2, f3, f4, f5, f6⟩ := zcf7 B2.out
  refine last_ (i := 28) (N := none) (bz 29 536870911) rfl rfl (by kernel_rfl) (by decide) (fun K hK => ?_)
  refine skip_ (w1 := ?_) (by rfl) rfl ?_ ?_
  rotate_left
  · go_simp
    rfl
  refine hK.out _ _ ?_
  clear hK K
  refine done_ (by kernel_rfl) ?_
  have RT := Kd.R_types RV.out B2.out (by decide)
  have B0' := blk_set B2.out 0 (.slice Av xs.length cv)
  replace RT := Kd.R_far (p := ⟨g2, 0, none⟩) RT (fun k hk => hk.2) (.slice Av xs.length cv)
  replace HB := Aside0.mk (below_set (j := 0) (v := .slice Av xs.length cv) HB.out G2.out)
  have B1' := blk_set B0' 1 (.slice none 0 0)
  replace RT := Kd.R_far (p := ⟨g2, 1, none⟩) RT (fun k hk => hk.2) (.slice none 0 0)
  replace HB := Aside0.mk (below_set (j := 1) (v := .slice none 0 0) HB.out G2.out)
  have B2' := blk_set B1' 2 (.slice none 0 0)
  replace RT := Kd.R_far (p := ⟨g2, 2, none⟩) RT (fun k hk => hk.2) (.slice none 0 0)
  replace HB := Aside0.mk (below_set (j := 2) (v := .slice none 0 0) HB.out G2.out)
  have B3' := blk_set B2' 3 (.slice none 0 0)
  replace RT := Kd.R_far (p := ⟨g2, 3, none⟩) RT (fun k hk => hk.2) (.slice none 0 0)
  replace HB := Aside0.mk (below_set (j := 3) (v := .slice none 0 0) HB.out G2.out)
  have B4' := blk_set B3' 4 (.slice none 0 0)
  replace RT := Kd.R_far (p := ⟨g2, 4, none⟩) RT (fun k hk => hk.2) (.slice none 0 0)
  replace HB := Aside0.mk (below_set (j := 4) (v := .slice none 0 0) HB.out G2.out)
  have B5' := blk_set B4' 5 (.int .u32 1)
  replace RT := Kd.R_far (p := ⟨g2, 5, none⟩) RT (fun k hk => hk.2) (.int .u32 1)
  replace HB := Aside0.mk (below_set (j := 5) (v := .int .u32 1) HB.out G2.out)
  have B6' := blk_set B5' 6 (.int .u32 1)
  replace RT := Kd.R_far (p := ⟨g2, 6, none⟩) RT (fun k hk => hk.2) (.int .u32 1)
  replace HB := Aside0.mk (below_set (j := 6) (v := .int .u32 1) HB.out G2.out)
  clear k0 k1 k2 k3 k4 k5 k6 f0 f1 f2 f3 f4 f5 f6
  go_wp2_with (first | fail)
  exact bodyPost_ret (v := .agg #[.slice Av xs.length cv, .slice none 0 0, .slice none 0 0, .slice none 0 0, .slice none 0 0, .int .u32 1, .int .u32 1]) (results_cell_row (g := g2) (t := 83) (fr := (0, 0)) rfl _ _ _ _ rfl B6' Tryz.underlying83 rfl (by kernel_rfl)) rfl ⟨_, rfl, Kd.R_mono RT (fun _ hk => hk.1), HB.out⟩

set_option maxRecDepth 100000 in
theorem good_nil (w : World) : Calls Tryz.prog 107 #[.agg #[.slice none 0 0, .slice none 0 0]] w fun e w' => e = .returned (.bool true) ∧ Below w.heap.size w w' := by
  have hmm := @run_makeMap Tryz.prog
  go_enter Tryz.func107, Tryz.ntmps107
  go_wp2_with (first | fail)
  refine wp_loop_rounds 1 ?_
  rw [rounds_succ]
  go_wp2_with (first | fail)
  refine wp_loop_rounds 1 ?_
  rw [rounds_succ]
  have B2 := heap_alloc_new (w.alloc (.cells #[.slice none 0 0, .slice none 0 0] 81)) (.map #[] 0)
  rw [size_al] at B2
  have hu : Tryz.prog.underlying 246 = some (.map (Tryz.prog.mapKeyOf 246) (Tryz.prog.mapElemOf 246)) := by kernel_rfl
  have hlm := run_len_map _ 246 3 (w.heap.size + 1) #[] 0 hu B2
  go_wp2_with (first | fail)
  go_ret
  exact ⟨rfl, below_alloc (below_alloc (Below.refl w.heap.size w) _) _⟩
set_option maxRecDepth 100000 in
theorem places_nil (w : World) : Calls Tryz.prog 108 #[.slice none 0 0] w fun e w' => e = .returned (.int .i64 0) ∧ w' = w := by
  go_enter Tryz.func108, Tryz.ntmps108
  go_wp2_with (first | fail)
  refine wp_loop_rounds 1 ?_
  rw [rounds_succ]
  go_wp2_with (first | fail)
  go_ret
  exact ⟨rfl, rfl⟩
set_option maxHeartbeats 8000000 in
set_option maxRecDepth 100000 in
theorem right_nil (cs : Array Value) {sk wa sa od re sg cp bl bs : Int} {A : Option Addr} {n c : Nat} (hc : Cf cs sk wa sa od re sg cp bl bs A n c) (w : World) (h1 : 0 ≤ sa) (h2 : 0 ≤ od) (hn : n ≤ 24) (Av : Option Addr) (cv : Nat) :
    Calls Tryz.prog 59 #[.agg cs, .agg #[.slice Av n cv, .slice none 0 0, .slice none 0 0, .slice none 0 0, .slice none 0 0, .int .u32 1, .int .u32 1]] w fun e w' => e = .returned (.bool true) ∧ Below w.heap.size w w' := by
  have HC := Aside0.mk hc
  have BX := Aside0.mk (heap_alloc_new w (.cells cs 37))
  clear hc
  have q1 : ¬ (0 > sa) := by omega
  have q2 : ¬ (0 > od) := by omega
  have q3 : wrap64 0 ≤ od := by simpa [wrap64] using h2
  go_enter Tryz.func59, Tryz.ntmps59
  go_wp2_with (first | (refine zbox (N := 3) (t := 83) (cs := #[.slice Av n cv, .slice none 0 0, .slice none 0 0, .slice none 0 0, .slice none 0 0, .int .u32 1, .int .u32 1]) (h := ?_); intro g3 hg3 w1 B3_ hb1; have B3 := Aside0.mk B3_; have BY := Aside0.mk (blk_below BX.out hb1); have HB := Aside0.mk (below_step (below_alloc (Below.refl w.heap.size w) (.cells cs 37)) hb1); clear B3_ hb1 hg3) | fail)
  replace B3 := Aside0.mk (blk_drew B3.out)
  replace BY := Aside0.mk (blk_drew BY.out)
  replace HB := Aside0.mk (below_drew1 HB.out)
  refine start_ (n := 34) (S := fun w' => w'.cell? ⟨g3, 0, none⟩ = some (.slice Av n cv) ∧ w'.cell? ⟨g3, 2, none⟩ = some (.slice none 0 0) ∧ w'.cell? ⟨g3, 3, none⟩ = some (.slice none 0 0) ∧ w'.cell? ⟨g3, 4, none⟩ = some (.slice none 0 0) ∧ w'.cell? ⟨w.heap.size, 2, none⟩ = some (.slice A n c) ∧ w'.cell? ⟨w.heap.size, 19, none⟩ = some (.int .i64 sa) ∧ w'.cell? ⟨w.heap.size, 20, none⟩ = some (.int .i64 od)) (ds := []) (bz 34 0) (by kernel_rfl) rfl (by kernel_rfl) ⟨(blk_cell B3.out 0).trans rfl, (blk_cell B3.out 2).trans rfl, (blk_cell B3.out 3).trans rfl, (blk_cell B3.out 4).trans rfl, cf_at BY.out 2 HC.out.c2, cf_at BY.out 19 HC.out.c19, cf_at BY.out 20 HC.out.c20⟩ (fun hHeld => ?_)
  generalize w1.drew = W1 at *
  refine pureZ (some 10) (bz 34 1) (i := 0) (hc := (by kernel_rfl)) (h := ?_)
  refine takeZ (some 11) (bz 34 3) (i := 1) (hc := (by kernel_rfl)) (h := ?_)
  refine pureZ (some 12) (bz 34 7) (i := 2) (hc := (by kernel_rfl)) (h := ?_)
  refine pureZ (some 13) (bz 34 15) (i := 3) (hc := (by kernel_rfl)) (h := ?_)
  refine takeZ (some 14) (bz 34 31) (i := 4) (hc := (by kernel_rfl)) (h := ?_)
  refine pureZ (some 15) (bz 34 63) (i := 5) (hc := (by kernel_rfl)) (h := ?_)
  refine pureZ (some 16) (bz 34 127) (i := 6) (v := .bool false) (hc := (by kernel_rfl)) (hy := Or.inl ⟨by rfl, by intro w'; go_simp⟩) (h := ?_)
  refine pureZ (some 17) (bz 34 255) (i := 7) (hc := (by kernel_rfl)) (h := ?_)
  refine pureZ (some 18) (bz 34 511) (i := 8) (hc := (by kernel_rfl)) (h := ?_)
  refine takeZ (some 19) (bz 34 1023) (i := 9) (hc := (by kernel_rfl)) (h := ?_)
  refine pureZ (some 20) (bz 34 2047) (i := 10) (hc := (by kernel_rfl)) (h := ?_)
  refine pureZ (some 21) (bz 34 4095) (i := 11) (hc := (by kernel_rfl)) (h := ?_)
  refine takeZ (some 22) (bz 34 8191) (i := 12) (hc := (by kernel_rfl)) (h := ?_)
  refine pureZ (some 23) (bz 34 16383) (i := 13) (v := .bool false) (hc := (by kernel_rfl)) (hy := Or.inl ⟨by rfl, by intro w'; go_simp⟩) (h := ?_)
  refine pureZ (some 24) (bz 34 32767) (i := 14) (hc := (by kernel_rfl)) (h := ?_)
  refine pureZ (some 25) (bz 34 65535) (i := 15) (hc := (by kernel_rfl)) (h := ?_)
  refine pureZ (some 26) (bz 34 131071) (i := 16) (hc := (by kernel_rfl)) (h := ?_)
  refine takeZ (some 27) (bz 34 262143) (i := 17) (hc := (by kernel_rfl)) (h := ?_)
  refine one_ (i := 18) (N := some 28) (bz 34 524287) rfl rfl (by kernel_rfl) (by decide) (fun K hK => ?_)
  refine goes_ Tryz.func107 (by kernel_rfl) rfl #[.agg #[.slice none 0 0, .slice none 0 0]] (by rfl) rfl rfl zA ?_
  refine (good_nil _).mono ?_
  rintro e w2 ⟨rfl, hb⟩
  refine ⟨_, rfl, ?_⟩
  replace B3 := Aside0.mk (blk_below B3.out hb)
  replace BY := Aside0.mk (blk_below BY.out hb)
  replace HB := Aside0.mk (below_step HB.out hb)
  clear hb
  refine hK.out _ _ ⟨(blk_cell B3.out 0).trans rfl, (blk_cell B3.out 2).trans rfl, (blk_cell B3.out 3).trans rfl, (blk_cell B3.out 4).trans rfl, cf_at BY.out 2 HC.out.c2, cf_at BY.out 19 HC.out.c19, cf_at BY.out 20 HC.out.c20⟩ (fun hHeld => ?_)
  clear hK K
  refine norm_ (a' := ?_) ?_ ?_
  rotate_left
  · show Act.put _ (some 28) _ = _
    simp only [Act.put, List.setIfInBounds_toArray, List.set_cons_zero, List.set_cons_succ, i64_w, i32_w]
    rfl
  refine pureZ (some 29) (bz 34 1048575) (i := 19) (hc := (by kernel_rfl)) (h := ?_)
  refine pureZ (some 30) (bz 34 2097151) (i := 20) (hc := (by kernel_rfl)) (h := ?_)
  refine pureZ (some 31) (bz 34 4194303) (i := 21) (hc := (by kernel_rfl)) (h := ?_)
  refine pureZ (some 32) (bz 34 8388607) (i := 22) (hc := (by kernel_rfl)) (h := ?_)
  refine pureZ (some 33) (bz 34 16777215) (i := 23) (hc := (by kernel_rfl)) (h := ?_)
  refine takeZ (some 34) (bz 34 33554431) (i := 24) (hc := (by kernel_rfl)) (h := ?_)
  refine pureZ (some 35) (bz 34 67108863) (i := 25) (hc := (by kernel_rfl)) (h := ?_)
  refine pureZ (some 36) (bz 34 134217727) (i := 26) (hc := (by kernel_rfl)) (h := ?_)
  refine takeZ (some 37) (bz 34 268435455) (i := 27) (hc := (by kernel_rfl)) (h := ?_)
  refine pureZ (some 40) (bz 34 1342177279) (i := 30) (hc := (by kernel_rfl)) (h := ?_)
  refine takeZ (some 41) (bz 34 3489660927) (i := 31) (hc := (by kernel_rfl)) (h := ?_)
  refine one_ (i := 28) (N := some 38) (bz 34 3758096383) rfl rfl (by kernel_rfl) (by decide) (fun K hK => ?_)
  refine goes_ Tryz.func108 (by kernel_rfl) rfl #[.slice none 0 0] (by rfl) rfl rfl zA ?_
  refine (places_nil _).mono ?_
  rintro e w3 ⟨rfl, rfl⟩
  refine ⟨_, rfl, ?_⟩
  refine hK.out _ _ ⟨(blk_cell B3.out 0).trans rfl, (blk_cell B3.out 2).trans rfl, (blk_cell B3.out 3).trans rfl, (blk_cell B3.out 4).trans rfl, cf_at BY.out 2 HC.out.c2, cf_at BY.out 19 HC.out.c19, cf_at BY.out 20 HC.out.c20⟩ (fun hHeld => ?_)
  clear hK K
  refine norm_ (a' := ?_) ?_ ?_
  rotate_left
  · show Act.put _ (some 38) _ = _
    simp only [Act.put, List.setIfInBounds_toArray, List.set_cons_zero, List.set_cons_succ, i64_w, i32_w]
    rfl
  refine pureZ (some 39) (bz 34 4294967295) (i := 29) (hc := (by kernel_rfl)) (h := ?_)
  refine pureZ (some 42) (bz 34 8589934591) (i := 32) (v := .bool false) (hc := (by kernel_rfl)) (hy := Or.inl ⟨by rfl, by intro w'; go_simp⟩) (h := ?_)
  refine pureZ (some 43) (bz 34 17179869183) (i := 33) (hc := (by kernel_rfl)) (h := ?_)
  refine done_ (by kernel_rfl) ?_
  have k2 := (blk_cell B3.out 2).trans rfl
  have k1 := (blk_cell B3.out 1).trans rfl
  go_wp2_with (first | fail)
  refine wp_loop_rounds 1 ?_
  rw [rounds_succ]
  go_wp2_with (first | fail)
  refine wp_loop_rounds 1 ?_
  rw [rounds_succ]
  go_wp2_with (first | fail)
  refine (twice_nil _).mono ?_
  rintro e w4 ⟨rfl, hb⟩
  replace HB := Aside0.mk (below_step HB.out hb)
  go_wp2_with (first | fail)
  go_ret
  exact ⟨rfl, HB.out⟩

end Go.Proofs.YteeclengpnjlgaaGreat.I
