import Derived.Test.YteeclengpnjlgaaGreatEmp
import Derived.Deep.AppendSrc
import Derived.Great.BuildSlice
import Derived.KernelRfl
import Derived.Test.YteeclengpnjlgaaGreatEvI
/- A map of one entry, ranged over: its key, sorted. -/
namespace Go.Proofs.YteeclengpnjlgaaGreat.Ev
set_option linter.unusedVariables false
set_option linter.unusedSimpArgs false
open Go.RowKit Go.Shelf
attribute [local go_sem] Oper.semAt_some
theorem run_range_n {P : Program} (w : World) (t k e : TypeId) (ht : P.underlying t = some (.map k e)) {b : Nat} {es : Array MapEntry} {c : Nat} (hb : w.heap[b]? = some (.map es c)) :
    (Instr.range t (.map (some b))).run P w = .ok (.pointer (some ⟨w.heap.size, 0, none⟩)) (w.alloc (.mapIter (some b) c #[] c)) := by
  simp [Instr.range, run_underlying ht, getObj, Sem.run, hb]
/-- Nothing is left. -/
theorem run_next_no {P : Program} (w : World) (ty : TypeId) {r b : Nat} {es : Array MapEntry} {c since last : Nat} {seen : Array Nat} (hr : w.heap[r]? = some (.mapIter (some b) since seen last)) (hb : w.heap[b]? = some (.map es c))
    (h1 : (!seen.isEmpty && !es.isEmpty && es.all (·.born ≥ last)) = false) (h2 : es.filter (fun e => !seen.contains e.born) = #[]) : (Instr.next (.pointer (some ⟨r, 0, none⟩)) false ty).run P w = .ok (.tuple #[.bool false]) w := by
  simp only [Instr.next, getObj, Sem.run_bind, Sem.run, hr, hb, Result.andThen, h1, Bool.false_eq_true, if_false, h2]
  simp [choose, Sem.run, Question.forced]
/-- One entry. -/
theorem run_next_one {P : Program} (w : World) (ty : TypeId) {r b : Nat} {e : MapEntry} {c : Nat} (hr : w.heap[r]? = some (.mapIter (some b) c #[] c)) (hb : w.heap[b]? = some (.map #[e] c)) (h : e.born < c) :
    (Instr.next (.pointer (some ⟨r, 0, none⟩)) false ty).run P w = .ok (.tuple #[.bool true, e.key, e.val]) (w.putObj r (.mapIter (some b) c #[e.born] c)) := by
  have hn : ¬ c ≤ e.born := by omega
  simp only [Instr.next, getObj, Sem.run_bind, Sem.run, hr, hb, Result.andThen]
  simp [choose, Sem.run, Question.forced, h, hn, setObj, hr]
  rfl
theorem run_entry_one {P : Program} (w : World) {r b : Nat} {e : MapEntry} {c since : Nat} (hr : w.heap[r]? = some (.mapIter (some b) since #[e.born] c)) (hb : w.heap[b]? = some (.map #[e] c)) :
    (Instr.entry (.pointer (some ⟨r, 0, none⟩))).run P w = .ok (.tuple #[e.key, e.val]) w := by
  simp [Instr.entry, getObj, Sem.run, hr, hb]
set_option maxRecDepth 100000 in
set_option maxHeartbeats 1000000 in
theorem keysT_1 (F : Fence) (n : Nat) (hf : F.fn 154) (hro : F.round = none) (hn : 1 ≤ n) (l Bm b : Nat) (z : Int) (v : Value) (t c : Nat) (htc : t < c) (J Jx : List Unit → World → Prop) (W : World) (hJ : AbidesFrom W.heap.size J) (hJx : AbidesFrom W.heap.size Jx)
    (hm : W.cell? ⟨Bm, 0, none⟩ = some (.map (some b))) (hb : W.heap[b]? = some (.map #[⟨.int .u32 z, v, t⟩] c)) (h0 : J [] W)
    (hY : ∀ pre x W1, J pre W1 → pre.length < 1 → YieldAt F (n - 1) Tryz.prog l #[.int .u32 z] W1 fun e W' => (e = .returned (.bool true) ∧ J (pre ++ [x]) W' ∧ KeepsWalks W1 W') ∨ (e = .returned (.bool false) ∧ Jx (pre ++ [x]) W')) :
    CallsIn F n Tryz.prog 154 #[.func (.yield l) #[] #[], .pointer (some ⟨Bm, 0, none⟩)] W fun e W' => (∃ v, e = .returned v) ∧ ((∃ xs, xs = [()] ∧ J xs W') ∨ (∃ pre : List Unit, True ∧ Jx pre W')) := by
  refine callsIn_of_wp Tryz.func154 rfl hf ?_ hro
  simp only [Tryz.ntmps154, List.size_toArray, List.length_cons, List.length_nil, Nat.reduceAdd, Nat.reduceSub, Array.replicate_succ, Array.replicate_zero, List.push_toArray, List.append_toArray, List.nil_append, List.cons_append]
  have hlt : b < W.heap.size := (Array.getElem?_eq_some_iff.1 hb).1
  have hrg := run_range_n (P := Tryz.prog) W 182 50 67 Tryz.underlying182 hb
  have hr1 : (W.alloc (.mapIter (some b) c #[] c)).heap[W.heap.size]? = some (.mapIter (some b) c #[] c) := heap_alloc_new W _
  have hb1 : (W.alloc (.mapIter (some b) c #[] c)).heap[b]? = some (.map #[⟨.int .u32 z, v, t⟩] c) := (Below.heap_alloc W _ b hlt).trans hb
  have hnx : ∀ ty, _ := fun ty => run_next_one (P := Tryz.prog) (W.alloc (.mapIter (some b) c #[] c)) ty hr1 hb1 htc
  obtain ⟨W2, hW2⟩ : ∃ W2, (W.alloc (.mapIter (some b) c #[] c)).putObj W.heap.size (.mapIter (some b) c #[t] c) = W2 := ⟨_, rfl⟩
  have hr2 : W2.heap[W.heap.size]? = some (.mapIter (some b) c #[t] c) := by
    rw [← hW2]
    exact World.putObj_heap_same (by simp)
  have hb2 : W2.heap[b]? = some (.map #[⟨.int .u32 z, v, t⟩] c) := by
    rw [← hW2]
    exact (World.putObj_heap_other (by omega)).trans hb1
  simp only [hW2] at hnx
  have hen := run_entry_one (P := Tryz.prog) W2 (e := ⟨.int .u32 z, v, t⟩) hr2 hb2
  have hJ1 : J [] (W.alloc (.mapIter (some b) c #[] c)) := hJ [] W _ none h0 (World.grownBy_alloc W _ none) (fun r e => by cases e)
  have hJ2 : J [] W2 := by
    rw [← hW2]
    exact hJ [] _ _ (some W.heap.size) hJ1 (grownBy_putObj' _ _ _) (fun r e => by cases e; exact ⟨Nat.le_refl _, _, hr1, rfl⟩)
  obtain ⟨fn, tmps, assign, body, hy, hR⟩ := hY [] () W2 hJ2 (by simp)
  gi_wp2
  refine wpIn_loop_rounds 2 ?_
  rw [roundsIn_succ]
  gi_wp2
  refine hR.mono ?_
  rintro e W3 (⟨rfl, hJ3, hk3⟩ | ⟨rfl, hJ3⟩)
  · have hr3 := hk3.same _ _ hr2 rfl
    have hb3 := hk3.same _ _ hb2 rfl
    have hnx3 : ∀ ty, _ := fun ty => run_next_no (P := Tryz.prog) W3 ty hr3 hb3 (by simp [htc]) (by simp)
    gi_wp2
    rw [roundsIn_succ]
    gi_wp2
    go_end0
    exact ⟨⟨_, rfl⟩, .inl ⟨[()], rfl, hJ3⟩⟩
  · gi_wp2
    refine bodyPost_ret (results_none rfl _ _ _) rfl ?_
    exact ⟨⟨_, rfl⟩, .inr ⟨_, trivial, hJ3⟩⟩
theorem keysT_stops1 (F : Fence) (n : Nat) (hf : F.fn 154) (hro : F.round = none) (hn : 1 ≤ n) (Bm b : Nat) (z : Int) (v : Value) (t c : Nat) (htc : t < c) (w : World) (hBm : Bm < w.heap.size) (hm : w.cell? ⟨Bm, 0, none⟩ = some (.map (some b))) (hb : w.heap[b]? = some (.map #[⟨.int .u32 z, v, t⟩] c)) :
    SeqStopsK F n Tryz.prog 154 #[.pointer (some ⟨Bm, 0, none⟩)] (α := Unit) (fun _ => #[.int .u32 z]) KeepsWalks (fun xs => xs = [()]) (fun _ => True) 1 w := fun l J Jx W hW hJ hJx hY h0 =>
  keysT_1 F n hf hro hn l Bm b z v t c htc J Jx W hJ hJx ((hW.cell (p := ⟨Bm, 0, none⟩) hBm).trans hm) ((hW.block b (Array.getElem?_eq_some_iff.1 hb).1).trans hb) h0 hY
theorem info_u32 : ∃ i, Tryz.prog.info? 50 = some i ∧ i.zero = some (.int .u32 0) ∧ i.size = 1 ∧ i.bytes = 4 := by
  have h1 : (Tryz.prog.info? 50).isSome = true := by kernel_rfl
  have h2 : (Tryz.prog.info? 50).map (·.size) = some 1 := by kernel_rfl
  have h3 : (Tryz.prog.info? 50).map (·.bytes) = some 4 := by kernel_rfl
  have h4 : (Tryz.prog.info? 50).bind (·.zero) = some (.int .u32 0) := by kernel_rfl
  obtain ⟨i, hi⟩ := Option.isSome_iff_exists.1 h1
  rw [hi] at h2 h3 h4
  simp only [Option.map_some, Option.some.injEq, Option.bind_some] at h2 h3 h4
  exact ⟨i, hi, h4, h2, h3⟩
theorem build_u32 (z : Int) (W : World) : (Instr.buildSlice 85 1 #[(0, .int .u32 z)]).run Tryz.prog W = .ok (.slice (some ⟨W.heap.size, 0, none⟩) 1 1) (W.alloc (.cells #[.int .u32 z] 50)) := by
  obtain ⟨i, hi, hz, h1, h2⟩ := info_u32
  refine run_buildSlice W 85 50 1 _ _ i _ Tryz.underlying85 hi hz (by rw [h1]; omega) (by rw [h1]; omega) ?_
  rw [h1]
  have hr : Array.range 1 = #[0] := by
    apply Array.ext'
    simp [List.range_succ]
  simp [Instr.fill, Value.cells, hr]
theorem append_u32 (z : Int) (k : Nat) (W : World) (h : W.heap[k]? = some (.cells #[.int .u32 z] 50 (0, 0))) : ∃ cap cc, (Builtin.append_ #[85, 85] 85 #[.slice none 0 0, .slice (some ⟨k, 0, none⟩) 1 1]).run Tryz.prog W = .ok (.slice (some ⟨W.heap.size, 0, none⟩) 1 cap) (W.drew.alloc (.cells cc 50)) ∧ cc[0]? = some (.int .u32 z) ∧ cc.size = cap ∧ 1 ≤ cap := by
  obtain ⟨i, hi, hz, h1, h2⟩ := info_u32
  have hS : Src Tryz.prog i.size 85 (.slice (some ⟨k, 0, none⟩) 1 1) 1 [.int .u32 z] W := by
    rw [h1]
    refine Src.ofSlice W Tryz.underlying85 ⟨k, 0, none⟩ 1 1 _ rfl (fun j u hu => ?_) (fun u hu => ?_)
    · match j, hu with
      | 0, hu =>
        simp at hu
        subst hu
        exact (cell_of_row W k 0 #[.int .u32 z] 50 (0, 0) h).trans rfl
      | j + 1, hu => simp at hu
    · simp at hu
      subst hu
      rfl
  have hg := run_append_grow_src (P := Tryz.prog) W 85 85 85 50 i _ Tryz.underlying85 hi hz none 0 0 [] (run_firstCells_none W.drew i.size 0 0 0) _ 1 _ hS (by omega) (by omega) (by rw [h2]; decide)
  have hge : 1 ≤ grownCap W (0 + 1) 0 50 := grownCap_ge W 1 0 50
  refine ⟨_, _, hg, ?_, ?_, hge⟩
  · rw [Array.getElem?_append_left (by simp)]
    rfl
  · rw [Array.size_append, size_zeroCells]
    show 1 + (_ - 1) * 1 = _
    omega
/-- What stands between two rounds. -/
def ApI (w : World) (z : Int) (pre : List Unit) (W : World) : Prop :=
  ((pre = [] ∧ W.heap[w.heap.size]? = some (.cells #[.slice none 0 0] 85 (0, 0))) ∨
    (pre = [()] ∧ ∃ b cap cc, w.heap.size < b ∧ W.heap[w.heap.size]? = some (.cells #[.slice (some ⟨b, 0, none⟩) 1 cap] 85 (0, 0)) ∧ W.heap[b]? = some (.cells cc 50 (0, 0)) ∧ cc[0]? = some (.int .u32 z) ∧ cc.size = cap ∧ 1 ≤ cap)) ∧ Below w.heap.size w W
theorem own_blk {W W' : World} {row : Option Nat} {k : Nat} {o : Obj} (hg : W.grownBy W' row) (hr : ∀ r, row = some r → ∃ o : Obj, W.heap[r]? = some o ∧ o.isCells = false) (hk : W.heap[k]? = some o) (ho : o.isCells = true) : W'.heap[k]? = some o :=
  (hg.block k (Array.getElem?_eq_some_iff.1 hk).1 (fun e => by
    obtain ⟨o', h1, h2⟩ := hr k e.symm
    rw [hk] at h1
    injection h1 with h1
    subst h1
    rw [ho] at h2
    cases h2)).trans hk
theorem ApI_own (w : World) (z : Int) (B : Nat) (hB : w.heap.size ≤ B) : OwnFrom B (ApI w z) := fun s W W' row hs hg hr => by
  have hr' : ∀ r, row = some r → ∃ o : Obj, W.heap[r]? = some o ∧ o.isCells = false := fun r e => (hr r e).2
  obtain ⟨h1, h2⟩ := hs
  refine ⟨?_, h2.grown hg h2.size (fun k e => Nat.le_trans hB (hr k e).1)⟩
  rcases h1 with ⟨h1, h3⟩ | ⟨h1, b, cap, cc, h3, h4, h5, h6⟩
  · exact .inl ⟨h1, own_blk hg hr' h3 rfl⟩
  · exact .inr ⟨h1, b, cap, cc, h3, own_blk hg hr' h4 rfl, own_blk hg hr' h5 rfl, h6⟩
set_option maxRecDepth 100000 in
set_option maxHeartbeats 1000000 in
theorem appendSeq_1 (F : Fence) (n : Nat) (hf : F.fn 187) (hro : F.round = none) (h1 : 1 ≤ n) (g : Nat) (lb : Array Value) (hFg : F.fn g) (eg : ∀ args w, (callFunc g args).run Tryz.prog w = .ok (.enter g args) w) (z : Int) (w : World)
    (hseq : SeqStopsK F (n - 1) Tryz.prog g lb (α := Unit) (fun _ => #[.int .u32 z]) KeepsWalks (fun xs => xs = [()]) (fun _ => True) 1 w) :
    CallsIn F n Tryz.prog 187 #[.slice none 0 0, .func (.func g) #[] lb] w fun e w' => ∃ b cap cc, e = .returned (.slice (some ⟨b, 0, none⟩) 1 cap) ∧ w.heap.size ≤ b ∧ w'.heap[b]? = some (.cells cc 50 (0, 0)) ∧ cc[0]? = some (.int .u32 z) ∧ cc.size = cap ∧ 1 ≤ cap ∧ Below w.heap.size w w' := by
  refine callsIn_of_wp_marks Tryz.func187 rfl hf ?_ hro
  simp only [Tryz.ntmps187, List.size_toArray, List.length_cons, List.length_nil, Nat.reduceAdd, Nat.reduceSub, Array.replicate_succ, Array.replicate_zero, List.push_toArray, List.append_toArray, List.nil_append, List.cons_append]
  gi_wp2
  refine wpIn_rangeFunc_ownF hro h1 (gf := g) (lb := lb) rfl hFg eg hseq (fun h k => h.trans k) (fun W l o o' hl hlo hc hw => KeepsWalks.putObj _ hlo hw) ((Below.refl _ w).alloc (Nat.le_refl _) _) (fun _ => rfl)
    (ApI w z) (fun _ _ _ => False) (ApI_own w z _ (by simp)) (fun _ => (Own.from (fun _ _ _ _ hs _ _ => hs) _))
    ⟨.inl ⟨rfl, heap_alloc_new w _⟩, (Below.refl _ w).alloc (Nat.le_refl _) _⟩
    (fun _ => { tmps := #[.slice none 0 0, .func (.func g) #[] lb, .pointer (some ⟨w.heap.size, 0, none⟩), undef, .slice none 0 0, .int .u32 z, .func (.func g) #[] lb, .int .u32 z, undef, undef, undef, undef, undef], defers := [] }) ?assign ?body ?done ?stop
  case assign =>
    intro l x W K hK
    gi_wp2
    exact hK
  case body =>
    rintro l pre x W ⟨hI, hB⟩ hlen
    have hpre : pre = [] := List.eq_nil_of_length_eq_zero (by omega)
    subst hpre
    rcases hI with ⟨_, hbx⟩ | ⟨h, _⟩
    · have hc : W.cell? ⟨w.heap.size, 0, none⟩ = some (.slice none 0 0) := (cell_of_row W w.heap.size 0 _ 85 (0, 0) hbx).trans rfl
      have hwl : w.heap.size < W.heap.size := (Array.getElem?_eq_some_iff.1 hbx).1
      have hbs := build_u32 z W
      obtain ⟨W1, hW1⟩ : ∃ W1, W.alloc (.cells #[.int .u32 z] 50) = W1 := ⟨_, rfl⟩
      rw [hW1] at hbs
      have hs1 : W1.heap.size = W.heap.size + 1 := by rw [← hW1]; simp
      have hk1 : W1.heap[W.heap.size]? = some (.cells #[.int .u32 z] 50 (0, 0)) := by rw [← hW1]; exact heap_alloc_new W _
      obtain ⟨cap, cc, hap, hc0, hcs, hcap⟩ := append_u32 z W.heap.size W1 hk1
      obtain ⟨W2, hW2⟩ : ∃ W2, W1.drew.alloc (.cells cc 50) = W2 := ⟨_, rfl⟩
      rw [hW2] at hap
      have hbx1 : W1.heap[w.heap.size]? = some (.cells #[.slice none 0 0] 85 (0, 0)) := by rw [← hW1]; exact (Below.heap_alloc W _ _ hwl).trans hbx
      have hbx2 : W2.heap[w.heap.size]? = some (.cells #[.slice none 0 0] 85 (0, 0)) := by rw [← hW2]; exact (Below.heap_alloc W1.drew _ _ (by simp; omega)).trans hbx1
      have hc2 : W2.cell? ⟨w.heap.size, 0, none⟩ = some (.slice none 0 0) := (cell_of_row W2 w.heap.size 0 _ 85 (0, 0) hbx2).trans rfl
      have hf2 : W2.frozen? ⟨w.heap.size, 0, none⟩ = false := by simp [World.frozen?, hbx2]
      have hcd : W1.drew.cell? ⟨W.heap.size, 0, none⟩ = some (.int .u32 z) := (cell_of_row W1.drew W.heap.size 0 _ 50 (0, 0) hk1).trans rfl
      have hcd1 : W1.cell? ⟨W.heap.size, 0, none⟩ = some (.int .u32 z) := (cell_of_row W1 W.heap.size 0 _ 50 (0, 0) hk1).trans rfl
      have hc1 : W1.cell? ⟨w.heap.size, 0, none⟩ = some (.slice none 0 0) := (cell_of_row W1 w.heap.size 0 _ 85 (0, 0) hbx1).trans rfl
      have hf1 : W1.frozen? ⟨w.heap.size, 0, none⟩ = false := by simp [World.frozen?, hbx1]
      have hl1 : w.heap.size < W1.heap.size := by omega
      have hl2 : w.heap.size < W.heap.size + 1 := by omega
      have hca : ∀ o, (W1.alloc o).drew.cell? ⟨w.heap.size, 0, none⟩ = some (.slice none 0 0) := fun o => (cell_of_row _ w.heap.size 0 _ 85 (0, 0) ((Below.heap_alloc W1 o _ hl1).trans hbx1)).trans rfl
      have hfa : ∀ o, (W1.alloc o).drew.frozen? ⟨w.heap.size, 0, none⟩ = false := fun o => by
        have : (W1.alloc o).drew.heap[w.heap.size]? = some (.cells #[.slice none 0 0] 85 (0, 0)) := (Below.heap_alloc W1 o _ hl1).trans hbx1
        simp [World.frozen?, this]
      clear hap hc2 hf2 hbx2
      gi_wp2
      obtain ⟨cp, hcp⟩ : ∃ cp, (Question.appendCap 1 0 50).cut (W1.tape W1.drawn (Question.appendCap 1 0 50)) = cp := ⟨_, rfl⟩
      have hge : 1 ≤ cp := by rw [← hcp]; exact grownCap_ge W1 1 0 50
      rw [hcp]
      obtain ⟨v, hv⟩ : ∃ v, (Value.slice (some ⟨W.heap.size + 1, 0, none⟩) 1 cp) = v := ⟨_, rfl⟩
      have hbox : (W1.setCell ⟨w.heap.size, 0, none⟩ v).heap[w.heap.size]? = some (.cells #[v] 85 (0, 0)) := by simp [World.setCell, Array.getElem?_modify, hbx1]
      have hsz : (W1.setCell ⟨w.heap.size, 0, none⟩ v).heap.size = W.heap.size + 1 := by
        show (W1.heap.modify _ _).size = _
        rw [Array.size_modify, hs1]
      refine ⟨?_, ?_, .inr ⟨rfl, W.heap.size + 1, cp, #[Value.int .u32 z] ++ Builtin.zeroCells #[Value.int .u32 0] (cp - 1), by omega, ?_, ?_, ?_, ?_, hge⟩, ?_⟩
      · refine KeepsOthers.trans (B := W1) (by rw [← hW1]; exact KeepsOthers.alloc W _) (KeepsOthers.trans (KeepsOthers.setCell W1 _ _) (KeepsOthers.trans (KeepsOthers.alloc _ _) (KeepsOthers.drew _)))
      · refine KeepsWalks.trans (B := W1) (by rw [← hW1]; exact KeepsWalks.alloc W _) (KeepsWalks.trans (KeepsWalks.setCell W1 _ _) (KeepsWalks.trans (KeepsWalks.alloc _ _) ⟨Nat.le_refl _, fun _ _ h _ => h⟩))
      · rw [hv]
        exact (Below.heap_alloc _ _ _ (by rw [hsz]; omega)).trans hbox
      · rw [hv]
        have := heap_alloc_new (W1.setCell ⟨w.heap.size, 0, none⟩ v) (.cells (#[Value.int .u32 z] ++ Builtin.zeroCells #[Value.int .u32 0] (cp - 1)) 50)
        rw [hsz] at this
        exact this
      · rw [Array.getElem?_append_left (by simp)]
        rfl
      · rw [Array.size_append, size_zeroCells]
        show 1 + (cp - 1) * 1 = _
        omega
      · rw [hv]
        have b1 : Below w.heap.size w W1 := by rw [← hW1]; exact hB.alloc hB.size _
        refine ⟨b1.os, b1.tape, b1.output, ?_, fun k hk => ?_⟩
        · show _ ≤ ((W1.setCell ⟨w.heap.size, 0, none⟩ v).alloc _).heap.size
          rw [World.size_alloc, hsz]
          omega
        · refine ((Below.heap_alloc _ _ _ (by rw [hsz]; omega)).trans ?_).trans (b1.block k hk)
          show (W1.heap.modify _ _)[k]? = _
          rw [Array.getElem?_modify, if_neg (fun e : w.heap.size = k => by omega)]
    · cases h
  case done =>
    rintro D ys W hD rfl ⟨hI, hB⟩ hK
    rcases hI with ⟨h, _⟩ | ⟨_, b, cap, cc, h1, h2, h3, h4, h5, h6⟩
    · cases h
    · have hc : W.cell? ⟨w.heap.size, 0, none⟩ = some (.slice (some ⟨b, 0, none⟩) 1 cap) := (cell_of_row W w.heap.size 0 _ 85 (0, 0) h2).trans rfl
      gi_wp2
      refine ⟨by simp, .inl ⟨_, _, rfl, run_takeDeferred hK, ?_⟩⟩
      refine ⟨_, results_tmp rfl _ _ _, b, cap, rfl, by omega, cc, ?_, h4, h5, h6, hB.trans (belowK_b (w := w) (Nat.le_refl _) W D _ _ (by simp at hD; omega) hK rfl rfl)⟩
      have hne : D ≠ b := fun e => by subst e; rw [hK] at h3; cases h3
      exact (World.putObj_heap_other (fun e => hne e.symm)).trans h3
  case stop =>
    rintro D c pre W _ _ h _
    exact h.elim
set_option maxRecDepth 100000 in
set_option maxHeartbeats 1000000 in
theorem collect_1 (F : Fence) (n : Nat) (hf : F.fn 152) (hf2 : F.fn 187) (hro : F.round = none) (h1 : 2 ≤ n) (g : Nat) (lb : Array Value) (hFg : F.fn g) (eg : ∀ args w, (callFunc g args).run Tryz.prog w = .ok (.enter g args) w) (z : Int) (w : World)
    (hseq : SeqStopsK F (n - 1 - 1) Tryz.prog g lb (α := Unit) (fun _ => #[.int .u32 z]) KeepsWalks (fun xs => xs = [()]) (fun _ => True) 1 w) :
    CallsIn F n Tryz.prog 152 #[.func (.func g) #[] lb] w fun e w' => ∃ b cap cc, e = .returned (.slice (some ⟨b, 0, none⟩) 1 cap) ∧ w.heap.size ≤ b ∧ w'.heap[b]? = some (.cells cc 50 (0, 0)) ∧ cc[0]? = some (.int .u32 z) ∧ cc.size = cap ∧ 1 ≤ cap ∧ Below w.heap.size w w' := by
  have h1' : 1 ≤ n := by omega
  refine callsIn_of_wp Tryz.func152 rfl hf ?_ hro
  simp only [Tryz.ntmps152, List.size_toArray, List.length_cons, List.length_nil, Nat.reduceAdd, Nat.reduceSub, Array.replicate_succ, Array.replicate_zero, List.push_toArray, List.append_toArray, List.nil_append, List.cons_append]
  gi_wp2_with (gi_at_call 187; refine (appendSeq_1 F (n - 1) hf2 hro (by omega) g lb hFg eg z _ hseq).mono ?_; rintro e w' ⟨b, cap, cc, rfl, hb⟩)
  go_ret
  exact ⟨b, cap, cc, rfl, hb⟩
set_option maxRecDepth 100000 in
theorem len64_1 (w : World) : Calls Tryz.prog 228 #[.int .u64 1] w fun e w' => (∃ v : Int, e = .returned (.int .i64 v)) ∧ w' = w := by
  go_enter Tryz.func228, Tryz.ntmps228
  go_wp2_with (first | fail)
  go_ret
  exact ⟨⟨_, rfl⟩, rfl⟩
set_option maxRecDepth 100000 in
theorem len_1 (w : World) : Calls Tryz.prog 189 #[.int .u64 1] w fun e w' => (∃ v : Int, e = .returned (.int .i64 v)) ∧ w' = w := by
  go_enter Tryz.func189, Tryz.ntmps189
  go_wp2_with (first | (go_at_call 228; refine (len64_1 _).mono ?_; rintro e w' ⟨⟨v, rfl⟩, rfl⟩) | fail)
  go_ret
  exact ⟨⟨_, rfl⟩, rfl⟩
set_option maxRecDepth 100000 in
theorem ins_1 (p : Option Addr) (cap : Nat) (w : World) : Calls Tryz.prog 218 #[.slice p 1 cap, .int .i64 0, .int .i64 1] w fun e w' => e = .returned (.tuple #[]) ∧ w' = w := by
  go_enter Tryz.func218, Tryz.ntmps218
  go_wp2_with (first | fail)
  refine wp_loop_rounds 1 ?_
  rw [rounds_succ]
  go_wp2_with (first | fail)
  go_end0
  exact ⟨rfl, rfl⟩
set_option maxRecDepth 100000 in
theorem pdq_1 (p : Option Addr) (cap : Nat) (lim : Int) (w : World) : Calls Tryz.prog 188 #[.slice p 1 cap, .int .i64 0, .int .i64 1, .int .i64 lim] w fun e w' => e = .returned (.tuple #[]) ∧ w' = w := by
  go_enter Tryz.func188, Tryz.ntmps188
  go_wp2_with (first | fail)
  refine wp_loop_rounds 1 ?_
  rw [rounds_succ]
  go_wp2_with (first | (go_at_call 218; refine (ins_1 p cap _).mono ?_; rintro e w' ⟨rfl, rfl⟩) | fail)
  refine bodyPost_ret (results_none rfl _ _ _) rfl ?_
  exact ⟨rfl, rfl⟩
set_option maxRecDepth 100000 in
theorem sort_1 (p : Option Addr) (cap : Nat) (w : World) : Calls Tryz.prog 153 #[.slice p 1 cap] w fun e w' => e = .returned (.tuple #[]) ∧ w' = w := by
  go_enter Tryz.func153, Tryz.ntmps153
  go_wp2_with (first | (go_at_call 189; refine (len_1 _).mono ?_; rintro e w' ⟨⟨v, rfl⟩, rfl⟩) | (go_at_call 188; refine (pdq_1 p cap _ _).mono ?_; rintro e w' ⟨rfl, rfl⟩) | fail)
  go_end0
  exact ⟨rfl, rfl⟩
set_option maxRecDepth 100000 in
set_option maxHeartbeats 1000000 in
theorem sorted_1 (w : World) (Bm b : Nat) (z : Int) (v : Value) (t c : Nat) (htc : t < c) (hBm : Bm < w.heap.size) (hm : w.cell? ⟨Bm, 0, none⟩ = some (.map (some b))) (hb : w.heap[b]? = some (.map #[⟨.int .u32 z, v, t⟩] c)) :
    Calls Tryz.prog 102 #[.func (.func 154) #[] #[.pointer (some ⟨Bm, 0, none⟩)]] w fun e w' => ∃ b cap cc, e = .returned (.slice (some ⟨b, 0, none⟩) 1 cap) ∧ w.heap.size ≤ b ∧ w'.heap[b]? = some (.cells cc 50 (0, 0)) ∧ cc[0]? = some (.int .u32 z) ∧ cc.size = cap ∧ 1 ≤ cap ∧ Below w.heap.size w w' := by
  refine (callsIn_wide (n := 6)).1 ?_
  refine callsIn_of_wp Tryz.func102 rfl trivial ?_ rfl
  simp only [Tryz.ntmps102, List.size_toArray, List.length_cons, List.length_nil, Nat.reduceAdd, Nat.reduceSub, Array.replicate_succ, Array.replicate_zero, List.push_toArray, List.append_toArray, List.nil_append, List.cons_append]
  gi_wp2_with (first | (refine ⟨trivial, ?_⟩; gi_at_call 152; refine (collect_1 _ 5 trivial trivial rfl (by omega) 154 _ trivial (enters_of Tryz.func154 (by kernel_rfl) rfl) z _ (keysT_stops1 _ _ trivial rfl (by omega) Bm b z v t c htc _ hBm hm hb)).mono ?_; rintro e w' ⟨b, cap, cc, rfl, hb⟩) | (refine ⟨trivial, ?_⟩; gi_at_call 153; refine (callsIn_wide.2 (sort_1 _ _ _)).mono ?_; rintro e w' ⟨rfl, rfl⟩))
  go_ret
  exact ⟨b, cap, cc, rfl, hb⟩
end Go.Proofs.YteeclengpnjlgaaGreat.Ev
