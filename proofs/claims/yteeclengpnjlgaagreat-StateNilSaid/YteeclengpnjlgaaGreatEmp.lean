import Derived.Test.YteeclengpnjlgaaGreatProg
import Derived.RangeFuncNested
import Derived.RangeFuncBound
import Derived.RangeFuncCalls
import Derived.RangeFuncLeaves
import Derived.RangeFuncStops
import Derived.Shelf.Abstract
import Derived.Shelf.RegionOpen
import Derived.WalkKit
import Derived.OwnWalkIn
import Derived.TacticsInMore
import Derived.LoopNIn
import Derived.LoopIn
import Derived.Laws.IdiomRangeMap
namespace Go.Proofs
set_option linter.unusedVariables false
open Go.RowKit Go.Shelf
attribute [local go_sem] Oper.semAt_some
theorem run_range_e {P : Program} (w : World) (t k e : TypeId) (ht : P.underlying t = some (.map k e)) {b : Nat} (hb : w.heap[b]? = some (.map #[] 0)) :
    (Instr.range t (.map (some b))).run P w = .ok (.pointer (some ⟨w.heap.size, 0, none⟩)) (w.alloc (.mapIter (some b) 0 #[] 0)) := by
  simp [Instr.range, run_underlying ht, getObj, Sem.run, hb]
theorem run_next_e {P : Program} (w : World) (ty : TypeId) {b : Nat} (hb : w.heap[b]? = some (.map #[] 0)) :
    (Instr.next (.pointer (some ⟨w.heap.size, 0, none⟩)) false ty).run P (w.alloc (.mapIter (some b) 0 #[] 0)) = .ok (.tuple #[.bool false]) (w.alloc (.mapIter (some b) 0 #[] 0)) := by
  rcases run_next_map (P := P) w ty b 0 0 #[] #[] 0 hb (by simp) (Nat.le_refl _) with ⟨_, h⟩ | ⟨e, he, _⟩
  · exact h
  · simp [leftOf] at he
set_option maxRecDepth 100000 in
set_option maxHeartbeats 1000000 in
theorem keysT_in {α : Type} (F : Fence) (n : Nat) (hf : F.fn 154) (hro : F.round = none) (l Bm b : Nat) (J : List α → World → Prop) (W : World) (hJ : AbidesFrom W.heap.size J)
    (hm : W.cell? ⟨Bm, 0, none⟩ = some (.map (some b))) (hb : W.heap[b]? = some (.map #[] 0)) (h0 : J [] W) :
    CallsIn F n Tryz.prog 154 #[.func (.yield l) #[] #[], .pointer (some ⟨Bm, 0, none⟩)] W fun e W' => (∃ v, e = .returned v) ∧ J [] W' := by
  refine callsIn_of_wp Tryz.func154 rfl hf ?_ hro
  simp only [Tryz.ntmps154, List.size_toArray, List.length_cons, List.length_nil, Nat.reduceAdd, Nat.reduceSub, Array.replicate_succ, Array.replicate_zero, List.push_toArray, List.append_toArray, List.nil_append, List.cons_append]
  have hrg := run_range_e (P := Tryz.prog) W 182 50 67 Tryz.underlying182 hb
  have hnx : ∀ ty, (Instr.next (.pointer (some ⟨W.heap.size, 0, none⟩)) false ty).run Tryz.prog (W.alloc (.mapIter (some b) 0 #[] 0)) = _ := fun ty => run_next_e W ty hb
  gi_wp2
  refine wpIn_loop_rounds 1 ?_
  rw [roundsIn_succ]
  gi_wp2
  go_end0
  exact ⟨⟨_, rfl⟩, hJ [] W _ none h0 (World.grownBy_alloc W _ none) (fun r e => by cases e)⟩
theorem keysT_stops (F : Fence) (n : Nat) (hf : F.fn 154) (hro : F.round = none) (Bm b : Nat) (w : World) (hBm : Bm < w.heap.size) (hm : w.cell? ⟨Bm, 0, none⟩ = some (.map (some b))) (hb : w.heap[b]? = some (.map #[] 0)) :
    SeqStopsK F n Tryz.prog 154 #[.pointer (some ⟨Bm, 0, none⟩)] (α := Empty) (fun _ => #[.bool false]) (fun _ _ => True) (fun _ => True) (fun _ => False) 0 w := fun l J Jx W hW hJ hJx hY h0 =>
  (keysT_in F n hf hro l Bm b J W hJ ((hW.cell (p := ⟨Bm, 0, none⟩) hBm).trans hm) ((hW.block b (Array.getElem?_eq_some_iff.1 hb).1).trans hb) h0).mono fun _ _ ⟨he, hj⟩ => ⟨he, .inl ⟨[], trivial, hj⟩⟩
set_option maxRecDepth 100000 in
set_option maxHeartbeats 1000000 in
theorem appendSeq_e (F : Fence) (n : Nat) (hf : F.fn 187) (hro : F.round = none) (h1 : 1 ≤ n) (g : Nat) (lb : Array Value) (hFg : F.fn g) (eg : ∀ args w, (callFunc g args).run Tryz.prog w = .ok (.enter g args) w) (w : World)
    (hseq : SeqStopsK F (n - 1) Tryz.prog g lb (α := Empty) (fun _ => #[.bool false]) (fun _ _ => True) (fun _ => True) (fun _ => False) 0 w) :
    CallsIn F n Tryz.prog 187 #[.slice none 0 0, .func (.func g) #[] lb] w fun e w' => e = .returned (.slice none 0 0) ∧ Below w.heap.size w w' := by
  refine callsIn_of_wp_marks Tryz.func187 rfl hf ?_ hro
  simp only [Tryz.ntmps187, List.size_toArray, List.length_cons, List.length_nil, Nat.reduceAdd, Nat.reduceSub, Array.replicate_succ, Array.replicate_zero, List.push_toArray, List.append_toArray, List.nil_append, List.cons_append]
  gi_wp2
  refine wpIn_rangeFunc_ownF hro h1 (gf := g) (lb := lb) rfl hFg eg hseq (fun _ _ => trivial) (fun _ _ _ _ _ _ _ _ => trivial) ((Below.refl _ w).alloc (Nat.le_refl _) _) (fun _ => rfl)
    (fun pre W => W.cell? ⟨w.heap.size, 0, none⟩ = some (.slice none 0 0) ∧ Below w.heap.size w W)
    (fun _ _ _ => False)
    (OwnFrom.and (Own.from (fun s A B row hs hg hr => cell_kept hs hg hr) _) (ownFrom_below (Nat.le_refl _) (by simp)))
    (fun _ => (Own.from (fun _ _ _ _ hs _ _ => hs) _))
    ⟨(cell_of_row _ w.heap.size 0 #[.slice none 0 0] 85 (0, 0) (heap_alloc_new w _)).trans rfl, (Below.refl _ w).alloc (Nat.le_refl _) _⟩
    (fun x => nomatch x) ?assign ?body ?done ?stop
  case assign => intro l x; exact nomatch x
  case body => intro l pre x; exact nomatch x
  case done =>
    rintro D ys W hD _ ⟨hc, hB⟩ hK
    gi_wp2
    refine ⟨by simp, .inl ⟨_, _, rfl, run_takeDeferred hK, ?_⟩⟩
    exact ⟨_, results_tmp rfl _ _ _, rfl, hB.trans (belowK_b (w := w) (Nat.le_refl _) W D _ _ (by simp at hD; omega) hK rfl rfl)⟩
  case stop =>
    rintro D c pre W _ _ h _
    exact h.elim
set_option maxRecDepth 100000 in
set_option maxHeartbeats 1000000 in
theorem collect_e (F : Fence) (n : Nat) (hf : F.fn 152) (hf2 : F.fn 187) (hro : F.round = none) (h1 : 2 ≤ n) (g : Nat) (lb : Array Value) (hFg : F.fn g) (eg : ∀ args w, (callFunc g args).run Tryz.prog w = .ok (.enter g args) w) (w : World)
    (hseq : SeqStopsK F (n - 1 - 1) Tryz.prog g lb (α := Empty) (fun _ => #[.bool false]) (fun _ _ => True) (fun _ => True) (fun _ => False) 0 w) :
    CallsIn F n Tryz.prog 152 #[.func (.func g) #[] lb] w fun e w' => e = .returned (.slice none 0 0) ∧ Below w.heap.size w w' := by
  have h1' : 1 ≤ n := by omega
  refine callsIn_of_wp Tryz.func152 rfl hf ?_ hro
  simp only [Tryz.ntmps152, List.size_toArray, List.length_cons, List.length_nil, Nat.reduceAdd, Nat.reduceSub, Array.replicate_succ, Array.replicate_zero, List.push_toArray, List.append_toArray, List.nil_append, List.cons_append]
  gi_wp2_with (gi_at_call 187; refine (appendSeq_e F (n - 1) hf2 hro (by omega) g lb hFg eg _ hseq).mono ?_; rintro e w' ⟨rfl, hb⟩)
  go_ret
  exact ⟨rfl, hb⟩
set_option maxRecDepth 100000 in
set_option maxHeartbeats 1000000 in
theorem keysC_in {α : Type} (F : Fence) (n : Nat) (hf : F.fn 155) (hro : F.round = none) (l Bm b : Nat) (J : List α → World → Prop) (W : World) (hJ : AbidesFrom W.heap.size J)
    (hm : W.cell? ⟨Bm, 0, none⟩ = some (.map (some b))) (hb : W.heap[b]? = some (.map #[] 0)) (h0 : J [] W) :
    CallsIn F n Tryz.prog 155 #[.func (.yield l) #[] #[], .pointer (some ⟨Bm, 0, none⟩)] W fun e W' => (∃ v, e = .returned v) ∧ J [] W' := by
  refine callsIn_of_wp Tryz.func155 rfl hf ?_ hro
  simp only [Tryz.ntmps155, List.size_toArray, List.length_cons, List.length_nil, Nat.reduceAdd, Nat.reduceSub, Array.replicate_succ, Array.replicate_zero, List.push_toArray, List.append_toArray, List.nil_append, List.cons_append]
  have hrg := run_range_e (P := Tryz.prog) W 115 50 64 Tryz.underlying115 hb
  have hnx : ∀ ty, (Instr.next (.pointer (some ⟨W.heap.size, 0, none⟩)) false ty).run Tryz.prog (W.alloc (.mapIter (some b) 0 #[] 0)) = _ := fun ty => run_next_e W ty hb
  gi_wp2
  refine wpIn_loop_rounds 1 ?_
  rw [roundsIn_succ]
  gi_wp2
  go_end0
  exact ⟨⟨_, rfl⟩, hJ [] W _ none h0 (World.grownBy_alloc W _ none) (fun r e => by cases e)⟩
theorem keysC_stops (F : Fence) (n : Nat) (hf : F.fn 155) (hro : F.round = none) (Bm b : Nat) (w : World) (hBm : Bm < w.heap.size) (hm : w.cell? ⟨Bm, 0, none⟩ = some (.map (some b))) (hb : w.heap[b]? = some (.map #[] 0)) :
    SeqStopsK F n Tryz.prog 155 #[.pointer (some ⟨Bm, 0, none⟩)] (α := Empty) (fun _ => #[.bool false]) (fun _ _ => True) (fun _ => True) (fun _ => False) 0 w := fun l J Jx W hW hJ hJx hY h0 =>
  (keysC_in F n hf hro l Bm b J W hJ ((hW.cell (p := ⟨Bm, 0, none⟩) hBm).trans hm) ((hW.block b (Array.getElem?_eq_some_iff.1 hb).1).trans hb) h0).mono fun _ _ ⟨he, hj⟩ => ⟨he, .inl ⟨[], trivial, hj⟩⟩
set_option maxRecDepth 100000 in
theorem len64_0 (w : World) : Calls Tryz.prog 228 #[.int .u64 0] w fun e w' => (∃ v : Int, e = .returned (.int .i64 v)) ∧ w' = w := by
  go_enter Tryz.func228, Tryz.ntmps228
  go_wp2_with (first | fail)
  go_ret
  exact ⟨⟨_, rfl⟩, rfl⟩
set_option maxRecDepth 100000 in
theorem len_0 (w : World) : Calls Tryz.prog 189 #[.int .u64 0] w fun e w' => (∃ v : Int, e = .returned (.int .i64 v)) ∧ w' = w := by
  go_enter Tryz.func189, Tryz.ntmps189
  go_wp2_with (first | (go_at_call 228; refine (len64_0 _).mono ?_; rintro e w' ⟨⟨v, rfl⟩, rfl⟩) | fail)
  go_ret
  exact ⟨⟨_, rfl⟩, rfl⟩
set_option maxRecDepth 100000 in
theorem ins_0 (p : Option Addr) (cap : Nat) (w : World) : Calls Tryz.prog 218 #[.slice p 0 cap, .int .i64 0, .int .i64 0] w fun e w' => e = .returned (.tuple #[]) ∧ w' = w := by
  go_enter Tryz.func218, Tryz.ntmps218
  go_wp2_with (first | fail)
  refine wp_loop_rounds 1 ?_
  rw [rounds_succ]
  go_wp2_with (first | fail)
  go_end0
  exact ⟨rfl, rfl⟩
set_option maxRecDepth 100000 in
theorem pdq_0 (p : Option Addr) (cap : Nat) (lim : Int) (w : World) : Calls Tryz.prog 188 #[.slice p 0 cap, .int .i64 0, .int .i64 0, .int .i64 lim] w fun e w' => e = .returned (.tuple #[]) ∧ w' = w := by
  go_enter Tryz.func188, Tryz.ntmps188
  go_wp2_with (first | fail)
  refine wp_loop_rounds 1 ?_
  rw [rounds_succ]
  go_wp2_with (first | (go_at_call 218; refine (ins_0 p cap _).mono ?_; rintro e w' ⟨rfl, rfl⟩) | fail)
  refine bodyPost_ret (results_none rfl _ _ _) rfl ?_
  exact ⟨rfl, rfl⟩
set_option maxRecDepth 100000 in
theorem sort_0 (p : Option Addr) (cap : Nat) (w : World) : Calls Tryz.prog 153 #[.slice p 0 cap] w fun e w' => e = .returned (.tuple #[]) ∧ w' = w := by
  go_enter Tryz.func153, Tryz.ntmps153
  go_wp2_with (first | (go_at_call 189; refine (len_0 _).mono ?_; rintro e w' ⟨⟨v, rfl⟩, rfl⟩) | (go_at_call 188; refine (pdq_0 p cap _ _).mono ?_; rintro e w' ⟨rfl, rfl⟩) | fail)
  go_end0
  exact ⟨rfl, rfl⟩
set_option maxRecDepth 100000 in
set_option maxHeartbeats 1000000 in
theorem sorted_e (w : World) (Bm b : Nat) (hBm : Bm < w.heap.size) (hm : w.cell? ⟨Bm, 0, none⟩ = some (.map (some b))) (hb : w.heap[b]? = some (.map #[] 0)) :
    Calls Tryz.prog 102 #[.func (.func 154) #[] #[.pointer (some ⟨Bm, 0, none⟩)]] w fun e w' => e = .returned (.slice none 0 0) ∧ Below w.heap.size w w' := by
  refine (callsIn_wide (n := 5)).1 ?_
  refine callsIn_of_wp Tryz.func102 rfl trivial ?_ rfl
  simp only [Tryz.ntmps102, List.size_toArray, List.length_cons, List.length_nil, Nat.reduceAdd, Nat.reduceSub, Array.replicate_succ, Array.replicate_zero, List.push_toArray, List.append_toArray, List.nil_append, List.cons_append]
  gi_wp2_with (first | (refine ⟨trivial, ?_⟩; gi_at_call 152; refine (collect_e _ 4 trivial trivial rfl (by omega) 154 _ trivial (enters_of Tryz.func154 (by kernel_rfl) rfl) _ (keysT_stops _ _ trivial rfl Bm b _ hBm hm hb)).mono ?_; rintro e w' ⟨rfl, hb⟩) | (refine ⟨trivial, ?_⟩; gi_at_call 153; refine (callsIn_wide.2 (sort_0 none 0 _)).mono ?_; rintro e w' ⟨rfl, rfl⟩))
  go_ret
  exact ⟨rfl, hb⟩
set_option maxRecDepth 100000 in
set_option maxHeartbeats 1000000 in
theorem sortedC_e (w : World) (Bm b : Nat) (hBm : Bm < w.heap.size) (hm : w.cell? ⟨Bm, 0, none⟩ = some (.map (some b))) (hb : w.heap[b]? = some (.map #[] 0)) :
    Calls Tryz.prog 102 #[.func (.func 155) #[] #[.pointer (some ⟨Bm, 0, none⟩)]] w fun e w' => e = .returned (.slice none 0 0) ∧ Below w.heap.size w w' := by
  refine (callsIn_wide (n := 5)).1 ?_
  refine callsIn_of_wp Tryz.func102 rfl trivial ?_ rfl
  simp only [Tryz.ntmps102, List.size_toArray, List.length_cons, List.length_nil, Nat.reduceAdd, Nat.reduceSub, Array.replicate_succ, Array.replicate_zero, List.push_toArray, List.append_toArray, List.nil_append, List.cons_append]
  gi_wp2_with (first | (refine ⟨trivial, ?_⟩; gi_at_call 152; refine (collect_e _ 4 trivial trivial rfl (by omega) 155 _ trivial (enters_of Tryz.func155 (by kernel_rfl) rfl) _ (keysC_stops _ _ trivial rfl Bm b _ hBm hm hb)).mono ?_; rintro e w' ⟨rfl, hb⟩) | (refine ⟨trivial, ?_⟩; gi_at_call 153; refine (callsIn_wide.2 (sort_0 none 0 _)).mono ?_; rintro e w' ⟨rfl, rfl⟩))
  go_ret
  exact ⟨rfl, hb⟩
set_option maxRecDepth 100000 in
set_option maxHeartbeats 1000000 in
theorem valsV_in {α : Type} (F : Fence) (n : Nat) (hf : F.fn 201) (hro : F.round = none) (l Bm : Nat) (J : List α → World → Prop) (W : World)
    (hm : W.cell? ⟨Bm, 0, none⟩ = some (.slice none 0 0)) (h0 : J [] W) :
    CallsIn F n Tryz.prog 201 #[.func (.yield l) #[] #[], .pointer (some ⟨Bm, 0, none⟩)] W fun e W' => (∃ v, e = .returned v) ∧ J [] W' := by
  refine callsIn_of_wp Tryz.func201 rfl hf ?_ hro
  simp only [Tryz.ntmps201, List.size_toArray, List.length_cons, List.length_nil, Nat.reduceAdd, Nat.reduceSub, Array.replicate_succ, Array.replicate_zero, List.push_toArray, List.append_toArray, List.nil_append, List.cons_append]
  gi_wp2
  refine wpIn_loop_rounds 1 ?_
  rw [roundsIn_succ]
  gi_wp2
  go_end0
  exact ⟨⟨_, rfl⟩, h0⟩
theorem valsV_stops (F : Fence) (n : Nat) (hf : F.fn 201) (hro : F.round = none) (Bm : Nat) (w : World) (hBm : Bm < w.heap.size) (hm : w.cell? ⟨Bm, 0, none⟩ = some (.slice none 0 0)) :
    SeqStopsK F n Tryz.prog 201 #[.pointer (some ⟨Bm, 0, none⟩)] (α := Empty) (fun _ => #[.bool false]) (fun _ _ => True) (fun _ => True) (fun _ => False) 0 w := fun l J Jx W hW hJ hJx hY h0 =>
  (valsV_in F n hf hro l Bm J W ((hW.cell (p := ⟨Bm, 0, none⟩) hBm).trans hm) h0).mono fun _ _ ⟨he, hj⟩ => ⟨he, .inl ⟨[], trivial, hj⟩⟩
set_option maxRecDepth 100000 in
set_option maxHeartbeats 1000000 in
theorem sortedV_e (w : World) (Bm : Nat) (hBm : Bm < w.heap.size) (hm : w.cell? ⟨Bm, 0, none⟩ = some (.slice none 0 0)) :
    Calls Tryz.prog 102 #[.func (.func 201) #[] #[.pointer (some ⟨Bm, 0, none⟩)]] w fun e w' => e = .returned (.slice none 0 0) ∧ Below w.heap.size w w' := by
  refine (callsIn_wide (n := 5)).1 ?_
  refine callsIn_of_wp Tryz.func102 rfl trivial ?_ rfl
  simp only [Tryz.ntmps102, List.size_toArray, List.length_cons, List.length_nil, Nat.reduceAdd, Nat.reduceSub, Array.replicate_succ, Array.replicate_zero, List.push_toArray, List.append_toArray, List.nil_append, List.cons_append]
  gi_wp2_with (first | (refine ⟨trivial, ?_⟩; gi_at_call 152; refine (collect_e _ 4 trivial trivial rfl (by omega) 201 _ trivial (enters_of Tryz.func201 (by kernel_rfl) rfl) _ (valsV_stops _ _ trivial rfl Bm _ hBm hm)).mono ?_; rintro e w' ⟨rfl, hb⟩) | (refine ⟨trivial, ?_⟩; gi_at_call 153; refine (callsIn_wide.2 (sort_0 none 0 _)).mono ?_; rintro e w' ⟨rfl, rfl⟩))
  go_ret
  exact ⟨rfl, hb⟩
set_option maxRecDepth 100000 in
theorem valsOf_nil (w : World) : Calls Tryz.prog 164 #[.slice none 0 0] w fun e w' => ∃ Bm, e = .returned (.func (.func 201) #[] #[.pointer (some ⟨Bm, 0, none⟩)]) ∧ Bm < w'.heap.size ∧ w'.cell? ⟨Bm, 0, none⟩ = some (.slice none 0 0) ∧ Below w.heap.size w w' := by
  go_enter Tryz.func164, Tryz.ntmps164
  go_wp2_with (first | fail)
  go_ret
  exact ⟨_, rfl, by simp, (cell_of_row _ w.heap.size 0 #[.slice none 0 0] 85 (0, 0) (heap_alloc_new w _)).trans rfl, (Below.refl _ w).alloc (Nat.le_refl _) _⟩
set_option maxRecDepth 100000 in
theorem compact_nil (w : World) : Calls Tryz.prog 165 #[.slice none 0 0] w fun e w' => e = .returned (.slice none 0 0) ∧ w' = w := by
  go_enter Tryz.func165, Tryz.ntmps165
  go_wp2_with (first | fail)
  go_ret
  exact ⟨rfl, rfl⟩
set_option maxRecDepth 100000 in
theorem twice_nil (w : World) : Calls Tryz.prog 111 #[.slice none 0 0] w fun e w' => e = .returned (.bool false) ∧ Below w.heap.size w w' := by
  go_enter Tryz.func111, Tryz.ntmps111
  go_wp2_with (first | (go_at_call 164; refine (valsOf_nil _).mono ?_; rintro e w2 ⟨Bm, rfl, h1, h2, hb⟩) | (go_at_call 102; refine (sortedV_e _ Bm h1 h2).mono ?_; rintro e w3 ⟨rfl, hb3⟩) | (go_at_call 165; refine (compact_nil _).mono ?_; rintro e w4 ⟨rfl, rfl⟩) | fail)
  go_ret
  exact ⟨rfl, hb.trans (hb3.mono hb.size)⟩
end Go.Proofs
