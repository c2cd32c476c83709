import Derived.Test.YteeclengpnjlgaaGreatEvS
import Derived.Test.YteeclengpnjlgaaGreatEvN
/- A map without entries, whatever its clock; what the evaluator takes as known. -/
namespace Go.Proofs.YteeclengpnjlgaaGreat.Ev
set_option linter.unusedVariables false
set_option linter.unusedSimpArgs false
open Go.RowKit Go.Shelf
set_option maxRecDepth 100000 in
set_option maxHeartbeats 1000000 in
theorem keysT_0 {α : Type} (F : Fence) (n : Nat) (hf : F.fn 154) (hro : F.round = none) (l Bm b c : Nat) (J : List α → World → Prop) (W : World) (hJ : AbidesFrom W.heap.size J)
    (hm : W.cell? ⟨Bm, 0, none⟩ = some (.map (some b))) (hb : W.heap[b]? = some (.map #[] c)) (h0 : J [] W) :
    CallsIn F n Tryz.prog 154 #[.func (.yield l) #[] #[], .pointer (some ⟨Bm, 0, none⟩)] W fun e W' => (∃ v, e = .returned v) ∧ J [] W' := by
  refine callsIn_of_wp Tryz.func154 rfl hf ?_ hro
  simp only [Tryz.ntmps154, List.size_toArray, List.length_cons, List.length_nil, Nat.reduceAdd, Nat.reduceSub, Array.replicate_succ, Array.replicate_zero, List.push_toArray, List.append_toArray, List.nil_append, List.cons_append]
  have hrg := run_range_n (P := Tryz.prog) W 182 50 67 Tryz.underlying182 hb
  have hlt : b < W.heap.size := (Array.getElem?_eq_some_iff.1 hb).1
  have hnx : ∀ ty, (Instr.next (.pointer (some ⟨W.heap.size, 0, none⟩)) false ty).run Tryz.prog (W.alloc (.mapIter (some b) c #[] c)) = _ := fun ty => run_next_no (P := Tryz.prog) (W.alloc (.mapIter (some b) c #[] c)) ty (heap_alloc_new W _) ((Below.heap_alloc W _ b hlt).trans hb) (by simp) (by simp)
  gi_wp2
  refine wpIn_loop_rounds 1 ?_
  rw [roundsIn_succ]
  gi_wp2
  go_end0
  exact ⟨⟨_, rfl⟩, hJ [] W _ none h0 (World.grownBy_alloc W _ none) (fun r e => by cases e)⟩
theorem keysT_stops0 (F : Fence) (n : Nat) (hf : F.fn 154) (hro : F.round = none) (Bm b c : Nat) (w : World) (hBm : Bm < w.heap.size) (hm : w.cell? ⟨Bm, 0, none⟩ = some (.map (some b))) (hb : w.heap[b]? = some (.map #[] c)) :
    SeqStopsK F n Tryz.prog 154 #[.pointer (some ⟨Bm, 0, none⟩)] (α := Empty) (fun _ => #[.bool false]) (fun _ _ => True) (fun _ => True) (fun _ => False) 0 w := fun l J Jx W hW hJ hJx hY h0 =>
  (keysT_0 F n hf hro l Bm b c J W hJ ((hW.cell (p := ⟨Bm, 0, none⟩) hBm).trans hm) ((hW.block b (Array.getElem?_eq_some_iff.1 hb).1).trans hb) h0).mono fun _ _ ⟨he, hj⟩ => ⟨he, .inl ⟨[], trivial, hj⟩⟩
set_option maxRecDepth 100000 in
set_option maxHeartbeats 1000000 in
theorem sortedT_0 (w : World) (Bm b c : Nat) (hBm : Bm < w.heap.size) (hm : w.cell? ⟨Bm, 0, none⟩ = some (.map (some b))) (hb : w.heap[b]? = some (.map #[] c)) :
    Calls Tryz.prog 102 #[.func (.func 154) #[] #[.pointer (some ⟨Bm, 0, none⟩)]] w fun e w' => e = .returned (.slice none 0 0) ∧ Below w.heap.size w w' := by
  refine (callsIn_wide (n := 5)).1 ?_
  refine callsIn_of_wp Tryz.func102 rfl trivial ?_ rfl
  simp only [Tryz.ntmps102, List.size_toArray, List.length_cons, List.length_nil, Nat.reduceAdd, Nat.reduceSub, Array.replicate_succ, Array.replicate_zero, List.push_toArray, List.append_toArray, List.nil_append, List.cons_append]
  gi_wp2_with (first | (refine ⟨trivial, ?_⟩; gi_at_call 152; refine (collect_e _ 4 trivial trivial rfl (by omega) 154 _ trivial (enters_of Tryz.func154 (by kernel_rfl) rfl) _ (keysT_stops0 _ _ trivial rfl Bm b c _ hBm hm hb)).mono ?_; rintro e w' ⟨rfl, hb⟩) | (refine ⟨trivial, ?_⟩; gi_at_call 153; refine (callsIn_wide.2 (sort_0 none 0 _)).mono ?_; rintro e w' ⟨rfl, rfl⟩))
  go_ret
  exact ⟨rfl, hb⟩
set_option maxRecDepth 100000 in
set_option maxHeartbeats 1000000 in
theorem keysC_0 {α : Type} (F : Fence) (n : Nat) (hf : F.fn 155) (hro : F.round = none) (l Bm b c : Nat) (J : List α → World → Prop) (W : World) (hJ : AbidesFrom W.heap.size J)
    (hm : W.cell? ⟨Bm, 0, none⟩ = some (.map (some b))) (hb : W.heap[b]? = some (.map #[] c)) (h0 : J [] W) :
    CallsIn F n Tryz.prog 155 #[.func (.yield l) #[] #[], .pointer (some ⟨Bm, 0, none⟩)] W fun e W' => (∃ v, e = .returned v) ∧ J [] W' := by
  refine callsIn_of_wp Tryz.func155 rfl hf ?_ hro
  simp only [Tryz.ntmps155, List.size_toArray, List.length_cons, List.length_nil, Nat.reduceAdd, Nat.reduceSub, Array.replicate_succ, Array.replicate_zero, List.push_toArray, List.append_toArray, List.nil_append, List.cons_append]
  have hrg := run_range_n (P := Tryz.prog) W 115 50 64 Tryz.underlying115 hb
  have hlt : b < W.heap.size := (Array.getElem?_eq_some_iff.1 hb).1
  have hnx : ∀ ty, (Instr.next (.pointer (some ⟨W.heap.size, 0, none⟩)) false ty).run Tryz.prog (W.alloc (.mapIter (some b) c #[] c)) = _ := fun ty => run_next_no (P := Tryz.prog) (W.alloc (.mapIter (some b) c #[] c)) ty (heap_alloc_new W _) ((Below.heap_alloc W _ b hlt).trans hb) (by simp) (by simp)
  gi_wp2
  refine wpIn_loop_rounds 1 ?_
  rw [roundsIn_succ]
  gi_wp2
  go_end0
  exact ⟨⟨_, rfl⟩, hJ [] W _ none h0 (World.grownBy_alloc W _ none) (fun r e => by cases e)⟩
theorem keysC_stops0 (F : Fence) (n : Nat) (hf : F.fn 155) (hro : F.round = none) (Bm b c : Nat) (w : World) (hBm : Bm < w.heap.size) (hm : w.cell? ⟨Bm, 0, none⟩ = some (.map (some b))) (hb : w.heap[b]? = some (.map #[] c)) :
    SeqStopsK F n Tryz.prog 155 #[.pointer (some ⟨Bm, 0, none⟩)] (α := Empty) (fun _ => #[.bool false]) (fun _ _ => True) (fun _ => True) (fun _ => False) 0 w := fun l J Jx W hW hJ hJx hY h0 =>
  (keysC_0 F n hf hro l Bm b c J W hJ ((hW.cell (p := ⟨Bm, 0, none⟩) hBm).trans hm) ((hW.block b (Array.getElem?_eq_some_iff.1 hb).1).trans hb) h0).mono fun _ _ ⟨he, hj⟩ => ⟨he, .inl ⟨[], trivial, hj⟩⟩
set_option maxRecDepth 100000 in
set_option maxHeartbeats 1000000 in
theorem sortedC_0 (w : World) (Bm b c : Nat) (hBm : Bm < w.heap.size) (hm : w.cell? ⟨Bm, 0, none⟩ = some (.map (some b))) (hb : w.heap[b]? = some (.map #[] c)) :
    Calls Tryz.prog 102 #[.func (.func 155) #[] #[.pointer (some ⟨Bm, 0, none⟩)]] w fun e w' => e = .returned (.slice none 0 0) ∧ Below w.heap.size w w' := by
  refine (callsIn_wide (n := 5)).1 ?_
  refine callsIn_of_wp Tryz.func102 rfl trivial ?_ rfl
  simp only [Tryz.ntmps102, List.size_toArray, List.length_cons, List.length_nil, Nat.reduceAdd, Nat.reduceSub, Array.replicate_succ, Array.replicate_zero, List.push_toArray, List.append_toArray, List.nil_append, List.cons_append]
  gi_wp2_with (first | (refine ⟨trivial, ?_⟩; gi_at_call 152; refine (collect_e _ 4 trivial trivial rfl (by omega) 155 _ trivial (enters_of Tryz.func155 (by kernel_rfl) rfl) _ (keysC_stops0 _ _ trivial rfl Bm b c _ hBm hm hb)).mono ?_; rintro e w' ⟨rfl, hb⟩) | (refine ⟨trivial, ?_⟩; gi_at_call 153; refine (callsIn_wide.2 (sort_0 none 0 _)).mono ?_; rintro e w' ⟨rfl, rfl⟩))
  go_ret
  exact ⟨rfl, hb⟩

/-- Lists of keys, sorted; a list twice told, nil. -/
def known : Kn := fun _ g args n H =>
  bif Nat.beq g 102 then (match args with
    | [.func (.func f) _ caps] => (match caps.toList with
      | [.pointer (some ⟨a, 0, none⟩)] => (match get HD H a with
        | some (.cells [.map (some r)] _) => (match get HD H r with
          | some (.map [] _) => bif Nat.beq f 154 || Nat.beq f 155 then some (.slice none 0 0, n, H) else none
          | some (.map [⟨.int .u32 z, _, t⟩] c) => bif Nat.beq f 154 && Nat.blt t c && room n then some (.slice (some ⟨n, 0, none⟩) 1 3, n + 1, T.set HD H n (.cells [.int .u32 z] 50)) else none
          | _ => none)
        | _ => none)
      | _ => none)
    | _ => none)
  else bif Nat.beq g 111 then (match args with
    | [.slice none 0 0] => some (.bool false, n, H)
    | _ => none)
  else none
theorem Sim.below_ {P : Program} {w0 : Base} {pl : Pl} {H : T AO} {w w' : World} (h : Sim P w0 pl H w) (hb : Below w.heap.size w w') : Sim P w0 pl H w' where
  below := ⟨hb.os.trans h.below.os, hb.tape.trans h.below.tape, hb.output.trans h.below.output, Nat.le_trans h.below.size hb.size, fun k hk => (hb.block k (h.below.lt hk)).trans (h.below.block k hk)⟩
  at_ := fun t o hg hl => by
    obtain ⟨b, d, h1, h2, h3⟩ := h.at_ t o hg hl
    exact ⟨b, d, h1, h2, h3.move (hb.block b (h.ltb hg hl (pb_of h1)))⟩
  inj := h.inj
theorem Pw_one_inv {R : Value → Value → Prop} {a : Value} {m : List Value} (h : Pw R [a] m) : ∃ b, m = [b] ∧ R a b := by
  match m, h with
  | [b], h => exact ⟨b, rfl, h.1⟩
  | [], h => exact h.elim
  | _ :: _ :: _, h => exact h.2.elim
theorem cells_u32 : Tryz.prog.cellsOf 50 = 1 := by kernel_rfl
theorem known_ok : KOk Tryz.prog known := by
  intro lo g args n H v n' H' h w0 pl args' w hn hlo hs hp
  unfold known at h
  cases hg : Nat.beq g 102 with
  | true =>
    have hg' := Nat.eq_of_beq_eq_true hg
    subst hg'
    rw [hg, cond_true] at h
    split at h
    · rename_i f x caps
      split at h
      · rename_i a hcaps
        split at h
        · rename_i r e hcell
          obtain ⟨u, hu1, hu2⟩ := Pw_one_inv hp
          obtain ⟨f', cs', hf1, _, rfl, hpc⟩ := (show VC pl (.func (.func f) x caps) u from hu2)
          injection hf1 with hf1
          subst hf1
          rw [hcaps] at hpc
          obtain ⟨p', hp1, hp2⟩ := Pw_one_inv hpc
          obtain ⟨⟨Bm, off, spot⟩, ⟨ha1, ha2, ha3⟩, rfl⟩ := hp2
          simp only at ha1 ha2 ha3
          subst ha2 ha3
          have hcs : cs' = #[.pointer (some ⟨Bm, 0, none⟩)] := Array.toList_inj.1 hp1
          have hargs : args' = #[.func (.func f) #[] #[.pointer (some ⟨Bm, 0, none⟩)]] := by
            rw [← hcs]
            exact Array.toList_inj.1 hu1
          obtain ⟨b0, cc, hb1, hb2, hb3⟩ := hs.cells hcell
          rw [ha1] at hb1
          injection hb1 with hb1
          subst hb1
          obtain ⟨hcl1, hcl2⟩ := hb3
          obtain ⟨mv, hm1, hm2⟩ := Pw_one_inv (show Pw (VC pl) [.map (some r)] (cc.toList.take 1) from hcl2)
          obtain ⟨rb, hrb, rfl⟩ := (show VP pl (.map (some r)) mv from hm2)
          have hBm : Bm < w.heap.size := (Array.getElem?_eq_some_iff.1 hb2).1
          have hcell0 : w.cell? ⟨Bm, 0, none⟩ = some (.map (some rb)) := by
            refine (cell_of_row w Bm 0 cc e (0, 0) hb2).trans ?_
            have : cc.toList[0]? = some (.map (some rb)) := by
              have : (cc.toList.take 1)[0]? = some (.map (some rb)) := by rw [hm1]; rfl
              rw [List.getElem?_take] at this
              simpa using this
            simpa using this
          split at h
          · rename_i c hmap
            obtain ⟨b, d, h1, h2, es', h3, h4⟩ := hs.at_ r _ hmap rfl
            have hbr : b = rb := by
              rw [pb_of h1] at hrb
              injection hrb
            subst hbr
            have hes : es' = #[] := by
              cases hl : es'.toList with
              | nil => exact Array.toList_inj.1 hl
              | cons y l => rw [hl] at h4; exact h4.elim
            subst hes
            obtain ⟨hc, h⟩ := cond_some h
            injection h with h
            injection h with e1 h
            injection h with e2 e3
            subst e1 e2 e3
            rw [Bool.or_eq_true] at hc
            have key : Calls Tryz.prog 102 args' w fun e w' => e = .returned (.slice none 0 0) ∧ Below w.heap.size w w' := by
              rw [hargs]
              rcases hc with hc | hc
              · rw [Nat.eq_of_beq_eq_true hc]
                exact sortedT_0 w Bm b c hBm hcell0 h3
              · rw [Nat.eq_of_beq_eq_true hc]
                exact sortedC_0 w Bm b c hBm hcell0 h3
            refine key.mono ?_
            rintro e w' ⟨rfl, hb⟩
            refine ⟨[], .slice none 0 0, rfl, rfl, ?_, by simpa using hn, Agree.refl _ _⟩
            rw [List.append_nil]
            exact hs.below_ hb
          · rename_i z val t c hmap
            obtain ⟨b, d, h1, h2, es', h3, h4⟩ := hs.at_ r _ hmap rfl
            have hbr : b = rb := by
              rw [pb_of h1] at hrb
              injection hrb
            subst hbr
            obtain ⟨val', hes⟩ : ∃ val', es' = #[⟨.int .u32 z, val', t⟩] := by
              cases hl : es'.toList with
              | nil => rw [hl] at h4; exact h4.elim
              | cons y l =>
                rw [hl] at h4
                obtain ⟨⟨k1, k2, k3⟩, h5⟩ := h4
                cases l with
                | nil =>
                  refine ⟨y.val, Array.toList_inj.1 ?_⟩
                  rw [hl]
                  cases y
                  simp only at k1 k2
                  rw [k1, k2]
                | cons _ _ => exact h5.elim
            subst hes
            obtain ⟨hc, h⟩ := cond_some h
            injection h with h
            injection h with e1 h
            injection h with e2 e3
            subst e1 e2 e3
            simp only [Bool.and_eq_true] at hc
            obtain ⟨⟨c1, c2⟩, c3⟩ := hc
            have c1 := Nat.eq_of_beq_eq_true c1
            have c2 : t < c := Nat.le_of_ble_eq_true c2
            subst c1
            rw [hargs]
            refine (sorted_1 w Bm b z val' t c c2 hBm hcell0 h3).mono ?_
            rintro e' w' ⟨g, cap, gc, rfl, g1, g2, g3, g4, g5, hb⟩
            have hgl : g < w'.heap.size := (Array.getElem?_eq_some_iff.1 g2).1
            have hroom : pl.length < 2 ^ HD := by rw [hn]; exact room_lt c3
            have hsim := hs.new (w' := w') (o := .cells [.int .u32 z] 50) (b := g) (d := cap - 1) hroom (hs.below_ hb).below hb.size hgl (fun hF => by
              have := hs.below.lt hF
              omega) (fun k hk _ => hb.block k hk) (fun t o hg hl hpb => by
              have := hs.ltb hg hl hpb
              omega) ⟨gc, g2, ⟨by simp; omega, by
                have hgc : gc.toList.take 1 = [.int .u32 z] := by
                  have h0 : gc.toList[0]? = some (.int .u32 z) := by simpa using g3
                  cases hgl : gc.toList with
                  | nil => rw [hgl] at h0; simp at h0
                  | cons y l => rw [hgl] at h0; simp at h0; rw [h0]; rfl
                show Pw (VC _) [.int .u32 z] (gc.toList.take 1)
                rw [hgc]
                exact ⟨rfl, trivial⟩⟩, by
                rw [cells_u32]
                simp
                omega⟩
            subst hn
            refine ⟨[(g, cap - 1)], _, rfl, open_VT last_pl (by omega), hsim, by simp, Agree.set hroom (np hlo)⟩
          · cases h
        · cases h
      · cases h
    · cases h
  | false =>
    rw [hg, cond_false] at h
    cases hg2 : Nat.beq g 111 with
    | false => rw [hg2] at h; cases h
    | true =>
      have hg' := Nat.eq_of_beq_eq_true hg2
      subst hg'
      rw [hg2, cond_true] at h
      split at h
      · injection h with h
        injection h with e1 h
        injection h with e2 e3
        subst e1 e2 e3
        obtain ⟨u, hu1, hu2⟩ := Pw_one_inv hp
        have hargs : args' = #[.slice none 0 0] := by
          have : u = .slice none 0 0 := hu2
          subst this
          exact Array.toList_inj.1 hu1
        rw [hargs]
        refine (twice_nil w).mono ?_
        rintro e w' ⟨rfl, hb⟩
        refine ⟨[], .bool false, rfl, rfl, ?_, by simpa using hn, Agree.refl _ _⟩
        rw [List.append_nil]
        exact hs.below_ hb
      · cases h
end Go.Proofs.YteeclengpnjlgaaGreat.Ev
