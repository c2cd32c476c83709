import Derived.Test.YtpnehgajhpejjaaGreatDoorRdr
/- The document's reader of bytes (R of layer 13) and GetNum of layer 3: what they do. -/
set_option linter.unusedVariables false
set_option linter.unusedSimpArgs false
namespace Go.Proofs.YtpnehgajhpejjaaGreatDoor
open Go.RowKit YtpnehgajhpejjaaGreatDoorW.PrintWords
/-- GetNum's answer. -/
def gNum (size : Nat) (bs : List Int) : Int × List Int × Int := if bs.length < size then (0, [], 6) else (leN (bs.take size), bs.drop size, 0)
def GnPost (A : Option Addr) (w : World) (q : Int × List Int × Int) (r : Ending) (w' : World) : Prop :=
  ∃ A2 c2, r = .returned (.tuple #[.int .u64 q.1, .slice A2 q.2.1.length c2, .int .i64 q.2.2]) ∧ (w' = w ∨ w' = w.drew) ∧ q.2.1.length ≤ c2 ∧ Kd.C (Kd.int .u8) w A2 q.2.1.length q.2.1 ∧ ∀ a, A2 = some a → ∃ a0, A = some a0 ∧ a.block = a0.block
set_option maxHeartbeats 4000000 in
set_option maxRecDepth 100000 in
theorem getnum_calls (A : Option Addr) (c : Nat) (bs : List Int) (size : Nat) (h1 : 1 ≤ size) (h8 : size ≤ 8) (hc : bs.length ≤ c) (hall : ∀ b ∈ bs, 0 ≤ b ∧ b < 256) (w : World) (hC : Kd.C (Kd.int .u8) w A bs.length bs) :
    Calls Tryz.prog 85 #[.slice A bs.length c, .int .i64 size] w (GnPost A w (gNum size bs)) := by
  have hs1 : ¬ ((size : Int) < 1) := by omega
  have hs2 : ¬ ((size : Int) > 8) := by omega
  have HC := Aside0.mk hC
  clear hC
  unfold gNum
  by_cases hl : bs.length < size
  · have hl2 : (bs.length : Int) < (size : Int) := by omega
    rw [if_pos hl]
    go_enter Tryz.func85, Tryz.ntmps85
    go_wp2
    go_ret3
    exact ⟨none, 0, rfl, .inl rfl, Nat.le_refl _, Kd.C_nil _ _, fun a h => by cases h⟩
  · have hl2 : ¬ ((bs.length : Int) < (size : Int)) := by omega
    rw [if_neg hl]
    have hi := info_parts infoU8
    obtain ⟨i0, hi0, _, hsz, _⟩ := hi
    have hcut2 := cut_from (P := Tryz.prog) 23 5 .i64 Tryz.underlying23 hi0 1 hsz A bs.length c size (by omega) (by omega)
    simp only [Int.toNat_natCast, Nat.mul_one] at hcut2
    have hCd := Kd.C_drop (m := size) (c := c) HC.out (by omega) hc
    rw [show size * (Kd.int IntKind.u8).sz = size from Nat.mul_one size] at hCd
    have hA2 : ∀ a, (if c = size then A else A.map (·.add size)) = some a → ∃ a0, A = some a0 ∧ a.block = a0.block := fun a ha => by
      split at ha
      · exact ⟨a, ha, rfl⟩
      · cases hA : A with
        | none => rw [hA] at ha; cases ha
        | some b => rw [hA] at ha; injection ha with ha; exact ⟨b, rfl, by rw [← ha, add_block]⟩
    have hld : (bs.drop size).length = bs.length - size := List.length_drop
    have HD := Aside0.mk hCd
    have HA := Aside0.mk hA2
    clear hCd hA2
    generalize hA3 : (if c = size then A else A.map (·.add size)) = A2 at *
    clear hA3
    have HT := Aside0.mk (show (bs.take size).length = size from by rw [List.length_take]; omega)
    have HW := Aside0.mk (show ∀ b ∈ bs.take size, 0 ≤ b ∧ b < 256 from fun b hb => hall b (List.mem_of_mem_take hb))
    go_enter Tryz.func85, Tryz.ntmps85
    go_wp2
    go_loopw [7, 8] (fun v7 v8 wr => ∃ j : Nat, j ≤ size ∧ v8 = .int .i64 ((j : Int) - 1) ∧ v7 = .int .u64 (leN ((bs.take size).drop j)) ∧ wr = w) (fun _ v _ => (RowKit.intOf v + 1).toNat)
    case atStart => exact ⟨size, Nat.le_refl _, by go_num, by rw [List.drop_of_length_le (by rw [HT.out]; exact Nat.le_refl _)]; rfl, rfl⟩
    case round =>
      obtain ⟨j, hj, rfl, rfl, rfl⟩ := hrel
      by_cases hlt : 0 < j
      · obtain ⟨i, rfl⟩ : ∃ i, j = i + 1 := ⟨j - 1, by omega⟩
        have hib : i < bs.length := by omega
        obtain ⟨ad, e1, hx⟩ := Kd.at_int HC.out (i : Int) (by omega) (by omega)
        cases e1
        have hn : rd bs (i : Int) = bs[i] := by simp [rd, List.getD_eq_getElem?_getD, List.getElem?_eq_getElem hib]
        rw [hn, Int.toNat_natCast] at hx
        obtain ⟨n0, n1⟩ := hall bs[i] (List.getElem_mem hib)
        have hst : leN ((bs.take size).drop i) = bs[i] + 256 * leN ((bs.take size).drop (i + 1)) := by
          have hit : i < (bs.take size).length := by rw [HT.out]; omega
          rw [List.drop_eq_getElem_cons hit, List.getElem_take]
          rfl
        have hrg := leN_range ((bs.take size).drop (i + 1)) (fun b hb => HW.out b (List.mem_of_mem_drop hb))
        have hlen : ((bs.take size).drop (i + 1)).length ≤ 7 := by rw [List.length_drop, HT.out]; omega
        have hpw : (256 : Int) ^ ((bs.take size).drop (i + 1)).length ≤ 72057594037927936 := by
          have h := Nat.pow_le_pow_right (n := 256) (by omega) hlen
          have e : ((256 ^ ((bs.take size).drop (i + 1)).length : Nat) : Int) ≤ ((256 ^ 7 : Nat) : Int) := by exact_mod_cast h
          rw [Int.natCast_pow] at e
          exact e
        have HS := Aside0.mk hst
        clear hst hn
        generalize bs[i] = b at *
        generalize leN ((bs.take size).drop (i + 1)) = x at *
        have hx0 := hrg.1
        have hx1 : x < 72057594037927936 := by omega
        clear hrg hpw
        have p1 : (0 : Int) ≤ (i : Int) := by omega
        have p2 : (i : Int) < (bs.length : Int) := by omega
        have p3 : ((i + 1 : Nat) : Int) - 1 = (i : Int) := by omega
        rw [p3]
        go_wp2
        refine ⟨⟨i, by omega, rfl, by rw [HS.out, Int.mul_comm 256 x, Int.add_comm], trivial⟩, ?_⟩
        simp [RowKit.intOf] <;> omega
      · obtain rfl : j = 0 := by omega
        have p3 : ¬ ((0 : Int) ≤ -1) := by omega
        rw [List.drop_zero]
        go_wp2
        go_region
        go_wp2
        go_ret3
        exact ⟨A2, c - size, by rw [hld]; rfl, .inr rfl, by rw [hld]; omega, HD.out, HA.out⟩
theorem drew_heap {w w' : World} (h : w' = w ∨ w' = w.drew) : w'.heap = w.heap := by
  rcases h with rfl | rfl <;> rfl
theorem drew_blk {w w' : World} {g : Nat} {o : Obj} (h : w' = w ∨ w' = w.drew) (hb : w.heap[g]? = some o) : w'.heap[g]? = some o := by
  rw [drew_heap h]; exact hb
theorem drew_below (g : Nat) {w w' : World} (h : w' = w ∨ w' = w.drew) : Below g w w' := by
  rcases h with rfl | rfl
  · exact Below.refl _ _
  · exact (Below.refl _ _).drew
theorem C_blockn {w w' : World} {A : Option Addr} {n : Nat} {xs : List Int} (h : Kd.C (Kd.int .u8) w A n xs) (hb : 0 < n → ∀ a, A = some a → w'.heap[a.block]? = w.heap[a.block]?) : Kd.C (Kd.int .u8) w' A n xs := by
  rcases Nat.eq_zero_or_pos n with h0 | hp
  · exact ⟨h.1, h.2.1, fun hp => by omega⟩
  · exact C_block h (hb hp)
theorem C_lt {w : World} {A : Option Addr} {xs : List Int} (h : Kd.C (Kd.int .u8) w A xs.length xs) : ∀ a, A = some a → 0 < xs.length → a.block < w.heap.size := by
  intro a e hp
  obtain ⟨ad, e1, hx⟩ := Kd.at_int h 0 (by omega) (by omega)
  rw [e1] at e
  injection e with e
  subst e
  have := World.block_lt_of_cell? w _ hx
  rwa [add_block] at this
/-- The document's reader at block g. -/
def RAt (w : World) (g : Nat) (err : Int) (bs : List Int) : Prop :=
  ∃ A c, w.heap[g]? = some (.cells #[.slice A bs.length c, .int .i64 err] 97 (0, 0)) ∧ bs.length ≤ c ∧ Kd.C (Kd.int .u8) w A bs.length bs ∧ ∀ a, A = some a → 0 < bs.length → a.block < g
section
variable {w : World} {g : Nat} {err : Int} {bs : List Int}
theorem RAt.lt (h : RAt w g err bs) : g < w.heap.size := by
  obtain ⟨A, c, hb, _⟩ := h
  exact blk_lt hb
theorem RAt.below {w' : World} (h : RAt w g err bs) (hb : Below w.heap.size w w') : RAt w' g err bs := by
  obtain ⟨A, c, hk, hl, hC, hne⟩ := h
  exact ⟨A, c, blk_below hk hb, hl, Kd.C_below hC hb, hne⟩
theorem RAt.alloc (h : RAt w g err bs) (o : Obj) : RAt (w.alloc o) g err bs := h.below ((Below.refl _ _).alloc (Nat.le_refl _) _)
theorem RAt.drew (h : RAt w g err bs) : RAt w.drew g err bs := h
theorem RAt.under {w' : World} (h : RAt w g err bs) (hb : Below (g + 1) w w') : RAt w' g err bs := by
  obtain ⟨A, c, hk, hl, hC, hne⟩ := h
  exact ⟨A, c, by rw [hb.block g (by omega)]; exact hk, hl, C_blockn hC (fun hp a e => hb.block _ (by have := hne a e hp; omega)), hne⟩
theorem RAt.far {p : Addr} (h : RAt w g err bs) (hp : g < p.block) (u : Value) : RAt (w.setCell p u) g err bs := by
  obtain ⟨A, c, hk, hl, hC, hne⟩ := h
  exact ⟨A, c, by rw [heap_setCell_ne w p u g (Nat.ne_of_lt hp)]; exact hk, hl, C_blockn hC (fun h0 a e => heap_setCell_ne _ _ _ _ (Nat.ne_of_lt (Nat.lt_trans (hne a e h0) hp))), hne⟩
/-- The error is put. -/
theorem RAt.set (h : RAt w g err bs) (x : Int) : RAt (w.setCell ⟨g, 1, none⟩ (.int .i64 x)) g x bs := by
  obtain ⟨A, c, hb, hl, hC, hne⟩ := h
  exact ⟨A, c, by simpa using blk_set hb 1 (.int .i64 x), hl, C_blockn hC (fun h0 a e => heap_setCell_ne _ _ _ _ (Nat.ne_of_lt (hne a e h0))), hne⟩
theorem RAt.cells (h : RAt w g err bs) : w.cell? ⟨g, 1, none⟩ = some (.int .i64 err) ∧ w.frozen? ⟨g, 1, none⟩ = false := by
  obtain ⟨A, c, hb, _⟩ := h
  exact ⟨(blk_cell hb 1).trans rfl, blk_frozen hb 1⟩
end
/-- Only block g turns; what is drawn does not matter. -/
def KeptBut (g : Nat) (w w' : World) : Prop := Below g w w' ∧ w.heap.size ≤ w'.heap.size ∧ ∀ k, k < w.heap.size → k ≠ g → w'.heap[k]? = w.heap[k]?
theorem KeptBut.blk {g k : Nat} {w w' : World} {o : Obj} (h : KeptBut g w w') (hk : w.heap[k]? = some o) (hne : k ≠ g) : w'.heap[k]? = some o := (h.2.2 k (blk_lt hk) hne).trans hk
theorem KeptBut.trans {g : Nat} {w w' w2 : World} (h : KeptBut g w w') (k : KeptBut g w' w2) : KeptBut g w w2 := ⟨h.1.trans k.1, Nat.le_trans h.2.1 k.2.1, fun j hj hn => (k.2.2 j (Nat.lt_of_lt_of_le hj h.2.1) hn).trans (h.2.2 j hj hn)⟩
def gRead (size : Nat) (s : Int × List Int) : Int × (Int × List Int) := if s.1 ≠ 0 then (0, s) else ((gNum size s.2).1, ((gNum size s.2).2.2, (gNum size s.2).2.1))
set_option maxHeartbeats 4000000 in
set_option maxRecDepth 100000 in
theorem rnum_calls (g : Nat) (err : Int) (bs : List Int) (size : Nat) (h1 : 1 ≤ size) (h8 : size ≤ 8) (hall : ∀ b ∈ bs, 0 ≤ b ∧ b < 256) (w : World) (h : RAt w g err bs) :
    Calls Tryz.prog 58 #[.pointer (some ⟨g, 0, none⟩), .int .i64 size] w fun r w' => r = .returned (.int .u64 (gRead size (err, bs)).1) ∧ RAt w' g (gRead size (err, bs)).2.1 (gRead size (err, bs)).2.2 ∧ KeptBut g w w' := by
  obtain ⟨A, c, hb, hl, hC, hne⟩ := h
  have hc0 : w.cell? ⟨g, 0, none⟩ = some (.slice A bs.length c) := (blk_cell hb 0).trans rfl
  have hc1 : w.cell? ⟨g, 1, none⟩ = some (.int .i64 err) := (blk_cell hb 1).trans rfl
  have HR := Aside0.mk (show RAt w g err bs from ⟨A, c, hb, hl, hC, hne⟩)
  have HB := Aside0.mk hb
  have HN := Aside0.mk hne
  unfold gRead
  by_cases he : err = 0
  · subst he
    rw [if_neg (by simp)]
    have hcon := getnum_calls A c bs size h1 h8 hl hall w hC
    have HQ0 := Aside0.mk (show 0 < (gNum size bs).2.1.length → 0 < bs.length from fun h => by
      unfold gNum at h
      split at h
      · simp at h
      · rw [List.length_drop] at h; omega)
    generalize gNum size bs = q at *
    have HC := Aside0.mk hcon
    clear hb hC hne hcon
    go_enter Tryz.func58, Tryz.ntmps58
    go_wp2_with (first | (go_at_call 85; refine HC.out.mono ?_; rintro e w1 ⟨A2, c2, rfl, hw, hl2, hC2, hne2⟩; have hh := drew_heap hw; have B1 := Aside0.mk (drew_blk hw HB.out); have HB1 := Aside0.mk (drew_below g hw); have HH := Aside0.mk hh; have HC2 := Aside0.mk hC2; have HN2 := Aside0.mk hne2; clear hw hh hC2 hne2 hc0 hc1; have hd0 : w1.cell? ⟨g, 0, none⟩ = some (.slice A bs.length c) := (blk_cell B1.out 0).trans rfl; have hd1 : w1.cell? ⟨g, 1, none⟩ = some (.int .i64 0) := (blk_cell B1.out 1).trans rfl; have hf0 := blk_frozen B1.out 0; have hf1 := blk_frozen B1.out 1))
    go_ret
    have hs1 := blk_put (cs := #[.slice A bs.length c, .int .i64 0]) B1.out 0 (.slice A2 q.2.1.length c2) rfl
    have hs2 := blk_put (cs := #[.slice A2 q.2.1.length c2, .int .i64 0]) hs1 1 (.int .i64 q.2.2) rfl
    refine ⟨rfl, ⟨A2, c2, hs2, hl2, C_blockn HC2.out (fun h0 a e => ?_), fun a e h0 => ?_⟩, ?_, ?_, ?_⟩
    · obtain ⟨a0, e0, e1⟩ := HN2.out a e
      have := HN.out a0 e0 (HQ0.out h0)
      rw [heap_setCell_ne _ _ _ _ (by show a.block ≠ g; omega), heap_setCell_ne _ _ _ _ (by show a.block ≠ g; omega), HH.out]
    · obtain ⟨a0, e0, e1⟩ := HN2.out a e
      have := HN.out a0 e0 (HQ0.out h0)
      omega
    · exact (HB1.out.setCell (p := ⟨g, 0, none⟩) (Nat.le_refl _) _).setCell (p := ⟨g, 1, none⟩) (Nat.le_refl _) _
    · simp [HH.out]
    · intro k hk hkg
      rw [heap_setCell_ne _ _ _ _ hkg, heap_setCell_ne _ _ _ _ hkg, HH.out]
  · rw [if_pos he]
    have heb : (err == 0) = false := beq_eq_false_iff_ne.2 he
    have heb2 : (err != 0) = true := bne_iff_ne.2 he
    clear hb hC hne
    go_enter Tryz.func58, Tryz.ntmps58
    go_wp2
    go_ret
    exact ⟨rfl, HR.out, Below.refl _ _, Nat.le_refl _, fun _ _ _ => rfl⟩
theorem gRead_wf {n : Nat} {err : Int} {bs : List Int} {x e : Int} {l : List Int} (hq : gRead n (err, bs) = (x, (e, l))) (h : ∀ b ∈ bs, 0 ≤ b ∧ b < 256) : ∀ b ∈ l, 0 ≤ b ∧ b < 256 := by
  intro b hb
  unfold gRead at hq
  split at hq
  · cases hq; exact h b hb
  · unfold gNum at hq
    split at hq
    · cases hq; simp at hb
    · cases hq; exact h b (List.mem_of_mem_drop hb)
theorem rnum_calls2 {g : Nat} {err : Int} {bs : List Int} {sz : Int} {size : Nat} {x e : Int} {l : List Int} (hs : sz = (size : Int)) (hq : gRead size (err, bs) = (x, (e, l))) (h1 : 1 ≤ size) (h8 : size ≤ 8) (hall : ∀ b ∈ bs, 0 ≤ b ∧ b < 256) {w : World} (h : RAt w g err bs) :
    Calls Tryz.prog 58 #[.pointer (some ⟨g, 0, none⟩), .int .i64 sz] w fun r w' => r = .returned (.int .u64 x) ∧ RAt w' g e l ∧ KeptBut g w w' := by
  subst hs
  have := rnum_calls g err bs size h1 h8 hall w h
  rw [hq] at this
  exact this
theorem rint_calls {g : Nat} {err : Int} {bs : List Int} {x e : Int} {l : List Int} (hq : gRead 8 (err, bs) = (x, (e, l))) (hall : ∀ b ∈ bs, 0 ≤ b ∧ b < 256) {w : World} (h : RAt w g err bs) :
    Calls Tryz.prog 60 #[.pointer (some ⟨g, 0, none⟩)] w fun r w' => r = .returned (.int .i64 (wrap64 x)) ∧ RAt w' g e l ∧ KeptBut g w w' := by
  have hcon := rnum_calls2 (sz := 8) (size := 8) rfl hq (by omega) (by omega) hall h
  clear h
  go_enter Tryz.func60, Tryz.ntmps60
  go_wp2_with (first | (go_at_call 58; refine hcon.mono ?_; rintro e w1 ⟨rfl, hR, hG⟩))
  go_ret
  exact ⟨by first | rfl | simp [i64_w], hR, hG⟩
/-- Count: how many there are, at most three. -/
def gCount (s : Int × List Int) : Int × (Int × List Int) := if (gRead 1 s).2.1 ≠ 0 then (0, (gRead 1 s).2) else if 3 < (gRead 1 s).1 then (0, (8, (gRead 1 s).2.2)) else (gRead 1 s)
set_option maxHeartbeats 4000000 in
set_option maxRecDepth 100000 in
theorem rcount_calls {g : Nat} {err : Int} {bs : List Int} (hall : ∀ b ∈ bs, 0 ≤ b ∧ b < 256) (hx1 : 0 ≤ (gRead 1 (err, bs)).1 ∧ (gRead 1 (err, bs)).1 < 256) {w : World} (h : RAt w g err bs) :
    Calls Tryz.prog 86 #[.pointer (some ⟨g, 0, none⟩), .int .i64 3] w fun r w' => r = .returned (.int .i64 (gCount (err, bs)).1) ∧ RAt w' g (gCount (err, bs)).2.1 (gCount (err, bs)).2.2 ∧ KeptBut g w w' := by
  obtain ⟨x, e, l, hq⟩ : ∃ x e l, gRead 1 (err, bs) = (x, (e, l)) := ⟨_, _, _, rfl⟩
  have hcon := rnum_calls2 (sz := 1) (size := 1) rfl hq (by omega) (by omega) hall h
  unfold gCount
  rw [hq] at hx1 ⊢
  dsimp only at hx1 ⊢
  have hw : wrap64 x = x := by simp only [wrap64]; omega
  clear h hq
  by_cases he : e = 0
  · subst he
    rw [if_neg (by simp)]
    by_cases h3 : 3 < x
    · rw [if_pos h3]
      go_enter Tryz.func86, Tryz.ntmps86
      go_wp2_with (first | (go_at_call 58; refine hcon.mono ?_; rintro e w1 ⟨rfl, hR, hG⟩; have HR := Aside0.mk hR; have HG := Aside0.mk hG; obtain ⟨hd1, hf1⟩ := hR.cells; clear hR hG hcon))
      go_ret
      refine ⟨rfl, HR.out.set 8, HG.out.1.setCell (p := ⟨g, 1, none⟩) (Nat.le_refl _) _, by simpa using HG.out.2.1, fun k hk hkg => ?_⟩
      rw [heap_setCell_ne _ _ _ _ hkg]
      exact HG.out.2.2 k hk hkg
    · rw [if_neg h3]
      go_enter Tryz.func86, Tryz.ntmps86
      go_wp2_with (first | (go_at_call 58; refine hcon.mono ?_; rintro e w1 ⟨rfl, hR, hG⟩; have HR := Aside0.mk hR; have HG := Aside0.mk hG; obtain ⟨hd1, hf1⟩ := hR.cells; clear hR hG hcon))
      go_ret
      exact ⟨by first | rfl | simp [hw], HR.out, HG.out⟩
  · rw [if_pos he]
    have heb : (e == 0) = false := beq_eq_false_iff_ne.2 he
    have heb2 : (e != 0) = true := bne_iff_ne.2 he
    go_enter Tryz.func86, Tryz.ntmps86
    go_wp2_with (first | (go_at_call 58; refine hcon.mono ?_; rintro e_ w1 ⟨rfl, hR, hG⟩; have HR := Aside0.mk hR; have HG := Aside0.mk hG; obtain ⟨hd1, hf1⟩ := hR.cells; clear hR hG hcon))
    go_ret
    exact ⟨rfl, HR.out, HG.out⟩
end Go.Proofs.YtpnehgajhpejjaaGreatDoor
