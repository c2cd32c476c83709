import Derived.Test.YteeclengpnjlgaaGreatRdr
import Derived.Lib.OthersKept
/- wire.Writer: what its methods do to it, as long as nothing is wrong. -/
set_option linter.unusedVariables false
set_option linter.unusedSimpArgs false
namespace Go.Proofs.YteeclengpnjlgaaGreat
open Go.RowKit YteeclengpnjlgaaGreatW.PrintWords
/-- A writer at block g, fine: the bytes written, how many there may be. -/
def WrAt (w : World) (base g : Nat) (bs : List Int) (most : Int) : Prop :=
  ∃ v, w.heap[g]? = some (.cells #[.int .i64 0, v, .int .i64 most] 170 (0, 0)) ∧ base ≤ g ∧ w.ownsRow base 5 1 v bs.length (bs.map (Value.int .u8)) ∧ v.ownBlock ≠ some g
theorem own_kind {w : World} {B : Nat} {e : TypeId} {v : Value} {n : Nat} {xs : List Value} (h : w.ownsRow B e 1 v n xs) : ∀ g, v.ownBlock = some g → ∃ c fz, w.heap[g]? = some (.cells c e fz) := by
  intro g hg
  rcases h.2 with ⟨rfl, _⟩ | ⟨g', cap, cur, rfl, _, hgg, _⟩
  · simp [Value.ownBlock] at hg
  · simp [Value.ownBlock] at hg
    subst hg
    exact ⟨cur, _, hgg⟩
theorem own_ge {w : World} {B : Nat} {e : TypeId} {v : Value} {n : Nat} {xs : List Value} (h : w.ownsRow B e 1 v n xs) : ∀ g, v.ownBlock = some g → B ≤ g := by
  intro g hg
  rcases h.2 with ⟨rfl, _⟩ | ⟨g', cap, cur, rfl, hb, hgg, _⟩
  · simp [Value.ownBlock] at hg
  · simp [Value.ownBlock] at hg
    omega
theorem own_slice {w : World} {B : Nat} {e : TypeId} {v : Value} {n : Nat} {xs : List Value} (h : w.ownsRow B e 1 v n xs) : ∃ A c, v = .slice A n c ∧ n ≤ c := by
  rcases h.2 with ⟨rfl, rfl⟩ | ⟨g', cap, cur, rfl, hb, hgg, hc, _⟩
  · exact ⟨none, 0, rfl, Nat.le_refl _⟩
  · exact ⟨_, cap, rfl, hc⟩
section
variable {w : World} {base g : Nat} {bs : List Int} {most : Int}
theorem WrAt.lt (h : WrAt w base g bs most) : g < w.heap.size := by
  obtain ⟨v, hb, _⟩ := h
  exact blk_lt hb
theorem WrAt.ge (h : WrAt w base g bs most) : base ≤ g := by
  obtain ⟨v, _, hb, _⟩ := h
  exact hb
theorem WrAt.alloc (h : WrAt w base g bs most) (o : Obj) : WrAt (w.alloc o) base g bs most := by
  obtain ⟨v, hb, hg, hown, hne⟩ := h
  exact ⟨v, blk_alloc hb o, hg, hown.alloc o, hne⟩
theorem WrAt.below {w' : World} (h : WrAt w base g bs most) (hb : Below w.heap.size w w') : WrAt w' base g bs most := by
  obtain ⟨v, hk, hg, hown, hne⟩ := h
  exact ⟨v, blk_below hk hb, hg, pw_own_below hown hb, hne⟩
/-- A store into a block of another kind. -/
theorem WrAt.set {k : Nat} {cs : Array Value} {t : TypeId} {fz : Nat × Nat} (h : WrAt w base g bs most) (hk : w.heap[k]? = some (.cells cs t fz)) (hne : k ≠ g) (ht : t ≠ 5) (j : Nat) (u : Value) : WrAt (w.setCell ⟨k, j, none⟩ u) base g bs most := by
  obtain ⟨v, hb, hg, hown, hv⟩ := h
  refine ⟨v, by rw [heap_setCell_ne w _ u g (fun e => hne e.symm)]; exact hb, hg, ?_, hv⟩
  refine hown.kept (setCell_grown (w := w) (g := k) j u) ?_
  right
  intro e
  obtain ⟨c, f, hc⟩ := own_kind hown k e
  rw [hk] at hc
  injection hc with hc
  injection hc with _ h2 _
  exact ht h2
end
theorem new_calls (m : Int) (h0 : 0 ≤ m) (w : World) : Calls Tryz.prog 33 #[.int .i64 m] w fun r w' => r = .returned (.pointer (some ⟨w.heap.size, 0, none⟩)) ∧ w' = w.alloc (.cells #[.int .i64 0, .slice none 0 0, .int .i64 m] 170) := by
  have hmx : max m 0 = m := by omega
  go_enter Tryz.func33, Tryz.ntmps33
  go_wp2
  go_ret
  exact ⟨rfl, by first | rfl | (rw [hmx]) | (simp [hmx])⟩
theorem new_at (w : World) (base : Nat) (hb : base ≤ w.heap.size) (m : Int) : WrAt (w.alloc (.cells #[.int .i64 0, .slice none 0 0, .int .i64 m] 170)) base w.heap.size [] m :=
  ⟨.slice none 0 0, heap_alloc_new w _, hb, ⟨rfl, .inl ⟨rfl, rfl⟩⟩, by simp [Value.ownBlock]⟩
set_option maxHeartbeats 4000000 in
set_option maxRecDepth 100000 in
theorem raw_calls (base g : Nat) (bs : List Int) (most : Int) (A1 : Option Addr) (c1 : Nat) (xs : List Int) (hx : 0 < xs.length) (hfit : (bs.length : Int) + xs.length ≤ most) (hm : most ≤ 1000000) (w : World) (h : WrAt w base g bs most) (hC : Kd.C (Kd.int .u8) w A1 xs.length xs) :
    Calls Tryz.prog 113 #[.pointer (some ⟨g, 0, none⟩), .slice A1 xs.length c1] w fun r w' => r = .returned (.tuple #[]) ∧ WrAt w' base g (bs ++ xs) most ∧ Below base w w' ∧ Lib.OthersKept 5 (some g) w w' := by
  obtain ⟨v, hb, hg, hown, hne⟩ := h
  have hlt := blk_lt hb
  have hc0 : w.cell? ⟨g, 0, none⟩ = some (.int .i64 0) := (blk_cell hb 0).trans rfl
  have hc1 : w.cell? ⟨g, 1, none⟩ = some v := (blk_cell hb 1).trans rfl
  have hc2 : w.cell? ⟨g, 2, none⟩ = some (.int .i64 most) := (blk_cell hb 2).trans rfl
  obtain ⟨i0, hi, hz0, hz1, hz2⟩ := info_parts infoU8
  obtain ⟨ad, rfl, hcell⟩ := hC.2.2 hx
  have hys : ∀ j u, (xs.map (Value.int .u8))[j]? = some u → w.cell? (ad.add j) = some u := fun j u hj => by
    rw [List.getElem?_map] at hj
    obtain ⟨p, hp', rfl⟩ := Option.map_eq_some_iff.1 hj
    obtain ⟨cs, hl', hk, hce⟩ := hcell j p hp'
    have : cs = [.int .u8 p] := hk
    subst this
    have h1 := hce 0 _ rfl
    rw [show j * (Kd.int IntKind.u8).sz + 0 = j from by rw [show (Kd.int IntKind.u8).sz = 1 from rfl]; omega] at h1
    exact h1
  obtain ⟨v', w1, hr, hown1, hg1', hiff⟩ := run_append_own (P := Tryz.prog) w.drew base 22 22 5 i0 (.int .u8 0) 1 1 Tryz.underlying22 hi hz0 hz1 hz2 rfl (by omega) v bs.length _ hown ad xs.length c1 (xs.map (Value.int .u8)) (by simp) hys (by intro u hu; simp only [List.mem_map] at hu; obtain ⟨b, _, rfl⟩ := hu; rfl) (by simp only [maxLen]; omega) (by omega) (by show base ≤ w.heap.size; omega)
  have hblk : ∀ k, k < w.heap.size → some k ≠ v.ownBlock → w1.heap[k]? = w.heap[k]? := hg1'.block
  have hkind := own_kind hown
  have hge := own_ge hown
  obtain ⟨Av, cv, rfl, hcv⟩ := own_slice hown
  have hb1 : w1.heap[g]? = some (.cells #[.int .i64 0, .slice Av bs.length cv, .int .i64 most] 170 (0, 0)) := by rw [hblk g hlt (fun e => hne e.symm)]; exact hb
  have hd1 : w1.cell? ⟨g, 1, none⟩ = some (.slice Av bs.length cv) := (blk_cell hb1 1).trans rfl
  have hf1 : w1.frozen? ⟨g, 1, none⟩ = false := blk_frozen hb1 1
  have hk1 : Lib.OthersKept 5 (some g) w w1 := (Lib.OthersKept.refl _ _ w).drew.grown hg1' hkind
  have hbel : Below base w w1 := ((Below.refl base w).drew).grown hg1' (by show base ≤ w.heap.size; omega) (fun k hk => hge k hk)
  have hfine := fine_calls g 0 w hc0
  have hng : ¬ ((xs.length : Int) > most - bs.length) := by omega
  have hw1 : wrap64 (most - (bs.length : Int)) = most - bs.length := by simp only [wrap64]; omega
  have hne1 : v'.ownBlock ≠ some g := by
    intro e
    obtain ⟨c, f, hc⟩ := own_kind hown1 g e
    rw [hb1] at hc
    injection hc with hc
    injection hc with _ h2 _
    revert h2
    decide
  obtain ⟨Aw, cw, rfl, hcw⟩ := own_slice hown1
  have HO := Aside0.mk hown1
  have HB := Aside0.mk hb1
  have HK := Aside0.mk hk1
  have HL := Aside0.mk hbel
  have HR := Aside0.mk hr
  clear hown1 hb1 hk1 hbel hb hown hcell hys hC hg1' hblk hkind hge hiff hr
  go_enter Tryz.func113, Tryz.ntmps113
  go_wp2_with (first | (go_at_call 87; refine hfine.mono ?_; rintro e w9 ⟨rfl, rfl⟩))
  have hd2 : w9.drew.cell? ⟨g, 1, none⟩ = some (.slice Av bs.length cv) := hc1
  have hd3 : w9.drew.cell? ⟨g, 2, none⟩ = some (.int .i64 most) := hc2
  go_region
  clear hfine hd2 hd3
  have hng2 : decide (most - (bs.length : Int) < (xs.length : Int)) = false := decide_eq_false (by omega)
  have he1 : w9.drew.cell? ⟨g, 1, none⟩ = some (.slice Av bs.length cv) := hc1
  clear hc0 hc1 hc2 hng hw1
  generalize w9.drew = w8 at *
  rw [hng2]
  go_wp2_with (first | (at_builtin; refine wpList_append_eq rfl _ _ 22 rfl _ _ rfl rfl HR.out ?_))
  go_wp2
  go_end0
  refine ⟨rfl, ⟨_, by simpa using blk_set HB.out 1 (.slice Aw (bs.length + xs.length) cw), hg, ?_, hne1⟩, HL.out.setCell (p := ⟨g, 1, none⟩) hg _, HK.out.setCell ⟨g, 1, none⟩ rfl _⟩
  have h2 := HO.out.kept (setCell_grown (w := w1) (g := g) 1 (.slice Aw (bs.length + xs.length) cw)) (.inr hne1)
  rw [List.length_append, List.map_append]
  exact h2
/-- A number's bytes, the lowest first. -/
def wB (x : Int) (n : Nat) : List Int := (List.range n).map fun j => x / 256 ^ j % 256
theorem wB_length (x : Int) (n : Nat) : (wB x n).length = n := by simp [wB]
theorem wB_succ (x : Int) (n : Nat) : wB x (n + 1) = wB x n ++ [x / 256 ^ n % 256] := by simp [wB, List.range_succ]
def arr8 (x : Int) (i : Nat) : Array Value := ((wB x i).map (Value.int .u8) ++ List.replicate (8 - i) (Value.int .u8 0)).toArray
theorem arr8_set (x : Int) (i : Nat) (h : i < 8) : (arr8 x i).setIfInBounds i (.int .u8 (x / 256 ^ i % 256)) = arr8 x (i + 1) := by
  have e : 8 - i = (8 - (i + 1)) + 1 := by omega
  apply Array.ext'
  have hl : ((wB x i).map (Value.int .u8)).length = i := by rw [List.length_map, wB_length]
  simp only [arr8, Array.toList_setIfInBounds, wB_succ, List.map_append, List.map_cons, List.map_nil, e, List.replicate_succ]
  rw [List.set_append_right _ _ (by rw [hl]; exact Nat.le_refl _), hl, Nat.sub_self, List.set_cons_zero, List.append_assoc]
  rfl
theorem arr8_zero (x : Int) : arr8 x 0 = #[.int .u8 0, .int .u8 0, .int .u8 0, .int .u8 0, .int .u8 0, .int .u8 0, .int .u8 0, .int .u8 0] := rfl
theorem kept_new {e : TypeId} {b : Option Nat} {a w : World} (h : Lib.OthersKept e b a w) (p : Addr) (hp : a.heap.size ≤ p.block) (u : Value) : Lib.OthersKept e b a (w.setCell p u) := by
  intro k x hk hb hx
  have hlt : k < a.heap.size := (Array.getElem?_eq_some_iff.1 hk).1
  rw [heap_setCell_ne w p u k (by omega)]
  exact h k x hk hb hx
theorem C_cells {w : World} {k : Nat} {cs : Array Value} {t : TypeId} (h : w.heap[k]? = some (.cells cs t (0, 0))) (l : List Int) (hl : l.length ≤ 9223372036854775807) (hc : ∀ (j : Nat) (x : Int), l[j]? = some x → cs[j]? = some (.int .u8 x)) : Kd.C (Kd.int .u8) w (some ⟨k, 0, none⟩) l.length l := by
  refine ⟨rfl, hl, fun _ => ⟨_, rfl, fun j p hj => ⟨[.int .u8 p], rfl, rfl, fun i u hu => ?_⟩⟩⟩
  have hi : i = 0 := by
    have := (List.getElem?_eq_some_iff.1 hu).1
    simpa using this
  subst hi
  cases hu
  rw [show j * (Kd.int IntKind.u8).sz + 0 = j from by rw [show (Kd.int IntKind.u8).sz = 1 from rfl]; omega, show (⟨k, 0, none⟩ : Addr).add j = ⟨k, j, none⟩ from by unfold Addr.add; split <;> simp_all]
  exact (blk_cell h j).trans (by first | exact hc j p hj | (rw [hc j p hj]; rfl) | simpa using hc j p hj)
theorem arr8_at (x : Int) (n : Nat) (hn : n ≤ 8) (j : Nat) (y : Int) (h : (wB x n)[j]? = some y) : (arr8 x n)[j]? = some (.int .u8 y) := by
  have hj := (List.getElem?_eq_some_iff.1 h).1
  rw [wB_length] at hj
  have h2 : ((wB x n).map (Value.int .u8))[j]? = some (.int .u8 y) := by rw [List.getElem?_map, h]; rfl
  simp only [arr8, List.getElem?_toArray]
  rw [List.getElem?_append_left (by rw [List.length_map, wB_length]; exact hj)]
  exact h2
set_option maxHeartbeats 4000000 in
set_option maxRecDepth 100000 in
theorem wnum_calls (base g : Nat) (bs : List Int) (most : Int) (x : Int) (size : Nat) (h1 : 1 ≤ size) (h8 : size ≤ 8) (x0 : 0 ≤ x) (x1 : x < 256 ^ size) (hfit : (bs.length : Int) + size ≤ most) (hm : most ≤ 1000000) (w : World) (h : WrAt w base g bs most) :
    Calls Tryz.prog 61 #[.pointer (some ⟨g, 0, none⟩), .int .u64 x, .int .i64 size] w fun r w' => r = .returned (.tuple #[]) ∧ WrAt w' base g (bs ++ wB x size) most ∧ Below base w w' ∧ Lib.OthersKept 5 (some g) w w' := by
  have hs1 : ¬ ((size : Int) < 1) := by omega
  have hs2 : ¬ ((size : Int) > 8) := by omega
  have hpow : ∀ k : Nat, (2 : Int) ^ (8 * k) = 256 ^ k := fun k => by rw [Int.pow_mul]; rfl
  have hz : x / 2 ^ (8 * size) = 0 := by rw [hpow]; exact Int.ediv_eq_zero_of_lt x0 x1
  have hz2 : (x / 2 ^ (8 * size) != 0) = false := by rw [hz]; rfl
  have HP := Aside0.mk hpow
  clear hpow
  have HW := Aside0.mk (h.alloc (.cells #[.int .u8 0, .int .u8 0, .int .u8 0, .int .u8 0, .int .u8 0, .int .u8 0, .int .u8 0, .int .u8 0] 205))
  have hgw := h.lt
  have hge := h.ge
  clear h
  rcases Nat.lt_or_ge size 8 with hs8 | hs8
  · have hs9 : ((size : Int) < 8) := by omega
    go_enter Tryz.func61, Tryz.ntmps61
    go_wp2
    go_loopw [9] (fun v9 wr => ∃ i : Nat, i ≤ size ∧ v9 = .int .i64 i ∧ Aside0 (wr.heap[w.heap.size]? = some (.cells (arr8 x i) 205 (0, 0)) ∧ WrAt wr base g bs most ∧ Below base w wr ∧ Lib.OthersKept 5 (some g) w wr)) (fun v _ => size - (RowKit.intOf v).toNat)
    case atStart => exact ⟨0, Nat.zero_le _, rfl, ⟨heap_alloc_new w _, HW.out, (Below.refl base w).alloc (by omega) _, (Lib.OthersKept.refl _ _ w).alloc _⟩⟩
    case round =>
      clear HW
      obtain ⟨i, hi, rfl, HI⟩ := hrel
      by_cases hlt : i < size
      · have hlt2 : (i : Int) < (size : Int) := by omega
        have i0 : (0 : Int) ≤ (i : Int) := by omega
        have i8 : (i : Int) < 8 := by omega
        have hsz : (arr8 x i).size = 8 := by simp [arr8, wB_length]; omega
        obtain ⟨cv, hcv⟩ : ∃ cv, wr.cell? ⟨w.heap.size, i, none⟩ = some cv := ⟨_, (blk_cell HI.out.1 i).trans (Array.getElem?_eq_getElem (by omega))⟩
        have hcf : wr.frozen? ⟨w.heap.size, i, none⟩ = false := blk_frozen HI.out.1 i
        go_wp2
        have hb := blk_set HI.out.1 i (.int .u8 (x / 2 ^ (8 * i) % 256))
        have hss := arr8_set x i (by omega)
        rw [← HP.out i] at hss
        rw [hss] at hb
        refine ⟨⟨i + 1, by omega, by go_num, ⟨hb, HI.out.2.1.set HI.out.1 (by omega) (by decide) i _, HI.out.2.2.1.setCell (p := ⟨w.heap.size, i, none⟩) (by show base ≤ w.heap.size; omega) _, kept_new HI.out.2.2.2 ⟨w.heap.size, i, none⟩ (Nat.le_refl _) _⟩⟩, ?_⟩
        simp [RowKit.intOf]
        omega
      · obtain rfl : i = size := by omega
        have hlt2 : ¬ ((i : Int) < (i : Int)) := by omega
        have hC := C_cells HI.out.1 (wB x i) (by rw [wB_length]; omega) (fun j y hj => arr8_at x i h8 j y hj)
        have hcon := raw_calls base g bs most (some ⟨w.heap.size, 0, none⟩) 8 (wB x i) (by rw [wB_length]; omega) (by rw [wB_length]; omega) hm wr HI.out.2.1 hC
        rw [wB_length] at hcon
        have HC := Aside0.mk hcon
        clear hC hcon
        go_wp2_with (first | (go_at_call 113; refine HC.out.mono ?_; rintro e w3 ⟨rfl, hW, hB, hK⟩))
        go_end0
        exact ⟨rfl, hW, HI.out.2.2.1.trans hB, HI.out.2.2.2.trans hK⟩
  · have hs9 : ¬ ((size : Int) < 8) := by omega
    go_enter Tryz.func61, Tryz.ntmps61
    go_wp2
    go_loopw [9] (fun v9 wr => ∃ i : Nat, i ≤ size ∧ v9 = .int .i64 i ∧ Aside0 (wr.heap[w.heap.size]? = some (.cells (arr8 x i) 205 (0, 0)) ∧ WrAt wr base g bs most ∧ Below base w wr ∧ Lib.OthersKept 5 (some g) w wr)) (fun v _ => size - (RowKit.intOf v).toNat)
    case atStart => exact ⟨0, Nat.zero_le _, rfl, ⟨heap_alloc_new w _, HW.out, (Below.refl base w).alloc (by omega) _, (Lib.OthersKept.refl _ _ w).alloc _⟩⟩
    case round =>
      clear HW
      obtain ⟨i, hi, rfl, HI⟩ := hrel
      by_cases hlt : i < size
      · have hlt2 : (i : Int) < (size : Int) := by omega
        have i0 : (0 : Int) ≤ (i : Int) := by omega
        have i8 : (i : Int) < 8 := by omega
        have hsz : (arr8 x i).size = 8 := by simp [arr8, wB_length]; omega
        obtain ⟨cv, hcv⟩ : ∃ cv, wr.cell? ⟨w.heap.size, i, none⟩ = some cv := ⟨_, (blk_cell HI.out.1 i).trans (Array.getElem?_eq_getElem (by omega))⟩
        have hcf : wr.frozen? ⟨w.heap.size, i, none⟩ = false := blk_frozen HI.out.1 i
        go_wp2
        have hb := blk_set HI.out.1 i (.int .u8 (x / 2 ^ (8 * i) % 256))
        have hss := arr8_set x i (by omega)
        rw [← HP.out i] at hss
        rw [hss] at hb
        refine ⟨⟨i + 1, by omega, by go_num, ⟨hb, HI.out.2.1.set HI.out.1 (by omega) (by decide) i _, HI.out.2.2.1.setCell (p := ⟨w.heap.size, i, none⟩) (by show base ≤ w.heap.size; omega) _, kept_new HI.out.2.2.2 ⟨w.heap.size, i, none⟩ (Nat.le_refl _) _⟩⟩, ?_⟩
        simp [RowKit.intOf]
        omega
      · obtain rfl : i = size := by omega
        have hlt2 : ¬ ((i : Int) < (i : Int)) := by omega
        have hC := C_cells HI.out.1 (wB x i) (by rw [wB_length]; omega) (fun j y hj => arr8_at x i h8 j y hj)
        have hcon := raw_calls base g bs most (some ⟨w.heap.size, 0, none⟩) 8 (wB x i) (by rw [wB_length]; omega) (by rw [wB_length]; omega) hm wr HI.out.2.1 hC
        rw [wB_length] at hcon
        have HC := Aside0.mk hcon
        clear hC hcon
        go_wp2_with (first | (go_at_call 113; refine HC.out.mono ?_; rintro e w3 ⟨rfl, hW, hB, hK⟩))
        go_end0
        exact ⟨rfl, hW, HI.out.2.2.1.trans hB, HI.out.2.2.2.trans hK⟩
theorem wint_calls (base g : Nat) (bs : List Int) (most : Int) (x : Int) (hfit : (bs.length : Int) + 8 ≤ most) (hm : most ≤ 1000000) (w : World) (h : WrAt w base g bs most) :
    Calls Tryz.prog 34 #[.pointer (some ⟨g, 0, none⟩), .int .i64 x] w fun r w' => r = .returned (.tuple #[]) ∧ WrAt w' base g (bs ++ wB (x % 18446744073709551616) 8) most ∧ Below base w w' ∧ Lib.OthersKept 5 (some g) w w' := by
  have hcon := wnum_calls base g bs most (x % 18446744073709551616) 8 (by omega) (by omega) (by omega) (by omega) hfit hm w h
  have hu : IntKind.u64.wrap x = x % 18446744073709551616 := by rw [IntKind.wrap_u64]
  clear h
  go_enter Tryz.func34, Tryz.ntmps34
  go_wp2_with (first | (go_at_call 61; refine hcon.mono ?_; rintro e w1 ⟨rfl, hW, hB, hK⟩))
  go_end0
  exact ⟨rfl, hW, hB, hK⟩
theorem r_bytes {w : World} {base : Nat} {v : Value} {l : List Int} (h : w.ownsRow base 5 1 v l.length (l.map (Value.int .u8))) : Kd.R (Kd.int .u8) 5 w base (fun _ => True) v l := by
  refine ⟨fun _ _ => trivial, _, h, by rw [List.length_map]; exact (Nat.mul_one _).symm, fun j p hj => ?_⟩
  have e : ((l.map (Value.int .u8)).drop (j * (Kd.int IntKind.u8).sz)).take (Kd.int IntKind.u8).sz = [.int .u8 p] := by
    rw [show (Kd.int IntKind.u8).sz = 1 from rfl, Nat.mul_one]
    have hl := (List.getElem?_eq_some_iff.1 hj).1
    rw [List.drop_eq_getElem_cons (by rw [List.length_map]; exact hl)]
    have := (List.getElem?_eq_some_iff.1 hj).2
    simp [this]
  rw [e]
  exact rfl
set_option maxHeartbeats 4000000 in
set_option maxRecDepth 100000 in
theorem done_calls (base g : Nat) (bs : List Int) (most : Int) (h0 : 0 < bs.length) (hl : bs.length ≤ 1000000) (w : World) (h : WrAt w base g bs most) :
    Calls Tryz.prog 35 #[.pointer (some ⟨g, 0, none⟩)] w fun r w' => ∃ v, r = .returned (.tuple #[v, .int .i64 0]) ∧ Kd.R (Kd.int .u8) 5 w' w.heap.size (fun _ => True) v bs ∧ Below w.heap.size w w' := by
  obtain ⟨v, hb, hg, hown, hne⟩ := h
  have hc0 : w.cell? ⟨g, 0, none⟩ = some (.int .i64 0) := (blk_cell hb 0).trans rfl
  have hc1 : w.cell? ⟨g, 1, none⟩ = some v := (blk_cell hb 1).trans rfl
  have hfine := fine_calls g 0 w hc0
  obtain ⟨i0, hi, hz0, hz1, hz2⟩ := info_parts infoU8
  obtain ⟨Av, cv, rfl, hcv⟩ := Go.Proofs.YteeclengpnjlgaaGreat.own_slice hown
  have hlt := blk_lt hb
  have hx0 : (w.alloc (.cells #[] 5)).ownsRow w.heap.size 5 1 (.slice (some ⟨w.heap.size, 0, none⟩) 0 0) 0 [] :=
    ⟨rfl, .inr ⟨w.heap.size, 0, _, rfl, Nat.le_refl _, heap_alloc_new w _, Nat.le_refl _, by simp [maxLen], rfl, rfl⟩⟩
  obtain ⟨ad, rfl⟩ : ∃ ad, Av = some ad := by
    rcases hown.2 with ⟨_, e⟩ | ⟨k, cap, cur, e, _⟩
    · omega
    · injection e with e; exact ⟨_, e⟩
  have hys : ∀ j u, (bs.map (Value.int .u8))[j]? = some u → (w.alloc (.cells #[] 5)).cell? (ad.add j) = some u := fun j u hj => by
    obtain ⟨k, hk⟩ : ∃ k, (Value.slice (some ad) bs.length cv).ownBlock = some k ∧ ad = ⟨k, 0, none⟩ := by
      rcases hown.2 with ⟨e, _⟩ | ⟨k, cap, cur, e, _⟩
      · injection e with e; cases e
      · injection e with e; injection e with e; subst e; exact ⟨k, rfl, rfl⟩
    rw [hk.2]
    exact (hown.alloc (.cells #[] 5)).cells hk.1 j u hj
  obtain ⟨v', w1, hr, hown1, hg1, hiff⟩ := run_append_own (P := Tryz.prog) (w.alloc (.cells #[] 5)) w.heap.size 22 22 5 i0 (.int .u8 0) 1 1 Tryz.underlying22 hi hz0 hz1 hz2 rfl (by omega) (.slice (some ⟨w.heap.size, 0, none⟩) 0 0) 0 [] hx0 ad bs.length cv (bs.map (Value.int .u8)) (by simp) hys (by intro u hu; simp only [List.mem_map] at hu; obtain ⟨b, _, rfl⟩ := hu; rfl) (by simp only [maxLen]; omega) (by omega) (by simp)
  have hbel : Below w.heap.size w w1 := (((Below.refl w.heap.size w).alloc (Nat.le_refl _) _).grown hg1 (by simp) (fun k hk => by cases hk; exact Nat.le_refl _))
  rw [Nat.zero_add, List.nil_append] at hown1
  have HR := Aside0.mk hr
  have HO := Aside0.mk (r_bytes hown1)
  have HL := Aside0.mk hbel
  clear hb hown hys hg1 hiff hr hx0 hown1 hbel
  go_enter Tryz.func35, Tryz.ntmps35
  go_wp2_with (first | (go_at_call 87; refine hfine.mono ?_; rintro e w9 ⟨rfl, rfl⟩) | (at_builtin; refine wpList_append_eq rfl _ _ 22 rfl _ _ rfl rfl HR.out ?_))
  go_wp2
  go_ret2
  exact ⟨_, rfl, HO.out, HL.out⟩
end Go.Proofs.YteeclengpnjlgaaGreat
