import Derived.Test.YteeclengpnjlgaaGreatWWords
import Derived.Test.YteeclengpnjlgaaGreatProg
import Derived.Test.YteeclengpnjlgaaGreatRowX
import Derived.Laws.BitsAllLaws
/- wire.Reader: what its methods do to it. -/
set_option linter.unusedVariables false
set_option linter.unusedSimpArgs false
namespace Go.Proofs.YteeclengpnjlgaaGreat
open Go.RowKit YteeclengpnjlgaaGreatW.PrintWords
theorem infoU8 : (Tryz.prog.info? 5).map (fun i => (i.zero, i.size, i.bytes)) = some (some (.int .u8 0), 1, 1) := by kernel_rfl
/-- A reader at block g: the first error's number, the bytes that are left. -/
def RdAtL (lo : Nat) (w : World) (g : Nat) (err : Int) (bs : List Int) : Prop :=
  ∃ A c, w.heap[g]? = some (.cells #[.int .i64 err, .slice A bs.length c] 173 (0, 0)) ∧ bs.length ≤ c ∧ Kd.C (Kd.int .u8) w A bs.length bs ∧ ∀ a, A = some a → lo ≤ a.block ∧ a.block < g
abbrev RdAt := RdAtL 0
variable {lo : Nat}
theorem fine_calls (g : Nat) (e : Int) (w : World) (hc : w.cell? ⟨g, 0, none⟩ = some (.int .i64 e)) :
    Calls Tryz.prog 87 #[.pointer (some ⟨g, 0, none⟩)] w fun r w' => r = .returned (.bool (e == 0)) ∧ w' = w := by
  go_enter Tryz.func87, Tryz.ntmps87
  go_wp2
  go_ret
  exact ⟨rfl, rfl⟩
theorem wrong_calls (g : Nat) (e x : Int) (w : World) (hc : w.cell? ⟨g, 0, none⟩ = some (.int .i64 e)) (hf : w.frozen? ⟨g, 0, none⟩ = false) :
    Calls Tryz.prog 112 #[.pointer (some ⟨g, 0, none⟩), .int .i64 x] w fun r w' => r = .returned (.tuple #[]) ∧ w' = if e = 0 then w.setCell ⟨g, 0, none⟩ (.int .i64 x) else w := by
  by_cases he : e = 0
  · subst he
    go_enter Tryz.func112, Tryz.ntmps112
    go_wp2
    go_end0
    exact ⟨rfl, by simp⟩
  · have heb : (e == 0) = false := beq_eq_false_iff_ne.2 he
    go_enter Tryz.func112, Tryz.ntmps112
    go_wp2
    go_end0
    exact ⟨rfl, by first | rfl | (rw [if_neg he])⟩
section
variable {w : World} {g : Nat} {err : Int} {bs : List Int}
theorem RdAtL.cell0 (h : RdAtL lo w g err bs) : w.cell? ⟨g, 0, none⟩ = some (.int .i64 err) ∧ w.frozen? ⟨g, 0, none⟩ = false := by
  obtain ⟨A, c, hb, _⟩ := h
  exact ⟨(blk_cell hb 0).trans rfl, blk_frozen hb 0⟩
theorem C_block {w w' : World} {A : Option Addr} {n : Nat} {xs : List Int} (h : Kd.C (Kd.int .u8) w A n xs) (hb : ∀ a, A = some a → w'.heap[a.block]? = w.heap[a.block]?) : Kd.C (Kd.int .u8) w' A n xs := by
  refine ⟨h.1, h.2.1, fun hp => ?_⟩
  obtain ⟨ad, e, hc⟩ := h.2.2 hp
  refine ⟨ad, e, fun j p' hj => ?_⟩
  obtain ⟨cs, hl, hk, hcell⟩ := hc j p' hj
  refine ⟨cs, hl, hk, fun i u' hu => ?_⟩
  have h1 := hcell i u' hu
  unfold World.cell? at h1 ⊢
  rw [add_block] at h1 ⊢
  rw [hb ad e]
  exact h1
theorem heap_setCell_ne (w : World) (p : Addr) (u : Value) (k : Nat) (h : k ≠ p.block) : (w.setCell p u).heap[k]? = w.heap[k]? := Below.heap_setCell w p u k h
/-- The first error is noted. -/
theorem RdAtL.set (h : RdAtL lo w g err bs) (x : Int) : RdAtL lo (w.setCell ⟨g, 0, none⟩ (.int .i64 x)) g x bs := by
  obtain ⟨A, c, hb, hl, hC, hne⟩ := h
  exact ⟨A, c, by simpa using blk_set hb 0 (.int .i64 x), hl, C_block hC (fun a e => heap_setCell_ne _ _ _ _ (Nat.ne_of_lt (hne a e).2)), hne⟩
theorem RdAtL.lt (h : RdAtL lo w g err bs) : g < w.heap.size := by
  obtain ⟨A, c, hb, _⟩ := h
  exact blk_lt hb
/-- What is written elsewhere, and new blocks, leave it: the row's block is there already. -/
theorem RdAtL.below {w' : World} (h : RdAtL lo w g err bs) (hb : Below w.heap.size w w') : RdAtL lo w' g err bs := by
  obtain ⟨A, c, hk, hl, hC, hne⟩ := h
  exact ⟨A, c, blk_below hk hb, hl, Kd.C_below hC hb, hne⟩
theorem RdAtL.alloc (h : RdAtL lo w g err bs) (o : Obj) : RdAtL lo (w.alloc o) g err bs := h.below ((Below.refl _ _).alloc (Nat.le_refl _) _)
theorem RdAtL.drew (h : RdAtL lo w g err bs) : RdAtL lo w.drew g err bs := h
/-- A store behind it. -/
theorem RdAtL.far {p : Addr} (h : RdAtL lo w g err bs) (hp : g < p.block) (u : Value) : RdAtL lo (w.setCell p u) g err bs := by
  obtain ⟨A, c, hk, hl, hC, hne⟩ := h
  exact ⟨A, c, by rw [heap_setCell_ne w p u g (Nat.ne_of_lt hp)]; exact hk, hl, C_block hC (fun a e => heap_setCell_ne _ _ _ _ (Nat.ne_of_lt (Nat.lt_trans (hne a e).2 hp))), hne⟩
/-- A row that is written in another block. -/
theorem RdAtL.grown {w' : World} {k : Nat} (h : RdAtL lo w g err bs) (hg : w.grownBy w' (some k)) (hk : g < k) : RdAtL lo w' g err bs := by
  obtain ⟨A, c, hb, hl, hC, hne⟩ := h
  have hlt := blk_lt hb
  exact ⟨A, c, by rw [hg.block g hlt (by simp; omega)]; exact hb, hl, C_block hC (fun a e => hg.block _ (Nat.lt_trans (hne a e).2 hlt) (by have := hne a e; simp; omega)), hne⟩
theorem RdAtL.weak (h : RdAtL lo w g err bs) : RdAt w g err bs := by
  obtain ⟨A, c, hb, hl, hC, hne⟩ := h
  exact ⟨A, c, hb, hl, hC, fun a e => ⟨Nat.zero_le _, (hne a e).2⟩⟩
/-- A row that is written in a block below the reader's own. -/
theorem RdAtL.under {w' : World} {k : Nat} (h : RdAtL lo w g err bs) (hlo : lo ≤ g) (hg : w.grownBy w' (some k)) (hk : k < lo) : RdAtL lo w' g err bs := by
  obtain ⟨A, c, hb, hl, hC, hne⟩ := h
  have hlt := blk_lt hb
  exact ⟨A, c, by rw [hg.block g hlt (by simp; omega)]; exact hb, hl, C_block hC (fun a e => hg.block _ (Nat.lt_trans (hne a e).2 hlt) (by have := hne a e; simp; omega)), hne⟩
theorem setCell_grown {w : World} {g : Nat} (j : Nat) (u : Value) : w.grownBy (w.setCell ⟨g, j, none⟩ u) (some g) :=
  ⟨rfl, rfl, rfl, by simp, fun k _ hne => heap_setCell_ne w _ u k (fun e => hne (by rw [e]))⟩
end
/-- What a number of so many bytes leaves. -/
def leN : List Int → Int
  | [] => 0
  | b :: r => b + 256 * leN r
theorem or_shift (j : Nat) (hj : j < 8) (x b : Int) (x0 : 0 ≤ x) (x1 : x < 256 ^ j) (b0 : 0 ≤ b) (b1 : b < 256) : bits .or .u64 x (IntKind.u64.wrap (b * 2 ^ (8 * j))) = x + 256 ^ j * b := by
  obtain ⟨X, rfl⟩ := Int.eq_ofNat_of_zero_le x0
  obtain ⟨B, rfl⟩ := Int.eq_ofNat_of_zero_le b0
  have hp : (256 : Int) ^ j = ((2 ^ (8 * j) : Nat) : Int) := by
    have e : (2 : Nat) ^ (8 * j) = 256 ^ j := by rw [Nat.pow_mul]
    rw [e, Int.natCast_pow]
    rfl
  have hX : X < 2 ^ (8 * j) := by rw [hp] at x1; exact_mod_cast x1
  have hB : B < 256 := by omega
  have hle : (2 : Nat) ^ (8 * j) ≤ 2 ^ 56 := Nat.pow_le_pow_right (by decide) (by omega)
  have hBp : B * 2 ^ (8 * j) < 18446744073709551616 := by
    have h1 : B * 2 ^ (8 * j) ≤ 255 * 2 ^ (8 * j) := Nat.mul_le_mul_right _ (by omega)
    have h2 : 255 * 2 ^ (8 * j) ≤ 255 * 2 ^ 56 := Nat.mul_le_mul_left _ hle
    omega
  have hw : IntKind.u64.wrap ((B : Int) * 2 ^ (8 * j)) = ((B * 2 ^ (8 * j) : Nat) : Int) := by
    rw [IntKind.wrap_u64]
    have e : ((B : Int) * 2 ^ (8 * j)) = ((B * 2 ^ (8 * j) : Nat) : Int) := by push_cast; rfl
    rw [e]
    omega
  rw [hw, u64_or_nat X (B * 2 ^ (8 * j)) (by omega) hBp, hp]
  have h := Nat.shiftLeft_add_eq_or_of_lt hX B
  rw [Nat.shiftLeft_eq] at h
  rw [Nat.or_comm, ← h]
  push_cast
  rw [Int.mul_comm (B : Int)]
  omega
theorem leN_append : ∀ (a b : List Int), leN (a ++ b) = leN a + 256 ^ a.length * leN b
  | [], b => by simp [leN]
  | x :: a, b => by
    simp only [List.cons_append, leN, leN_append a b, List.length_cons, Int.pow_succ]
    rw [Int.mul_add, Int.mul_comm (256 ^ a.length) 256, Int.mul_assoc]
    omega
theorem leN_snoc (l : List Int) (j : Nat) (h : j < l.length) : leN (l.take (j + 1)) = leN (l.take j) + 256 ^ j * l[j] := by
  have e : l.take (j + 1) = l.take j ++ [l[j]] := by rw [List.take_append_getElem]
  have hl : (l.take j).length = j := by rw [List.length_take]; omega
  rw [e, leN_append, hl]
  simp [leN]
theorem leN_range : ∀ (l : List Int), (∀ b ∈ l, 0 ≤ b ∧ b < 256) → 0 ≤ leN l ∧ leN l < 256 ^ l.length
  | [], _ => by simp [leN]
  | x :: l, h => by
    have ih := leN_range l (fun b hb => h b (List.mem_cons_of_mem _ hb))
    obtain ⟨h0, h1⟩ := h x (by simp)
    simp only [leN, List.length_cons, Int.pow_succ]
    omega
def rNum (size : Nat) (s : Int × List Int) : Int × (Int × List Int) := if s.1 ≠ 0 then (0, s) else if s.2.length < size then (0, (6, s.2)) else (leN (s.2.take size), (0, s.2.drop size))
def rTake (n : Nat) (s : Int × List Int) : List Int × (Int × List Int) := if s.1 ≠ 0 then ([], s) else if s.2.length < n then ([], (6, s.2)) else (s.2.take n, (0, s.2.drop n))
set_option maxHeartbeats 4000000 in
theorem take_calls (g : Nat) (err : Int) (bs : List Int) (n : Nat) (hn : n ≤ 1000000) (w : World) (h : RdAtL lo w g err bs) :
    Calls Tryz.prog 123 #[.pointer (some ⟨g, 0, none⟩), .int .i64 n] w fun r w' => ∃ A c, r = .returned (.slice A (rTake n (err, bs)).1.length c) ∧ Kd.C (Kd.int .u8) w' A (rTake n (err, bs)).1.length (rTake n (err, bs)).1 ∧
      RdAtL lo w' g (rTake n (err, bs)).2.1 (rTake n (err, bs)).2.2 ∧ w.grownBy w' (some g) := by
  obtain ⟨A, c, hb, hl, hC, hne⟩ := h
  have hc0 : w.cell? ⟨g, 0, none⟩ = some (.int .i64 err) := (blk_cell hb 0).trans rfl
  have hc1 : w.cell? ⟨g, 1, none⟩ = some (.slice A bs.length c) := (blk_cell hb 1).trans rfl
  have hf0 : w.frozen? ⟨g, 0, none⟩ = false := blk_frozen hb 0
  have hf1 : w.frozen? ⟨g, 1, none⟩ = false := blk_frozen hb 1
  have hfine := fine_calls g err w hc0
  have HR := Aside0.mk (show RdAtL lo w g err bs from ⟨A, c, hb, hl, hC, hne⟩)
  have HB := Aside0.mk hb
  have HC := Aside0.mk hC
  have HN := Aside0.mk hne
  clear hb hC hne
  unfold rTake
  by_cases he : err = 0
  · subst he
    rw [if_neg (by simp)]
    simp only
    by_cases hs : bs.length < n
    · rw [if_pos hs]
      have hsb : ((n : Int) > (bs.length : Int)) := by omega
      have hw := wrong_calls g 0 6 w hc0 hf0
      rw [if_pos rfl] at hw
      go_enter Tryz.func123, Tryz.ntmps123
      go_wp2_with (first | (go_at_call 87; refine hfine.mono ?_; rintro e w' ⟨rfl, rfl⟩) | (go_at_call 112; refine hw.mono ?_; rintro e w' ⟨rfl, rfl⟩))
      go_ret
      exact ⟨none, 0, rfl, Kd.C_nil _ _, HR.out.set 6, setCell_grown 0 _⟩
    · rw [if_neg hs]
      have hsb : ¬ ((n : Int) > (bs.length : Int)) := by omega
      have hi := info_parts infoU8
      obtain ⟨i0, hi0, _, hsz, _⟩ := hi
      have hel : Tryz.prog.elem 22 = 5 := by simp [Program.elem, Tryz.underlying22]
      have hcut1 : ∀ W : World, (Instr.slice 22 (.slice A bs.length c) none (some (.int .i64 n)) (some (.int .i64 n))).run Tryz.prog W = .ok (.slice A n n) W := fun W => by
        rw [run_slice_hm W 22 A bs.length c (by rw [hel]; exact Tryz.underlying22) .i64 .i64 n n (by omega) (by omega) (by omega), hel]
        have ha : (A.map fun x => x.add 0) = A := by cases A <;> simp [Addr.add]
        simp [sizeOf, typeInfo, hi0, hsz, sliced, Result.andThen, ha]
      have hcut2 := cut_from (P := Tryz.prog) 22 5 .i64 Tryz.underlying22 hi0 1 hsz A bs.length c n (by omega) (by omega)
      simp only [Int.toNat_natCast, Nat.mul_one] at hcut2
      have hCd := Kd.C_drop (m := n) (c := c) HC.out (by omega) hl
      rw [show n * (Kd.int IntKind.u8).sz = n from Nat.mul_one n] at hCd
      have hCt := Kd.C_take (m := n) HC.out (by omega)
      have hA2 : ∀ a, (if c = n then A else A.map (·.add (n * 1))) = some a → lo ≤ a.block ∧ a.block < g := fun a ha => by
        split at ha
        · exact HN.out a ha
        · cases hA : A with
          | none => rw [hA] at ha; cases ha
          | some b => rw [hA] at ha; injection ha with ha; rw [← ha]; simp only [add_block]; exact HN.out b hA
      have hlt : (bs.take n).length = n := by rw [List.length_take]; omega
      have hld : (bs.drop n).length = bs.length - n := List.length_drop
      rw [Nat.mul_one] at hA2
      have HD := Aside0.mk hCd
      have HT := Aside0.mk hCt
      have HA := Aside0.mk hA2
      clear hCd hCt hA2
      generalize hA3 : (if c = n then A else A.map (·.add n)) = A2 at *
      go_enter Tryz.func123, Tryz.ntmps123
      go_wp2_with (first | (go_at_call 87; refine hfine.mono ?_; rintro e w' ⟨rfl, rfl⟩))
      go_ret
      refine ⟨A, n, by rw [hlt]; rfl, C_block HT.out (fun a e => heap_setCell_ne _ _ _ _ (Nat.ne_of_lt (HN.out a e).2)), ⟨A2, c - n, ?_, by rw [hld]; omega, C_block HD.out (fun a e => heap_setCell_ne _ _ _ _ (Nat.ne_of_lt (HA.out a e).2)), HA.out⟩, setCell_grown 1 _⟩
      have := blk_set HB.out 1 (.slice A2 (bs.length - n) (c - n))
      rw [hld]
      simpa using this
  · rw [if_pos he]
    have heb : (err == 0) = false := beq_eq_false_iff_ne.2 he
    go_enter Tryz.func123, Tryz.ntmps123
    go_wp2_with (first | (go_at_call 87; refine hfine.mono ?_; rintro e w' ⟨rfl, rfl⟩))
    go_ret
    exact ⟨none, 0, rfl, Kd.C_nil _ _, HR.out, ⟨rfl, rfl, rfl, Nat.le_refl _, fun _ _ _ => rfl⟩⟩
set_option maxHeartbeats 4000000 in
theorem err_calls (g : Nat) (err : Int) (bs : List Int) (w : World) (h : RdAtL lo w g err bs) :
    Calls Tryz.prog 40 #[.pointer (some ⟨g, 0, none⟩)] w fun r w' => r = .returned (.int .i64 err) ∧ w' = w := by
  obtain ⟨hc0, hf0⟩ := h.cell0
  clear h
  go_enter Tryz.func40, Tryz.ntmps40
  go_wp2
  go_ret
  exact ⟨rfl, rfl⟩
set_option maxHeartbeats 4000000 in
theorem left_calls (g : Nat) (err : Int) (bs : List Int) (w : World) (h : RdAtL lo w g err bs) :
    Calls Tryz.prog 135 #[.pointer (some ⟨g, 0, none⟩)] w fun r w' => r = .returned (.int .i64 (if err = 0 then (bs.length : Int) else 0)) ∧ w' = w := by
  obtain ⟨A, c, hb, hl, hC, hne⟩ := h
  have hc0 : w.cell? ⟨g, 0, none⟩ = some (.int .i64 err) := (blk_cell hb 0).trans rfl
  have hc1 : w.cell? ⟨g, 1, none⟩ = some (.slice A bs.length c) := (blk_cell hb 1).trans rfl
  have hfine := fine_calls g err w hc0
  clear hb hC hne
  by_cases he : err = 0
  · subst he
    go_enter Tryz.func135, Tryz.ntmps135
    go_wp2_with (first | (go_at_call 87; refine hfine.mono ?_; rintro e w' ⟨rfl, rfl⟩))
    go_ret
    exact ⟨rfl, rfl⟩
  · have heb : (err == 0) = false := beq_eq_false_iff_ne.2 he
    rw [if_neg he]
    go_enter Tryz.func135, Tryz.ntmps135
    go_wp2_with (first | (go_at_call 87; refine hfine.mono ?_; rintro e w' ⟨rfl, rfl⟩))
    go_ret
    exact ⟨rfl, rfl⟩
set_option maxHeartbeats 4000000 in
theorem num_calls (g : Nat) (err : Int) (bs : List Int) (size : Nat) (h1 : 1 ≤ size) (h8 : size ≤ 8) (hall : ∀ b ∈ bs, 0 ≤ b ∧ b < 256) (w : World) (h : RdAtL lo w g err bs) :
    Calls Tryz.prog 72 #[.pointer (some ⟨g, 0, none⟩), .int .i64 size] w fun r w' => r = .returned (.int .u64 (rNum size (err, bs)).1) ∧ RdAtL lo w' g (rNum size (err, bs)).2.1 (rNum size (err, bs)).2.2 ∧ w.grownBy w' (some g) := by
  have hcon := take_calls g err bs size (by omega) w h
  have hst : (rNum size (err, bs)).2 = (rTake size (err, bs)).2 := by unfold rNum rTake; (repeat' split) <;> rfl
  have hv : (rNum size (err, bs)).1 = leN (rTake size (err, bs)).1 := by unfold rNum rTake; (repeat' split) <;> rfl
  have hlen : (rTake size (err, bs)).1.length ≤ 8 := by unfold rTake; (repeat' split) <;> simp <;> omega
  have hwf : ∀ b ∈ (rTake size (err, bs)).1, 0 ≤ b ∧ b < 256 := by
    intro b hb
    unfold rTake at hb
    split at hb
    · simp at hb
    · split at hb
      · simp at hb
      · exact hall b (List.mem_of_mem_take hb)
  rw [hst, hv]
  generalize (rTake size (err, bs)).1 = ts at *
  generalize (rTake size (err, bs)).2 = st at *
  clear hst hv h
  have hs1 : ¬ ((size : Int) < 1) := by omega
  have hs2 : ¬ ((size : Int) > 8) := by omega
  go_enter Tryz.func72, Tryz.ntmps72
  go_wp2_with (first | (go_at_call 123; refine hcon.mono ?_; rintro e w1 ⟨A, c, rfl, hC, hR, hG⟩))
  have HC := Aside0.mk hC
  have HR := Aside0.mk hR
  have HG := Aside0.mk hG
  clear hC hR hG hcon
  go_loopw [5, 24] (fun x i wr => ∃ j : Nat, j ≤ ts.length ∧ i = .int .i64 j ∧ x = .int .u64 (leN (ts.take j)) ∧ wr = w1) (fun _ i _ => ts.length - (RowKit.intOf i).toNat)
  case atStart => exact ⟨0, Nat.zero_le _, rfl, rfl, rfl⟩
  case round =>
    obtain ⟨j, hj, rfl, rfl, rfl⟩ := hrel
    by_cases hlt : j < ts.length
    · obtain ⟨ad, e1, hx⟩ := Kd.at_int HC.out (j : Int) (by omega) (by omega)
      cases e1
      have hn : rd ts (j : Int) = ts[j] := by simp [rd, List.getD_eq_getElem?_getD, List.getElem?_eq_getElem hlt]
      rw [hn, Int.toNat_natCast] at hx
      obtain ⟨n0, n1⟩ := hwf ts[j] (List.getElem_mem hlt)
      have hstep := leN_snoc ts j hlt
      generalize ts[j] = b at *
      have p1 : (0 : Int) ≤ (j : Int) := by omega
      have p2 : (j : Int) < (ts.length : Int) := by omega
      have hrg := leN_range (ts.take j) (fun x hx => hwf x (List.mem_of_mem_take hx))
      have hlj : (ts.take j).length = j := by rw [List.length_take]; omega
      rw [hlj] at hrg
      have hor := or_shift j (by omega) (leN (ts.take j)) b hrg.1 hrg.2 n0 n1
      have HO := Aside0.mk hor
      have HS := Aside0.mk hstep
      clear hor hstep hrg
      go_wp2
      refine ⟨⟨j + 1, by omega, by go_num, by rw [HO.out, HS.out], trivial⟩, ?_⟩
      simp [RowKit.intOf]
      omega
    · obtain rfl : j = ts.length := by omega
      have p2 : ¬ ((ts.length : Int) < (ts.length : Int)) := by omega
      rw [List.take_length]
      go_wp2
      go_ret
      exact ⟨rfl, HR.out, HG.out⟩
/-- A number with a sign, out of one without. -/
def sgn (z : Int) : Int := if z < 9223372036854775808 then z else z - 18446744073709551616
theorem int_calls (g : Nat) (err : Int) (bs : List Int) (hall : ∀ b ∈ bs, 0 ≤ b ∧ b < 256) (w : World) (h : RdAtL lo w g err bs) :
    Calls Tryz.prog 39 #[.pointer (some ⟨g, 0, none⟩)] w fun r w' => r = .returned (.int .i64 (wrap64 (rNum 8 (err, bs)).1)) ∧ RdAtL lo w' g (rNum 8 (err, bs)).2.1 (rNum 8 (err, bs)).2.2 ∧ w.grownBy w' (some g) := by
  have hcon := num_calls g err bs 8 (by omega) (by omega) hall w h
  clear h
  generalize (rNum 8 (err, bs)).1 = x at *
  generalize (rNum 8 (err, bs)).2 = st at *
  go_enter Tryz.func39, Tryz.ntmps39
  go_wp2_with (first | (go_at_call 72; refine hcon.mono ?_; rintro e w1 ⟨rfl, hR, hG⟩))
  go_ret
  exact ⟨by first | rfl | simp [i64_w], hR, hG⟩
theorem wpList_append_eq {P : Program} {w w' : World} {ops : Array Oper} {rest : List Oper} {o : Oper} {a : Act} {Q : Exit → Act → World → Prop} (hgd : o.guard = none) (s x : Operand) (t : TypeId) (ho : o.op = .call { callee := .builtin .append, args := #[s, x], argTypes := #[t, t] })
    (v u : Value) (hs : a.eval s = v) (hx : a.eval x = u) {v' : Value} (hr : (Builtin.append_ #[t, t] o.type #[v, u]).run P w = .ok v' w') (h : wpList P ops Q rest (a.put o.dst v') w') : wpList P ops Q (o :: rest) a w := by
  refine wpList_plain hgd fun K hK => ?_
  unfold Oper.wp execOp
  simp only [ho, resolve, invoke, builtin, Sem.run_bind, Sem.run_pure, Result.andThen_ok, List.map_toArray, List.map_cons, List.map_nil, hs, hx, hr]
  exact hK _ _ h
theorem ownsX_C {w : World} {base c : Nat} {A : Option Addr} {bs : List Int} (h : w.ownsX base 5 (.slice A bs.length c) bs.length (bs.map (Value.int .u8))) : Kd.C (Kd.int .u8) w A bs.length bs := by
  have hm : bs.length ≤ 9223372036854775807 := by
    rcases h.2 with ⟨_, h0⟩ | ⟨g, cap, cur, fz, _, _, _, _, h1, h2, _⟩
    · omega
    · simp only [maxLen] at h2; omega
  refine ⟨rfl, hm, fun hp => ?_⟩
  rcases h.2 with ⟨_, h0⟩ | ⟨g, cap, cur, fz, hv, _⟩
  · omega
  · injection hv with ha _ _
    subst ha
    refine ⟨_, rfl, fun j p hj => ⟨[.int .u8 p], rfl, rfl, fun i u hu => ?_⟩⟩
    have hi : i = 0 := by
      have := (List.getElem?_eq_some_iff.1 hu).1
      simpa using this
    subst hi
    cases hu
    have := h.cells (g := g) rfl j (.int .u8 p) (by rw [List.getElem?_map, hj]; rfl)
    simpa [show (Kd.int IntKind.u8).sz = 1 from rfl] using this
/-- append([]byte{}, b...). -/
theorem read_append (A0 : Option Addr) (c0 : Nat) (bs : List Int) (hl : bs.length ≤ 140737488351232) (w : World) (hC : Kd.C (Kd.int .u8) w A0 bs.length bs) (i0 : TypeInfo) (hi : Tryz.prog.info? 5 = some i0) (hz0 : i0.zero = some (.int .u8 0)) (hz1 : i0.size = 1) (hz2 : i0.bytes = 1) :
    ∃ v1 w1, (Builtin.append_ #[22, 22] 22 #[.slice (some ⟨w.heap.size, 0, none⟩) 0 0, .slice A0 bs.length c0]).run Tryz.prog (w.alloc (.cells #[] 5)) = .ok v1 w1 ∧ w1.ownsX w.heap.size 5 v1 bs.length (bs.map (Value.int .u8)) ∧ (w.alloc (.cells #[] 5)).grownBy w1 (some w.heap.size) := by
  have hx0 : (w.alloc (.cells #[] 5)).ownsX w.heap.size 5 (.slice (some ⟨w.heap.size, 0, none⟩) 0 0) 0 [] :=
    ⟨rfl, .inr ⟨w.heap.size, 0, _, (0, 0), rfl, Nat.le_refl _, heap_alloc_new w _, .inl (Nat.le_refl _), Nat.le_refl _, by simp [maxLen], rfl, rfl⟩⟩
  rcases Nat.eq_zero_or_pos bs.length with h0 | hp
  · obtain rfl := List.eq_nil_of_length_eq_zero h0
    refine ⟨_, _, ?_, hx0, ⟨rfl, rfl, rfl, Nat.le_refl _, fun _ _ _ => rfl⟩⟩
    have hf : ∀ W : World, (Builtin.firstCells 1 0 (.slice A0 0 c0)).run Tryz.prog W = .ok #[] W := fun W => by
      cases A0 with
      | none => exact run_firstCells_none W 1 0 0 c0
      | some a => exact run_firstCells_some W 1 0 a 0 c0 [] rfl (fun j v h => by simp at h)
    simp [Builtin.append_, run_underlying Tryz.underlying22, sizeOf, typeInfo, hi, hz1, Builtin.lenOf, hf, storeCells]
  · obtain ⟨ad, rfl, hc⟩ := hC.2.2 hp
    have hys : ∀ j u, (bs.map (Value.int .u8))[j]? = some u → (w.alloc (.cells #[] 5)).cell? (ad.add j) = some u := fun j u hj => by
      rw [List.getElem?_map] at hj
      obtain ⟨p, hp', rfl⟩ := Option.map_eq_some_iff.1 hj
      obtain ⟨cs, hl', hk, hcell⟩ := hc j p hp'
      have : cs = [.int .u8 p] := hk
      subst this
      have h1 := hcell 0 _ rfl
      rw [show j * (Kd.int IntKind.u8).sz + 0 = j from by rw [show (Kd.int IntKind.u8).sz = 1 from rfl]; omega] at h1
      rw [World.cell?_of_block ((World.grownBy_alloc w _ none).block _ (World.block_lt_of_cell? w _ h1) (by simp))]
      exact h1
    obtain ⟨v', w', hr, ho, hg⟩ := run_append_X (P := Tryz.prog) (w.alloc (.cells #[] 5)) w.heap.size 22 22 5 i0 Tryz.underlying22 hi hz0 hz1 hz2 _ 0 [] hx0 ad bs.length c0 (bs.map (Value.int .u8)) (by simp) hys (by intro u hu; simp only [List.mem_map] at hu; obtain ⟨b, _, rfl⟩ := hu; rfl) hp (by omega) (by simp)
    rw [Nat.zero_add] at ho
    exact ⟨v', w', hr, ho, hg⟩
set_option maxHeartbeats 4000000 in
theorem read_calls (A0 : Option Addr) (c0 : Nat) (bs : List Int) (hl : bs.length ≤ 140737488351232) (hc0 : bs.length ≤ c0) (w : World) (hC : Kd.C (Kd.int .u8) w A0 bs.length bs) :
    Calls Tryz.prog 38 #[.slice A0 bs.length c0] w fun r w' => ∃ g, r = .returned (.pointer (some ⟨g, 0, none⟩)) ∧ RdAtL w.heap.size w' g 0 bs ∧ w.heap.size ≤ g ∧ Below w.heap.size w w' := by
  obtain ⟨i0, hi, hz0, hz1, hz2⟩ := info_parts infoU8
  obtain ⟨v1, w1, hr, ho1, hg1⟩ := read_append A0 c0 bs hl w hC i0 hi hz0 hz1 hz2
  have HO := Aside0.mk ho1
  have HG := Aside0.mk hg1
  obtain ⟨A1, c1, rfl, hA1⟩ : ∃ A1 c1, v1 = .slice A1 bs.length c1 ∧ ∀ a, A1 = some a → w.heap.size ≤ a.block ∧ a.block < w1.heap.size := by
    rcases ho1.2 with ⟨rfl, h0⟩ | ⟨g, cap, cur, fz, rfl, hgb, hgk, _⟩
    · exact ⟨none, 0, by rw [h0], fun a h => by cases h⟩
    · exact ⟨_, _, rfl, fun a h => by cases h; exact ⟨hgb, (Array.getElem?_eq_some_iff.1 hgk).1⟩⟩
  have hC1 : Kd.C (Kd.int .u8) w1 A1 bs.length bs := ownsX_C ho1
  have hle1 : bs.length ≤ c1 := by
    rcases ho1.2 with ⟨h, h0⟩ | ⟨g, cap, cur, fz, h, _, _, _, hcap, _⟩
    · omega
    · injection h with _ _ h3; omega
  have HC := Aside0.mk hC1
  have HA := Aside0.mk hA1
  clear hC ho1 hg1 hC1 hA1
  go_enter Tryz.func38, Tryz.ntmps38
  go_wp2_with (at_builtin; refine wpList_append_eq rfl _ _ 22 rfl _ _ rfl rfl hr ?_)
  go_wp2
  go_ret
  have hsz : w.heap.size ≤ w1.heap.size := by have := HG.out.size; simp at this; omega
  refine ⟨w1.heap.size, rfl, ⟨A1, c1, heap_alloc_new w1 _, hle1, C_block HC.out (fun a e => (World.grownBy_alloc w1 _ none).block _ (HA.out a e).2 (by simp)), fun a e => HA.out a e⟩, hsz, ?_⟩
  exact (((Below.refl w.heap.size w).alloc (Nat.le_refl _) _).grown HG.out (by simp) (fun k hk => by cases hk; exact Nat.le_refl _)).alloc hsz _
theorem rNum_wf {n : Nat} {err : Int} {bs : List Int} {x e : Int} {l : List Int} (hq : rNum n (err, bs) = (x, (e, l))) (h : ∀ b ∈ bs, 0 ≤ b ∧ b < 256) : ∀ b ∈ l, 0 ≤ b ∧ b < 256 := by
  intro b hb
  unfold rNum at hq
  split at hq
  · cases hq; exact h b hb
  · split at hq
    · cases hq; exact h b hb
    · cases hq; exact h b (List.mem_of_mem_drop hb)
theorem num_calls2 {g : Nat} {err : Int} {bs : List Int} {size : Nat} {x e : Int} {l : List Int} (hq : rNum size (err, bs) = (x, (e, l))) (h1 : 1 ≤ size) (h8 : size ≤ 8) (hall : ∀ b ∈ bs, 0 ≤ b ∧ b < 256) {w : World} (h : RdAtL lo w g err bs) :
    Calls Tryz.prog 72 #[.pointer (some ⟨g, 0, none⟩), .int .i64 size] w fun r w' => r = .returned (.int .u64 x) ∧ RdAtL lo w' g e l ∧ w.grownBy w' (some g) := by
  have := num_calls g err bs size h1 h8 hall w h
  rw [hq] at this
  exact this
theorem int_calls2 {g : Nat} {err : Int} {bs : List Int} {x e : Int} {l : List Int} (hq : rNum 8 (err, bs) = (x, (e, l))) (hall : ∀ b ∈ bs, 0 ≤ b ∧ b < 256) {w : World} (h : RdAtL lo w g err bs) :
    Calls Tryz.prog 39 #[.pointer (some ⟨g, 0, none⟩)] w fun r w' => r = .returned (.int .i64 (wrap64 x)) ∧ RdAtL lo w' g e l ∧ w.grownBy w' (some g) := by
  have := int_calls g err bs hall w h
  rw [hq] at this
  exact this
/-- What End tells. -/
def rEnd (s : Int × List Int) : Int := if s.1 = 0 ∧ 0 < s.2.length then 8 else s.1
set_option maxHeartbeats 4000000 in
theorem end_calls (g : Nat) (err : Int) (bs : List Int) (w : World) (h : RdAtL lo w g err bs) :
    Calls Tryz.prog 81 #[.pointer (some ⟨g, 0, none⟩)] w fun r w' => r = .returned (.int .i64 (rEnd (err, bs))) ∧ w' = w := by
  have h1 := left_calls g err bs w h
  have h2 := err_calls g err bs w h
  clear h
  unfold rEnd
  by_cases he : err = 0 ∧ 0 < bs.length
  · rw [if_pos he]
    obtain ⟨rfl, hp⟩ := he
    rw [if_pos rfl] at h1
    have hp2 : (0 : Int) < (bs.length : Int) := by omega
    go_enter Tryz.func81, Tryz.ntmps81
    go_wp2_with (first | (go_at_call 135; refine h1.mono ?_; rintro e w' ⟨rfl, rfl⟩) | (go_at_call 40; refine h2.mono ?_; rintro e w' ⟨rfl, rfl⟩))
    go_ret
    exact ⟨rfl, rfl⟩
  · rw [if_neg he]
    obtain ⟨m, hm, hm0⟩ : ∃ m : Int, (if err = 0 then (bs.length : Int) else 0) = m ∧ ¬ (0 < m) := ⟨_, rfl, by split <;> omega⟩
    rw [hm] at h1
    clear hm
    go_enter Tryz.func81, Tryz.ntmps81
    go_wp2_with (first | (go_at_call 135; refine h1.mono ?_; rintro e w' ⟨rfl, rfl⟩) | (go_at_call 40; refine h2.mono ?_; rintro e w' ⟨rfl, rfl⟩))
    go_ret
    exact ⟨rfl, rfl⟩
end Go.Proofs.YteeclengpnjlgaaGreat
