import Derived.Test.YteeclengpnjlgaaGreatRdr
/- GetNum of layer 3: what it does. -/
set_option linter.unusedVariables false
set_option linter.unusedSimpArgs false
namespace Go.Proofs.YteeclengpnjlgaaGreat
open Go.RowKit YteeclengpnjlgaaGreatW.PrintWords
/-- GetNum's answer. -/
def gNum (size : Nat) (bs : List Int) : Int × List Int × Int := if bs.length < size then (0, [], 6) else (leN (bs.take size), bs.drop size, 0)
def GnPost (A : Option Addr) (w : World) (q : Int × List Int × Int) (r : Ending) (w' : World) : Prop :=
  ∃ A2 c2, r = .returned (.tuple #[.int .u64 q.1, .slice A2 q.2.1.length c2, .int .i64 q.2.2]) ∧ (w' = w ∨ w' = w.drew) ∧ q.2.1.length ≤ c2 ∧ Kd.C (Kd.int .u8) w A2 q.2.1.length q.2.1 ∧ ∀ a, A2 = some a → ∃ a0, A = some a0 ∧ a.block = a0.block
set_option maxHeartbeats 4000000 in
set_option maxRecDepth 100000 in
theorem getnum_calls (A : Option Addr) (c : Nat) (bs : List Int) (size : Nat) (h1 : 1 ≤ size) (h8 : size ≤ 8) (hc : bs.length ≤ c) (hall : ∀ b ∈ bs, 0 ≤ b ∧ b < 256) (w : World) (hC : Kd.C (Kd.int .u8) w A bs.length bs) :
    Calls Tryz.prog 41 #[.slice A bs.length c, .int .i64 size] w (GnPost A w (gNum size bs)) := by
  have hs1 : ¬ ((size : Int) < 1) := by omega
  have hs2 : ¬ ((size : Int) > 8) := by omega
  have HC := Aside0.mk hC
  clear hC
  unfold gNum
  by_cases hl : bs.length < size
  · have hl2 : (bs.length : Int) < (size : Int) := by omega
    rw [if_pos hl]
    go_enter Tryz.func41, Tryz.ntmps41
    go_wp2
    go_ret3
    exact ⟨none, 0, rfl, .inl rfl, Nat.le_refl _, Kd.C_nil _ _, fun a h => by cases h⟩
  · have hl2 : ¬ ((bs.length : Int) < (size : Int)) := by omega
    rw [if_neg hl]
    have hi := info_parts infoU8
    obtain ⟨i0, hi0, _, hsz, _⟩ := hi
    have hcut2 := cut_from (P := Tryz.prog) 22 5 .i64 Tryz.underlying22 hi0 1 hsz A bs.length c size (by omega) (by omega)
    simp only [Int.toNat_natCast, Nat.mul_one] at hcut2
    have hCd := Kd.C_drop (m := size) (c := c) HC.out (by omega) hc
    rw [show size * (Kd.int IntKind.u8).sz = size from Nat.mul_one size] at hCd
    have hA2 : ∀ a, (if c = size then A else A.map (·.add size)) = some a → ∃ a0, A = some a0 ∧ a.block = a0.block := fun a ha => by
      split at ha
      · exact ⟨a, ha, rfl⟩
      · cases hA : A with
        | none => rw [hA] at ha; cases ha
        | some b => rw [hA] at ha; injection ha with ha; exact ⟨b, rfl, by rw [← ha, add_block]⟩
    have hld : (bs.drop size).length = bs.length - size := List.length_drop
    have HD := Aside0.mk hCd
    have HA := Aside0.mk hA2
    clear hCd hA2
    generalize hA3 : (if c = size then A else A.map (·.add size)) = A2 at *
    clear hA3
    have HT := Aside0.mk (show (bs.take size).length = size from by rw [List.length_take]; omega)
    have HW := Aside0.mk (show ∀ b ∈ bs.take size, 0 ≤ b ∧ b < 256 from fun b hb => hall b (List.mem_of_mem_take hb))
    go_enter Tryz.func41, Tryz.ntmps41
    go_wp2
    go_loopw [7, 8] (fun v7 v8 wr => ∃ j : Nat, j ≤ size ∧ v8 = .int .i64 ((j : Int) - 1) ∧ v7 = .int .u64 (leN ((bs.take size).drop j)) ∧ wr = w) (fun _ v _ => (RowKit.intOf v + 1).toNat)
    case atStart => exact ⟨size, Nat.le_refl _, by go_num, by rw [List.drop_of_length_le (by rw [HT.out]; exact Nat.le_refl _)]; rfl, rfl⟩
    case round =>
      obtain ⟨j, hj, rfl, rfl, rfl⟩ := hrel
      by_cases hlt : 0 < j
      · obtain ⟨i, rfl⟩ : ∃ i, j = i + 1 := ⟨j - 1, by omega⟩
        have hib : i < bs.length := by omega
        obtain ⟨ad, e1, hx⟩ := Kd.at_int HC.out (i : Int) (by omega) (by omega)
        cases e1
        have hn : rd bs (i : Int) = bs[i] := by simp [rd, List.getD_eq_getElem?_getD, List.getElem?_eq_getElem hib]
        rw [hn, Int.toNat_natCast] at hx
        obtain ⟨n0, n1⟩ := hall bs[i] (List.getElem_mem hib)
        have hst : leN ((bs.take size).drop i) = bs[i] + 256 * leN ((bs.take size).drop (i + 1)) := by
          have hit : i < (bs.take size).length := by rw [HT.out]; omega
          rw [List.drop_eq_getElem_cons hit, List.getElem_take]
          rfl
        have hrg := leN_range ((bs.take size).drop (i + 1)) (fun b hb => HW.out b (List.mem_of_mem_drop hb))
        have hlen : ((bs.take size).drop (i + 1)).length ≤ 7 := by rw [List.length_drop, HT.out]; omega
        have hpw : (256 : Int) ^ ((bs.take size).drop (i + 1)).length ≤ 72057594037927936 := by
          have h := Nat.pow_le_pow_right (n := 256) (by omega) hlen
          have e : ((256 ^ ((bs.take size).drop (i + 1)).length : Nat) : Int) ≤ ((256 ^ 7 : Nat) : Int) := by exact_mod_cast h
          rw [Int.natCast_pow] at e
          exact e
        have HS := Aside0.mk hst
        clear hst hn
        generalize bs[i] = b at *
        generalize leN ((bs.take size).drop (i + 1)) = x at *
        have hx0 := hrg.1
        have hx1 : x < 72057594037927936 := by omega
        clear hrg hpw
        have p1 : (0 : Int) ≤ (i : Int) := by omega
        have p2 : (i : Int) < (bs.length : Int) := by omega
        have p3 : ((i + 1 : Nat) : Int) - 1 = (i : Int) := by omega
        rw [p3]
        go_wp2
        refine ⟨⟨i, by omega, rfl, by rw [HS.out, Int.mul_comm 256 x, Int.add_comm], trivial⟩, ?_⟩
        simp [RowKit.intOf] <;> omega
      · obtain rfl : j = 0 := by omega
        have p3 : ¬ ((0 : Int) ≤ -1) := by omega
        rw [List.drop_zero]
        go_wp2
        go_region
        go_wp2
        go_ret3
        exact ⟨A2, c - size, by rw [hld]; rfl, .inr rfl, by rw [hld]; omega, HD.out, HA.out⟩
theorem drew_heap {w w' : World} (h : w' = w ∨ w' = w.drew) : w'.heap = w.heap := by
  rcases h with rfl | rfl <;> rfl
theorem drew_blk {w w' : World} {g : Nat} {o : Obj} (h : w' = w ∨ w' = w.drew) (hb : w.heap[g]? = some o) : w'.heap[g]? = some o := by
  rw [drew_heap h]; exact hb
theorem drew_below (g : Nat) {w w' : World} (h : w' = w ∨ w' = w.drew) : Below g w w' := by
  rcases h with rfl | rfl
  · exact Below.refl _ _
  · exact (Below.refl _ _).drew
end Go.Proofs.YteeclengpnjlgaaGreat
