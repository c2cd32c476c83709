import Derived.Test.YtpnehgajhpejjaaDoorKStatKeyOrder
/- The pure statement of KeyOrder: three keys held against one another. -/
namespace Go.Proofs.YtpnehgajhpejjaaDoor.K
open Go.RowKit Go.Proofs.YtpnehgajhpejjaaDoorW.PrintWords
theorem works40 : pledgelaw04_works.f 40 = some true := by kernel_rfl
theorem works_k {k : Nat} (h : 40 ≤ k) : pledgelaw04_works.f k = some true := at_rounds pledgelaw04_works.mono h works40
def c8 (a b : Int) : Int := if a < b then -1 else if b < a then 1 else 0
theorem cmpU8 (a b : Int) : cmp_Compare_uint8.f a b = some (c8 a b) := by
  simp only [cmp_Compare_uint8.f, cmp_isNaN_uint8.f, bne_self_eq_false, Option.bind_some, Bool.false_eq_true, if_false, c8, gt_iff_lt]
  split
  · rfl
  · split <;> rfl
def o3 (x y z : Int) : Int := if x = 0 then (if y = 0 then z else y) else x
theorem or3 (x y z : Int) : cmp_Or_int.f 4 [x, y, z] = some (o3 x y z) := by
  have r0 : rd [x, y, z] 0 = x := rfl
  have r1 : rd [x, y, z] 1 = y := rfl
  have r2 : rd [x, y, z] 2 = z := rfl
  have w1 : wrap64 (0 + 1) = 1 := by unfold wrap64; omega
  have w2 : wrap64 (1 + 1) = 2 := by unfold wrap64; omega
  have w3 : wrap64 (2 + 1) = 3 := by unfold wrap64; omega
  simp only [cmp_Or_int.f, cmp_Or_int.l0, List.length_cons, List.length_nil, r0, r1, r2, w1, w2, w3, o3]
  by_cases hx : x = 0
  · by_cases hy : y = 0
    · by_cases hz : z = 0 <;> simp [hx, hy, hz]
    · simp [hx, hy]
  · simp [hx]
def cmp3 (a0 a1 a2 b0 b1 b2 : Int) : Int := o3 (c8 a0 b0) (c8 a1 b1) (c8 a2 b2)
theorem compare_k {k : Nat} (h : 4 ≤ k) (a0 a1 a2 b0 b1 b2 : Int) : key_Compare.f k a0 a1 a2 b0 b1 b2 = some (cmp3 a0 a1 a2 b0 b1 b2) := by
  refine at_rounds (key_Compare.mono a0 a1 a2 b0 b1 b2) h ?_
  simp only [key_Compare.f, cmpU8, Option.bind_some, or3, cmp3]
theorem c8_cases (a b : Int) : (a < b ∧ c8 a b = -1) ∨ (a = b ∧ c8 a b = 0) ∨ (b < a ∧ c8 a b = 1) := by
  unfold c8
  (repeat' split) <;> omega
theorem cmp3_cases (a0 a1 a2 b0 b1 b2 : Int) : ((a0 < b0 ∨ a0 = b0 ∧ (a1 < b1 ∨ a1 = b1 ∧ a2 < b2)) ∧ cmp3 a0 a1 a2 b0 b1 b2 = -1) ∨ ((a0 = b0 ∧ a1 = b1 ∧ a2 = b2) ∧ cmp3 a0 a1 a2 b0 b1 b2 = 0) ∨ ((b0 < a0 ∨ b0 = a0 ∧ (b1 < a1 ∨ b1 = a1 ∧ b2 < a2)) ∧ cmp3 a0 a1 a2 b0 b1 b2 = 1) := by
  unfold cmp3 o3
  rcases c8_cases a0 b0 with ⟨h0, e0⟩ | ⟨h0, e0⟩ | ⟨h0, e0⟩ <;> rcases c8_cases a1 b1 with ⟨h1, e1⟩ | ⟨h1, e1⟩ | ⟨h1, e1⟩ <;> rcases c8_cases a2 b2 with ⟨h2, e2⟩ | ⟨h2, e2⟩ | ⟨h2, e2⟩ <;> rw [e0, e1, e2] <;> first | exact .inl ⟨by omega, rfl⟩ | exact .inr (.inl ⟨by omega, rfl⟩) | exact .inr (.inr ⟨by omega, rfl⟩)
theorem less_is (a0 a1 a2 b0 b1 b2 : Int) : pledgeref04_Less.f a0 a1 a2 b0 b1 b2 = some (decide (cmp3 a0 a1 a2 b0 b1 b2 = -1)) := by
  simp only [pledgeref04_Less.f]
  rcases cmp3_cases a0 a1 a2 b0 b1 b2 with ⟨h, e⟩ | ⟨h, e⟩ | ⟨h, e⟩ <;> rw [e] <;> (repeat' split) <;> congr 1 <;> simp <;> omega
theorem KeyOrder : pledgelaw04_KeyOrder.Pure := by
  rintro ⟨a0, a1, a2⟩ ⟨b0, b1, b2⟩ ⟨d0, d1, d2⟩ - - -
  refine ⟨100, ?_⟩
  have w1 : wrap64 1 = 1 := by unfold wrap64; omega
  have w2 : wrap64 (-1) = -1 := by unfold wrap64; omega
  have w0 : wrap64 0 = 0 := by unfold wrap64; omega
  simp only [pledgelaw04_KeyOrder.f, pledgelaw04_KeyOrder.j0, pledgelaw04_KeyOrder.j1, compare_k (show 4 ≤ 100 by decide), compare_k (show 4 ≤ 98 by decide), less_is, works_k (show 40 ≤ 98 by decide), Option.bind_some]
  rcases cmp3_cases a0 a1 a2 b0 b1 b2 with ⟨hab, e1⟩ | ⟨hab, e1⟩ | ⟨hab, e1⟩ <;> rcases cmp3_cases b0 b1 b2 a0 a1 a2 with ⟨hba, e2⟩ | ⟨hba, e2⟩ | ⟨hba, e2⟩ <;> (try (exfalso; omega)) <;> rcases cmp3_cases b0 b1 b2 d0 d1 d2 with ⟨hbd, e3⟩ | ⟨hbd, e3⟩ | ⟨hbd, e3⟩ <;> rcases cmp3_cases a0 a1 a2 d0 d1 d2 with ⟨had, e4⟩ | ⟨had, e4⟩ | ⟨had, e4⟩ <;> (try (exfalso; omega)) <;> simp [e1, e2, e3, e4, w1, w2, w0] <;> omega
end Go.Proofs.YtpnehgajhpejjaaDoor.K
