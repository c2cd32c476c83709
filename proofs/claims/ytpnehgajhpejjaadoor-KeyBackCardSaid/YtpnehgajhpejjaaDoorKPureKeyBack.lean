import Derived.Test.YtpnehgajhpejjaaDoorKStatKeyBack
/- The pure statement of KeyBack: sixteen runs, and the numbers of which there are no keys. -/
namespace Go.Proofs.YtpnehgajhpejjaaDoor.K
open Go.RowKit Go.Proofs.YtpnehgajhpejjaaDoorW.PrintWords
theorem back_works : pledgelaw04_works.f 99 = some true := by kernel_rfl
theorem back1 : pledgelaw04_KeyBack.f 100 1 1 = some true ∧ pledgelaw04_KeyBack.f 100 1 2 = some true ∧ pledgelaw04_KeyBack.f 100 1 3 = some true ∧ pledgelaw04_KeyBack.f 100 1 4 = some true := ⟨by kernel_rfl, by kernel_rfl, by kernel_rfl, by kernel_rfl⟩
theorem back2 : pledgelaw04_KeyBack.f 100 2 1 = some true ∧ pledgelaw04_KeyBack.f 100 2 2 = some true ∧ pledgelaw04_KeyBack.f 100 2 3 = some true ∧ pledgelaw04_KeyBack.f 100 2 4 = some true := ⟨by kernel_rfl, by kernel_rfl, by kernel_rfl, by kernel_rfl⟩
theorem back3 : pledgelaw04_KeyBack.f 100 3 1 = some true ∧ pledgelaw04_KeyBack.f 100 3 2 = some true ∧ pledgelaw04_KeyBack.f 100 3 3 = some true ∧ pledgelaw04_KeyBack.f 100 3 4 = some true := ⟨by kernel_rfl, by kernel_rfl, by kernel_rfl, by kernel_rfl⟩
theorem back4 : pledgelaw04_KeyBack.f 100 4 1 = some true ∧ pledgelaw04_KeyBack.f 100 4 2 = some true ∧ pledgelaw04_KeyBack.f 100 4 3 = some true ∧ pledgelaw04_KeyBack.f 100 4 4 = some true := ⟨by kernel_rfl, by kernel_rfl, by kernel_rfl, by kernel_rfl⟩
theorem fine_not (a b : Int) (h : ¬ ((1 ≤ a ∧ a ≤ 4) ∧ 1 ≤ b ∧ b ≤ 4)) : key_fine.f a b = some false := by
  unfold key_fine.f
  (repeat' split) <;> first | rfl | (congr 1; simp; omega)
theorem KeyBack : pledgelaw04_KeyBack.Pure := by
  intro a b _ _
  refine ⟨100, ?_⟩
  by_cases h : (1 ≤ a ∧ a ≤ 4) ∧ 1 ≤ b ∧ b ≤ 4
  · obtain ⟨⟨h1, h2⟩, h3, h4⟩ := h
    have ha : a = 1 ∨ a = 2 ∨ a = 3 ∨ a = 4 := by omega
    have hb : b = 1 ∨ b = 2 ∨ b = 3 ∨ b = 4 := by omega
    rcases ha with rfl | rfl | rfl | rfl
    · rcases hb with rfl | rfl | rfl | rfl
      · exact back1.1
      · exact back1.2.1
      · exact back1.2.2.1
      · exact back1.2.2.2
    · rcases hb with rfl | rfl | rfl | rfl
      · exact back2.1
      · exact back2.2.1
      · exact back2.2.2.1
      · exact back2.2.2.2
    · rcases hb with rfl | rfl | rfl | rfl
      · exact back3.1
      · exact back3.2.1
      · exact back3.2.2.1
      · exact back3.2.2.2
    · rcases hb with rfl | rfl | rfl | rfl
      · exact back4.1
      · exact back4.2.1
      · exact back4.2.2.1
      · exact back4.2.2.2
  · have hf := fine_not a b h
    have hA : key_All.f 100 a b = some [] := by unfold key_All.f; rw [hf]; rfl
    have hC : key_Count.f a b = some 0 := by unfold key_Count.f; rw [hf]; rfl
    unfold pledgelaw04_KeyBack.f
    rw [hA, Option.bind_some]
    show pledgelaw04_KeyBack.l0 (99 + 1) a b [] 0 = some true
    rw [pledgelaw04_KeyBack.l0, hC, Option.bind_some, back_works, if_neg (by decide), if_pos (by simp)]
    rfl
end Go.Proofs.YtpnehgajhpejjaaDoor.K
