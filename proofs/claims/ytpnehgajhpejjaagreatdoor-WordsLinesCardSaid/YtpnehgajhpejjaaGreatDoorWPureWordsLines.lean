import Derived.Test.YtpnehgajhpejjaaGreatDoorWStatWordsLines
import Derived.Test.YtpnehgajhpejjaaGreatDoorWV3
/- The line of any event is the document's, and any text is read as it says. -/
namespace Go.Proofs.YtpnehgajhpejjaaGreatDoor.W
open Go.RowKit Go.Proofs.YtpnehgajhpejjaaGreatDoorW.PrintWords
set_option maxRecDepth 100000
set_option linter.unusedVariables false
theorem WordsLines : pledgelaw39_WordsLines.Pure := by
  intro x s hx hs
  suffices h : Ev (fun k => pledgelaw39_WordsLines.f k x.f0 x.f1 x.f2 x.f3 x.f4 s) true from (by obtain ⟨K, hK⟩ := h; exact ⟨K, hK K (Nat.le_refl _)⟩)
  have hw := works_ev
  obtain ⟨b, hb, hfew⟩ := few_any [⟨x.f0, x.f1, x.f2, x.f3, x.f4⟩]
  unfold pledgelaw39_WordsLines.f
  refine Ev.bind hb ?_
  by_cases hc : b = true ∧ s.size ≤ 1200
  · simp only [if_pos hc]
    obtain ⟨h60, h600⟩ := hfew hc.1
    have hsz : s.data.toList.length ≤ 100000 := by
      have := ofL_size s.data.toList
      rw [ofL_of] at this
      omega
    have hin := evIn_of (x := x) hx (h600 _ (by simp))
    obtain ⟨q, q1, q2⟩ := read_one s.data.toList hsz
    rw [ofL_of] at q1 q2
    obtain ⟨t, t1, t2⟩ := line_both (k := x.f0) (g := x.f1) (p := x.f2) (t := x.f3) hin.1 hin.2.1
    refine Ev.bind q1 (Ev.bind q2 (Ev.bind t1 (Ev.bind t2 (Ev.bind (Ev.const (same_one ⟨q.1, q.2.1, q.2.2.1, q.2.2.2.1, q.2.2.2.2.1⟩)) ?_))))
    simp only [beq_self_eq_true, and_self, if_true]
    exact hw
  · simp only [if_neg hc]
    exact hw
end Go.Proofs.YtpnehgajhpejjaaGreatDoor.W
