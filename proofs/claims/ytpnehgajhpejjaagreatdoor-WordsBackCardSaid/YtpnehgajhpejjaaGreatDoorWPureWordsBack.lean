import Derived.Test.YtpnehgajhpejjaaGreatDoorWStatWordsBack
import Derived.Test.YtpnehgajhpejjaaGreatDoorWV3
/- What may be is told, and read as it was; what is read is told as just that line; what is printed is parsed. -/
namespace Go.Proofs.YtpnehgajhpejjaaGreatDoor.W
open Go.RowKit Go.Proofs.YtpnehgajhpejjaaGreatDoorW.PrintWords
set_option maxRecDepth 100000
set_option linter.unusedVariables false
theorem WordsBack : pledgelaw39_WordsBack.Pure := by
  intro l s hl hs
  suffices h : Ev (fun k => pledgelaw39_WordsBack.f k l s) true from (by obtain ⟨K, hK⟩ := h; exact ⟨K, hK K (Nat.le_refl _)⟩)
  have hw := works_ev
  obtain ⟨b, hb, hfew⟩ := few_any l
  unfold pledgelaw39_WordsBack.f
  refine Ev.bind hb ?_
  by_cases hc : b = true ∧ s.size ≤ 1200
  · simp only [if_pos hc]
    obtain ⟨h60, h600⟩ := hfew hc.1
    simp only [if_pos h60]
    have hin : ∀ x ∈ l, EvIn x := fun x hx => evIn_of (hl x hx) (h600 x hx)
    have hsz : s.data.toList.length ≤ 100000 := by
      have := ofL_size s.data.toList
      rw [ofL_of] at this
      omega
    refine Ev.bind (goF_is l hin) (Ev.bind (prog_print l hin h60) (Ev.bind (parse_print l hin h60) ?_))
    simp only [and_self, if_true]
    have hf : (l.filter fun x => decide (GoodE x)).length ≤ l.length := List.length_filter_le _ _
    refine Ev.bind (sameAll_self _ (by omega)) ?_
    simp only [if_true]
    have hso := ofL_of s
    rcases read_both s.data.toList hsz with ⟨k, g, p, t, q, hg, hb1, hr, hls, e1, _⟩ | ⟨e1, _⟩
    · rw [hso] at e1
      refine Ev.bind e1 ?_
      simp only [if_true]
      refine Ev.bind (prog_line hg hb1 hr) ?_
      rw [hls, hso]
      simp only [beq_self_eq_true, if_true]
      refine Ev.bind (r := true) (Ev.const (by rw [ref_good, decide_eq_true hg])) ?_
      simp only [if_true]
      exact hw
    · rw [hso] at e1
      refine Ev.bind e1 ?_
      exact hw.congr (fun k => by rw [if_neg (by decide)])
  · simp only [if_neg hc]
    exact hw
end Go.Proofs.YtpnehgajhpejjaaGreatDoor.W
