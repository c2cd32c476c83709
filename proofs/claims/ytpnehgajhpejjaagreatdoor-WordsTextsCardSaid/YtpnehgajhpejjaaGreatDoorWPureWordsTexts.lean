import Derived.Test.YtpnehgajhpejjaaGreatDoorWStatWordsTexts
import Derived.Test.YtpnehgajhpejjaaGreatDoorWV3
/- Any events are printed as the document says, and any text is parsed so. -/
namespace Go.Proofs.YtpnehgajhpejjaaGreatDoor.W
open Go.RowKit Go.Proofs.YtpnehgajhpejjaaGreatDoorW.PrintWords
set_option maxRecDepth 100000
set_option linter.unusedVariables false
theorem WordsTexts : pledgelaw39_WordsTexts.Pure := by
  intro l s hl hs
  suffices h : Ev (fun k => pledgelaw39_WordsTexts.f k l s) true from (by obtain ⟨K, hK⟩ := h; exact ⟨K, hK K (Nat.le_refl _)⟩)
  have hw : Ev (fun k => pledgelaw39_WordsTexts.j0 k l s true) true := Ev.succ (f := fun k => (pledgelaw39_works.f k).bind fun t => some t) (Ev.bind works_ev (Ev.const rfl)) (fun k => by rw [pledgelaw39_WordsTexts.j0, if_pos rfl])
  obtain ⟨b, hb, hfew⟩ := few_any l
  unfold pledgelaw39_WordsTexts.f
  refine Ev.bind hb ?_
  cases b with
  | false => exact hw.congr (fun k => by rw [if_neg (by decide)])
  | true =>
    refine Ev.congr (f := fun k => pledgelaw39_WordsTexts.j0 k l s (decide ((s.size : Int) > 6000))) ?_ (fun k => by rw [if_pos rfl])
    by_cases h6 : (s.size : Int) > 6000
    · rw [decide_eq_true h6]
      exact hw
    · rw [decide_eq_false h6]
      obtain ⟨h60, h600⟩ := hfew rfl
      have hin : ∀ x ∈ l, EvIn x := fun x hx => evIn_of (hl x hx) (h600 x hx)
      have hsz : s.data.toList.length ≤ 6000 := by
        have := ofL_size s.data.toList
        rw [ofL_of] at this
        omega
      obtain ⟨⟨a, n, e⟩, r0, r1, r2⟩ := parse_both s.data.toList hsz
      rw [ofL_of] at r1 r2
      have hA := sameAll_self a (by have : a.length ≤ 6001 := r0; omega)
      refine Ev.succ (f := fun k => (words_Parse.f k s).bind fun bt462 => ((pledgeref39_Parse.f k s).bind fun bt467 => ((words_Print.f k l).bind fun t472 => ((pledgeref39_Print.f k l).bind fun t473 => (if t472.toList = t473.toList then ((pledgeref38_SameAll.f k bt462.1 bt467.1).bind fun t474 => (if t474 = true then (if bt462.2.1 = bt467.2.1 then (if bt462.2.2 = bt467.2.2 then ((pledgelaw39_works.f k).bind fun t475 => (some t475)) else (some false)) else (some false)) else (some false))) else (some false)))))) ?_ (fun k => by rw [pledgelaw39_WordsTexts.j0, if_neg (by decide)])
      refine Ev.bind r1 (Ev.bind r2 (Ev.bind (prog_print l hin h60) (Ev.bind (ref_print l hin h60) ?_)))
      simp only [if_true]
      refine Ev.bind hA ?_
      simp only [if_true]
      exact Ev.bind works_ev (Ev.const rfl)
end Go.Proofs.YtpnehgajhpejjaaGreatDoor.W
