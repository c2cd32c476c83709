import Derived.Test.YtpnehgajhpejjaaGreatDoorWV2
import Derived.Test.YtpnehgajhpejjaaGreatDoorW23
import Derived.Test.YtpnehgajhpejjaaGreatDoorWOpens
/- The plain law's parts. -/
namespace Go.Proofs.YtpnehgajhpejjaaGreatDoor.W
open Go.Lib Go.RowKit Go.Proofs.YtpnehgajhpejjaaGreatDoorW.PrintWords
set_option maxRecDepth 100000
set_option linter.unusedVariables false
set_option linter.unusedSimpArgs false
/-- An event out of an argument. -/
def EvIn (x : S25) : Prop := ByteL x.f4 ∧ (0 ≤ x.f1 ∧ x.f1 < 4294967296) ∧ x.f4.length ≤ 600
theorem same_one (x : S25) : pledgeref38_Same.f x.f0 x.f1 x.f2 x.f3 x.f4 x.f0 x.f1 x.f2 x.f3 x.f4 = some true := by
  rw [same_is, decide_eq_true ⟨rfl, rfl, rfl⟩, beq_self_eq_true]
  rfl
def exB : List Int := [1, 7, 0, 0, 0, 0, 2, 0, 5, 0, 0, 0, 0, 0, 0, 0, 2, 1, 0, 0, 0, 0, 0, 0, 0]
theorem itoa1 (d : Nat) (h : d < 10) : Lib.itoa (d : Int) = [UInt8.ofNat (48 + d)] := by
  unfold Lib.itoa
  rw [if_neg (by omega), Int.toNat_natCast, dd_small h]
theorem exB_dec : request_Decode.decF exB = (1, 7, 0, [⟨0, 5⟩, ⟨2, 1⟩], 0, 0, 0, 0, 0) := by kernel_rfl
theorem exB_bytes : ByteL exB := by unfold ByteL; decide
theorem exB_good : GoodP 1 0 0 0 exB := by decide
theorem exB_line : lineT 1 0 0 0 exB = [112, 108, 97, 99, 101, 32, 55, 32, 48, 32, 48, 58, 53, 32, 50, 58, 49] := by
  show askedT exB = _
  unfold askedT
  rw [exB_dec]
  show askT 1 7 0 [⟨0, 5⟩, ⟨2, 1⟩] 0 0 0 0 = _
  unfold askT
  rw [if_pos rfl]
  simp only [nm, lnT, List.flatMap_cons, List.flatMap_nil]
  rw [show (7 : Int) = ((7 : Nat) : Int) from rfl, show (0 : Int) = ((0 : Nat) : Int) from rfl, show (5 : Int) = ((5 : Nat) : Int) from rfl, show (2 : Int) = ((2 : Nat) : Int) from rfl, show (1 : Int) = ((1 : Nat) : Int) from rfl]
  rw [itoa1 7 (by omega), itoa1 0 (by omega), itoa1 5 (by omega), itoa1 2 (by omega), itoa1 1 (by omega)]
  rfl
theorem crash_line : lineT 7 0 3 40 [] = [99, 114, 97, 115, 104, 32, 51, 32, 52, 48] := by
  show wCrash ++ (nm 3 ++ nm 40) = _
  have h40 : Lib.itoa 40 = [52, 48] := by
    unfold Lib.itoa
    rw [if_neg (by omega), show (40 : Int).toNat = 40 from rfl, dd_big (by omega), dd_small (by omega)]
    rfl
  simp only [nm]
  rw [h40, show (3 : Int) = ((3 : Nat) : Int) from rfl, itoa1 3 (by omega)]
  rfl
theorem works_ev : Ev (fun k => pledgelaw39_works.f k) true := by
  have hr := prog_read_good exB_good exB_bytes (by omega) (by rw [exB_line]; decide)
  have hl := prog_line exB_good exB_bytes (by omega)
  have hc := prog_line (k := 7) (g := 0) (p := 3) (t := 40) (l := []) (by decide) byteL_nil (by omega)
  rw [exB_line] at hr hl
  rw [crash_line] at hc
  unfold pledgelaw39_works.f
  refine Ev.bind hr ?_
  refine Ev.congr (f := fun k => (words_Line.f k 1 0 0 0 exB).bind fun t238 => (if t238.toList = ([112, 108, 97, 99, 101, 32, 55, 32, 48, 32, 48, 58, 53, 32, 50, 58, 49] : List UInt8) then ((words_Line.f k 7 0 3 40 ([] : List Int)).bind fun t239 => (some (t239.toList == ([99, 114, 97, 115, 104, 32, 51, 32, 52, 48] : List UInt8)))) else (some false))) ?_ (fun k => ?_)
  · refine Ev.bind hl ?_
    simp only [ofL_toList, if_pos (show True from trivial), eq_self_iff_true, if_true]
    exact Ev.bind hc (Ev.const (by rw [ofL_toList]; rfl))
  · rfl
theorem few_l0 (l : List S25) : ∀ (n i : Nat), l.length ≤ i + n → i + n ≤ 1000000 → ∃ b, Ev (fun k => pledgelaw39_few.l0 k l (i : Int)) b ∧ (b = true → ∀ j, i ≤ j → ∀ h : j < l.length, (l[j]).f4.length ≤ 600)
  | 0, i, h, _ => ⟨true, Ev.succ (f := fun _ => some true) (Ev.const rfl) (fun k => by rw [pledgelaw39_few.l0, if_neg (by omega)]), fun _ j hj hl => by omega⟩
  | n + 1, i, h, hn => by
    by_cases hi : (i : Int) < (l.length : Int)
    · have q2 : (0 : Int) ≤ (i : Int) := by omega
      have q3 : i ≤ 1000000000 := by omega
      have hil : i < l.length := by omega
      have er : rd_T25 l (i : Int) = l[i] := by simp [rd_T25, rdOf, List.getD_eq_getElem?_getD, List.getElem?_eq_getElem hil]
      by_cases h6 : ((l[i]).f4.length : Int) > 600
      · exact ⟨false, Ev.succ (f := fun _ => some false) (Ev.const rfl) (fun k => by rw [pledgelaw39_few.l0, if_pos hi, if_pos q2, er, if_pos h6]), fun h => by cases h⟩
      · obtain ⟨b, hb, hj⟩ := few_l0 l n (i + 1) (by omega) (by omega)
        refine ⟨b, hb.succ (fun k => by rw [pledgelaw39_few.l0, if_pos hi, if_pos q2, er, if_neg h6, wr1 i q3]), fun h j h1 h2 => ?_⟩
        by_cases e : j = i
        · subst e; omega
        · exact hj h j (by omega) h2
    · exact ⟨true, Ev.succ (f := fun _ => some true) (Ev.const rfl) (fun k => by rw [pledgelaw39_few.l0, if_neg hi]), fun _ j hj hl => by omega⟩
theorem few_any (l : List S25) : ∃ b, Ev (fun k => pledgelaw39_few.f k l) b ∧ (b = true → l.length ≤ 60 ∧ ∀ x ∈ l, x.f4.length ≤ 600) := by
  unfold pledgelaw39_few.f
  by_cases h : (l.length : Int) > 60
  · simp only [if_pos h]
    exact ⟨false, Ev.const rfl, fun h => by cases h⟩
  · simp only [if_neg h]
    obtain ⟨b, hb, hj⟩ := few_l0 l l.length 0 (by omega) (by omega)
    refine ⟨b, hb, fun e => ⟨by omega, fun x hx => ?_⟩⟩
    obtain ⟨j, hjl, rfl⟩ := List.mem_iff_getElem.1 hx
    exact hj e j (Nat.zero_le _) hjl
theorem wf8 {z : Int} (h : WW5 z) : 0 ≤ z ∧ z < 256 := by
  have : 0 ≤ z ∧ z ≤ 255 := by simpa [WW5, Lit.wf, IntKind.min, IntKind.max, IntKind.signed, IntKind.bits] using h
  omega
theorem wf32 {z : Int} (h : WW22 z) : 0 ≤ z ∧ z < 4294967296 := by
  have : 0 ≤ z ∧ z ≤ 4294967295 := by simpa [WW22, Lit.wf, IntKind.min, IntKind.max, IntKind.signed, IntKind.bits] using h
  omega
theorem evIn_of {x : S25} (h : WW25 x) (h6 : x.f4.length ≤ 600) : EvIn x := ⟨fun b hb => wf8 (h.2.2.2.2 b hb), wf32 h.2.1, h6⟩
theorem prog_line_bad {k g p t : Int} {l : List Int} (h : ¬ GoodP k g p t l) : Ev (fun m => words_Line.f m k g p t l) (ofL []) := by
  unfold words_Line.f
  exact Ev.bind (goodE false (decide_eq_false h)) (Ev.const rfl)
theorem ref_line_bad {k g p t : Int} {l : List Int} (h : ¬ GoodP k g p t l) : Ev (fun m => pledgeref39_Line.f m k g p t l) (ofL []) := by
  unfold pledgeref39_Line.f
  exact Ev.bind (r := false) (Ev.const (by rw [ref_good, decide_eq_false h])) (Ev.const rfl)
/-- Any event's line, by both. -/
theorem line_both {k g p t : Int} {l : List Int} (hb : ByteL l) (hg : 0 ≤ g ∧ g < 4294967296) : ∃ s, Ev (fun m => words_Line.f m k g p t l) s ∧ Ev (fun m => pledgeref39_Line.f m k g p t l) s := by
  by_cases h : GoodP k g p t l
  · exact ⟨_, prog_line h hb hg, ref_line h hb hg⟩
  · exact ⟨_, prog_line_bad h, ref_line_bad h⟩
/-- Any text, read by both: one answer. -/
theorem read_one (s : List UInt8) (hs : s.length ≤ 100000) : ∃ q, Ev (fun m => words_Read.f m (ofL s)) q ∧ Ev (fun m => pledgeref39_Read.f m (ofL s)) q := by
  rcases read_both s hs with ⟨k, g, p, t, l, _, _, _, _, h1, h2⟩ | ⟨h1, h2⟩
  · exact ⟨_, h1, h2⟩
  · exact ⟨_, h1, h2⟩
end Go.Proofs.YtpnehgajhpejjaaGreatDoor.W
