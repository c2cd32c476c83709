import Derived.Test.YtpnehgajhpejjaaGreatDoorWV2
import Derived.Test.YtpnehgajhpejjaaGreatDoorW23
import Derived.Test.YtpnehgajhpejjaaGreatDoorWOpens
import Derived.Test.YtpnehgajhpejjaaGreatDoorWBack
/- The plain law's parts. -/
namespace Go.Proofs.YtpnehgajhpejjaaGreatDoor.W
open Go.Lib Go.RowKit Go.Proofs.YtpnehgajhpejjaaGreatDoorW.PrintWords
set_option maxRecDepth 100000
set_option linter.unusedVariables false
set_option linter.unusedSimpArgs false
theorem decode_span (s : ByteArray) (pos : Nat) (h : pos < s.size) : pos + (Utf8.decode s pos).2 ≤ s.size ∧ ∀ j, 1 ≤ j → j < (Utf8.decode s pos).2 → 128 ≤ (s.get! (pos + j)).toNat := by
  simp only [Utf8.decode]
  repeat' split
  all_goals simp_all
  all_goals first
    | omega
    | (refine ⟨by omega, fun j h1 h2 => ?_⟩
       have hj : j = 1 ∨ j = 2 ∨ j = 3 := by omega
       rcases hj with rfl | rfl | rfl <;> omega)
theorem get_ofL (l : List UInt8) (i : Nat) (h : i < l.length) : (ofL l)[i]'(by rw [ofL_size]; exact h) = l[i] := rfl
theorem getb_ofL (l : List UInt8) (i : Nat) (h : i < l.length) : (ofL l).get! i = l[i] := by
  have := Go.get_at (ofL l) i (by rw [ofL_size]; exact h)
  rw [Nat.add_zero] at this
  rw [this]
  rfl
/-- Over a line's bytes, none of which ends it. -/
theorem walk_line (A line B : List UInt8) (hline : (10 : UInt8) ∉ line) (hB : B = [] ∨ ∃ B', B = 10 :: B') (out : List S25) : ∀ (n : Nat) (i m : Nat), line.length ≤ i + n → i ≤ line.length → line.length - i ≤ m →
    ∃ m', m ≤ m' + (line.length - i) ∧ ∀ k, words_Parse.go k (ofL (A ++ line ++ B)) m (A.length + i) A.length out = words_Parse.go k (ofL (A ++ line ++ B)) m' (A.length + line.length) A.length out
  | n, i, m, hn, hi, hm => by
    by_cases hil : i = line.length
    · subst hil
      exact ⟨m, by omega, fun _ => rfl⟩
    · have hlt : i < line.length := by omega
      have hsz : (ofL (A ++ line ++ B)).size = A.length + line.length + B.length := by rw [ofL_size, List.length_append, List.length_append]
      have hps : A.length + i < (ofL (A ++ line ++ B)).size := by omega
      have hpl : A.length + i < (A ++ line ++ B).length := by simp only [List.length_append]; omega
      have hbyte : (ofL (A ++ line ++ B))[A.length + i]'hps = line[i] := by
        rw [get_ofL _ _ hpl, List.getElem_append_left (by simp only [List.length_append]; omega), List.getElem_append_right (by omega)]
        simp
      have hne : line[i] ≠ 10 := fun h => hline (h ▸ List.getElem_mem hlt)
      have hne2 : (line[i]).toNat ≠ 10 := fun h => hne (UInt8.toNat.inj h)
      obtain ⟨hsp, hcont⟩ := decode_span _ _ hps
      have hr : (Utf8.decode (ofL (A ++ line ++ B)) (A.length + i)).1 ≠ 10 ∧ 1 ≤ (Utf8.decode (ofL (A ++ line ++ B)) (A.length + i)).2 := by
        by_cases ha : (line[i]).toNat < 128
        · rw [decode_ascii _ _ hps (by rw [hbyte]; exact ha), hbyte]
          exact ⟨hne2, Nat.le_refl _⟩
        · obtain ⟨h1, h2⟩ := decode_high _ _ hps (by rw [hbyte]; omega)
          exact ⟨by omega, h2⟩
      generalize hw : (Utf8.decode (ofL (A ++ line ++ B)) (A.length + i)).2 = w at *
      have hwl : i + w ≤ line.length := by
        rcases hB with rfl | ⟨B', rfl⟩
        · rw [List.length_nil] at hsz
          omega
        · refine Decidable.byContradiction fun hc => ?_
          have h1 := hcont (line.length - i) (by omega) (by omega)
          have e : A.length + i + (line.length - i) = A.length + line.length := by omega
          rw [e, getb_ofL _ _ (by simp)] at h1
          rw [List.getElem_append_right (by simp)] at h1
          simp at h1
      obtain ⟨m0, rfl⟩ : ∃ m0, m = m0 + 1 := ⟨m - 1, by omega⟩
      obtain ⟨n0, rfl⟩ : ∃ n0, n = n0 + 1 := ⟨n - 1, by omega⟩
      obtain ⟨m', hm', he⟩ := walk_line A line B hline hB out n0 (i + w) m0 (by omega) hwl (by omega)
      refine ⟨m', by omega, fun k => ?_⟩
      rw [words_Parse.go, if_pos hps, if_neg hr.1, hw, Nat.add_assoc]
      exact he k
/-- An event out of an argument. -/
def EvIn (x : S25) : Prop := ByteL x.f4 ∧ (0 ≤ x.f1 ∧ x.f1 < 4294967296) ∧ x.f4.length ≤ 600
def prT (l : List S25) : List UInt8 := l.flatMap fun x => if GoodP x.f0 x.f1 x.f2 x.f3 x.f4 then lineT x.f0 x.f1 x.f2 x.f3 x.f4 ++ [10] else []
theorem lnT_len : ∀ l : List S90, (∀ x ∈ l, LineOk x) → (lnT l).length ≤ 44 * l.length
  | [], _ => by simp [lnT]
  | x :: l, h => by
    have h0 := h x (by simp)
    have a := nm_len x.f0 (u8_64 h0.1)
    have b := itoa_len20 x.f1 h0.2
    have c := lnT_len l (fun y hy => h y (by simp [hy]))
    have e : lnT (x :: l) = (nm x.f0 ++ (58 :: Lib.itoa x.f1)) ++ lnT l := rfl
    rw [e]
    simp only [List.length_append, List.length_cons]
    omega
theorem askT_len {k o p : Int} {l : List S90} {s f t q : Int} (h : RqOk k o p l s f t q) : (askT k o p l s f t q).length ≤ 400 := by
  have lo := nm_len o (u32_64 h.hO)
  have lp := nm_len p (u8_64 h.hP)
  have ls := nm_len s (u8_64 h.hS)
  have lf := nm_len f (u8_64 h.hF)
  have lt := nm_len t (u8_64 h.hT)
  have lq := nm_len q h.hQ
  have ll := lnT_len l h.hL
  have hN := h.hN
  unfold askT
  repeat' split
  all_goals simp only [List.length_append, show wPlace.length = 5 from rfl, show wCancel.length = 6 from rfl, show wShip.length = 4 from rfl, show wReturn.length = 6 from rfl, show wRestock.length = 7 from rfl, show wTransfer.length = 8 from rfl, show wQuery.length = 5 from rfl]
  all_goals omega
theorem lineT_len {k g p t : Int} {l : List Int} (h : GoodP k g p t l) (hb : ByteL l) (hg : 0 ≤ g ∧ g < 4294967296) : (lineT k g p t l).length ≤ 2000 := by
  obtain ⟨hk, hl0, hl, hg0, hpt⟩ := h
  have lg := nm_len g (u32_64 hg)
  have lp := nm_len p (by unfold I64; omega)
  have lt := nm_len t (by unfold I64; omega)
  have hh := hexL_len l
  unfold lineT
  split
  · unfold askedT
    split
    · rename_i h0
      have := askT_len (dec_fields hb h0)
      omega
    · split
      · decide
      · simp only [List.length_append, show askB.length = 4 from rfl]
        omega
  repeat' split
  all_goals simp only [List.length_append, show wPick.length = 4 from rfl, show wKill.length = 4 from rfl, show wWrite.length = 5 from rfl, show wSync.length = 4 from rfl, show wCkpt.length = 4 from rfl, show wCrash.length = 5 from rfl, show wBoot.length = 4 from rfl]
  all_goals omega
theorem prT_len : ∀ l : List S25, (∀ x ∈ l, EvIn x) → (prT l).length ≤ 2001 * l.length
  | [], _ => by simp [prT]
  | x :: l, h => by
    have h0 := h x (by simp)
    have c := prT_len l (fun y hy => h y (by simp [hy]))
    have e : prT (x :: l) = (if GoodP x.f0 x.f1 x.f2 x.f3 x.f4 then lineT x.f0 x.f1 x.f2 x.f3 x.f4 ++ [10] else []) ++ prT l := rfl
    rw [e]
    simp only [List.length_append, List.length_cons]
    split
    · rename_i hg
      have := lineT_len hg h0.1 h0.2.1
      simp only [List.length_append, List.length_cons, List.length_nil]
      omega
    · simp only [List.length_nil]
      omega
theorem print_go : ∀ l : List S25, (∀ x ∈ l, EvIn x) → Ev (fun k => words_Print.go k l) (prT l)
  | [], _ => Ev.const rfl
  | x :: l, h => by
    have h0 := h x (by simp)
    have c := print_go l (fun y hy => h y (by simp [hy]))
    have e : prT (x :: l) = (if GoodP x.f0 x.f1 x.f2 x.f3 x.f4 then lineT x.f0 x.f1 x.f2 x.f3 x.f4 ++ [10] else []) ++ prT l := rfl
    rw [e]
    simp only [words_Print.go]
    by_cases hg : GoodP x.f0 x.f1 x.f2 x.f3 x.f4
    · rw [if_pos hg]
      refine Ev.bind (goodE true (decide_eq_true hg)) ?_
      simp only [if_pos (show true = true from rfl)]
      refine Ev.bind (prog_line hg h0.1 h0.2.1) (Ev.bind c (Ev.const ?_))
      rw [ofL_data, List.append_assoc]
      rfl
    · rw [if_neg hg, List.nil_append]
      exact Ev.bind (goodE false (decide_eq_false hg)) (c.congr (fun _ => rfl))
theorem prog_print (l : List S25) (h : ∀ x ∈ l, EvIn x) (hl : l.length ≤ 60) : Ev (fun k => words_Print.f k l) (ofL (prT l)) := by
  have hlen := prT_len l h
  unfold words_Print.f
  refine Ev.bind (print_go l h) (Ev.const ?_)
  rw [if_pos (by omega)]
  rfl
theorem rd25 (pre rest : List S25) (x : S25) : rd_T25 (pre ++ x :: rest) (pre.length : Int) = x := by simp [rd_T25, rdOf, List.getD_eq_getElem?_getD]
theorem same_one (x : S25) : pledgeref38_Same.f x.f0 x.f1 x.f2 x.f3 x.f4 x.f0 x.f1 x.f2 x.f3 x.f4 = some true := by
  rw [same_is, decide_eq_true ⟨rfl, rfl, rfl⟩, beq_self_eq_true]
  rfl
theorem sameAll0 (rest : List S25) : ∀ (pre : List S25), pre.length + rest.length ≤ 100000 → Ev (fun k => pledgeref38_SameAll.l0 k (pre ++ rest) (pre ++ rest) (pre.length : Int)) true := by
  induction rest with
  | nil =>
    intro pre _
    refine Ev.succ (f := fun _ => some true) (Ev.const rfl) (fun k => ?_)
    rw [pledgeref38_SameAll.l0, if_neg (by rw [List.append_nil]; omega)]
  | cons x rest ih =>
    intro pre hp
    rw [List.length_cons] at hp
    have q1 : (pre.length : Int) < ((pre ++ x :: rest).length : Int) := by simp only [List.length_append, List.length_cons]; omega
    have q2 : (0 : Int) ≤ (pre.length : Int) := by omega
    have q3 : pre.length ≤ 1000000000 := by omega
    have q4 : pre.length + 1 + rest.length ≤ 100000 := by omega
    have lp : (pre ++ [x]).length = pre.length + 1 := by rw [List.length_append]; rfl
    have ih2 := ih (pre ++ [x]) (by rw [lp]; exact q4)
    rw [List.append_assoc, List.singleton_append, lp] at ih2
    refine ih2.succ (fun k => ?_)
    rw [pledgeref38_SameAll.l0, if_pos q1, if_pos q2, if_pos q1, rd25, same_one, Option.bind_some, if_pos rfl, wr1 pre.length q3]
theorem sameAll_self (l : List S25) (h : l.length ≤ 100000) : Ev (fun k => pledgeref38_SameAll.f k l l) true := by
  have := sameAll0 l [] (by show 0 + _ ≤ _; omega)
  refine this.congr (fun k => ?_)
  unfold pledgeref38_SameAll.f
  rw [if_pos rfl]
  rfl
def exB : List Int := [1, 7, 0, 0, 0, 0, 2, 0, 5, 0, 0, 0, 0, 0, 0, 0, 2, 1, 0, 0, 0, 0, 0, 0, 0]
theorem itoa1 (d : Nat) (h : d < 10) : Lib.itoa (d : Int) = [UInt8.ofNat (48 + d)] := by
  unfold Lib.itoa
  rw [if_neg (by omega), Int.toNat_natCast, dd_small h]
theorem exB_dec : request_Decode.decF exB = (1, 7, 0, [⟨0, 5⟩, ⟨2, 1⟩], 0, 0, 0, 0, 0) := by kernel_rfl
theorem exB_bytes : ByteL exB := by unfold ByteL; decide
theorem exB_good : GoodP 1 0 0 0 exB := by decide
theorem exB_line : lineT 1 0 0 0 exB = [112, 108, 97, 99, 101, 32, 55, 32, 48, 32, 48, 58, 53, 32, 50, 58, 49] := by
  show askedT exB = _
  unfold askedT
  rw [exB_dec]
  show askT 1 7 0 [⟨0, 5⟩, ⟨2, 1⟩] 0 0 0 0 = _
  unfold askT
  rw [if_pos rfl]
  simp only [nm, lnT, List.flatMap_cons, List.flatMap_nil]
  rw [show (7 : Int) = ((7 : Nat) : Int) from rfl, show (0 : Int) = ((0 : Nat) : Int) from rfl, show (5 : Int) = ((5 : Nat) : Int) from rfl, show (2 : Int) = ((2 : Nat) : Int) from rfl, show (1 : Int) = ((1 : Nat) : Int) from rfl]
  rw [itoa1 7 (by omega), itoa1 0 (by omega), itoa1 5 (by omega), itoa1 2 (by omega), itoa1 1 (by omega)]
  rfl
theorem crash_line : lineT 7 0 3 40 [] = [99, 114, 97, 115, 104, 32, 51, 32, 52, 48] := by
  show wCrash ++ (nm 3 ++ nm 40) = _
  have h40 : Lib.itoa 40 = [52, 48] := by
    unfold Lib.itoa
    rw [if_neg (by omega), show (40 : Int).toNat = 40 from rfl, dd_big (by omega), dd_small (by omega)]
    rfl
  simp only [nm]
  rw [h40, show (3 : Int) = ((3 : Nat) : Int) from rfl, itoa1 3 (by omega)]
  rfl
theorem works_ev : Ev (fun k => pledgelaw39_works.f k) true := by
  have hr := prog_read_good exB_good exB_bytes (by omega) (by rw [exB_line]; decide)
  have hl := prog_line exB_good exB_bytes (by omega)
  have hc := prog_line (k := 7) (g := 0) (p := 3) (t := 40) (l := []) (by decide) byteL_nil (by omega)
  rw [exB_line] at hr hl
  rw [crash_line] at hc
  unfold pledgelaw39_works.f
  refine Ev.bind hr ?_
  refine Ev.congr (f := fun k => (words_Line.f k 1 0 0 0 exB).bind fun t238 => (if t238.toList = ([112, 108, 97, 99, 101, 32, 55, 32, 48, 32, 48, 58, 53, 32, 50, 58, 49] : List UInt8) then ((words_Line.f k 7 0 3 40 ([] : List Int)).bind fun t239 => (some (t239.toList == ([99, 114, 97, 115, 104, 32, 51, 32, 52, 48] : List UInt8)))) else (some false))) ?_ (fun k => ?_)
  · refine Ev.bind hl ?_
    simp only [ofL_toList, if_pos (show True from trivial), eq_self_iff_true, if_true]
    exact Ev.bind hc (Ev.const (by rw [ofL_toList]; rfl))
  · rfl
theorem few_l0 (l : List S25) : ∀ (n i : Nat), l.length ≤ i + n → i + n ≤ 1000000 → ∃ b, Ev (fun k => pledgelaw39_few.l0 k l (i : Int)) b ∧ (b = true → ∀ j, i ≤ j → ∀ h : j < l.length, (l[j]).f4.length ≤ 600)
  | 0, i, h, _ => ⟨true, Ev.succ (f := fun _ => some true) (Ev.const rfl) (fun k => by rw [pledgelaw39_few.l0, if_neg (by omega)]), fun _ j hj hl => by omega⟩
  | n + 1, i, h, hn => by
    by_cases hi : (i : Int) < (l.length : Int)
    · have q2 : (0 : Int) ≤ (i : Int) := by omega
      have q3 : i ≤ 1000000000 := by omega
      have hil : i < l.length := by omega
      have er : rd_T25 l (i : Int) = l[i] := by simp [rd_T25, rdOf, List.getD_eq_getElem?_getD, List.getElem?_eq_getElem hil]
      by_cases h6 : ((l[i]).f4.length : Int) > 600
      · exact ⟨false, Ev.succ (f := fun _ => some false) (Ev.const rfl) (fun k => by rw [pledgelaw39_few.l0, if_pos hi, if_pos q2, er, if_pos h6]), fun h => by cases h⟩
      · obtain ⟨b, hb, hj⟩ := few_l0 l n (i + 1) (by omega) (by omega)
        refine ⟨b, hb.succ (fun k => by rw [pledgelaw39_few.l0, if_pos hi, if_pos q2, er, if_neg h6, wr1 i q3]), fun h j h1 h2 => ?_⟩
        by_cases e : j = i
        · subst e; omega
        · exact hj h j (by omega) h2
    · exact ⟨true, Ev.succ (f := fun _ => some true) (Ev.const rfl) (fun k => by rw [pledgelaw39_few.l0, if_neg hi]), fun _ j hj hl => by omega⟩
theorem few_any (l : List S25) : ∃ b, Ev (fun k => pledgelaw39_few.f k l) b ∧ (b = true → l.length ≤ 60 ∧ ∀ x ∈ l, x.f4.length ≤ 600) := by
  unfold pledgelaw39_few.f
  by_cases h : (l.length : Int) > 60
  · simp only [if_pos h]
    exact ⟨false, Ev.const rfl, fun h => by cases h⟩
  · simp only [if_neg h]
    obtain ⟨b, hb, hj⟩ := few_l0 l l.length 0 (by omega) (by omega)
    refine ⟨b, hb, fun e => ⟨by omega, fun x hx => ?_⟩⟩
    obtain ⟨j, hjl, rfl⟩ := List.mem_iff_getElem.1 hx
    exact hj e j (Nat.zero_le _) hjl
theorem wf8 {z : Int} (h : WW5 z) : 0 ≤ z ∧ z < 256 := by
  have : 0 ≤ z ∧ z ≤ 255 := by simpa [WW5, Lit.wf, IntKind.min, IntKind.max, IntKind.signed, IntKind.bits] using h
  omega
theorem wf32 {z : Int} (h : WW22 z) : 0 ≤ z ∧ z < 4294967296 := by
  have : 0 ≤ z ∧ z ≤ 4294967295 := by simpa [WW22, Lit.wf, IntKind.min, IntKind.max, IntKind.signed, IntKind.bits] using h
  omega
theorem evIn_of {x : S25} (h : WW25 x) (h6 : x.f4.length ≤ 600) : EvIn x := ⟨fun b hb => wf8 (h.2.2.2.2 b hb), wf32 h.2.1, h6⟩
theorem prog_line_bad {k g p t : Int} {l : List Int} (h : ¬ GoodP k g p t l) : Ev (fun m => words_Line.f m k g p t l) (ofL []) := by
  unfold words_Line.f
  exact Ev.bind (goodE false (decide_eq_false h)) (Ev.const rfl)
/-- Any text, read by both: one answer. -/
theorem read_one (s : List UInt8) (hs : s.length ≤ 100000) : ∃ q, Ev (fun m => words_Read.f m (ofL s)) q ∧ Ev (fun m => pledgeref39_Read.f m (ofL s)) q := by
  rcases read_both s hs with ⟨k, g, p, t, l, _, _, _, _, h1, h2⟩ | ⟨h1, h2⟩
  · exact ⟨_, h1, h2⟩
  · exact ⟨_, h1, h2⟩
theorem nm_no10 (n : Int) : (10 : UInt8) ∉ nm n := by
  unfold nm
  intro h
  rcases List.mem_cons.1 h with h | h
  · exact absurd h (by decide)
  · exact itoa_no10 n h
theorem app_no {c : UInt8} {a b : List UInt8} (ha : c ∉ a) (hb : c ∉ b) : c ∉ a ++ b := fun h => by
  rcases List.mem_append.1 h with h | h
  · exact ha h
  · exact hb h
theorem lnT_no10 : ∀ l : List S90, (10 : UInt8) ∉ lnT l
  | [] => by simp [lnT]
  | x :: l => by
    have e : lnT (x :: l) = (nm x.f0 ++ (58 :: Lib.itoa x.f1)) ++ lnT l := rfl
    rw [e]
    refine app_no (app_no (nm_no10 _) ?_) (lnT_no10 l)
    intro h
    rcases List.mem_cons.1 h with h | h
    · exact absurd h (by decide)
    · exact itoa_no10 _ h
theorem hexL_no10 (l : List Int) : (10 : UInt8) ∉ hexL l := by
  have hd : ∀ a : Nat, (10 : UInt8) ≠ hexD.getD a 0 := fun a => by
    by_cases h : a < 16
    · exact (show ∀ a : Nat, a < 16 → (10 : UInt8) ≠ hexD.getD a 0 from by decide) a h
    · rw [show hexD.getD a 0 = 0 from by simp [List.getD_eq_getElem?_getD, List.getElem?_eq_none (show hexD.length ≤ a from by simpa [hexD] using h)]]
      decide
  induction l with
  | nil => simp [hexL]
  | cons x l ih =>
    rw [hexL_cons]
    intro h
    rcases List.mem_append.1 h with h | h
    · simp only [hx, List.mem_cons, List.not_mem_nil, or_false] at h
      rcases h with h | h
      · exact hd _ h
      · exact hd _ h
    · exact ih h
theorem askT_no10 (k o p : Int) (l : List S90) (s f t q : Int) : (10 : UInt8) ∉ askT k o p l s f t q := by
  unfold askT
  repeat' split
  · exact app_no (app_no (by decide) (app_no (nm_no10 _) (nm_no10 _))) (lnT_no10 l)
  · exact app_no (by decide) (nm_no10 _)
  · exact app_no (by decide) (nm_no10 _)
  · exact app_no (by decide) (nm_no10 _)
  · exact app_no (by decide) (app_no (nm_no10 _) (app_no (nm_no10 _) (nm_no10 _)))
  · exact app_no (by decide) (app_no (nm_no10 _) (app_no (nm_no10 _) (app_no (nm_no10 _) (nm_no10 _))))
  · exact app_no (by decide) (nm_no10 _)
theorem lineT_no10 (k g p t : Int) (l : List Int) : (10 : UInt8) ∉ lineT k g p t l := by
  unfold lineT
  split
  · unfold askedT
    split
    · exact askT_no10 _ _ _ _ _ _ _ _
    · split
      · decide
      · exact app_no (by decide) (hexL_no10 l)
  repeat' split
  · exact app_no (by decide) (nm_no10 _)
  · exact app_no (by decide) (nm_no10 _)
  · decide
  · decide
  · decide
  · exact app_no (by decide) (app_no (nm_no10 _) (nm_no10 _))
  · decide
def lineE (x : S25) : List UInt8 := lineT x.f0 x.f1 x.f2 x.f3 x.f4
def GoodE (x : S25) : Prop := GoodP x.f0 x.f1 x.f2 x.f3 x.f4
instance (x : S25) : Decidable (GoodE x) := by unfold GoodE; infer_instance
def prG (l : List S25) : List UInt8 := l.flatMap fun x => lineE x ++ [10]
theorem prT_is : ∀ l : List S25, prT l = prG (l.filter fun x => decide (GoodE x))
  | [] => rfl
  | x :: l => by
    have e : prT (x :: l) = (if GoodP x.f0 x.f1 x.f2 x.f3 x.f4 then lineT x.f0 x.f1 x.f2 x.f3 x.f4 ++ [10] else []) ++ prT l := rfl
    rw [e, prT_is l]
    by_cases h : GoodE x
    · have h' : GoodP x.f0 x.f1 x.f2 x.f3 x.f4 := h
      rw [if_pos h', List.filter_cons_of_pos (by simpa using h)]
      rfl
    · have h' : ¬ GoodP x.f0 x.f1 x.f2 x.f3 x.f4 := h
      rw [if_neg h', List.filter_cons_of_neg (by simpa using h)]
      rfl
theorem parse_print0 (S : List UInt8) : ∀ (rest acc : List S25) (A : List UInt8) (m : Nat), (∀ x ∈ rest, GoodE x ∧ EvIn x) → A ++ prG rest = S → acc.length + rest.length ≤ 1000 → (prG rest).length < m → Ev (fun k => words_Parse.go k (ofL S) m A.length A.length acc) (acc ++ rest, ((acc ++ rest).length : Int), 0)
  | [], acc, A, m, _, hS, _, hm => by
    obtain ⟨m, rfl⟩ : ∃ j, m = j + 1 := ⟨m - 1, by omega⟩
    have hl : A.length = (ofL S).size := by rw [ofL_size, ← hS]; simp [prG]
    refine ⟨0, fun k _ => ?_⟩
    dsimp only
    rw [words_Parse.go, if_neg (by omega), if_neg (by omega), List.append_nil]
  | x :: rest, acc, A, m, hx, hS, ha, hm => by
    obtain ⟨hg, hi⟩ := hx x (by simp)
    have hlen := lineT_len hg hi.1 hi.2.1
    have e : prG (x :: rest) = lineE x ++ 10 :: prG rest := by simp [prG]
    rw [e] at hS hm
    simp only [List.length_append, List.length_cons] at hm
    rw [List.length_cons] at ha
    have hS2 : A ++ lineE x ++ 10 :: prG rest = S := by rw [List.append_assoc]; exact hS
    obtain ⟨m1, hm1, hgo⟩ := walk_line A (lineE x) (10 :: prG rest) (lineT_no10 _ _ _ _ _) (.inr ⟨_, rfl⟩) acc (lineE x).length 0 m (by omega) (by omega) (by omega)
    rw [hS2, Nat.add_zero] at hgo
    obtain ⟨m2, rfl⟩ : ∃ m2, m1 = m2 + 1 := ⟨m1 - 1, by omega⟩
    have hSl : A.length + (lineE x).length + ((prG rest).length + 1) = S.length := by rw [← hS2]; simp only [List.length_append, List.length_cons]
    have hps : A.length + (lineE x).length < (ofL S).size := by rw [ofL_size]; omega
    have hby : (ofL S)[A.length + (lineE x).length]'hps = 10 := by
      have h2 : S[A.length + (lineE x).length]? = some 10 := by
        rw [← hS2, List.append_assoc, List.getElem?_append_right (by omega), show A.length + (lineE x).length - A.length = (lineE x).length from by omega, List.getElem?_append_right (by omega)]
        simp
      rw [get_ofL S _ (by omega)]
      exact (List.getElem?_eq_some_iff.1 h2).2
    have hdec : Utf8.decode (ofL S) (A.length + (lineE x).length) = (10, 1) := by
      rw [decode_ascii _ _ hps (by rw [hby]; decide), hby]
      rfl
    have hex : (ofL S).extract A.length (A.length + (lineE x).length) = ofL (lineE x) := by
      rw [extract_ofL, ← hS2, show A.length + (lineE x).length = (A ++ lineE x).length from by rw [List.length_append], List.take_left, List.drop_left]
    have hq6 : ¬ (acc.length = 1024) := by omega
    have ih := parse_print0 S rest (acc ++ [x]) (A ++ lineE x ++ [10]) m2 (fun y hy => hx y (by simp [hy])) (by rw [← hS2]; simp) (by rw [List.length_append]; show acc.length + 1 + _ ≤ _; omega) (by omega)
    have hA3 : (A ++ lineE x ++ [10]).length = A.length + (lineE x).length + 1 := by simp only [List.length_append, List.length_cons, List.length_nil]
    rw [hA3, show acc ++ [x] ++ rest = acc ++ x :: rest from by simp] at ih
    refine Ev.congr (f := fun k => (words_Read.f k (ofL (lineE x))).bind fun q => if q.2.2.2.2.2 = 0 then words_Parse.go k (ofL S) m2 (A.length + (lineE x).length + 1) (A.length + (lineE x).length + 1) (acc ++ [⟨q.1, q.2.1, q.2.2.1, q.2.2.2.1, q.2.2.2.2.1⟩]) else some ([], (acc.length : Int) + 1, q.2.2.2.2.2)) ?_ (fun k => by rw [hgo k, words_Parse.go, if_pos hps, hdec, if_pos rfl, if_neg hq6, hex])
    refine Ev.bind (prog_read_good hg hi.1 hi.2.1 (by omega)) ?_
    exact ih
theorem parse_print (l : List S25) (h : ∀ x ∈ l, EvIn x) (hl : l.length ≤ 60) : Ev (fun k => words_Parse.f k (ofL (prT l))) (l.filter (fun x => decide (GoodE x)), ((l.filter fun x => decide (GoodE x)).length : Int), 0) := by
  have hlen := prT_len l h
  have hf : (l.filter fun x => decide (GoodE x)).length ≤ l.length := List.length_filter_le _ _
  have := parse_print0 (prT l) (l.filter fun x => decide (GoodE x)) [] [] ((prT l).length + 1) (fun x hx => by obtain ⟨h1, h2⟩ := List.mem_filter.1 hx; exact ⟨by simpa using h2, h x h1⟩) (prT_is l).symm (by show 0 + _ ≤ _; omega) (by rw [← prT_is]; omega)
  refine this.congr (fun k => ?_)
  unfold words_Parse.f
  rw [if_pos (by rw [ofL_size]; omega), ofL_size]
  rfl
theorem gStep_is (x : S25) (h : EvIn x) : Ev (fun k => gStep k x) (decide (GoodE x)) := by
  unfold gStep
  by_cases hg : GoodE x
  · rw [decide_eq_true hg]
    have hlen := lineT_len hg h.1 h.2.1
    refine Ev.bind (prog_line hg h.1 h.2.1) (Ev.bind (prog_read_good hg h.1 h.2.1 (by omega)) (Ev.bind (r := true) (Ev.const (by rw [ref_good, decide_eq_true (show GoodP x.f0 x.f1 x.f2 x.f3 x.f4 from hg)])) ?_))
    simp only [if_true]
    refine Ev.bind (r := true) (Ev.const (same_one x)) (Ev.const rfl)
  · rw [decide_eq_false hg]
    obtain ⟨q, q1, _⟩ := read_one [] (by simp)
    refine Ev.bind (prog_line_bad hg) (Ev.bind q1 (Ev.bind (r := false) (Ev.const (by rw [ref_good, decide_eq_false (show ¬ GoodP x.f0 x.f1 x.f2 x.f3 x.f4 from hg)])) (Ev.const ?_)))
    rw [if_neg (by decide), ofL_toList, if_pos rfl]
theorem goF_is : ∀ l : List S25, (∀ x ∈ l, EvIn x) → Ev (fun k => goF k l) (l.filter fun x => decide (GoodE x))
  | [], _ => Ev.const rfl
  | x :: l, h => by
    simp only [goF]
    refine Ev.bind (gStep_is x (h x (by simp))) (Ev.bind (goF_is l (fun y hy => h y (by simp [hy]))) (Ev.const ?_))
    by_cases hg : GoodE x
    · rw [if_pos (decide_eq_true hg), List.filter_cons_of_pos (by simpa using hg)]
    · rw [if_neg (by simpa using hg), List.filter_cons_of_neg (by simpa using hg)]
end Go.Proofs.YtpnehgajhpejjaaGreatDoor.W
