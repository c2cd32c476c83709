import Derived.Test.YtpnehgajhpejjaaGreatDoorWV2
import Derived.Test.YtpnehgajhpejjaaGreatDoorW23
import Derived.Test.YtpnehgajhpejjaaGreatDoorWOpens
/- The plain law's parts. -/
namespace Go.Proofs.YtpnehgajhpejjaaGreatDoor.W
open Go.Lib Go.RowKit Go.Proofs.YtpnehgajhpejjaaGreatDoorW.PrintWords
set_option maxRecDepth 100000
set_option linter.unusedVariables false
set_option linter.unusedSimpArgs false
theorem decode_span (s : ByteArray) (pos : Nat) (h : pos < s.size) : pos + (Utf8.decode s pos).2 ≤ s.size ∧ ∀ j, 1 ≤ j → j < (Utf8.decode s pos).2 → 128 ≤ (s.get! (pos + j)).toNat := by
  simp only [Utf8.decode]
  repeat' split
  all_goals simp_all
  all_goals first
    | omega
    | (refine ⟨by omega, fun j h1 h2 => ?_⟩
       have hj : j = 1 ∨ j = 2 ∨ j = 3 := by omega
       rcases hj with rfl | rfl | rfl <;> omega)
theorem get_ofL (l : List UInt8) (i : Nat) (h : i < l.length) : (ofL l)[i]'(by rw [ofL_size]; exact h) = l[i] := rfl
theorem getb_ofL (l : List UInt8) (i : Nat) (h : i < l.length) : (ofL l).get! i = l[i] := by
  have := Go.get_at (ofL l) i (by rw [ofL_size]; exact h)
  rw [Nat.add_zero] at this
  rw [this]
  rfl
/-- Over a line's bytes, none of which ends it. -/
theorem walk_line (A line B : List UInt8) (hline : (10 : UInt8) ∉ line) (hB : B = [] ∨ ∃ B', B = 10 :: B') (out : List S25) : ∀ (n : Nat) (i m : Nat), line.length ≤ i + n → i ≤ line.length → line.length - i ≤ m →
    ∃ m', m ≤ m' + (line.length - i) ∧ ∀ k, words_Parse.go k (ofL (A ++ line ++ B)) m (A.length + i) A.length out = words_Parse.go k (ofL (A ++ line ++ B)) m' (A.length + line.length) A.length out
  | n, i, m, hn, hi, hm => by
    by_cases hil : i = line.length
    · subst hil
      exact ⟨m, by omega, fun _ => rfl⟩
    · have hlt : i < line.length := by omega
      have hsz : (ofL (A ++ line ++ B)).size = A.length + line.length + B.length := by rw [ofL_size, List.length_append, List.length_append]
      have hps : A.length + i < (ofL (A ++ line ++ B)).size := by omega
      have hpl : A.length + i < (A ++ line ++ B).length := by simp only [List.length_append]; omega
      have hbyte : (ofL (A ++ line ++ B))[A.length + i]'hps = line[i] := by
        rw [get_ofL _ _ hpl, List.getElem_append_left (by simp only [List.length_append]; omega), List.getElem_append_right (by omega)]
        simp
      have hne : line[i] ≠ 10 := fun h => hline (h ▸ List.getElem_mem hlt)
      have hne2 : (line[i]).toNat ≠ 10 := fun h => hne (UInt8.toNat.inj h)
      obtain ⟨hsp, hcont⟩ := decode_span _ _ hps
      have hr : (Utf8.decode (ofL (A ++ line ++ B)) (A.length + i)).1 ≠ 10 ∧ 1 ≤ (Utf8.decode (ofL (A ++ line ++ B)) (A.length + i)).2 := by
        by_cases ha : (line[i]).toNat < 128
        · rw [decode_ascii _ _ hps (by rw [hbyte]; exact ha), hbyte]
          exact ⟨hne2, Nat.le_refl _⟩
        · obtain ⟨h1, h2⟩ := decode_high _ _ hps (by rw [hbyte]; omega)
          exact ⟨by omega, h2⟩
      generalize hw : (Utf8.decode (ofL (A ++ line ++ B)) (A.length + i)).2 = w at *
      have hwl : i + w ≤ line.length := by
        rcases hB with rfl | ⟨B', rfl⟩
        · rw [List.length_nil] at hsz
          omega
        · refine Decidable.byContradiction fun hc => ?_
          have h1 := hcont (line.length - i) (by omega) (by omega)
          have e : A.length + i + (line.length - i) = A.length + line.length := by omega
          rw [e, getb_ofL _ _ (by simp)] at h1
          rw [List.getElem_append_right (by simp)] at h1
          simp at h1
      obtain ⟨m0, rfl⟩ : ∃ m0, m = m0 + 1 := ⟨m - 1, by omega⟩
      obtain ⟨n0, rfl⟩ : ∃ n0, n = n0 + 1 := ⟨n - 1, by omega⟩
      obtain ⟨m', hm', he⟩ := walk_line A line B hline hB out n0 (i + w) m0 (by omega) hwl (by omega)
      refine ⟨m', by omega, fun k => ?_⟩
      rw [words_Parse.go, if_pos hps, if_neg hr.1, hw, Nat.add_assoc]
      exact he k
theorem wrm (n : Nat) (h : n ≤ 1000000000) : wrap64 (((n + 1 : Nat) : Int) - 1) = (n : Int) := by
  simp only [wrap64]
  omega
theorem parse_both0 (S : List UInt8) (hS : S.length ≤ 6000) : ∀ (n : Nat) (B A : List UInt8) (pre : List (List UInt8)) (acc : List S25) (m : Nat), B.length ≤ n → A ++ B = S → pre ++ splitL 10 B = splitL 10 S → acc.length = pre.length → pre.length ≤ A.length → B.length < m →
    ∃ R, R.1.length ≤ 6001 ∧ Ev (fun k => words_Parse.go k (ofL S) m A.length A.length acc) R ∧ Ev (fun k => pledgeref39_Parse.l0 k ((splitL 10 S).map ofL) acc (pre.length : Int)) R
  | n, B, A, pre, acc, m, hn, hAB, hsp, hac, hpA, hm => by
    have hSl : A.length + B.length = S.length := by rw [← hAB, List.length_append]
    have hp1 : pre.length ≤ 1000000000 := by omega
    by_cases h10 : (10 : UInt8) ∈ B
    · obtain ⟨line, B', rfl, hline⟩ := List.eq_append_cons_of_mem h10
      have hBl : (line ++ 10 :: B').length = line.length + B'.length + 1 := by simp only [List.length_append, List.length_cons]; omega
      rw [hBl] at hn hm hSl
      rw [splitL_app 10 B' line hline] at hsp
      have hlenS : (splitL 10 S).length = pre.length + 1 + (splitL 10 B').length := by rw [← hsp, List.length_append, List.length_cons]; omega
      have hpos := List.length_pos_iff.2 (splitL_ne 10 B')
      have hS2 : A ++ line ++ 10 :: B' = S := by rw [List.append_assoc]; exact hAB
      obtain ⟨m1, hm1, hgo⟩ := walk_line A line (10 :: B') hline (.inr ⟨B', rfl⟩) acc line.length 0 m (by omega) (by omega) (by omega)
      rw [hS2, Nat.add_zero] at hgo
      obtain ⟨m2, rfl⟩ : ∃ m2, m1 = m2 + 1 := ⟨m1 - 1, by omega⟩
      have hsz : (ofL S).size = S.length := ofL_size S
      have hps : A.length + line.length < (ofL S).size := by omega
      have hby : (ofL S)[A.length + line.length]'hps = 10 := by
        have h2 : S[A.length + line.length]? = some 10 := by
          rw [← hS2, List.append_assoc, List.getElem?_append_right (by omega), show A.length + line.length - A.length = line.length from by omega, List.getElem?_append_right (by omega)]
          simp
        rw [get_ofL S _ (by omega)]
        exact (List.getElem?_eq_some_iff.1 h2).2
      have hdec : Utf8.decode (ofL S) (A.length + line.length) = (10, 1) := by
        rw [decode_ascii _ _ hps (by rw [hby]; decide), hby]
        rfl
      have hex : (ofL S).extract A.length (A.length + line.length) = ofL line := by
        rw [extract_ofL, ← hS2, show A.length + line.length = (A ++ line).length from by rw [List.length_append], List.take_left, List.drop_left]
      have hll : line.length ≤ 100000 := by omega
      have hlen0 : (((splitL 10 S).map ofL).length : Int) = ((pre.length + (splitL 10 B').length + 1 : Nat) : Int) := by rw [List.length_map, hlenS]; omega
      have hz : pre.length + (splitL 10 B').length ≤ 1000000000 := by have := (splitL_sizes 10 B').2; omega
      have hq1 : (pre.length : Int) < ((pre.length + (splitL 10 B').length : Nat) : Int) := by omega
      have hq2 : (0 : Int) ≤ (pre.length : Int) := by omega
      have hq3 : (pre.length : Int) < ((pre.length + (splitL 10 B').length + 1 : Nat) : Int) := by omega
      have hrd : rdOf ByteArray.empty ((splitL 10 S).map ofL) (pre.length : Int) = ofL line := by
        rw [rdW _ _ (by omega)]
        congr 1
        have : (splitL 10 S)[pre.length]? = some line := by rw [← hsp, List.getElem?_append_right (Nat.le_refl _)]; simp
        exact (List.getElem?_eq_some_iff.1 this).2
      have hq4 : acc.length < 2932031007402 := by omega
      by_cases h1024 : pre.length = 1024
      · have hq7 : (pre.length : Int) = 1024 := by omega
        have hq8 : acc.length = 1024 := by omega
        refine ⟨([], 1025, 7), Nat.zero_le _, ⟨0, fun k _ => ?_⟩, ?_⟩
        · dsimp only
          rw [hgo k, words_Parse.go, if_pos hps, hdec, if_pos rfl, if_pos hq8]
        · refine Ev.succ (f := fun _ => some ([], 1025, 7)) (Ev.const rfl) (fun k => ?_)
          rw [pledgeref39_Parse.l0, hlen0, wrm _ hz, if_pos hq1, if_pos hq7]
      · have hq5 : ¬ ((pre.length : Int) = 1024) := by omega
        have hq6 : ¬ (acc.length = 1024) := by omega
        have a1 : B'.length ≤ n - 1 := by omega
        have a2 : (pre ++ [line]).length ≤ (A ++ line ++ [10]).length := by simp only [List.length_append, List.length_cons, List.length_nil]; omega
        have a3 : B'.length < m2 := by omega
        have a4 : (A ++ line ++ [10]).length = A.length + line.length + 1 := by simp only [List.length_append, List.length_cons, List.length_nil]
        have a5 : n - 1 < n := by omega
        have hpg : ∀ R, Ev (fun k => (words_Read.f k (ofL line)).bind fun q => if q.2.2.2.2.2 = 0 then words_Parse.go k (ofL S) m2 (A.length + line.length + 1) (A.length + line.length + 1) (acc ++ [⟨q.1, q.2.1, q.2.2.1, q.2.2.2.1, q.2.2.2.2.1⟩]) else some ([], (acc.length : Int) + 1, q.2.2.2.2.2)) R → Ev (fun k => words_Parse.go k (ofL S) m A.length A.length acc) R := fun R h => h.congr (fun k => by
          rw [hgo k, words_Parse.go, if_pos hps, hdec, if_pos rfl, if_neg hq6, hex])
        have hrg : ∀ R, Ev (fun k => (pledgeref39_Read.f k (ofL line)).bind fun bt441 => (if bt441.2.2.2.2.2 = 0 then (if acc.length < 2932031007402 then (pledgeref39_Parse.l0 k ((splitL 10 S).map ofL) (acc ++ [(⟨bt441.1, bt441.2.1, bt441.2.2.1, bt441.2.2.2.1, bt441.2.2.2.2.1⟩ : S25)]) ((pre.length + 1 : Nat) : Int)) else (none)) else (some (([] : List (S25)), ((pre.length + 1 : Nat) : Int), bt441.2.2.2.2.2)))) R → Ev (fun k => pledgeref39_Parse.l0 k ((splitL 10 S).map ofL) acc (pre.length : Int)) R := fun R h => h.succ (fun k => by
          rw [pledgeref39_Parse.l0, hlen0, wrm _ hz, if_pos hq1, if_neg hq5, if_pos hq2, if_pos hq3, hrd, wr1 pre.length hp1])
        rcases read_both line hll with ⟨k0, g, p, t, l, hg, hb, hr, hl, e1, e2⟩ | ⟨e1, e2⟩
        · obtain ⟨R, r0, r1, r2⟩ := parse_both0 S hS (n - 1) B' (A ++ line ++ [10]) (pre ++ [line]) (acc ++ [⟨k0, g, p, t, l⟩]) m2 a1 (by rw [← hS2]; simp) (by rw [← hsp]; simp) (by rw [List.length_append, List.length_append, hac]; rfl) a2 a3
          rw [a4] at r1
          rw [show (pre ++ [line]).length = pre.length + 1 from by simp] at r2
          refine ⟨R, r0, hpg R (Ev.bind e1 ?_), hrg R (Ev.bind e2 ?_)⟩
          · exact r1
          · simp only [if_pos (show (0 : Int) = 0 from rfl), if_pos hq4]
            exact r2
        · refine ⟨([], ((pre.length + 1 : Nat) : Int), 8), Nat.zero_le _, hpg _ (Ev.bind e1 (Ev.const ?_)), hrg _ (Ev.bind e2 (Ev.const ?_))⟩
          · show some (([] : List S25), (acc.length : Int) + 1, (8 : Int)) = _
            rw [hac]
            rfl
          · rfl
    · rw [splitL_none 10 B h10] at hsp
      have hlenS : (splitL 10 S).length = pre.length + 1 := by rw [← hsp, List.length_append]; rfl
      have hS2 : A ++ B ++ [] = S := by rw [List.append_nil]; exact hAB
      obtain ⟨m1, hm1, hgo⟩ := walk_line A B [] h10 (.inl rfl) acc B.length 0 m (by omega) (by omega) (by omega)
      rw [hS2, Nat.add_zero] at hgo
      obtain ⟨m2, rfl⟩ : ∃ m2, m1 = m2 + 1 := ⟨m1 - 1, by omega⟩
      have hsz : (ofL S).size = S.length := ofL_size S
      have hps : ¬ (A.length + B.length < (ofL S).size) := by omega
      have hlen0 : (((splitL 10 S).map ofL).length : Int) = ((pre.length + 1 : Nat) : Int) := by rw [List.length_map, hlenS]
      have hq1 : ¬ ((pre.length : Int) < (pre.length : Int)) := by omega
      have hq2 : (0 : Int) ≤ (pre.length : Int) := by omega
      have hq3 : (pre.length : Int) < ((pre.length + 1 : Nat) : Int) := by omega
      have hrd : rdOf ByteArray.empty ((splitL 10 S).map ofL) (pre.length : Int) = ofL B := by
        rw [rdW _ _ (by omega)]
        congr 1
        have : (splitL 10 S)[pre.length]? = some B := by rw [← hsp, List.getElem?_append_right (Nat.le_refl _)]; simp
        exact (List.getElem?_eq_some_iff.1 this).2
      by_cases hB : B = []
      · subst hB
        have hacl : acc.length ≤ 6001 := by omega
        refine ⟨(acc, (acc.length : Int), 0), hacl, ⟨0, fun k _ => ?_⟩, Ev.succ (f := fun _ => some (acc, (acc.length : Int), 0)) (Ev.const rfl) (fun k => ?_)⟩
        · dsimp only
          rw [hgo k, words_Parse.go, if_neg hps, if_neg (by rw [List.length_nil] at hSl; omega)]
        · rw [pledgeref39_Parse.l0, hlen0, wrm _ hp1, if_neg hq1, if_pos hq2, if_pos hq3, hrd, ofL_toList, if_pos rfl]
      · have hBl := List.length_pos_iff.2 hB
        refine ⟨([], ((pre.length + 1 : Nat) : Int), 6), Nat.zero_le _, ⟨0, fun k _ => ?_⟩, Ev.succ (f := fun _ => some ([], ((pre.length + 1 : Nat) : Int), 6)) (Ev.const rfl) (fun k => ?_)⟩
        · dsimp only
          rw [hgo k, words_Parse.go, if_neg hps, if_pos (by omega), hac]
          rfl
        · rw [pledgeref39_Parse.l0, hlen0, wrm _ hp1, if_neg hq1, if_pos hq2, if_pos hq3, hrd, ofL_toList, if_neg hB]
theorem parse_both (S : List UInt8) (hS : S.length ≤ 6000) : ∃ R, R.1.length ≤ 6001 ∧ Ev (fun k => words_Parse.f k (ofL S)) R ∧ Ev (fun k => pledgeref39_Parse.f k (ofL S)) R := by
  obtain ⟨R, r0, r1, r2⟩ := parse_both0 S hS S.length S [] [] [] (S.length + 1) (Nat.le_refl _) rfl rfl rfl (Nat.le_refl _) (by omega)
  refine ⟨R, r0, r1.congr (fun k => ?_), ?_⟩
  · unfold words_Parse.f
    rw [if_pos (by rw [ofL_size]; omega), ofL_size]
    rfl
  · unfold pledgeref39_Parse.f
    exact Ev.bind (cut10 S (by omega)) r2
/-- An event out of an argument. -/
def EvIn (x : S25) : Prop := ByteL x.f4 ∧ (0 ≤ x.f1 ∧ x.f1 < 4294967296) ∧ x.f4.length ≤ 600
def prT (l : List S25) : List UInt8 := l.flatMap fun x => if GoodP x.f0 x.f1 x.f2 x.f3 x.f4 then lineT x.f0 x.f1 x.f2 x.f3 x.f4 ++ [10] else []
theorem lnT_len : ∀ l : List S90, (∀ x ∈ l, LineOk x) → (lnT l).length ≤ 44 * l.length
  | [], _ => by simp [lnT]
  | x :: l, h => by
    have h0 := h x (by simp)
    have a := nm_len x.f0 (u8_64 h0.1)
    have b := itoa_len20 x.f1 h0.2
    have c := lnT_len l (fun y hy => h y (by simp [hy]))
    have e : lnT (x :: l) = (nm x.f0 ++ (58 :: Lib.itoa x.f1)) ++ lnT l := rfl
    rw [e]
    simp only [List.length_append, List.length_cons]
    omega
theorem askT_len {k o p : Int} {l : List S90} {s f t q : Int} (h : RqOk k o p l s f t q) : (askT k o p l s f t q).length ≤ 400 := by
  have lo := nm_len o (u32_64 h.hO)
  have lp := nm_len p (u8_64 h.hP)
  have ls := nm_len s (u8_64 h.hS)
  have lf := nm_len f (u8_64 h.hF)
  have lt := nm_len t (u8_64 h.hT)
  have lq := nm_len q h.hQ
  have ll := lnT_len l h.hL
  have hN := h.hN
  unfold askT
  repeat' split
  all_goals simp only [List.length_append, show wPlace.length = 5 from rfl, show wCancel.length = 6 from rfl, show wShip.length = 4 from rfl, show wReturn.length = 6 from rfl, show wRestock.length = 7 from rfl, show wTransfer.length = 8 from rfl, show wQuery.length = 5 from rfl]
  all_goals omega
theorem lineT_len {k g p t : Int} {l : List Int} (h : GoodP k g p t l) (hb : ByteL l) (hg : 0 ≤ g ∧ g < 4294967296) : (lineT k g p t l).length ≤ 2000 := by
  obtain ⟨hk, hl0, hl, hg0, hpt⟩ := h
  have lg := nm_len g (u32_64 hg)
  have lp := nm_len p (by unfold I64; omega)
  have lt := nm_len t (by unfold I64; omega)
  have hh := hexL_len l
  unfold lineT
  split
  · unfold askedT
    split
    · rename_i h0
      have := askT_len (dec_fields hb h0)
      omega
    · split
      · decide
      · simp only [List.length_append, show askB.length = 4 from rfl]
        omega
  repeat' split
  all_goals simp only [List.length_append, show wPick.length = 4 from rfl, show wKill.length = 4 from rfl, show wWrite.length = 5 from rfl, show wSync.length = 4 from rfl, show wCkpt.length = 4 from rfl, show wCrash.length = 5 from rfl, show wBoot.length = 4 from rfl]
  all_goals omega
theorem prT_len : ∀ l : List S25, (∀ x ∈ l, EvIn x) → (prT l).length ≤ 2001 * l.length
  | [], _ => by simp [prT]
  | x :: l, h => by
    have h0 := h x (by simp)
    have c := prT_len l (fun y hy => h y (by simp [hy]))
    have e : prT (x :: l) = (if GoodP x.f0 x.f1 x.f2 x.f3 x.f4 then lineT x.f0 x.f1 x.f2 x.f3 x.f4 ++ [10] else []) ++ prT l := rfl
    rw [e]
    simp only [List.length_append, List.length_cons]
    split
    · rename_i hg
      have := lineT_len hg h0.1 h0.2.1
      simp only [List.length_append, List.length_cons, List.length_nil]
      omega
    · simp only [List.length_nil]
      omega
theorem print_go : ∀ l : List S25, (∀ x ∈ l, EvIn x) → Ev (fun k => words_Print.go k l) (prT l)
  | [], _ => Ev.const rfl
  | x :: l, h => by
    have h0 := h x (by simp)
    have c := print_go l (fun y hy => h y (by simp [hy]))
    have e : prT (x :: l) = (if GoodP x.f0 x.f1 x.f2 x.f3 x.f4 then lineT x.f0 x.f1 x.f2 x.f3 x.f4 ++ [10] else []) ++ prT l := rfl
    rw [e]
    simp only [words_Print.go]
    by_cases hg : GoodP x.f0 x.f1 x.f2 x.f3 x.f4
    · rw [if_pos hg]
      refine Ev.bind (goodE true (decide_eq_true hg)) ?_
      simp only [if_pos (show true = true from rfl)]
      refine Ev.bind (prog_line hg h0.1 h0.2.1) (Ev.bind c (Ev.const ?_))
      rw [ofL_data, List.append_assoc]
      rfl
    · rw [if_neg hg, List.nil_append]
      exact Ev.bind (goodE false (decide_eq_false hg)) (c.congr (fun _ => rfl))
theorem prog_print (l : List S25) (h : ∀ x ∈ l, EvIn x) (hl : l.length ≤ 60) : Ev (fun k => words_Print.f k l) (ofL (prT l)) := by
  have hlen := prT_len l h
  unfold words_Print.f
  refine Ev.bind (print_go l h) (Ev.const ?_)
  rw [if_pos (by omega)]
  rfl
theorem rd25 (pre rest : List S25) (x : S25) : rd_T25 (pre ++ x :: rest) (pre.length : Int) = x := by simp [rd_T25, rdOf, List.getD_eq_getElem?_getD]
theorem ref_print0 (rest : List S25) : ∀ (pre : List S25) (w : List UInt8), (∀ x ∈ rest, EvIn x) → w.length + 3000 * rest.length ≤ 1000000 → pre.length + rest.length ≤ 100 → Ev (fun k => pledgeref39_Print.l0 k (pre ++ rest) (ofL w) (pre.length : Int)) (ofL (w ++ prT rest)) := by
  induction rest with
  | nil =>
    intro pre w _ _ _
    refine Ev.succ (f := fun _ => some (ofL (w ++ prT []))) (Ev.const rfl) (fun k => ?_)
    rw [pledgeref39_Print.l0, if_neg (by rw [List.append_nil]; omega), show prT [] = [] from rfl, List.append_nil]
  | cons x rest ih =>
    intro pre w hx hw hp
    rw [List.length_cons] at hw hp
    have h0 := hx x (by simp)
    have q1 : (pre.length : Int) < ((pre ++ x :: rest).length : Int) := by simp only [List.length_append, List.length_cons]; omega
    have q2 : (0 : Int) ≤ (pre.length : Int) := by omega
    have q3 : pre.length ≤ 1000000000 := by omega
    have q4 : pre.length + 1 + rest.length ≤ 100 := by omega
    have e : prT (x :: rest) = (if GoodP x.f0 x.f1 x.f2 x.f3 x.f4 then lineT x.f0 x.f1 x.f2 x.f3 x.f4 ++ [10] else []) ++ prT rest := rfl
    have lp : (pre ++ [x]).length = pre.length + 1 := by rw [List.length_append]; rfl
    by_cases hg : GoodP x.f0 x.f1 x.f2 x.f3 x.f4
    · have hl := lineT_len hg h0.1 h0.2.1
      have ih2 := ih (pre ++ [x]) (w ++ (lineT x.f0 x.f1 x.f2 x.f3 x.f4 ++ [10])) (fun y hy => hx y (by simp [hy])) (by simp only [List.length_append, List.length_cons, List.length_nil]; omega) (by rw [lp]; exact q4)
      rw [List.append_assoc, List.singleton_append, List.append_assoc, lp] at ih2
      rw [e, if_pos hg]
      refine Ev.succ (f := fun k => (pledgeref39_Line.f k x.f0 x.f1 x.f2 x.f3 x.f4).bind fun t456 => (if (ofL w).size + t456.size ≤ 9223372036854775807 then (if (ofL w).size + t456.size + 1 ≤ 9223372036854775807 then (pledgeref39_Print.l0 k (pre ++ x :: rest) ((ofL w ++ t456) ++ (⟨#[10]⟩ : ByteArray)) ((pre.length + 1 : Nat) : Int)) else (none)) else (none))) ?_ (fun k => ?_)
      · refine Ev.bind (ref_line hg h0.1 h0.2.1) (ih2.congr (fun k => ?_))
        rw [if_pos (by rw [ofL_size, ofL_size]; omega), if_pos (by rw [ofL_size, ofL_size]; omega), show (⟨#[10]⟩ : ByteArray) = ofL [10] from rfl, ofL_app, ofL_app, List.append_assoc]
      · rw [pledgeref39_Print.l0, if_pos q1, if_pos q2, rd25, ref_good, decide_eq_true hg, Option.bind_some, if_pos rfl, wr1 pre.length q3]
    · have ih2 := ih (pre ++ [x]) w (fun y hy => hx y (by simp [hy])) (by omega) (by rw [lp]; exact q4)
      rw [List.append_assoc, List.singleton_append, lp] at ih2
      rw [e, if_neg hg, List.nil_append]
      refine ih2.succ (fun k => ?_)
      rw [pledgeref39_Print.l0, if_pos q1, if_pos q2, rd25, ref_good, decide_eq_false hg, Option.bind_some, if_neg (by decide), wr1 pre.length q3]
theorem ref_print (l : List S25) (h : ∀ x ∈ l, EvIn x) (hl : l.length ≤ 60) : Ev (fun k => pledgeref39_Print.f k l) (ofL (prT l)) := by
  have := ref_print0 l [] [] h (by show 0 + _ ≤ _; omega) (by show 0 + _ ≤ _; omega)
  exact this
theorem same_one (x : S25) : pledgeref38_Same.f x.f0 x.f1 x.f2 x.f3 x.f4 x.f0 x.f1 x.f2 x.f3 x.f4 = some true := by
  rw [same_is, decide_eq_true ⟨rfl, rfl, rfl⟩, beq_self_eq_true]
  rfl
theorem sameAll0 (rest : List S25) : ∀ (pre : List S25), pre.length + rest.length ≤ 100000 → Ev (fun k => pledgeref38_SameAll.l0 k (pre ++ rest) (pre ++ rest) (pre.length : Int)) true := by
  induction rest with
  | nil =>
    intro pre _
    refine Ev.succ (f := fun _ => some true) (Ev.const rfl) (fun k => ?_)
    rw [pledgeref38_SameAll.l0, if_neg (by rw [List.append_nil]; omega)]
  | cons x rest ih =>
    intro pre hp
    rw [List.length_cons] at hp
    have q1 : (pre.length : Int) < ((pre ++ x :: rest).length : Int) := by simp only [List.length_append, List.length_cons]; omega
    have q2 : (0 : Int) ≤ (pre.length : Int) := by omega
    have q3 : pre.length ≤ 1000000000 := by omega
    have q4 : pre.length + 1 + rest.length ≤ 100000 := by omega
    have lp : (pre ++ [x]).length = pre.length + 1 := by rw [List.length_append]; rfl
    have ih2 := ih (pre ++ [x]) (by rw [lp]; exact q4)
    rw [List.append_assoc, List.singleton_append, lp] at ih2
    refine ih2.succ (fun k => ?_)
    rw [pledgeref38_SameAll.l0, if_pos q1, if_pos q2, if_pos q1, rd25, same_one, Option.bind_some, if_pos rfl, wr1 pre.length q3]
theorem sameAll_self (l : List S25) (h : l.length ≤ 100000) : Ev (fun k => pledgeref38_SameAll.f k l l) true := by
  have := sameAll0 l [] (by show 0 + _ ≤ _; omega)
  refine this.congr (fun k => ?_)
  unfold pledgeref38_SameAll.f
  rw [if_pos rfl]
  rfl
def exB : List Int := [1, 7, 0, 0, 0, 0, 2, 0, 5, 0, 0, 0, 0, 0, 0, 0, 2, 1, 0, 0, 0, 0, 0, 0, 0]
theorem itoa1 (d : Nat) (h : d < 10) : Lib.itoa (d : Int) = [UInt8.ofNat (48 + d)] := by
  unfold Lib.itoa
  rw [if_neg (by omega), Int.toNat_natCast, dd_small h]
theorem exB_dec : request_Decode.decF exB = (1, 7, 0, [⟨0, 5⟩, ⟨2, 1⟩], 0, 0, 0, 0, 0) := by kernel_rfl
theorem exB_bytes : ByteL exB := by unfold ByteL; decide
theorem exB_good : GoodP 1 0 0 0 exB := by decide
theorem exB_line : lineT 1 0 0 0 exB = [112, 108, 97, 99, 101, 32, 55, 32, 48, 32, 48, 58, 53, 32, 50, 58, 49] := by
  show askedT exB = _
  unfold askedT
  rw [exB_dec]
  show askT 1 7 0 [⟨0, 5⟩, ⟨2, 1⟩] 0 0 0 0 = _
  unfold askT
  rw [if_pos rfl]
  simp only [nm, lnT, List.flatMap_cons, List.flatMap_nil]
  rw [show (7 : Int) = ((7 : Nat) : Int) from rfl, show (0 : Int) = ((0 : Nat) : Int) from rfl, show (5 : Int) = ((5 : Nat) : Int) from rfl, show (2 : Int) = ((2 : Nat) : Int) from rfl, show (1 : Int) = ((1 : Nat) : Int) from rfl]
  rw [itoa1 7 (by omega), itoa1 0 (by omega), itoa1 5 (by omega), itoa1 2 (by omega), itoa1 1 (by omega)]
  rfl
theorem crash_line : lineT 7 0 3 40 [] = [99, 114, 97, 115, 104, 32, 51, 32, 52, 48] := by
  show wCrash ++ (nm 3 ++ nm 40) = _
  have h40 : Lib.itoa 40 = [52, 48] := by
    unfold Lib.itoa
    rw [if_neg (by omega), show (40 : Int).toNat = 40 from rfl, dd_big (by omega), dd_small (by omega)]
    rfl
  simp only [nm]
  rw [h40, show (3 : Int) = ((3 : Nat) : Int) from rfl, itoa1 3 (by omega)]
  rfl
theorem works_ev : Ev (fun k => pledgelaw39_works.f k) true := by
  have hr := prog_read_good exB_good exB_bytes (by omega) (by rw [exB_line]; decide)
  have hl := prog_line exB_good exB_bytes (by omega)
  have hc := prog_line (k := 7) (g := 0) (p := 3) (t := 40) (l := []) (by decide) byteL_nil (by omega)
  rw [exB_line] at hr hl
  rw [crash_line] at hc
  unfold pledgelaw39_works.f
  refine Ev.bind hr ?_
  refine Ev.congr (f := fun k => (words_Line.f k 1 0 0 0 exB).bind fun t238 => (if t238.toList = ([112, 108, 97, 99, 101, 32, 55, 32, 48, 32, 48, 58, 53, 32, 50, 58, 49] : List UInt8) then ((words_Line.f k 7 0 3 40 ([] : List Int)).bind fun t239 => (some (t239.toList == ([99, 114, 97, 115, 104, 32, 51, 32, 52, 48] : List UInt8)))) else (some false))) ?_ (fun k => ?_)
  · refine Ev.bind hl ?_
    simp only [ofL_toList, if_pos (show True from trivial), eq_self_iff_true, if_true]
    exact Ev.bind hc (Ev.const (by rw [ofL_toList]; rfl))
  · rfl
theorem few_l0 (l : List S25) : ∀ (n i : Nat), l.length ≤ i + n → i + n ≤ 1000000 → ∃ b, Ev (fun k => pledgelaw39_few.l0 k l (i : Int)) b ∧ (b = true → ∀ j, i ≤ j → ∀ h : j < l.length, (l[j]).f4.length ≤ 600)
  | 0, i, h, _ => ⟨true, Ev.succ (f := fun _ => some true) (Ev.const rfl) (fun k => by rw [pledgelaw39_few.l0, if_neg (by omega)]), fun _ j hj hl => by omega⟩
  | n + 1, i, h, hn => by
    by_cases hi : (i : Int) < (l.length : Int)
    · have q2 : (0 : Int) ≤ (i : Int) := by omega
      have q3 : i ≤ 1000000000 := by omega
      have hil : i < l.length := by omega
      have er : rd_T25 l (i : Int) = l[i] := by simp [rd_T25, rdOf, List.getD_eq_getElem?_getD, List.getElem?_eq_getElem hil]
      by_cases h6 : ((l[i]).f4.length : Int) > 600
      · exact ⟨false, Ev.succ (f := fun _ => some false) (Ev.const rfl) (fun k => by rw [pledgelaw39_few.l0, if_pos hi, if_pos q2, er, if_pos h6]), fun h => by cases h⟩
      · obtain ⟨b, hb, hj⟩ := few_l0 l n (i + 1) (by omega) (by omega)
        refine ⟨b, hb.succ (fun k => by rw [pledgelaw39_few.l0, if_pos hi, if_pos q2, er, if_neg h6, wr1 i q3]), fun h j h1 h2 => ?_⟩
        by_cases e : j = i
        · subst e; omega
        · exact hj h j (by omega) h2
    · exact ⟨true, Ev.succ (f := fun _ => some true) (Ev.const rfl) (fun k => by rw [pledgelaw39_few.l0, if_neg hi]), fun _ j hj hl => by omega⟩
theorem few_any (l : List S25) : ∃ b, Ev (fun k => pledgelaw39_few.f k l) b ∧ (b = true → l.length ≤ 60 ∧ ∀ x ∈ l, x.f4.length ≤ 600) := by
  unfold pledgelaw39_few.f
  by_cases h : (l.length : Int) > 60
  · simp only [if_pos h]
    exact ⟨false, Ev.const rfl, fun h => by cases h⟩
  · simp only [if_neg h]
    obtain ⟨b, hb, hj⟩ := few_l0 l l.length 0 (by omega) (by omega)
    refine ⟨b, hb, fun e => ⟨by omega, fun x hx => ?_⟩⟩
    obtain ⟨j, hjl, rfl⟩ := List.mem_iff_getElem.1 hx
    exact hj e j (Nat.zero_le _) hjl
theorem wf8 {z : Int} (h : WW5 z) : 0 ≤ z ∧ z < 256 := by
  have : 0 ≤ z ∧ z ≤ 255 := by simpa [WW5, Lit.wf, IntKind.min, IntKind.max, IntKind.signed, IntKind.bits] using h
  omega
theorem wf32 {z : Int} (h : WW22 z) : 0 ≤ z ∧ z < 4294967296 := by
  have : 0 ≤ z ∧ z ≤ 4294967295 := by simpa [WW22, Lit.wf, IntKind.min, IntKind.max, IntKind.signed, IntKind.bits] using h
  omega
theorem evIn_of {x : S25} (h : WW25 x) (h6 : x.f4.length ≤ 600) : EvIn x := ⟨fun b hb => wf8 (h.2.2.2.2 b hb), wf32 h.2.1, h6⟩
end Go.Proofs.YtpnehgajhpejjaaGreatDoor.W
