import Derived.Test.YtpnehgajhpejjaaDoorKStatKeyTexts
import Derived.Test.YtpnehgajhpejjaaDoorSplit
/- The pure statement of KeyTexts: a key's text is the same by both; what is parsed is, by both, the one key that has the text, or none. -/
namespace Go.Proofs.YtpnehgajhpejjaaDoor.K
open Go.RowKit Go.Proofs.YtpnehgajhpejjaaDoorW.PrintWords
set_option maxRecDepth 100000
theorem texts_works : pledgelaw04_works.f 40 = some true := by kernel_rfl
def chkD (n : Nat) : Bool := ((pledgeref04_Digits.f (n : Int)).map (fun t => t.data.toList)) == some (Lib.itoa n) && decide ((Lib.itoa n).length ≤ 3) && decide (32 ∉ Lib.itoa (n : Int)) && key_small.f 9 ⟨(Lib.itoa n).toArray⟩ == some (n : Int)
theorem chkD_all : (List.range 256).all chkD = true := by kernel_rfl
theorem dig_of (n : Int) (h : 0 ≤ n ∧ n ≤ 255) : (∃ t, pledgeref04_Digits.f n = some t ∧ t.data.toList = Lib.itoa n) ∧ (Lib.itoa n).length ≤ 3 ∧ 32 ∉ Lib.itoa n ∧ key_small.f 9 ⟨(Lib.itoa n).toArray⟩ = some n := by
  obtain ⟨m, rfl⟩ := Int.eq_ofNat_of_zero_le h.1
  have := List.all_eq_true.1 chkD_all m (List.mem_range.2 (by omega))
  simp only [chkD, Bool.and_eq_true, decide_eq_true_eq, beq_iff_eq] at this
  obtain ⟨⟨⟨h1, h2⟩, h3⟩, h4⟩ := this
  obtain ⟨t, ht, e⟩ := Option.map_eq_some_iff.1 h1
  exact ⟨⟨t, ht, e⟩, h2, h3, h4⟩
def wd (c : Int) : List UInt8 := if c = 1 then [115, 116, 111, 99, 107] else if c = 2 then [104, 101, 108, 100] else if c = 3 then [111, 117, 116] else if c = 4 then [111, 119, 101, 100] else []
def txt (c0 c1 c2 : Int) : List UInt8 := if c0 = 1 ∨ c0 = 2 then wd c0 ++ 32 :: (Lib.itoa c1 ++ 32 :: Lib.itoa c2) else if c0 = 3 ∨ c0 = 4 then wd c0 ++ 32 :: Lib.itoa c1 else []
theorem word_is (c : Int) : ∃ t, key_word.f c = some t ∧ t.data.toList = wd c ∧ t.size ≤ 5 := by
  unfold key_word.f wd
  (repeat' split) <;> exact ⟨_, rfl, rfl, by decide⟩
theorem app_list (a b : ByteArray) : (a ++ b).data.toList = a.data.toList ++ b.data.toList := by simp
theorem size_list (a : ByteArray) : a.size = a.data.toList.length := by rw [Array.length_toList]; rfl
theorem itoa_is (n : Int) (h : 0 ≤ n ∧ n ≤ 255) : strconv_Itoa.f (wrap64 n) = some ⟨(Lib.itoa n).toArray⟩ := by
  have hw : wrap64 n = n := by unfold wrap64; omega
  unfold strconv_Itoa.f
  rw [hw, if_pos (by omega)]
theorem ktext (c0 c1 c2 : Int) (h1 : 0 ≤ c1 ∧ c1 ≤ 255) (h2 : 0 ≤ c2 ∧ c2 ≤ 255) : ∃ t, key_Text.f c0 c1 c2 = some t ∧ t.data.toList = txt c0 c1 c2 := by
  obtain ⟨w, e1, e2, e3⟩ := word_is c0
  obtain ⟨_, l1, _, _⟩ := dig_of c1 h1
  obtain ⟨_, l2, _, _⟩ := dig_of c2 h2
  have s1 : (⟨(Lib.itoa c1).toArray⟩ : ByteArray).size ≤ 3 := by rw [size_list]; simpa using l1
  have s2 : (⟨(Lib.itoa c2).toArray⟩ : ByteArray).size ≤ 3 := by rw [size_list]; simpa using l2
  unfold key_Text.f
  rw [e1]
  simp only [Option.bind_some, Lib.toList_data, e2, itoa_is c1 h1, itoa_is c2 h2]
  have hw0 : wd c0 = [] ↔ ¬ (c0 = 1 ∨ c0 = 2) ∧ ¬ (c0 = 3 ∨ c0 = 4) := by
    unfold wd
    (repeat' split) <;> simp_all
  by_cases hz : wd c0 = []
  · rw [if_pos hz]
    have := hw0.1 hz
    exact ⟨_, rfl, by unfold txt; rw [if_neg this.1, if_neg this.2]⟩
  · rw [if_neg hz, if_pos (by omega), if_pos (by omega)]
    unfold key_both.f
    by_cases hb : c0 = 1
    · subst hb
      simp only [if_true, Option.bind_some]
      rw [if_pos (by omega), if_pos (by omega)]
      refine ⟨_, rfl, ?_⟩
      simp [e2, txt]
    · by_cases hb2 : c0 = 2
      · subst hb2
        simp only [if_neg hb, beq_self_eq_true, Option.bind_some, if_true]
        rw [if_pos (by omega), if_pos (by omega)]
        refine ⟨_, rfl, ?_⟩
        simp [e2, txt]
      · have : (c0 == 2) = false := beq_eq_false_iff_ne.2 hb2
        simp only [if_neg hb, this, Option.bind_some, Bool.false_eq_true, if_false]
        refine ⟨_, rfl, ?_⟩
        have h34 : c0 = 3 ∨ c0 = 4 := by
          have := mt hw0.2 hz
          omega
        simp [e2, txt, hb, hb2, h34]
theorem rtext (c0 c1 c2 : Int) (h1 : 0 ≤ c1 ∧ c1 ≤ 255) (h2 : 0 ≤ c2 ∧ c2 ≤ 255) : ∃ t, pledgeref04_Text.f c0 c1 c2 = some t ∧ t.data.toList = txt c0 c1 c2 := by
  obtain ⟨⟨d1, f1, g1⟩, l1, _, _⟩ := dig_of c1 h1
  obtain ⟨⟨d2, f2, g2⟩, l2, _, _⟩ := dig_of c2 h2
  have s1 : d1.size ≤ 3 := by rw [size_list, g1]; exact l1
  have s2 : d2.size ≤ 3 := by rw [size_list, g2]; exact l2
  unfold pledgeref04_Text.f
  simp only [f1, f2, Option.bind_some]
  by_cases a1 : c0 = 1
  · subst a1
    rw [if_pos rfl, if_pos (by omega), if_pos (by omega), if_pos (by omega)]
    exact ⟨_, rfl, by simp [g1, g2, txt, wd]⟩
  rw [if_neg a1]
  by_cases a2 : c0 = 2
  · subst a2
    rw [if_pos rfl, if_pos (by omega), if_pos (by omega), if_pos (by omega)]
    exact ⟨_, rfl, by simp [g1, g2, txt, wd]⟩
  rw [if_neg a2]
  by_cases a3 : c0 = 3
  · subst a3
    rw [if_pos rfl, if_pos (by omega)]
    exact ⟨_, rfl, by simp [g1, txt, wd]⟩
  rw [if_neg a3]
  by_cases a4 : c0 = 4
  · subst a4
    rw [if_pos rfl, if_pos (by omega)]
    exact ⟨_, rfl, by simp [g1, txt, wd]⟩
  rw [if_neg a4]
  exact ⟨_, rfl, by simp [txt, a1, a2, a3, a4]⟩

def Canon (c0 c1 c2 : Int) : Prop := (0 ≤ c1 ∧ c1 ≤ 255) ∧ ((c0 = 1 ∨ c0 = 2) ∧ (0 ≤ c2 ∧ c2 ≤ 255) ∨ (c0 = 3 ∨ c0 = 4) ∧ c2 = 0)
def kdL (w : List UInt8) : Int := if wd 4 = w then 4 else if wd 3 = w then 3 else if wd 2 = w then 2 else if wd 1 = w then 1 else 0
def smL (x : List UInt8) : Int := (key_small.f 9 ⟨x.toArray⟩).getD 0
def gs (l : List (List UInt8)) : Int × Int × Int := (kdL (l.getD 0 []), if 1 < l.length then smL (l.getD 1 []) else 0, if 2 < l.length then smL (l.getD 2 []) else 0)
theorem smL_itoa (n : Int) (h : 0 ≤ n ∧ n ≤ 255) : smL (Lib.itoa n) = n := by
  unfold smL
  rw [(dig_of n h).2.2.2]
  rfl
theorem guess {c0 c1 c2 : Int} (h : Canon c0 c1 c2) : gs (splitL 32 (txt c0 c1 c2)) = (c0, c1, c2) := by
  obtain ⟨h1, ⟨h0, h2⟩ | ⟨h0, rfl⟩⟩ := h
  · have n1 := (dig_of c1 h1).2.2.1
    have n2 := (dig_of c2 h2).2.2.1
    have e : splitL 32 (txt c0 c1 c2) = [wd c0, Lib.itoa c1, Lib.itoa c2] := by
      unfold txt
      rw [if_pos h0, splitL_app _ _ _ (by rcases h0 with rfl | rfl <;> decide), splitL_app _ _ _ n1, splitL_none _ _ n2]
    rw [e]
    simp only [gs, List.getD_cons_zero, List.getD_cons_succ, List.length_cons, List.length_nil]
    rw [if_pos (by decide), if_pos (by decide), smL_itoa c1 h1, smL_itoa c2 h2]
    rcases h0 with rfl | rfl <;> rfl
  · have n1 := (dig_of c1 h1).2.2.1
    have e : splitL 32 (txt c0 c1 0) = [wd c0, Lib.itoa c1] := by
      unfold txt
      rw [if_neg (by omega), if_pos h0, splitL_app _ _ _ (by rcases h0 with rfl | rfl <;> decide), splitL_none _ _ n1]
    rw [e]
    simp only [gs, List.getD_cons_zero, List.getD_cons_succ, List.length_cons, List.length_nil]
    rw [if_pos (by decide), if_neg (by decide), smL_itoa c1 h1]
    rcases h0 with rfl | rfl <;> rfl
def Post (s : List UInt8) (r : Int × Int × Int × Bool) : Prop := (r.2.2.2 = true ∧ Canon r.1 r.2.1 r.2.2.1 ∧ txt r.1 r.2.1 r.2.2.1 = s) ∨ (r = (0, 0, 0, false) ∧ ∀ c0 c1 c2, Canon c0 c1 c2 → txt c0 c1 c2 ≠ s)
theorem post_one {s : List UInt8} {r q : Int × Int × Int × Bool} (h : Post s r) (h' : Post s q) : r = q := by
  obtain ⟨r0, r1, r2, r3⟩ := r
  obtain ⟨q0, q1, q2, q3⟩ := q
  rcases h with ⟨a1, a2, a3⟩ | ⟨a1, a2⟩ <;> rcases h' with ⟨b1, b2, b3⟩ | ⟨b1, b2⟩
  · have e1 := guess a2
    have e2 := guess b2
    rw [a3] at e1
    rw [b3, e1] at e2
    simp only at a1 b1 e2
    simp only [Prod.mk.injEq] at e2 ⊢
    exact ⟨e2.1, e2.2.1, e2.2.2, a1.trans b1.symm⟩
  · exact absurd a3 (b2 _ _ _ a2)
  · exact absurd b3 (a2 _ _ _ b2)
  · rw [a1, b1]
/-! ### the program's -/
theorem small_some (x : ByteArray) : ∀ (d : Nat) (n : Int) (i k : Nat), i + d = 3 → d < k → ∃ v, key_small.l0 k x n i = some v ∧ 0 ≤ v ∧ v ≤ 255
  | 0, n, i, k, hi, hk => by
    obtain ⟨k, rfl⟩ : ∃ m, k = m + 1 := ⟨k - 1, by omega⟩
    rw [key_small.l0]
    refine ⟨(mn n 255) % 256, ?_, by omega, by omega⟩
    split
    · rw [if_neg (by omega)]
    · rfl
  | d + 1, n, i, k, hi, hk => by
    obtain ⟨k, rfl⟩ : ∃ m, k = m + 1 := ⟨k - 1, by omega⟩
    rw [key_small.l0]
    by_cases hl : (i : Int) < (x.size : Int)
    · rw [if_pos hl, if_pos (by omega), if_pos (by omega), show wrap64 ((i : Int) + 1) = ((i + 1 : Nat) : Int) by unfold wrap64; omega]
      exact small_some x d _ (i + 1) k (by omega) (by omega)
    · rw [if_neg hl]
      exact ⟨_, rfl, by omega, by omega⟩
theorem ba_of (x : ByteArray) : (⟨x.data.toList.toArray⟩ : ByteArray) = x := by simp
theorem small_is (x : ByteArray) (k : Nat) (hk : 9 ≤ k) : key_small.f k x = some (smL x.data.toList) ∧ 0 ≤ smL x.data.toList ∧ smL x.data.toList ≤ 255 := by
  obtain ⟨v, hv, h0, h1⟩ := small_some x 3 0 0 9 rfl (by decide)
  have hf : key_small.f 9 x = some v := hv
  have e : smL x.data.toList = v := by
    unfold smL
    rw [ba_of, hf]
    rfl
  rw [e]
  exact ⟨at_rounds (key_small.mono x) hk hf, h0, h1⟩
def pick (s : List UInt8) (g : Int × Int × Int) : Int × Int × Int × Bool := if g.1 = 0 then (0, 0, 0, false) else if txt g.1 g.2.1 g.2.2 = s then (g.1, g.2.1, g.2.2, true) else (0, 0, 0, false)
theorem pick_tail (s : ByteArray) (c0 c1 c2 : Int) (h1 : 0 ≤ c1 ∧ c1 ≤ 255) (h2 : 0 ≤ c2 ∧ c2 ≤ 255) :
    (if c0 = 0 then (some (0, 0, 0, false)) else ((key_Text.f c0 c1 c2).bind fun t119 => (if t119.toList = s.toList then (some (c0, c1, c2, true)) else (some (0, 0, 0, false)))) : Option (Int × Int × Int × Bool)) = some (pick s.data.toList (c0, c1, c2)) := by
  obtain ⟨t, e1, e2⟩ := ktext c0 c1 c2 h1 h2
  unfold pick
  rw [e1]
  simp only [Option.bind_some, Lib.toList_data, e2]
  (repeat' split) <;> rfl
theorem rd_str (l : List ByteArray) (i : Nat) : (rdOf ByteArray.empty l (i : Int)).data.toList = (l.map (·.data.toList)).getD i [] := by
  unfold rdOf
  simp only [Int.toNat_natCast, List.getD_eq_getElem?_getD, List.getElem?_map]
  cases l[i]? <;> rfl
theorem j1_is (s : ByteArray) (l : List ByteArray) (c0 c1 : Int) (h1 : 0 ≤ c1 ∧ c1 ≤ 255) (k : Nat) (hk : 9 ≤ k) :
    key_Parse.j1 (k + 1) s l c0 c1 0 = some (pick s.data.toList (c0, c1, if 2 < l.length then smL ((l.map (·.data.toList)).getD 2 []) else 0)) := by
  rw [key_Parse.j1]
  by_cases hl : 2 < l.length
  · obtain ⟨e1, e2⟩ := small_is (rdOf ByteArray.empty l 2) k hk
    have er : (rdOf ByteArray.empty l 2).data.toList = (l.map (·.data.toList)).getD 2 [] := rd_str l 2
    rw [er] at e1 e2
    rw [if_pos (by omega), if_pos (by omega), if_pos hl, e1, Option.bind_some]
    exact pick_tail s c0 c1 _ h1 e2
  · rw [if_neg (by omega), if_neg hl]
    exact pick_tail s c0 c1 0 h1 (by omega)
theorem l0_step (s : ByteArray) (l : List ByteArray) (hl : 0 < l.length) (c a : Int) (hc : 1 ≤ c ∧ c ≤ 4) (k : Nat) :
    key_Parse.l0 (k + 1) s l c a 0 0 = key_Parse.l0 k s l (c + 1) (if wd c = (l.map (·.data.toList)).getD 0 [] then c else a) 0 0 := by
  obtain ⟨w, e1, e2, _⟩ := word_is c
  rw [key_Parse.l0, if_pos (by omega), e1, Option.bind_some, if_pos (by omega), Lib.toList_data, Lib.toList_data, e2, show rdOf ByteArray.empty l 0 = rdOf ByteArray.empty l ((0 : Nat) : Int) from rfl, rd_str, show (c + 1) % 256 = c + 1 by omega]
  split <;> rfl
theorem kparse (s : ByteArray) (hs : s.size ≤ 40) : ∀ k, 30 ≤ k → key_Parse.f k s = some (pick s.data.toList (gs (splitL 32 s.data.toList))) := by
  intro k hk
  have hsp := split_is 32 s
  generalize hl : Lib.splitB ⟨#[32]⟩ 0 (Lib.countB s ⟨#[32]⟩) s = l at hsp
  have hlen : l.length = (splitL 32 s.data.toList).length := by rw [← hsp, List.length_map]
  have hpos : 0 < l.length := by
    rw [hlen]
    exact List.length_pos_iff.2 (splitL_ne _ _)
  have hS : strings_Split.f s ⟨#[32]⟩ = some l := by
    unfold strings_Split.f
    rw [if_pos ⟨by omega, Nat.le_refl 1⟩, hl]
  obtain ⟨k, rfl⟩ : ∃ m, k = m + 10 + 5 := ⟨k - 15, by omega⟩
  unfold key_Parse.f
  rw [hS, Option.bind_some]
  rw [l0_step s l hpos 1 0 (by omega), l0_step s l hpos (1 + 1) _ (by omega), l0_step s l hpos (1 + 1 + 1) _ (by omega), l0_step s l hpos (1 + 1 + 1 + 1) _ (by omega), key_Parse.l0, if_neg (by decide)]
  rw [hsp]
  have hkd : (if wd (1 + 1 + 1 + 1) = (splitL 32 s.data.toList).getD 0 [] then (1 + 1 + 1 + 1 : Int) else if wd (1 + 1 + 1) = (splitL 32 s.data.toList).getD 0 [] then 1 + 1 + 1 else if wd (1 + 1) = (splitL 32 s.data.toList).getD 0 [] then 1 + 1 else if wd 1 = (splitL 32 s.data.toList).getD 0 [] then 1 else 0) = kdL ((splitL 32 s.data.toList).getD 0 []) := rfl
  rw [hkd]
  unfold gs
  rw [← hsp, List.length_map]
  by_cases h1 : 1 < l.length
  · obtain ⟨e1, e2⟩ := small_is (rdOf ByteArray.empty l 1) (k + 10) (by omega)
    have er : (rdOf ByteArray.empty l 1).data.toList = (l.map (·.data.toList)).getD 1 [] := rd_str l 1
    rw [er] at e1 e2
    rw [if_pos (by omega), if_pos (by omega), e1, Option.bind_some, if_pos h1]
    exact j1_is s l _ _ e2 (k + 9) (by omega)
  · rw [if_neg (by omega), if_neg h1]
    exact j1_is s l _ 0 (by omega) (k + 9) (by omega)
theorem sm_rng (l : List UInt8) : 0 ≤ smL l ∧ smL l ≤ 255 := by
  have := (small_is ⟨l.toArray⟩ 9 (Nat.le_refl 9)).2
  simpa using this
theorem kd_rng (w : List UInt8) : kdL w = 0 ∨ kdL w = 1 ∨ kdL w = 2 ∨ kdL w = 3 ∨ kdL w = 4 := by
  unfold kdL
  (repeat' split) <;> simp
theorem txt34 {c0 : Int} (h : c0 = 3 ∨ c0 = 4) (c1 c2 : Int) : txt c0 c1 0 = txt c0 c1 c2 := by
  unfold txt
  simp only [if_neg (show ¬ (c0 = 1 ∨ c0 = 2) by omega), if_pos h]
theorem kpost (s : List UInt8) : Post s (pick s (gs (splitL 32 s))) := by
  have hno : (∀ c0 c1 c2, Canon c0 c1 c2 → txt c0 c1 c2 = s → (gs (splitL 32 s)).1 ≠ 0 ∧ txt (gs (splitL 32 s)).1 (gs (splitL 32 s)).2.1 (gs (splitL 32 s)).2.2 = s) := by
    intro c0 c1 c2 hc ht
    have e := guess hc
    rw [ht] at e
    rw [e]
    refine ⟨?_, ht⟩
    rcases hc.2 with ⟨h, _⟩ | ⟨h, _⟩ <;> simp only <;> omega
  unfold pick
  by_cases h0 : (gs (splitL 32 s)).1 = 0
  · rw [if_pos h0]
    exact .inr ⟨rfl, fun c0 c1 c2 hc ht => (hno c0 c1 c2 hc ht).1 h0⟩
  rw [if_neg h0]
  by_cases ht : txt (gs (splitL 32 s)).1 (gs (splitL 32 s)).2.1 (gs (splitL 32 s)).2.2 = s
  · rw [if_pos ht]
    refine .inl ⟨rfl, ?_, ht⟩
    show Canon (gs (splitL 32 s)).1 (gs (splitL 32 s)).2.1 (gs (splitL 32 s)).2.2
    have hk := kd_rng ((splitL 32 s).getD 0 [])
    have r1 : 0 ≤ (gs (splitL 32 s)).2.1 ∧ (gs (splitL 32 s)).2.1 ≤ 255 := by
      unfold gs
      simp only
      split
      · exact sm_rng _
      · omega
    have r2 : 0 ≤ (gs (splitL 32 s)).2.2 ∧ (gs (splitL 32 s)).2.2 ≤ 255 := by
      unfold gs
      simp only
      split
      · exact sm_rng _
      · omega
    have hk' : (gs (splitL 32 s)).1 = 1 ∨ (gs (splitL 32 s)).1 = 2 ∨ (gs (splitL 32 s)).1 = 3 ∨ (gs (splitL 32 s)).1 = 4 := by
      have e : (gs (splitL 32 s)).1 = kdL ((splitL 32 s).getD 0 []) := rfl
      omega
    by_cases h34 : (gs (splitL 32 s)).1 = 3 ∨ (gs (splitL 32 s)).1 = 4
    · have hc : Canon (gs (splitL 32 s)).1 (gs (splitL 32 s)).2.1 0 := ⟨r1, .inr ⟨h34, rfl⟩⟩
      have e := guess hc
      have et : txt (gs (splitL 32 s)).1 (gs (splitL 32 s)).2.1 0 = s := (txt34 h34 _ _).trans ht
      rw [et] at e
      have e2 : (gs (splitL 32 s)).2.2 = 0 := congrArg (·.2.2) e
      rw [e2]
      exact hc
    · exact ⟨r1, .inl ⟨by omega, r2⟩⟩
  · rw [if_neg ht]
    exact .inr ⟨rfl, fun c0 c1 c2 hc h => ht (hno c0 c1 c2 hc h).2⟩
/-! ### the document's -/
def PostF (s : List UInt8) (a b c : Int) (r : Int × Int × Int × Bool) : Prop := (r.2.2.2 = true ∧ Canon r.1 r.2.1 r.2.2.1 ∧ txt r.1 r.2.1 r.2.2.1 = s) ∨ (r = (0, 0, 0, false) ∧ ∀ c0 c1 c2, Canon c0 c1 c2 → (a < c0 ∨ a = c0 ∧ (b < c1 ∨ b = c1 ∧ c ≤ c2)) → txt c0 c1 c2 ≠ s)
theorem PostF.wide {s : List UInt8} {a b c a' b' c' : Int} {r : Int × Int × Int × Bool} (h : PostF s a b c r) (hn : ∀ c0 c1 c2, Canon c0 c1 c2 → (a' < c0 ∨ a' = c0 ∧ (b' < c1 ∨ b' = c1 ∧ c' ≤ c2)) → ¬ (a < c0 ∨ a = c0 ∧ (b < c1 ∨ b = c1 ∧ c ≤ c2)) → txt c0 c1 c2 ≠ s) : PostF s a' b' c' r := by
  rcases h with h | ⟨h1, h2⟩
  · exact .inl h
  · refine .inr ⟨h1, fun c0 c1 c2 hc hx => ?_⟩
    by_cases hy : (a < c0 ∨ a = c0 ∧ (b < c1 ∨ b = c1 ∧ c ≤ c2))
    · exact h2 _ _ _ hc hy
    · exact hn _ _ _ hc hx hy
def Ends (s : List UInt8) (a b c : Int) (g : Nat → Option (Int × Int × Int × Bool)) : Prop := ∃ r, Ev g r ∧ PostF s a b c r
theorem txt_pre {c0 c1 : Int} (h : c0 = 1 ∨ c0 = 2) (c2 : Int) : txt c0 c1 c2 = (wd c0 ++ 32 :: (Lib.itoa c1 ++ [32])) ++ Lib.itoa c2 := by
  unfold txt
  rw [if_pos h]
  simp
section
variable (s : ByteArray)
theorem r_l2 (a b : Int) (ha : a = 1 ∨ a = 2) (hb : 0 ≤ b ∧ b ≤ 255) (h : Ends s.data.toList a (b + 1) 0 (fun k => pledgeref04_Parse.l1 k s a (b + 1))) : ∀ (d : Nat) (c z : Int), c = 256 - (d : Int) → 0 ≤ c → Ends s.data.toList a b c (fun k => pledgeref04_Parse.l2 k s a b c a b z)
  | 0, c, z, hc, _ => by
    obtain ⟨r, h1, h2⟩ := h
    refine ⟨r, Ev.step (fun k => ?_) h1, h2.wide fun c0 c1 c2 hq hx hy => ?_⟩
    · rw [pledgeref04_Parse.l2, if_neg (by omega), show wrap64 (b + 1) = b + 1 by unfold wrap64; omega]
    · have := hq.2
      omega
  | d + 1, c, z, hc, h0 => by
    obtain ⟨t, e1, e2⟩ := rtext a b c hb (by omega)
    by_cases ht : txt a b c = s.data.toList
    · refine ⟨(a, b, c, true), Ev.step (f := fun _ => some (a, b, c, true)) (fun k => ?_) (Ev.now _), .inl ⟨rfl, ⟨hb, .inl ⟨ha, show 0 ≤ c ∧ c ≤ 255 by omega⟩⟩, ht⟩⟩
      rw [pledgeref04_Parse.l2, if_pos (by omega), show c % 256 = c by omega, e1, Option.bind_some, if_pos (by rw [Lib.toList_data, Lib.toList_data, e2, ht])]
    · obtain ⟨r, h1, h2⟩ := r_l2 a b ha hb h d (c + 1) c (by omega) (by omega)
      refine ⟨r, Ev.step (fun k => ?_) h1, h2.wide fun c0 c1 c2 hq hx hy => ?_⟩
      · rw [pledgeref04_Parse.l2, if_pos (by omega), show c % 256 = c by omega, e1, Option.bind_some, if_neg (by rw [Lib.toList_data, Lib.toList_data, e2]; exact ht), show wrap64 (c + 1) = c + 1 by unfold wrap64; omega]
      · obtain ⟨rfl, rfl, rfl⟩ : a = c0 ∧ b = c1 ∧ c = c2 := by omega
        exact ht
theorem r_l1 (a : Int) (ha : 1 ≤ a ∧ a ≤ 4) (h : Ends s.data.toList (a + 1) 0 0 (fun k => pledgeref04_Parse.l0 k s (a + 1))) : ∀ (d : Nat) (b : Int), b = 256 - (d : Int) → 0 ≤ b → Ends s.data.toList a b 0 (fun k => pledgeref04_Parse.l1 k s a b)
  | 0, b, hb, _ => by
    obtain ⟨r, h1, h2⟩ := h
    refine ⟨r, Ev.step (fun k => ?_) h1, h2.wide fun c0 c1 c2 hq hx hy => ?_⟩
    · rw [pledgeref04_Parse.l1, if_neg (by omega), show wrap64 (a + 1) = a + 1 by unfold wrap64; omega]
    · have := hq.1
      have := hq.2
      omega
  | d + 1, b, hb, h0 => by
    have hb' : 0 ≤ b ∧ b ≤ 255 := by omega
    obtain ⟨t, e1, e2⟩ := rtext a b 0 hb' (by omega)
    have ih := r_l1 a ha h d (b + 1) (by omega) (by omega)
    have hw : wrap64 (b + 1) = b + 1 := by unfold wrap64; omega
    have skip : (∀ c2, Canon a b c2 → txt a b c2 ≠ s.data.toList) → Ends s.data.toList a b 0 (fun k => pledgeref04_Parse.j3 k s a b true a b 0) := fun hn => by
      obtain ⟨r, h1, h2⟩ := ih
      refine ⟨r, Ev.step (fun k => ?_) h1, h2.wide fun c0 c1 c2 hq hx hy => ?_⟩
      · rw [pledgeref04_Parse.j3, if_pos rfl, hw]
      · have := hq.2
        obtain ⟨rfl, rfl⟩ : a = c0 ∧ b = c1 := by omega
        exact hn _ hq
    have main : Ends s.data.toList a b 0 (fun k => pledgeref04_Parse.j2 k s a b t (if a > 2 then (t.toList == s.toList) else false) a b 0) := by
      by_cases h2 : a > 2
      · have h34 : a = 3 ∨ a = 4 := by omega
        by_cases ht : txt a b 0 = s.data.toList
        · refine ⟨(a, b, 0, true), Ev.step (f := fun _ => some (a, b, 0, true)) (fun k => ?_) (Ev.now _), .inl ⟨rfl, ⟨hb', .inr ⟨h34, rfl⟩⟩, ht⟩⟩
          rw [pledgeref04_Parse.j2, if_pos h2, if_pos (by rw [Lib.toList_data, Lib.toList_data, e2, ht]; exact beq_self_eq_true _)]
        · obtain ⟨r, h1, h3⟩ := skip (fun c2 hq => by
            have : c2 = 0 := by have := hq.2; omega
            subst this
            exact ht)
          refine ⟨r, Ev.step (fun k => ?_) h1, h3⟩
          rw [pledgeref04_Parse.j2, if_pos h2, if_neg (by rw [Lib.toList_data, Lib.toList_data, e2]; simpa using ht), if_pos h2]
      · have h12 : a = 1 ∨ a = 2 := by omega
        have hp := txt_pre h12 (c1 := b) 0
        generalize hP : wd a ++ 32 :: (Lib.itoa b ++ [32]) = P at hp
        have i0 : Lib.itoa 0 = [48] := by kernel_rfl
        rw [i0] at hp
        have htl : t.data.toList.length = P.length + 1 := by rw [e2, hp]; simp
        have hPl : P.length ≤ 20 := by
          rw [← hP]
          have := (dig_of b hb').2.1
          rcases h12 with rfl | rfl <;> simp [wd] <;> omega
        have hwz : wrap64 ((t.size : Int) - 1) = P.length := by
          rw [size_list, htl]
          unfold wrap64
          omega
        have hts : t.size = P.length + 1 := by rw [size_list, htl]
        have hn : ∀ c2, txt a b c2 = P ++ Lib.itoa c2 := fun c2 => by rw [txt_pre h12, hP]
        by_cases hlt : (s.size : Int) < P.length
        · obtain ⟨r, h1, h3⟩ := skip (fun c2 hq he => by
            rw [hn] at he
            rw [size_list, ← he, List.length_append] at hlt
            omega)
          refine ⟨r, Ev.step (fun k => ?_) h1, h3⟩
          rw [pledgeref04_Parse.j2, if_neg h2, if_neg (by decide), if_neg h2, hwz, if_pos hlt]
        · have ex1 : (s.extract 0 P.length).toList = s.data.toList.take P.length := by rw [Lib.toList_data, Lib.extract_data]; simp
          have ex2 : (t.extract 0 P.length).toList = P := by rw [Lib.toList_data, Lib.extract_data, e2, hp]; simp
          by_cases he : s.data.toList.take P.length = P
          · obtain ⟨r, h1, h3⟩ := r_l2 s a b h12 hb' ih 256 0 0 (by omega) (by omega)
            refine ⟨r, Ev.step (fun k => ?_) (Ev.step (g := fun k => pledgeref04_Parse.j3 k s a b false a b 0) (fun k => by rw [pledgeref04_Parse.j3, if_neg (by decide)]) h1), h3⟩
            rw [pledgeref04_Parse.j2, if_neg h2, if_neg (by decide), if_neg h2, hwz, if_neg hlt, if_pos (by omega), if_pos (by omega), if_pos (by omega), Int.toNat_natCast, ex1, ex2, he]
            simp
          · obtain ⟨r, h1, h3⟩ := skip (fun c2 hq hq2 => by
              rw [hn] at hq2
              apply he
              rw [← hq2]
              simp)
            refine ⟨r, Ev.step (fun k => ?_) h1, h3⟩
            have hb : (s.data.toList.take P.length != P) = true := by simpa using he
            rw [pledgeref04_Parse.j2, if_neg h2, if_neg (by decide), if_neg h2, hwz, if_neg hlt, if_pos (by omega), if_pos (by omega), if_pos (by omega), Int.toNat_natCast, ex1, ex2, hb]
    obtain ⟨r, h1, h2⟩ := main
    refine ⟨r, Ev.step (fun k => ?_) h1, h2⟩
    rw [pledgeref04_Parse.l1, if_pos (by omega), show a % 256 = a by omega, show b % 256 = b by omega, e1, Option.bind_some]
    split <;> rfl
theorem r_l0 : ∀ (d : Nat) (a : Int), a = 5 - (d : Int) → 1 ≤ a → Ends s.data.toList a 0 0 (fun k => pledgeref04_Parse.l0 k s a)
  | 0, a, ha, _ => by
    refine ⟨(0, 0, 0, false), Ev.step (f := fun _ => some (0, 0, 0, false)) (fun k => ?_) (Ev.now _), .inr ⟨rfl, fun c0 c1 c2 hq hx => ?_⟩⟩
    · rw [pledgeref04_Parse.l0, if_neg (by omega)]
    · have := hq.2
      omega
  | d + 1, a, ha, h1 => by
    obtain ⟨r, e1, e2⟩ := r_l1 s a (by omega) (r_l0 d (a + 1) (by omega) (by omega)) 256 0 (by omega) (by omega)
    refine ⟨r, Ev.step (fun k => ?_) e1, e2⟩
    rw [pledgeref04_Parse.l0, if_pos (by omega)]
theorem rparse : ∃ r, Ev (fun k => pledgeref04_Parse.f k s) r ∧ Post s.data.toList r := by
  obtain ⟨r, h1, h2⟩ := r_l0 s 4 1 (by omega) (by omega)
  refine ⟨r, h1, ?_⟩
  rcases h2 with h | ⟨h3, h4⟩
  · exact .inl h
  · refine .inr ⟨h3, fun c0 c1 c2 hq => h4 c0 c1 c2 hq ?_⟩
    have := hq.1
    have := hq.2
    omega
end
theorem u8_of {z : Int} (h : WK5 z) : 0 ≤ z ∧ z ≤ 255 := by simpa [WK5, Lit.wf, IntKind.min, IntKind.max, IntKind.signed, IntKind.bits] using h
theorem KeyTexts : pledgelaw04_KeyTexts.Pure := by
  rintro ⟨c0, c1, c2⟩ s ⟨_, w1, w2⟩ _
  have h1 := u8_of w1
  have h2 := u8_of w2
  simp only at h1 h2 ⊢
  obtain ⟨t, t1, t2⟩ := ktext c0 c1 c2 h1 h2
  obtain ⟨u, u1, u2⟩ := rtext c0 c1 c2 h1 h2
  have hm : mn (s.size : Int) 40 ≤ 40 ∧ 0 ≤ mn (s.size : Int) 40 ∧ mn (s.size : Int) 40 ≤ s.size := by unfold mn; split <;> omega
  generalize he : s.extract 0 (mn (s.size : Int) 40).toNat = x
  have hx : x.size ≤ 40 := by
    rw [← he, size_list, Lib.extract_data]
    have := List.length_take_le ((mn (s.size : Int) 40).toNat - 0) (s.data.toList.drop 0)
    omega
  obtain ⟨r, r1, r2⟩ := rparse x
  have hr : pick x.data.toList (gs (splitL 32 x.data.toList)) = r := post_one (kpost _) r2
  obtain ⟨K, hK⟩ := r1
  refine ⟨K + 40, ?_⟩
  unfold pledgelaw04_KeyTexts.f
  rw [if_pos hm.2.1, if_pos hm.2.2, he, kparse x hx (K + 40) (by omega), hr, show pledgeref04_Parse.f (K + 40) x = some r from hK (K + 40) (by omega), t1, u1]
  simp only [Option.bind_some, Lib.toList_data, t2, u2, at_rounds pledgelaw04_works.mono (Nat.le_add_left 40 K) texts_works]
  simp
end Go.Proofs.YtpnehgajhpejjaaDoor.K
