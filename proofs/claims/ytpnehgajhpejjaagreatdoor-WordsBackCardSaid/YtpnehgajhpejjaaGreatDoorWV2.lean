import Derived.Test.YtpnehgajhpejjaaGreatDoorWV1
import Derived.Test.YtpnehgajhpejjaaGreatDoorW10
import Derived.Test.YtpnehgajhpejjaaGreatDoorW18
import Derived.Test.YtpnehgajhpejjaaGreatDoorW19
import Derived.Test.YtpnehgajhpejjaaGreatDoorW22
import Derived.Test.YtpnehgajhpejjaaGreatDoorW11
/- The plain law's parts. -/
namespace Go.Proofs.YtpnehgajhpejjaaGreatDoor.W
open Go.Lib Go.RowKit Go.Proofs.YtpnehgajhpejjaaGreatDoorW.PrintWords
set_option maxRecDepth 100000
set_option linter.unusedVariables false
set_option linter.unusedSimpArgs false
def lnW (x : S90) : List UInt8 := Lib.itoa x.f0 ++ 58 :: Lib.itoa x.f1
def askW (k o p : Int) (l : List S90) (s f t q : Int) : List UInt8 × List (List UInt8) :=
  if k = 1 then (wPlace, Lib.itoa o :: Lib.itoa p :: l.map lnW) else if k = 2 then (wCancel, [Lib.itoa o]) else if k = 3 then (wShip, [Lib.itoa o]) else if k = 4 then (wReturn, [Lib.itoa o])
  else if k = 5 then (wRestock, [Lib.itoa s, Lib.itoa t, Lib.itoa q]) else if k = 6 then (wTransfer, [Lib.itoa s, Lib.itoa f, Lib.itoa t, Lib.itoa q]) else (wQuery, [Lib.itoa s])
theorem askT_is (k o p : Int) (l : List S90) (s f t q : Int) : askT k o p l s f t q = (askW k o p l s f t q).1 ++ (askW k o p l s f t q).2.flatMap (fun t => 32 :: t) := by
  unfold askT askW
  by_cases h1 : k = 1
  · simp only [if_pos h1, List.flatMap_cons, List.flatMap_map, nm, lnT, lnW]
    simp
  simp only [if_neg h1]
  by_cases h2 : k = 2
  · simp [h2, nm]
  simp only [if_neg h2]
  by_cases h3 : k = 3
  · simp [h3, nm]
  simp only [if_neg h3]
  by_cases h4 : k = 4
  · simp [h4, nm]
  simp only [if_neg h4]
  by_cases h5 : k = 5
  · simp [h5, nm]
  simp only [if_neg h5]
  by_cases h6 : k = 6
  · simp [h6, nm]
  simp only [if_neg h6]
  simp [nm]
theorem lnW_no32 (x : S90) : (32 : UInt8) ∉ lnW x := by
  unfold lnW
  intro h
  rcases List.mem_append.1 h with h | h
  · exact itoa_no32 _ h
  · rcases List.mem_cons.1 h with h | h
    · exact absurd h (by decide)
    · exact itoa_no32 _ h
theorem askW_no32 (k o p : Int) (l : List S90) (s f t q : Int) : (32 : UInt8) ∉ (askW k o p l s f t q).1 ∧ ∀ x ∈ (askW k o p l s f t q).2, (32 : UInt8) ∉ x := by
  have h := itoa_no32
  unfold askW
  split
  · refine ⟨(by decide : (32 : UInt8) ∉ wPlace), fun x hx => ?_⟩
    simp only [List.mem_cons, List.mem_map] at hx
    rcases hx with rfl | rfl | ⟨y, _, rfl⟩
    · exact h _
    · exact h _
    · exact lnW_no32 y
  split
  · exact ⟨(by decide : (32 : UInt8) ∉ wCancel), fun x hx => by simp at hx; subst hx; exact h _⟩
  split
  · exact ⟨(by decide : (32 : UInt8) ∉ wShip), fun x hx => by simp at hx; subst hx; exact h _⟩
  split
  · exact ⟨(by decide : (32 : UInt8) ∉ wReturn), fun x hx => by simp at hx; subst hx; exact h _⟩
  split
  · exact ⟨(by decide : (32 : UInt8) ∉ wRestock), fun x hx => by simp at hx; rcases hx with rfl | rfl | rfl <;> exact h _⟩
  split
  · exact ⟨(by decide : (32 : UInt8) ∉ wTransfer), fun x hx => by simp at hx; rcases hx with rfl | rfl | rfl | rfl <;> exact h _⟩
  · exact ⟨(by decide : (32 : UInt8) ∉ wQuery), fun x hx => by simp at hx; subst hx; exact h _⟩
theorem ask_split (k o p : Int) (l : List S90) (s f t q : Int) : splitL 32 (askT k o p l s f t q) = (askW k o p l s f t q).1 :: (askW k o p l s f t q).2 := by
  rw [askT_is]
  exact split_tok 32 _ _ (askW_no32 k o p l s f t q).1 (askW_no32 k o p l s f t q).2
theorem lnW_len (x : S90) (h : LineOk x) : (lnW x).length ≤ 43 := by
  have a := itoa_len20 x.f0 (u8_64 h.1)
  have b := itoa_len20 x.f1 h.2
  simp only [lnW, List.length_append, List.length_cons]
  omega
theorem lnW_split (x : S90) (h : LineOk x) : strings_Split.f (ofL (lnW x)) (⟨#[58]⟩ : ByteArray) = some [ofL (Lib.itoa x.f0), ofL (Lib.itoa x.f1)] := by
  have e := prog_split 58 (lnW x) (by have := lnW_len x h; omega)
  rw [show splitL 58 (lnW x) = [Lib.itoa x.f0, Lib.itoa x.f1] from by unfold lnW; rw [splitL_app 58 _ _ (itoa_no58 _), splitL_none 58 _ (itoa_no58 _)]] at e
  exact e
theorem rdB (pre rest : List ByteArray) (x : ByteArray) : rdOf ByteArray.empty (pre ++ x :: rest) (pre.length : Int) = x := by simp [rdOf, List.getD_eq_getElem?_getD]
theorem asked_l0 (n o p : Int) (rest : List S90) : ∀ (pre acc : List S90), (∀ x ∈ rest, LineOk x) → acc.length + rest.length ≤ 1000 → n = (((pre ++ rest).map fun x => ofL (lnW x)).length : Int) → (pre ++ rest).length ≤ 1000 →
    Ev (fun m => words_asked.l0 m ((pre ++ rest).map fun x => ofL (lnW x)) n (pre.length : Int) 1 o p acc 0 0 0 0) (1, o, p, acc ++ rest, 0, 0, 0, 0) := by
  induction rest with
  | nil =>
    intro pre acc _ _ hn _
    refine Ev.succ (f := fun _ => some (1, o, p, acc ++ [], 0, 0, 0, 0)) (Ev.const rfl) (fun m => ?_)
    rw [words_asked.l0, if_neg (by rw [hn]; simp), List.append_nil]
  | cons x rest ih =>
    intro pre acc hx ha hn hp
    have hx0 := hx x (by simp)
    have ih2 := ih (pre ++ [x]) (acc ++ [x]) (fun y hy => hx y (by simp [hy])) (by simp only [List.length_append, List.length_cons, List.length_nil] at ha ⊢; omega) (by rw [List.append_assoc]; exact hn) (by simpa using hp)
    rw [List.append_assoc, List.singleton_append, List.append_assoc, List.singleton_append] at ih2
    have q1 : (pre.length : Int) < n := by rw [hn]; simp only [List.length_map, List.length_append, List.length_cons]; omega
    have q2 : (pre.length : Int) < (((pre ++ x :: rest).map fun x => ofL (lnW x)).length : Int) := by simp only [List.length_map, List.length_append, List.length_cons]; omega
    have q3 : (0 : Int) ≤ (pre.length : Int) := by omega
    have q4 : acc.length < 8796093022208 := by simp only [List.length_cons] at ha; omega
    have er : rdOf ByteArray.empty ((pre ++ x :: rest).map fun x => ofL (lnW x)) (pre.length : Int) = ofL (lnW x) := by
      have := rdB (pre.map fun x => ofL (lnW x)) (rest.map fun x => ofL (lnW x)) (ofL (lnW x))
      rw [List.length_map] at this
      rw [List.map_append, List.map_cons]
      exact this
    have n0 : words_number.f [ofL (Lib.itoa x.f0), ofL (Lib.itoa x.f1)] 0 = some x.f0 := number_at (i := 0) (u8_64 hx0.1) rfl
    have n1 : words_number.f [ofL (Lib.itoa x.f0), ofL (Lib.itoa x.f1)] 1 = some x.f1 := number_at (i := 1) hx0.2 rfl
    have m0 : x.f0 % 256 = x.f0 := Int.emod_eq_of_lt hx0.1.1 hx0.1.2
    have ei : wrap64 ((pre.length : Int) + 1) = ((pre ++ [x]).length : Int) := by
      simp only [wrap64, List.length_append, List.length_cons, List.length_nil] at hp ⊢
      omega
    refine ih2.succ (fun k => ?_)
    rw [words_asked.l0, if_pos q1, if_pos q3, if_pos q2, er, lnW_split x hx0, Option.bind_some, n0, Option.bind_some, n1, Option.bind_some, if_pos q4, m0, ei]
theorem ofL_toList (l : List UInt8) : (ofL l).toList = l := by rw [ByteArray.toList_eq, ofL_data]
def askWB (k o p : Int) (l : List S90) (s f t q : Int) : List ByteArray := ((askW k o p l s f t q).1 :: (askW k o p l s f t q).2).map ofL
theorem prog_asked {k o p : Int} {l : List S90} {s f t q : Int} (h : RqOk k o p l s f t q) (hs : Shape k o p l s f t q) : Ev (fun m => words_asked.f m (askWB k o p l s f t q)) (k, o, p, l, s, f, t, q) := by
  have io := u32_64 h.hO
  have ip := u8_64 h.hP
  have is_ := u8_64 h.hS
  have if_ := u8_64 h.hF
  have it := u8_64 h.hT
  have iq := h.hQ
  have eo : o % 4294967296 = o := Int.emod_eq_of_lt h.hO.1 h.hO.2
  have ep : p % 256 = p := Int.emod_eq_of_lt h.hP.1 h.hP.2
  have es : s % 256 = s := Int.emod_eq_of_lt h.hS.1 h.hS.2
  have ef : f % 256 = f := Int.emod_eq_of_lt h.hF.1 h.hF.2
  have et : t % 256 = t := Int.emod_eq_of_lt h.hT.1 h.hT.2
  have hL := h.hL
  have hN := h.hN
  have h0 : ∀ (w : List UInt8) (r : List ByteArray), rdOf ByteArray.empty (ofL w :: r) 0 = ofL w := fun _ _ => rfl
  have hlen : ∀ (w : ByteArray) (r : List ByteArray), (0 : Int) < ((w :: r).length : Int) := fun w r => by simp only [List.length_cons]; omega
  unfold words_asked.f askWB
  rcases hs with ⟨rfl, rfl, rfl, rfl, rfl⟩ | ⟨hk, rfl, rfl, rfl, rfl, rfl, rfl⟩ | ⟨rfl, rfl, rfl, rfl, rfl⟩ | ⟨rfl, rfl, rfl, rfl⟩ | ⟨rfl, rfl, rfl, rfl, rfl, rfl, rfl⟩
  · have e : ((askW 1 o p l 0 0 0 0).1 :: (askW 1 o p l 0 0 0 0).2).map ofL = ofL wPlace :: ofL (Lib.itoa o) :: ofL (Lib.itoa p) :: (l.map fun x => ofL (lnW x)) := by simp [askW, List.map_map, Function.comp_def]
    rw [e]
    have n1 : words_number.f (ofL wPlace :: ofL (Lib.itoa o) :: ofL (Lib.itoa p) :: (l.map fun x => ofL (lnW x))) 1 = some o := number_at (i := 1) io rfl
    have n2 : words_number.f (ofL wPlace :: ofL (Lib.itoa o) :: ofL (Lib.itoa p) :: (l.map fun x => ofL (lnW x))) 2 = some p := number_at (i := 2) ip rfl
    have hm : mn 3 ((ofL wPlace :: ofL (Lib.itoa o) :: ofL (Lib.itoa p) :: (l.map fun x => ofL (lnW x))).length : Int) = 3 := by
      simp only [List.length_cons, mn]
      split <;> omega
    have h3 : (3 : Int) ≤ ((ofL wPlace :: ofL (Lib.itoa o) :: ofL (Lib.itoa p) :: (l.map fun x => ofL (lnW x))).length : Int) := by simp only [List.length_cons]; omega
    have hl := asked_l0 (((l.map fun x => ofL (lnW x)).length : Int)) o p l [] [] hL (by simp; omega) rfl (by simp; omega)
    refine hl.congr (fun m => ?_)
    rw [n1, Option.bind_some, Option.bind_some, if_pos (hlen _ _), h0, ofL_toList, if_pos (show wPlace = ([112, 108, 97, 99, 101] : List UInt8) from rfl), n2, Option.bind_some, hm, if_pos (by omega), if_pos h3, eo, ep]
    rfl
  · rcases hk with rfl | rfl | rfl
    · refine ⟨0, fun m _ => ?_⟩
      dsimp only
      rw [show ((askW 2 o 0 [] 0 0 0 0).1 :: (askW 2 o 0 [] 0 0 0 0).2).map ofL = [ofL wCancel, ofL (Lib.itoa o)] from rfl]
      rw [show words_number.f [ofL wCancel, ofL (Lib.itoa o)] 1 = some o from number_at (i := 1) io rfl, Option.bind_some, Option.bind_some, if_pos (hlen _ _), h0, ofL_toList, if_neg (by decide), if_pos (show wCancel = ([99, 97, 110, 99, 101, 108] : List UInt8) from rfl), eo]
    · refine ⟨0, fun m _ => ?_⟩
      dsimp only
      rw [show ((askW 3 o 0 [] 0 0 0 0).1 :: (askW 3 o 0 [] 0 0 0 0).2).map ofL = [ofL wShip, ofL (Lib.itoa o)] from rfl]
      rw [show words_number.f [ofL wShip, ofL (Lib.itoa o)] 1 = some o from number_at (i := 1) io rfl, Option.bind_some, Option.bind_some, if_pos (hlen _ _), h0, ofL_toList, if_neg (by decide), if_neg (by decide), if_pos (show wShip = ([115, 104, 105, 112] : List UInt8) from rfl), eo]
    · refine ⟨0, fun m _ => ?_⟩
      dsimp only
      rw [show ((askW 4 o 0 [] 0 0 0 0).1 :: (askW 4 o 0 [] 0 0 0 0).2).map ofL = [ofL wReturn, ofL (Lib.itoa o)] from rfl]
      rw [show words_number.f [ofL wReturn, ofL (Lib.itoa o)] 1 = some o from number_at (i := 1) io rfl, Option.bind_some, Option.bind_some, if_pos (hlen _ _), h0, ofL_toList, if_neg (by decide), if_neg (by decide), if_neg (by decide), if_pos (show wReturn = ([114, 101, 116, 117, 114, 110] : List UInt8) from rfl), eo]
  · refine ⟨0, fun m _ => ?_⟩
    dsimp only
    rw [show ((askW 5 0 0 [] s 0 t q).1 :: (askW 5 0 0 [] s 0 t q).2).map ofL = [ofL wRestock, ofL (Lib.itoa s), ofL (Lib.itoa t), ofL (Lib.itoa q)] from rfl]
    rw [show words_number.f [ofL wRestock, ofL (Lib.itoa s), ofL (Lib.itoa t), ofL (Lib.itoa q)] 1 = some s from number_at (i := 1) is_ rfl, Option.bind_some, Option.bind_some, if_pos (hlen _ _), h0, ofL_toList, if_neg (by decide), if_neg (by decide), if_neg (by decide), if_neg (by decide), if_pos (show wRestock = ([114, 101, 115, 116, 111, 99, 107] : List UInt8) from rfl), show words_number.f [ofL wRestock, ofL (Lib.itoa s), ofL (Lib.itoa t), ofL (Lib.itoa q)] 2 = some t from number_at (i := 2) it rfl, Option.bind_some, show words_number.f [ofL wRestock, ofL (Lib.itoa s), ofL (Lib.itoa t), ofL (Lib.itoa q)] 3 = some q from number_at (i := 3) iq rfl, Option.bind_some, es, et]
  · refine ⟨0, fun m _ => ?_⟩
    dsimp only
    rw [show ((askW 6 0 0 [] s f t q).1 :: (askW 6 0 0 [] s f t q).2).map ofL = [ofL wTransfer, ofL (Lib.itoa s), ofL (Lib.itoa f), ofL (Lib.itoa t), ofL (Lib.itoa q)] from rfl]
    rw [show words_number.f [ofL wTransfer, ofL (Lib.itoa s), ofL (Lib.itoa f), ofL (Lib.itoa t), ofL (Lib.itoa q)] 1 = some s from number_at (i := 1) is_ rfl, Option.bind_some, Option.bind_some, if_pos (hlen _ _), h0, ofL_toList, if_neg (by decide), if_neg (by decide), if_neg (by decide), if_neg (by decide), if_neg (by decide), if_pos (show wTransfer = ([116, 114, 97, 110, 115, 102, 101, 114] : List UInt8) from rfl), show words_number.f [ofL wTransfer, ofL (Lib.itoa s), ofL (Lib.itoa f), ofL (Lib.itoa t), ofL (Lib.itoa q)] 2 = some f from number_at (i := 2) if_ rfl, Option.bind_some, show words_number.f [ofL wTransfer, ofL (Lib.itoa s), ofL (Lib.itoa f), ofL (Lib.itoa t), ofL (Lib.itoa q)] 3 = some t from number_at (i := 3) it rfl, Option.bind_some, show words_number.f [ofL wTransfer, ofL (Lib.itoa s), ofL (Lib.itoa f), ofL (Lib.itoa t), ofL (Lib.itoa q)] 4 = some q from number_at (i := 4) iq rfl, Option.bind_some, es, ef, et]
  · refine ⟨0, fun m _ => ?_⟩
    dsimp only
    rw [show ((askW 7 0 0 [] s 0 0 0).1 :: (askW 7 0 0 [] s 0 0 0).2).map ofL = [ofL wQuery, ofL (Lib.itoa s)] from rfl]
    rw [show words_number.f [ofL wQuery, ofL (Lib.itoa s)] 1 = some s from number_at (i := 1) is_ rfl, Option.bind_some, Option.bind_some, if_pos (hlen _ _), h0, ofL_toList, if_neg (by decide), if_neg (by decide), if_neg (by decide), if_neg (by decide), if_neg (by decide), if_neg (by decide), if_pos (show wQuery = ([113, 117, 101, 114, 121] : List UInt8) from rfl), es]
theorem extract_ofL (l : List UInt8) (i j : Nat) : (ofL l).extract i j = ofL ((l.take j).drop i) := by
  apply ByteArray.ext
  apply Array.ext'
  simp [ofL, ByteArray.data_extract, List.drop_take]
theorem nib : ∀ a : Nat, a < 16 → words_nibble.f ((hexD.getD a 0).toNat : Int) = some (a : Int) := by decide
theorem orb : ∀ a : Nat, a < 16 → ∀ b : Nat, b < 16 → Go.bits .or .u8 (((a : Int) * 16) % 256) (b : Int) = ((16 * a + b : Nat) : Int) := by decide +kernel
theorem gl0 (rest : List Int) : ∀ (acc : List Int), ByteL rest → acc.length + rest.length ≤ 1000 → Ev (fun m => words_guess.l0 m (ofL (hexL rest)) 1 0 0 0 acc) (1, 0, 0, 0, acc ++ rest) := by
  induction rest with
  | nil =>
    intro acc _ _
    refine Ev.succ (f := fun _ => some (1, 0, 0, 0, acc ++ [])) (Ev.const rfl) (fun m => ?_)
    rw [words_guess.l0, if_neg (by rw [ofL_size]; simp [hexL]), List.append_nil]
  | cons x rest ih =>
    intro acc hb ha
    have hx0 := hb x (by simp)
    have ih2 := ih (acc ++ [x]) (fun y hy => hb y (by simp [hy])) (by simp only [List.length_append, List.length_cons, List.length_nil] at ha ⊢; omega)
    rw [List.append_assoc, List.singleton_append] at ih2
    have n1 : x.toNat / 16 < 16 := by omega
    have n2 : x.toNat % 16 < 16 := by omega
    have el : hexL (x :: rest) = hexD.getD (x.toNat / 16) 0 :: hexD.getD (x.toNat % 16) 0 :: hexL rest := rfl
    have sz : (ofL (hexL (x :: rest))).size = (hexL rest).length + 2 := by rw [ofL_size, el]; rfl
    have b0 : bt (ofL (hexL (x :: rest))) 0 = ((hexD.getD (x.toNat / 16) 0).toNat : Int) := by rw [el]; exact bt_ofL _ 0 (by simp)
    have b1 : bt (ofL (hexL (x :: rest))) 1 = ((hexD.getD (x.toNat % 16) 0).toNat : Int) := by rw [el]; exact bt_ofL _ 1 (by simp)
    have ex : (ofL (hexL (x :: rest))).extract 2 (ofL (hexL (x :: rest))).size = ofL (hexL rest) := by
      rw [extract_ofL, sz, el]
      congr 1
      simp
    have e16 : ((16 * (x.toNat / 16) + x.toNat % 16 : Nat) : Int) = x := by omega
    refine ih2.succ (fun k => ?_)
    rw [words_guess.l0, ex, b0, b1, sz, nib _ n1, Option.bind_some, nib _ n2, Option.bind_some, orb _ n1 _ n2, e16, if_pos (by omega), if_pos (by omega), if_pos (by omega), if_pos (by simp only [List.length_cons] at ha; omega), if_pos (by omega)]
theorem join_one (s : List UInt8) (h : s.length ≤ 100000) : strings_Join.f [ofL s] (⟨#[32]⟩ : ByteArray) = some (ofL s) := by
  unfold strings_Join.f
  have e : Lib.join ([ofL s].map fun x => x.data.toList) (⟨#[32]⟩ : ByteArray).data.toList = s := by simp [Lib.join, ofL]
  rw [e, if_pos ⟨by simp, by omega⟩]
  rfl
theorem askW_first (k o p : Int) (l : List S90) (s f t q : Int) : (askW k o p l s f t q).1 ∈ [wPlace, wCancel, wShip, wReturn, wRestock, wTransfer, wQuery] := by
  unfold askW
  repeat' split
  all_goals simp
theorem ask_words : ∀ w ∈ [wPlace, wCancel, wShip, wReturn, wRestock, wTransfer, wQuery], ¬ w = ([112, 105, 99, 107] : List UInt8) ∧ ¬ w = ([107, 105, 108, 108] : List UInt8) ∧ ¬ w = ([119, 114, 105, 116, 101] : List UInt8) ∧ ¬ w = ([115, 121, 110, 99] : List UInt8) ∧ ¬ w = ([99, 107, 112, 116] : List UInt8) ∧ ¬ w = ([99, 114, 97, 115, 104] : List UInt8) ∧ ¬ w = ([98, 111, 111, 116] : List UInt8) ∧ ¬ w = ([97, 115, 107] : List UInt8) := by decide
theorem askedT_ok {l : List Int} (h : (request_Decode.decF l).2.2.2.2.2.2.2.2 = 0) : ∃ k o p ls s f t q, request_Decode.decF l = (k, o, p, ls, s, f, t, q, 0) ∧ askedT l = askT k o p ls s f t q := by
  obtain ⟨k, o, p, ls, s, f, t, q, e, hq⟩ : ∃ k o p ls s f t q e, request_Decode.decF l = (k, o, p, ls, s, f, t, q, e) := ⟨_, _, _, _, _, _, _, _, _, rfl⟩
  unfold askedT
  rw [hq] at h ⊢
  obtain rfl : e = 0 := h
  exact ⟨k, o, p, ls, s, f, t, q, rfl, if_pos rfl⟩
theorem hexL_no32 (l : List Int) : (32 : UInt8) ∉ hexL l := by
  have hd : ∀ a : Nat, (32 : UInt8) ≠ hexD.getD a 0 := fun a => by
    by_cases h : a < 16
    · exact (show ∀ a : Nat, a < 16 → (32 : UInt8) ≠ hexD.getD a 0 from by decide) a h
    · rw [show hexD.getD a 0 = 0 from by simp [List.getD_eq_getElem?_getD, List.getElem?_eq_none (show hexD.length ≤ a from by simpa [hexD] using h)]]
      decide
  induction l with
  | nil => simp [hexL]
  | cons x l ih =>
    rw [hexL_cons]
    intro h
    rcases List.mem_append.1 h with h | h
    · simp only [hx, List.mem_cons, List.not_mem_nil, or_false] at h
      rcases h with h | h
      · exact hd _ h
      · exact hd _ h
    · exact ih h
theorem prog_guess_back {k g p t : Int} {l : List Int} (h : GoodP k g p t l) (hb : ByteL l) (hg : 0 ≤ g ∧ g < 4294967296) : Ev (fun m => words_guess.f m ((splitL 32 (lineT k g p t l)).map ofL)) (k, g, p, t, l) := by
  obtain ⟨hk, hl0, hl, hg0, hpt⟩ := h
  have h0 : ∀ (w : List UInt8) (r : List (List UInt8)), rdOf ByteArray.empty ((w :: r).map ofL) 0 = ofL w := fun _ _ => rfl
  have hlen : ∀ (w : List UInt8) (r : List (List UInt8)), (0 : Int) < (((w :: r).map ofL).length : Int) := fun w r => by simp only [List.map_cons, List.length_cons]; omega
  have eg : g % 4294967296 = g := Int.emod_eq_of_lt hg.1 hg.2
  obtain rfl | rfl | rfl | rfl | rfl | rfl | rfl | rfl : k = 1 ∨ k = 2 ∨ k = 3 ∨ k = 4 ∨ k = 5 ∨ k = 6 ∨ k = 7 ∨ k = 8 := by omega
  · obtain rfl : g = 0 := by omega
    obtain ⟨rfl, rfl⟩ : p = 0 ∧ t = 0 := by omega
    show Ev (fun m => words_guess.f m ((splitL 32 (askedT l)).map ofL)) (1, 0, 0, 0, l)
    by_cases hd : (request_Decode.decF l).2.2.2.2.2.2.2.2 = 0
    · obtain ⟨k, o, p, ls, s, f, t, q, hq, ha⟩ := askedT_ok hd
      obtain ⟨hr, he, hs⟩ := dec_ok hb hq
      have hp := plain_ok hr hs
      have hA := prog_asked hr hs
      unfold askWB at hA
      rw [ha, ask_split]
      have hw := ask_words _ (askW_first k o p ls s f t q)
      generalize (askW k o p ls s f t q).1 = W1 at *
      generalize (askW k o p ls s f t q).2 = W2 at *
      unfold words_guess.f
      have hE : request_Encode.f k o p ls s f t q = some (l, 0) := by
        unfold request_Encode.f
        rw [if_pos hr.hO, hp, Option.map_some, if_pos rfl, he]
      refine Ev.congr (f := fun m => (words_asked.f m ((W1 :: W2).map ofL)).bind fun bt201 => ((request_Encode.f bt201.1 bt201.2.1 bt201.2.2.1 bt201.2.2.2.1 bt201.2.2.2.2.1 bt201.2.2.2.2.2.1 bt201.2.2.2.2.2.2.1 bt201.2.2.2.2.2.2.2).bind fun bt211 => (some (1, 0, 0, 0, bt211.1)))) ?_ (fun m => ?_)
      · refine Ev.bind hA (Ev.const ?_)
        show (request_Encode.f k o p ls s f t q).bind _ = _
        rw [hE, Option.bind_some]
      · rw [if_pos (hlen _ _), h0, ofL_toList, if_neg hw.1, if_neg hw.2.1, if_neg hw.2.2.1, if_neg hw.2.2.2.1, if_neg hw.2.2.2.2.1, if_neg hw.2.2.2.2.2.1, if_neg hw.2.2.2.2.2.2.1, if_neg hw.2.2.2.2.2.2.2]
    · unfold askedT
      rw [if_neg hd]
      by_cases hz : l.length = 0
      · obtain rfl := List.eq_nil_of_length_eq_zero hz
        rw [if_pos hz, splitL_none 32 wAsk (by decide)]
        unfold words_guess.f
        refine Ev.congr (f := fun m => words_guess.l0 m (ofL (hexL [])) 1 0 0 0 []) ?_ (fun m => ?_)
        · exact gl0 [] [] hb (by simp)
        · rw [if_pos (hlen _ _), h0, ofL_toList, if_neg (by decide), if_neg (by decide), if_neg (by decide), if_neg (by decide), if_neg (by decide), if_neg (by decide), if_neg (by decide), if_pos (show wAsk = ([97, 115, 107] : List UInt8) from rfl), if_pos (by simp)]
          rfl
      · rw [if_neg hz, show askB ++ hexL l = wAsk ++ [hexL l].flatMap (fun t => 32 :: t) from by simp [askB, wAsk], split_tok 32 [hexL l] wAsk (by decide) (fun t ht => by simp at ht; subst ht; exact hexL_no32 l)]
        unfold words_guess.f
        have hh := hexL_len l
        refine Ev.congr (f := fun m => words_guess.l0 m (ofL (hexL l)) 1 0 0 0 []) ?_ (fun m => ?_)
        · exact gl0 l [] hb (by simp; omega)
        · rw [if_pos (hlen _ _), h0, ofL_toList, if_neg (by decide), if_neg (by decide), if_neg (by decide), if_neg (by decide), if_neg (by decide), if_neg (by decide), if_neg (by decide), if_pos (show wAsk = ([97, 115, 107] : List UInt8) from rfl), if_pos (by simp), show (([wAsk, hexL l].map ofL).drop 1) = [ofL (hexL l)] from rfl, join_one _ (by omega), Option.bind_some]
  · have hn : l = [] := List.eq_nil_of_length_eq_zero (by omega)
    subst hn
    obtain ⟨rfl, rfl⟩ : p = 0 ∧ t = 0 := by omega
    have e : splitL 32 (lineT 2 g 0 0 []) = [wPick, Lib.itoa g] := by
      have := split_tok 32 [Lib.itoa g] wPick (by decide) (fun t ht => by simp at ht; subst ht; exact itoa_no32 _)
      simpa [lineT, nm] using this
    rw [e]
    refine ⟨0, fun m _ => ?_⟩
    dsimp only
    unfold words_guess.f
    rw [if_pos (hlen _ _), h0, ofL_toList, if_pos (show wPick = ([112, 105, 99, 107] : List UInt8) from rfl), show words_number.f ([wPick, Lib.itoa g].map ofL) 1 = some g from number_at (i := 1) (u32_64 hg) rfl, Option.bind_some, eg]
  · have hn : l = [] := List.eq_nil_of_length_eq_zero (by omega)
    subst hn
    obtain ⟨rfl, rfl⟩ : p = 0 ∧ t = 0 := by omega
    have e : splitL 32 (lineT 3 g 0 0 []) = [wKill, Lib.itoa g] := by
      have := split_tok 32 [Lib.itoa g] wKill (by decide) (fun t ht => by simp at ht; subst ht; exact itoa_no32 _)
      simpa [lineT, nm] using this
    rw [e]
    refine ⟨0, fun m _ => ?_⟩
    dsimp only
    unfold words_guess.f
    rw [if_pos (hlen _ _), h0, ofL_toList, if_neg (by decide), if_pos (show wKill = ([107, 105, 108, 108] : List UInt8) from rfl), show words_number.f ([wKill, Lib.itoa g].map ofL) 1 = some g from number_at (i := 1) (u32_64 hg) rfl, Option.bind_some, eg]
  · have hn : l = [] := List.eq_nil_of_length_eq_zero (by omega)
    subst hn
    obtain ⟨rfl, rfl, rfl⟩ : p = 0 ∧ t = 0 ∧ g = 0 := by omega
    rw [show lineT 4 0 0 0 [] = wWrite from rfl, splitL_none 32 wWrite (by decide)]
    refine ⟨0, fun m _ => ?_⟩
    dsimp only
    unfold words_guess.f
    rw [if_pos (hlen _ _), h0, ofL_toList, if_neg (by decide), if_neg (by decide), if_pos (show wWrite = ([119, 114, 105, 116, 101] : List UInt8) from rfl)]
  · have hn : l = [] := List.eq_nil_of_length_eq_zero (by omega)
    subst hn
    obtain ⟨rfl, rfl, rfl⟩ : p = 0 ∧ t = 0 ∧ g = 0 := by omega
    rw [show lineT 5 0 0 0 [] = wSync from rfl, splitL_none 32 wSync (by decide)]
    refine ⟨0, fun m _ => ?_⟩
    dsimp only
    unfold words_guess.f
    rw [if_pos (hlen _ _), h0, ofL_toList, if_neg (by decide), if_neg (by decide), if_neg (by decide), if_pos (show wSync = ([115, 121, 110, 99] : List UInt8) from rfl)]
  · have hn : l = [] := List.eq_nil_of_length_eq_zero (by omega)
    subst hn
    obtain ⟨rfl, rfl, rfl⟩ : p = 0 ∧ t = 0 ∧ g = 0 := by omega
    rw [show lineT 6 0 0 0 [] = wCkpt from rfl, splitL_none 32 wCkpt (by decide)]
    refine ⟨0, fun m _ => ?_⟩
    dsimp only
    unfold words_guess.f
    rw [if_pos (hlen _ _), h0, ofL_toList, if_neg (by decide), if_neg (by decide), if_neg (by decide), if_neg (by decide), if_pos (show wCkpt = ([99, 107, 112, 116] : List UInt8) from rfl)]
  · have hn : l = [] := List.eq_nil_of_length_eq_zero (by omega)
    subst hn
    obtain rfl : g = 0 := by omega
    have ip : I64 p := by unfold I64; omega
    have it : I64 t := by unfold I64; omega
    have e : splitL 32 (lineT 7 0 p t []) = [wCrash, Lib.itoa p, Lib.itoa t] := by
      have := split_tok 32 [Lib.itoa p, Lib.itoa t] wCrash (by decide) (fun x hx => by simp at hx; rcases hx with rfl | rfl <;> exact itoa_no32 _)
      simpa [lineT, nm] using this
    rw [e]
    refine ⟨0, fun m _ => ?_⟩
    dsimp only
    unfold words_guess.f
    rw [if_pos (hlen _ _), h0, ofL_toList, if_neg (by decide), if_neg (by decide), if_neg (by decide), if_neg (by decide), if_neg (by decide), if_pos (show wCrash = ([99, 114, 97, 115, 104] : List UInt8) from rfl), show words_number.f ([wCrash, Lib.itoa p, Lib.itoa t].map ofL) 1 = some p from number_at (i := 1) ip rfl, Option.bind_some, show words_number.f ([wCrash, Lib.itoa p, Lib.itoa t].map ofL) 2 = some t from number_at (i := 2) it rfl, Option.bind_some]
  · have hn : l = [] := List.eq_nil_of_length_eq_zero (by omega)
    subst hn
    obtain ⟨rfl, rfl, rfl⟩ : p = 0 ∧ t = 0 ∧ g = 0 := by omega
    rw [show lineT 8 0 0 0 [] = wBoot from rfl, splitL_none 32 wBoot (by decide)]
    refine ⟨0, fun m _ => ?_⟩
    dsimp only
    unfold words_guess.f
    rw [if_pos (hlen _ _), h0, ofL_toList, if_neg (by decide), if_neg (by decide), if_neg (by decide), if_neg (by decide), if_neg (by decide), if_neg (by decide), if_pos (show wBoot = ([98, 111, 111, 116] : List UInt8) from rfl)]
theorem wr1 (n : Nat) (h : n ≤ 1000000000) : wrap64 ((n : Int) + 1) = ((n + 1 : Nat) : Int) := by
  simp only [wrap64]
  omega
theorem wr2 (n : Nat) (h : n ≤ 1000000000) : wrap64 ((n : Int) + 2) = ((n + 2 : Nat) : Int) := by
  simp only [wrap64]
  omega
theorem cut_l0 (c : UInt8) (rest : List UInt8) : ∀ (pre cur : List UInt8) (acc : List ByteArray), c ∉ cur → (pre ++ cur ++ rest).length ≤ 100000 → acc.length + rest.length ≤ 1000000 →
    Ev (fun k => pledgeref39_cut.l0 k (ofL (pre ++ cur ++ rest)) (c.toNat : Int) acc (pre.length : Int) ((pre ++ cur).length : Int)) (acc ++ (splitL c (cur ++ rest)).map ofL) := by
  induction rest with
  | nil =>
    intro pre cur acc hc hl ha
    have sz : (ofL (pre ++ cur ++ [])).size = (pre ++ cur).length := by rw [ofL_size, List.append_nil]
    have ex : (ofL (pre ++ cur ++ [])).extract (pre.length : Int).toNat ((pre ++ cur).length : Int).toNat = ofL cur := by
      rw [extract_ofL, Int.toNat_natCast, Int.toNat_natCast, List.append_nil, List.take_length, List.drop_left]
    have lp : (pre ++ cur).length = pre.length + cur.length := List.length_append
    rw [List.append_nil] at hl
    rw [show splitL c (cur ++ []) = [cur] from by rw [List.append_nil]; exact splitL_none c cur hc]
    refine Ev.succ (f := fun k => pledgeref39_cut.l0 k (ofL (pre ++ cur ++ [])) (c.toNat : Int) (acc ++ [ofL cur]) (wrap64 (((pre ++ cur).length : Int) + 1)) (wrap64 (((pre ++ cur).length : Int) + 1))) ?_ (fun k => ?_)
    · refine Ev.succ (f := fun k => some (acc ++ [ofL cur])) (Ev.const rfl) (fun k => ?_)
      rw [pledgeref39_cut.l0, sz, if_neg (by simp only [wrap64]; omega)]
    · rw [pledgeref39_cut.l0, sz, if_pos (by omega), if_pos rfl, if_pos (by omega), if_pos (by omega), if_pos (by simp only [List.length_nil] at ha; omega), ex]
  | cons x rest ih =>
    intro pre cur acc hc hl ha
    have lp : (pre ++ cur).length = pre.length + cur.length := List.length_append
    have ll : (pre ++ cur ++ x :: rest).length = (pre ++ cur).length + rest.length + 1 := by rw [List.length_append, List.length_cons]; rfl
    rw [ll] at hl
    rw [List.length_cons] at ha
    generalize hn : (pre ++ cur).length = n at *
    have sz : (ofL (pre ++ cur ++ x :: rest)).size = n + rest.length + 1 := by rw [ofL_size, ll]
    have hat : bt (ofL (pre ++ cur ++ x :: rest)) (n : Int) = (x.toNat : Int) := by
      have := bt_ofL (pre ++ cur ++ x :: rest) n (by omega)
      rw [this]
      subst hn
      simp
    have q1 : ((n : Nat) : Int) ≤ ((n + rest.length + 1 : Nat) : Int) := by omega
    have q2 : ¬ (((n : Nat) : Int) = ((n + rest.length + 1 : Nat) : Int)) := by omega
    have q3 : (0 : Int) ≤ ((n : Nat) : Int) := by omega
    have q4 : ((n : Nat) : Int) < ((n + rest.length + 1 : Nat) : Int) := by omega
    have q5 : (0 : Int) ≤ (pre.length : Int) := by omega
    have q6 : (pre.length : Int) ≤ (n : Int) := by omega
    have q7 : acc.length < 8796093022208 := by omega
    have q8 : acc.length + 1 + rest.length ≤ 1000000 := by omega
    have q9 : acc.length + rest.length ≤ 1000000 := by omega
    by_cases hx : x = c
    · subst hx
      have ex : (ofL (pre ++ cur ++ x :: rest)).extract (pre.length : Int).toNat (n : Int).toNat = ofL cur := by
        rw [extract_ofL, Int.toNat_natCast, Int.toNat_natCast, ← hn, List.take_left, List.drop_left]
      have ih2 := ih (pre ++ cur ++ [x]) [] (acc ++ [ofL cur]) (by simp) (by rw [show pre ++ cur ++ [x] ++ [] ++ rest = pre ++ cur ++ x :: rest from by simp, ll]; exact hl) (by rw [List.length_append]; exact q8)
      rw [List.append_nil, List.nil_append, show pre ++ cur ++ [x] ++ rest = pre ++ cur ++ x :: rest from by simp, show (pre ++ cur ++ [x]).length = n + 1 from by rw [List.length_append, hn]; rfl, show acc ++ [ofL cur] ++ List.map ofL (splitL x rest) = acc ++ ofL cur :: List.map ofL (splitL x rest) from by simp] at ih2
      rw [splitL_app x rest cur hc, List.map_cons]
      have ei : wrap64 ((n : Int) + 1) = ((n + 1 : Nat) : Int) := by
        simp only [wrap64]
        omega
      refine ih2.succ (fun k => ?_)
      rw [pledgeref39_cut.l0, sz, hat, ei, ex, if_pos q1, if_neg q2, if_pos q3, if_pos q4, if_pos rfl, if_pos q5, if_pos q6, if_pos q7]
    · have hxn : ¬ ((x.toNat : Int) = (c.toNat : Int)) := fun h => hx (UInt8.toNat.inj (by omega))
      have ih2 := ih pre (cur ++ [x]) acc (by simp [hc]; exact fun h => hx h.symm) (by rw [show pre ++ (cur ++ [x]) ++ rest = pre ++ cur ++ x :: rest from by simp, ll]; exact hl) q9
      rw [show pre ++ (cur ++ [x]) ++ rest = pre ++ cur ++ x :: rest from by simp, show (pre ++ (cur ++ [x])).length = n + 1 from by rw [← List.append_assoc, List.length_append, hn]; rfl, show cur ++ [x] ++ rest = cur ++ x :: rest from by simp] at ih2
      have ei : wrap64 ((n : Int) + 1) = ((n + 1 : Nat) : Int) := by
        simp only [wrap64]
        omega
      refine ih2.succ (fun k => ?_)
      rw [pledgeref39_cut.l0, sz, hat, ei, if_pos q1, if_neg q2, if_pos q3, if_pos q4, if_neg hxn]
theorem ref_cut (c : UInt8) (s : List UInt8) (h : s.length ≤ 100000) : Ev (fun k => pledgeref39_cut.f k (ofL s) (c.toNat : Int)) ((splitL c s).map ofL) := by
  have := cut_l0 c s [] [] [] (by simp) (by simpa using h) (by simp; omega)
  exact this
theorem at_at {l : List ByteArray} {i : Nat} {s : ByteArray} (h : l[i]? = some s) : pledgeref39_at.f l (i : Int) = some s := by
  obtain ⟨hi, he⟩ := List.getElem?_eq_some_iff.1 h
  unfold pledgeref39_at.f
  have e : rdOf ByteArray.empty l (i : Int) = s := by simp [rdOf, List.getD_eq_getElem?_getD, h]
  rw [if_neg (by omega), if_pos (by omega), if_pos (by omega), e]
theorem at_out {l : List ByteArray} {i : Int} (h : (l.length : Int) ≤ i) : pledgeref39_at.f l i = some (ofL []) := by
  unfold pledgeref39_at.f
  rw [if_pos h]
  rfl
/-! ### any word tells some number -/
theorem value_any0 (neg : Bool) (s : ByteArray) : ∀ (n i : Nat) (x : Int), 20 ≤ i + n → i ≤ 20 → ∃ r, I64 r ∧ Ev (fun k => pledgeref39_value.l0 k s neg x (i : Int)) r := by
  have fin : ∀ (i : Int) (x : Int), ∃ r, I64 r ∧ Ev (fun k => pledgeref39_value.j2 k s neg x i false) r := fun i x => by
    refine ⟨if neg = true then wrap64 (IntKind.u64.wrap (-x)) else wrap64 x, ?_, Ev.succ (f := fun _ => some (if neg = true then wrap64 (IntKind.u64.wrap (-x)) else wrap64 x)) (Ev.const rfl) (fun k => ?_)⟩
    · split <;> (unfold I64; simp only [wrap64]; omega)
    · rw [pledgeref39_value.j2, if_neg (by simp)]
      cases neg <;> rfl
  intro n
  induction n with
  | zero =>
    intro i x h h20
    obtain ⟨r, hr, he⟩ := fin i x
    by_cases hi : (i : Int) < (s.size : Int)
    · exact ⟨r, hr, he.succ (fun k => by rw [pledgeref39_value.l0, if_pos hi, decide_eq_false (by omega)])⟩
    · exact ⟨r, hr, he.succ (fun k => by rw [pledgeref39_value.l0, if_neg hi])⟩
  | succ n ih =>
    intro i x h h20
    by_cases hi : (i : Int) < (s.size : Int)
    · by_cases h20' : i < 20
      · have ei : wrap64 ((i : Int) + 1) = ((i + 1 : Nat) : Int) := by simp only [wrap64]; omega
        have hj : ∀ y, (∀ k, pledgeref39_value.j2 (k + 1) s neg x (i : Int) true = pledgeref39_value.l0 k s neg y (wrap64 ((i : Int) + 1))) → ∃ r, I64 r ∧ Ev (fun k => pledgeref39_value.l0 k s neg x (i : Int)) r := fun y hy => by
          obtain ⟨r, hr, he⟩ := ih (i + 1) y (by omega) (by omega)
          refine ⟨r, hr, Ev.succ (f := fun k => pledgeref39_value.j2 k s neg x (i : Int) true) (he.succ (fun k => ?_)) (fun k => ?_)⟩
          · rw [hy, ei]
          · rw [pledgeref39_value.l0, if_pos hi, decide_eq_true (by omega)]
        by_cases h48 : bt s (i : Int) ≥ 48
        · by_cases h57 : bt s (i : Int) ≤ 57
          · exact hj _ (fun k => by rw [pledgeref39_value.j2, if_pos rfl, if_pos (by omega), if_pos hi, if_pos h48, if_pos h57])
          · exact hj _ (fun k => by rw [pledgeref39_value.j2, if_pos rfl, if_pos (by omega), if_pos hi, if_pos h48, if_neg h57])
        · exact hj _ (fun k => by rw [pledgeref39_value.j2, if_pos rfl, if_pos (by omega), if_pos hi, if_neg h48])
      · obtain ⟨r, hr, he⟩ := fin i x
        exact ⟨r, hr, he.succ (fun k => by rw [pledgeref39_value.l0, if_pos hi, decide_eq_false (by omega)])⟩
    · obtain ⟨r, hr, he⟩ := fin i x
      exact ⟨r, hr, he.succ (fun k => by rw [pledgeref39_value.l0, if_neg hi])⟩
theorem value_any (s : ByteArray) : ∃ r, I64 r ∧ Ev (fun k => pledgeref39_value.f k s) r := by
  unfold pledgeref39_value.f
  by_cases h : (s.size : Int) > 0
  · obtain ⟨r, hr, he⟩ := value_any0 (bt s 0 == 45) s 20 0 0 (by omega) (by omega)
    exact ⟨r, hr, Ev.congr (f := fun k => pledgeref39_value.j0 k s (bt s 0 == 45)) (he.succ (fun k => by rw [pledgeref39_value.j0]; rfl)) (fun k => by rw [if_pos h, if_pos h])⟩
  · obtain ⟨r, hr, he⟩ := value_any0 false s 20 0 0 (by omega) (by omega)
    exact ⟨r, hr, Ev.congr (f := fun k => pledgeref39_value.j0 k s false) (he.succ (fun k => by rw [pledgeref39_value.j0]; rfl)) (fun k => by rw [if_neg h])⟩
theorem at_any (l : List ByteArray) (i : Nat) : ∃ s, pledgeref39_at.f l (i : Int) = some s := by
  by_cases h : i < l.length
  · exact ⟨l[i], at_at (List.getElem?_eq_getElem h)⟩
  · exact ⟨_, at_out (by omega)⟩
/-! ### the hexadecimal digits -/
theorem digit_any (c : Int) : ∃ d, pledgeref39_digit.f c = some d ∧ 0 ≤ d ∧ d < 256 := by
  unfold pledgeref39_digit.f
  split
  · exact ⟨_, rfl, by omega, by omega⟩
  · exact ⟨_, rfl, by omega, by omega⟩
theorem dig16 : ∀ a : Nat, a < 16 → pledgeref39_digit.f ((hexD.getD a 0).toNat : Int) = some (a : Int) := by decide
theorem mul16 (x : Int) (h : 0 ≤ x ∧ x < 256) : (((16 * ((x.toNat / 16 : Nat) : Int)) % 256) + ((x.toNat % 16 : Nat) : Int)) % 256 = x := by omega
theorem rb0 (rest : List Int) : ∀ (pre : List UInt8) (acc : List Int), ByteL rest → acc.length + rest.length ≤ 1000 → pre.length + 2 * rest.length ≤ 10000 → Ev (fun m => pledgeref39_bytes.l0 m (ofL (pre ++ hexL rest)) acc (pre.length : Int)) (acc ++ rest) := by
  induction rest with
  | nil =>
    intro pre acc _ _ hp
    refine Ev.succ (f := fun _ => some (acc ++ [])) (Ev.const rfl) (fun m => ?_)
    rw [pledgeref39_bytes.l0, if_neg (by rw [ofL_size]; simp only [hexL, List.flatMap_nil, List.append_nil, wrap64]; omega), List.append_nil]
  | cons x rest ih =>
    intro pre acc hb ha hp
    have hx0 := hb x (by simp)
    have n1 : x.toNat / 16 < 16 := by omega
    have n2 : x.toNat % 16 < 16 := by omega
    have hh := hexL_len rest
    have el : hexL (x :: rest) = hexD.getD (x.toNat / 16) 0 :: hexD.getD (x.toNat % 16) 0 :: hexL rest := rfl
    generalize hA : hexD.getD (x.toNat / 16) 0 = A at el
    generalize hB : hexD.getD (x.toNat % 16) 0 = B at el
    rw [List.length_cons] at hp ha
    · have ih2 := ih (pre ++ [A, B]) (acc ++ [x]) (fun y hy => hb y (by simp [hy])) (by rw [List.length_append]; show acc.length + 1 + rest.length ≤ _; omega) (by rw [List.length_append]; show pre.length + 2 + _ ≤ _; omega)
      rw [show acc ++ [x] ++ rest = acc ++ x :: rest from by simp, show pre ++ [A, B] ++ hexL rest = pre ++ hexL (x :: rest) from by rw [el]; simp, show (pre ++ [A, B]).length = pre.length + 2 from by simp] at ih2
      have sz : (ofL (pre ++ hexL (x :: rest))).size = pre.length + ((hexL rest).length + 2) := by rw [ofL_size, el]; simp only [List.length_append, List.length_cons]
      have b0 : bt (ofL (pre ++ hexL (x :: rest))) (pre.length : Int) = (A.toNat : Int) := by rw [el, bt_ofL _ _ (by simp)]; simp
      have r1 : (pre.length : Int) + 1 < ((pre.length + ((hexL rest).length + 2) : Nat) : Int) := by omega
      have r2 : (0 : Int) ≤ (pre.length : Int) := by omega
      have r3 : (pre.length : Int) < ((pre.length + ((hexL rest).length + 2) : Nat) : Int) := by omega
      have r4 : (0 : Int) ≤ ((pre.length + 1 : Nat) : Int) := by omega
      have r5 : ((pre.length + 1 : Nat) : Int) < ((pre.length + ((hexL rest).length + 2) : Nat) : Int) := by omega
      have r6 : acc.length < 140737488355328 := by omega
      have e16 := mul16 x hx0
      have w0 : pre.length ≤ 1000000000 := by omega
      have w1 := wr1 pre.length w0
      have w2 := wr2 pre.length w0
      have b1 : bt (ofL (pre ++ hexL (x :: rest))) ((pre.length + 1 : Nat) : Int) = (B.toNat : Int) := by rw [el, bt_ofL _ _ (by simp)]; simp
      have d0 : pledgeref39_digit.f (A.toNat : Int) = some ((x.toNat / 16 : Nat) : Int) := by rw [← hA]; exact dig16 _ n1
      have d1 : pledgeref39_digit.f (B.toNat : Int) = some ((x.toNat % 16 : Nat) : Int) := by rw [← hB]; exact dig16 _ n2
      refine ih2.succ (fun k => ?_)
      rw [pledgeref39_bytes.l0, w1, w2, sz, b0, b1, d0, d1, if_pos r5, if_pos r2, if_pos r3, Option.bind_some, if_pos r4, Option.bind_some, if_pos r6, e16]
theorem cut58 (s : List UInt8) (h : s.length ≤ 100000) : Ev (fun k => pledgeref39_cut.f k (ofL s) 58) ((splitL 58 s).map ofL) := ref_cut 58 s h
theorem cut32 (s : List UInt8) (h : s.length ≤ 100000) : Ev (fun k => pledgeref39_cut.f k (ofL s) 32) ((splitL 32 s).map ofL) := ref_cut 32 s h
theorem cut10 (s : List UInt8) (h : s.length ≤ 100000) : Ev (fun k => pledgeref39_cut.f k (ofL s) 10) ((splitL 10 s).map ofL) := ref_cut 10 s h
theorem rbytes (l : List Int) (hb : ByteL l) (h : l.length ≤ 512) : Ev (fun m => pledgeref39_bytes.f m (ofL (hexL l))) l := by
  have := rb0 l [] [] hb (by simp; omega) (by simp; omega)
  exact this
theorem rasked_l0 (o p : Int) (rest : List S90) : ∀ (pre : List ByteArray) (acc : List S90), (∀ x ∈ rest, LineOk x) → acc.length + rest.length ≤ 1000 → pre.length + rest.length ≤ 1000 →
    Ev (fun m => pledgeref39_asked.l0 m (pre ++ rest.map fun x => ofL (lnW x)) (pre.length : Int) 1 o p acc 0 0 0 0) (1, o, p, acc ++ rest, 0, 0, 0, 0) := by
  induction rest with
  | nil =>
    intro pre acc _ _ _
    refine Ev.succ (f := fun _ => some (1, o, p, acc ++ [], 0, 0, 0, 0)) (Ev.const rfl) (fun m => ?_)
    rw [pledgeref39_asked.l0, if_neg (by simp), List.append_nil]
  | cons x rest ih =>
    intro pre acc hx ha hp
    have hx0 := hx x (by simp)
    rw [List.length_cons] at ha hp
    have r6 : acc.length < 8796093022208 := by omega
    have r7 : acc.length + 1 + rest.length ≤ 1000 := by omega
    have r8 : pre.length + 1 + rest.length ≤ 1000 := by omega
    have r9 : pre.length ≤ 1000000000 := by omega
    have ih2 := ih (pre ++ [ofL (lnW x)]) (acc ++ [x]) (fun y hy => hx y (by simp [hy])) (by rw [List.length_append]; exact r7) (by rw [List.length_append]; exact r8)
    rw [show pre ++ [ofL (lnW x)] ++ rest.map (fun x => ofL (lnW x)) = pre ++ (x :: rest).map (fun x => ofL (lnW x)) from by simp, show acc ++ [x] ++ rest = acc ++ x :: rest from by simp, show (pre ++ [ofL (lnW x)]).length = pre.length + 1 from by simp, ← wr1 pre.length r9] at ih2
    have q1 : (pre.length : Int) < (((pre ++ (x :: rest).map (fun x => ofL (lnW x))).length : Nat) : Int) := by simp only [List.length_append, List.length_map, List.length_cons]; omega
    have q3 : (0 : Int) ≤ (pre.length : Int) := by omega
    have er : rdOf ByteArray.empty (pre ++ (x :: rest).map (fun x => ofL (lnW x))) (pre.length : Int) = ofL (lnW x) := rdB pre (rest.map fun x => ofL (lnW x)) (ofL (lnW x))
    have hc : Ev (fun k => pledgeref39_cut.f k (ofL (lnW x)) 58) [ofL (Lib.itoa x.f0), ofL (Lib.itoa x.f1)] := by
      have := cut58 (lnW x) (by have := lnW_len x hx0; omega)
      rw [show splitL 58 (lnW x) = [Lib.itoa x.f0, Lib.itoa x.f1] from by unfold lnW; rw [splitL_app 58 _ _ (itoa_no58 _), splitL_none 58 _ (itoa_no58 _)]] at this
      exact this
    have v0 := value_itoa x.f0 (u8_64 hx0.1)
    have v1 := value_itoa x.f1 hx0.2
    have m0 : x.f0 % 256 = x.f0 := Int.emod_eq_of_lt hx0.1.1 hx0.1.2
    have rd0 : rdOf ByteArray.empty [ofL (Lib.itoa x.f0), ofL (Lib.itoa x.f1)] 0 = ofL (Lib.itoa x.f0) := rfl
    have at1 : pledgeref39_at.f [ofL (Lib.itoa x.f0), ofL (Lib.itoa x.f1)] 1 = some (ofL (Lib.itoa x.f1)) := at_at (i := 1) rfl
    refine Ev.succ (f := fun k => (pledgeref39_cut.f k (ofL (lnW x)) 58).bind fun t311 => (if 0 < (t311.length : Int) then ((pledgeref39_value.f k (rdOf ByteArray.empty t311 0)).bind fun t315 => ((pledgeref39_at.f t311 1).bind fun t316 => ((pledgeref39_value.f k t316).bind fun t317 => (if acc.length < 8796093022208 then (pledgeref39_asked.l0 k (pre ++ (x :: rest).map (fun x => ofL (lnW x))) (wrap64 ((pre.length : Int) + 1)) 1 o p (acc ++ [(⟨(t315) % 256, t317⟩ : S90)]) 0 0 0 0) else (none))))) else (none))) ?_ (fun k => ?_)
    · refine Ev.bind hc ?_
      refine Ev.congr (f := fun k => (pledgeref39_value.f k (ofL (Lib.itoa x.f0))).bind fun t315 => ((pledgeref39_value.f k (ofL (Lib.itoa x.f1))).bind fun t317 => (pledgeref39_asked.l0 k (pre ++ (x :: rest).map (fun x => ofL (lnW x))) (wrap64 ((pre.length : Int) + 1)) 1 o p (acc ++ [(⟨(t315) % 256, t317⟩ : S90)]) 0 0 0 0))) ?_ (fun k => ?_)
      · refine Ev.bind v0 (Ev.bind v1 ?_)
        rw [m0]
        exact ih2
      · rw [if_pos (by simp), rd0, at1]
        simp only [Option.bind_some, if_pos r6]
    · rw [pledgeref39_asked.l0, if_pos q1, if_pos q3, er]
/-- What is told behind the first three words. -/
def askedB (k : Nat) (l0 : List ByteArray) (t303 t305 t307 : Int) : Option (Int × Int × Int × (List (S90)) × Int × Int × Int × Int) := if 0 < (l0.length : Int) then (if (rdOf ByteArray.empty l0 0).toList = wPlace then (pledgeref39_asked.l0 k l0 3 1 ((t303) % 4294967296) ((t305) % 256) ([] : List (S90)) 0 0 0 0) else (if (rdOf ByteArray.empty l0 0).toList = wCancel then (some (2, (t303) % 4294967296, 0, ([] : List (S90)), 0, 0, 0, 0)) else (if (rdOf ByteArray.empty l0 0).toList = wShip then (some (3, (t303) % 4294967296, 0, ([] : List (S90)), 0, 0, 0, 0)) else (if (rdOf ByteArray.empty l0 0).toList = wReturn then (some (4, (t303) % 4294967296, 0, ([] : List (S90)), 0, 0, 0, 0)) else (if (rdOf ByteArray.empty l0 0).toList = wRestock then (some (5, 0, 0, ([] : List (S90)), (t303) % 256, 0, (t305) % 256, t307)) else (if (rdOf ByteArray.empty l0 0).toList = wTransfer then ((pledgeref39_at.f l0 4).bind fun t321 => ((pledgeref39_value.f k t321).bind fun t322 => (some (6, 0, 0, ([] : List (S90)), (t303) % 256, (t305) % 256, (t307) % 256, t322)))) else (if (rdOf ByteArray.empty l0 0).toList = wQuery then (some (7, 0, 0, ([] : List (S90)), (t303) % 256, 0, 0, 0)) else (some (0, 0, 0, ([] : List (S90)), 0, 0, 0, 0))))))))) else (none)
/-- A word's number, if there is that word. -/
def Val (l : List ByteArray) (i : Nat) (v : Int) : Prop := I64 v ∧ ∃ s, pledgeref39_at.f l (i : Int) = some s ∧ Ev (fun k => pledgeref39_value.f k s) v
theorem val_any (l : List ByteArray) (i : Nat) : ∃ v, Val l i v := by
  obtain ⟨s, hs⟩ := at_any l i
  obtain ⟨v, hv, he⟩ := value_any s
  exact ⟨v, hv, s, hs, he⟩
theorem val_itoa {l : List ByteArray} {i : Nat} {n : Int} (hn : I64 n) (h : l[i]? = some (ofL (Lib.itoa n))) : Val l i n := ⟨hn, _, at_at h, value_itoa n hn⟩
theorem asked_open {l : List ByteArray} {v1 v2 v3 : Int} (h1 : Val l 1 v1) (h2 : Val l 2 v2) (h3 : Val l 3 v3) {R : Int × Int × Int × (List (S90)) × Int × Int × Int × Int} (h : Ev (fun k => askedB k l v1 v2 v3) R) : Ev (fun k => pledgeref39_asked.f k l) R := by
  obtain ⟨_, s1, a1, e1⟩ := h1
  obtain ⟨_, s2, a2, e2⟩ := h2
  obtain ⟨_, s3, a3, e3⟩ := h3
  unfold pledgeref39_asked.f
  refine Ev.bind (Ev.const a1) (Ev.bind e1 (Ev.bind (Ev.const a2) (Ev.bind e2 (Ev.bind (Ev.const a3) (Ev.bind e3 h)))))
theorem ref_asked {k o p : Int} {l : List S90} {s f t q : Int} (h : RqOk k o p l s f t q) (hs : Shape k o p l s f t q) : Ev (fun m => pledgeref39_asked.f m (askWB k o p l s f t q)) (k, o, p, l, s, f, t, q) := by
  have io := u32_64 h.hO
  have ip := u8_64 h.hP
  have is_ := u8_64 h.hS
  have if_ := u8_64 h.hF
  have it := u8_64 h.hT
  have iq := h.hQ
  have eo : o % 4294967296 = o := Int.emod_eq_of_lt h.hO.1 h.hO.2
  have ep : p % 256 = p := Int.emod_eq_of_lt h.hP.1 h.hP.2
  have es : s % 256 = s := Int.emod_eq_of_lt h.hS.1 h.hS.2
  have ef : f % 256 = f := Int.emod_eq_of_lt h.hF.1 h.hF.2
  have et : t % 256 = t := Int.emod_eq_of_lt h.hT.1 h.hT.2
  have hL := h.hL
  have hN := h.hN
  have h0 : ∀ (w : List UInt8) (r : List ByteArray), rdOf ByteArray.empty (ofL w :: r) 0 = ofL w := fun _ _ => rfl
  have hlen : ∀ (w : ByteArray) (r : List ByteArray), (0 : Int) < ((w :: r).length : Int) := fun w r => by simp only [List.length_cons]; omega
  unfold askWB
  rcases hs with ⟨rfl, rfl, rfl, rfl, rfl⟩ | ⟨hk, rfl, rfl, rfl, rfl, rfl, rfl⟩ | ⟨rfl, rfl, rfl, rfl, rfl⟩ | ⟨rfl, rfl, rfl, rfl⟩ | ⟨rfl, rfl, rfl, rfl, rfl, rfl, rfl⟩
  · have e : ((askW 1 o p l 0 0 0 0).1 :: (askW 1 o p l 0 0 0 0).2).map ofL = [ofL wPlace, ofL (Lib.itoa o), ofL (Lib.itoa p)] ++ (l.map fun x => ofL (lnW x)) := by simp [askW, List.map_map, Function.comp_def]
    rw [e]
    obtain ⟨v3, h3⟩ := val_any ([ofL wPlace, ofL (Lib.itoa o), ofL (Lib.itoa p)] ++ (l.map fun x => ofL (lnW x))) 3
    refine asked_open (val_itoa (i := 1) io rfl) (val_itoa (i := 2) ip rfl) h3 ?_
    have hl := rasked_l0 o p l [ofL wPlace, ofL (Lib.itoa o), ofL (Lib.itoa p)] [] hL (by simp; omega) (by simp; omega)
    refine hl.congr (fun m => ?_)
    unfold askedB
    rw [show [ofL wPlace, ofL (Lib.itoa o), ofL (Lib.itoa p)] ++ (l.map fun x => ofL (lnW x)) = ofL wPlace :: ([ofL (Lib.itoa o), ofL (Lib.itoa p)] ++ (l.map fun x => ofL (lnW x))) from rfl, if_pos (hlen _ _), h0, ofL_toList, if_pos rfl, eo, ep]
    rfl
  · have go : ∀ w : List UInt8, Val [ofL w, ofL (Lib.itoa o)] 1 o := fun w => val_itoa (i := 1) io rfl
    rcases hk with rfl | rfl | rfl
    · obtain ⟨v2, h2⟩ := val_any [ofL wCancel, ofL (Lib.itoa o)] 2
      obtain ⟨v3, h3⟩ := val_any [ofL wCancel, ofL (Lib.itoa o)] 3
      refine asked_open (l := [ofL wCancel, ofL (Lib.itoa o)]) (go _) h2 h3 ⟨0, fun m _ => ?_⟩
      dsimp only
      unfold askedB
      rw [if_pos (hlen _ _), h0, ofL_toList, if_neg (by decide), if_pos rfl, eo]
    · obtain ⟨v2, h2⟩ := val_any [ofL wShip, ofL (Lib.itoa o)] 2
      obtain ⟨v3, h3⟩ := val_any [ofL wShip, ofL (Lib.itoa o)] 3
      refine asked_open (l := [ofL wShip, ofL (Lib.itoa o)]) (go _) h2 h3 ⟨0, fun m _ => ?_⟩
      dsimp only
      unfold askedB
      rw [if_pos (hlen _ _), h0, ofL_toList, if_neg (by decide), if_neg (by decide), if_pos rfl, eo]
    · obtain ⟨v2, h2⟩ := val_any [ofL wReturn, ofL (Lib.itoa o)] 2
      obtain ⟨v3, h3⟩ := val_any [ofL wReturn, ofL (Lib.itoa o)] 3
      refine asked_open (l := [ofL wReturn, ofL (Lib.itoa o)]) (go _) h2 h3 ⟨0, fun m _ => ?_⟩
      dsimp only
      unfold askedB
      rw [if_pos (hlen _ _), h0, ofL_toList, if_neg (by decide), if_neg (by decide), if_neg (by decide), if_pos rfl, eo]
  · refine asked_open (l := [ofL wRestock, ofL (Lib.itoa s), ofL (Lib.itoa t), ofL (Lib.itoa q)]) (val_itoa (i := 1) is_ rfl) (val_itoa (i := 2) it rfl) (val_itoa (i := 3) iq rfl) ⟨0, fun m _ => ?_⟩
    dsimp only
    unfold askedB
    rw [if_pos (hlen _ _), h0, ofL_toList, if_neg (by decide), if_neg (by decide), if_neg (by decide), if_neg (by decide), if_pos rfl, es, et]
  · refine asked_open (l := [ofL wTransfer, ofL (Lib.itoa s), ofL (Lib.itoa f), ofL (Lib.itoa t), ofL (Lib.itoa q)]) (val_itoa (i := 1) is_ rfl) (val_itoa (i := 2) if_ rfl) (val_itoa (i := 3) it rfl) ?_
    unfold askedB
    refine Ev.congr (f := fun m => (pledgeref39_value.f m (ofL (Lib.itoa q))).bind fun t322 => (some (6, 0, 0, ([] : List (S90)), s, f, t, t322))) (Ev.bind (value_itoa q iq) (Ev.const rfl)) (fun m => ?_)
    rw [if_pos (hlen _ _), h0, ofL_toList, if_neg (by decide), if_neg (by decide), if_neg (by decide), if_neg (by decide), if_neg (by decide), if_pos rfl, es, ef, et, show pledgeref39_at.f [ofL wTransfer, ofL (Lib.itoa s), ofL (Lib.itoa f), ofL (Lib.itoa t), ofL (Lib.itoa q)] 4 = some (ofL (Lib.itoa q)) from at_at (i := 4) rfl, Option.bind_some]
  · obtain ⟨v2, h2⟩ := val_any [ofL wQuery, ofL (Lib.itoa s)] 2
    obtain ⟨v3, h3⟩ := val_any [ofL wQuery, ofL (Lib.itoa s)] 3
    refine asked_open (l := [ofL wQuery, ofL (Lib.itoa s)]) (val_itoa (i := 1) is_ rfl) h2 h3 ⟨0, fun m _ => ?_⟩
    dsimp only
    unfold askedB
    rw [if_pos (hlen _ _), h0, ofL_toList, if_neg (by decide), if_neg (by decide), if_neg (by decide), if_neg (by decide), if_neg (by decide), if_neg (by decide), if_pos rfl, es]
/-! ### the guess -/
def wAskR : Nat → List ByteArray → Option (Int × Int × Int × Int × List Int) := fun k l0 => (pledgeref39_asked.f k l0).bind fun bt407 => ((pledgeref34_Plain.f bt407.1 bt407.2.1 bt407.2.2.1 bt407.2.2.2.1 bt407.2.2.2.2.1 bt407.2.2.2.2.2.1 bt407.2.2.2.2.2.2.1 bt407.2.2.2.2.2.2.2).bind fun t418 => (if t418 = true then ((pledgeref34_Bytes.f k bt407.1 bt407.2.1 bt407.2.2.1 bt407.2.2.2.1 bt407.2.2.2.2.1 bt407.2.2.2.2.2.1 bt407.2.2.2.2.2.2.1 bt407.2.2.2.2.2.2.2).bind fun t419 => (some (1, 0, 0, 0, t419))) else (some (0, 0, 0, 0, ([] : List Int)))))
def guessB (k : Nat) (l0 : List ByteArray) (w : List UInt8) (t399 : Int) : Option (Int × Int × Int × Int × List Int) := if w = wPick then (some (2, (t399) % 4294967296, 0, 0, ([] : List Int))) else (if w = wKill then (some (3, (t399) % 4294967296, 0, 0, ([] : List Int))) else (if w = wWrite then (some (4, 0, 0, 0, ([] : List Int))) else (if w = wSync then (some (5, 0, 0, 0, ([] : List Int))) else (if w = wCkpt then (some (6, 0, 0, 0, ([] : List Int))) else (if w = wCrash then ((pledgeref39_at.f l0 2).bind fun t401 => ((pledgeref39_value.f k t401).bind fun t402 => (some (7, 0, t399, t402, ([] : List Int))))) else (if w = wBoot then (some (8, 0, 0, 0, ([] : List Int))) else (if w = wAsk then ((pledgeref39_at.f l0 1).bind fun t403 => ((pledgeref39_bytes.f k t403).bind fun t404 => (some (1, 0, 0, 0, t404)))) else wAskR k l0)))))))
theorem guess_open {l : List ByteArray} {w : List UInt8} {r : List ByteArray} (hl : l = ofL w :: r) {v1 : Int} (h1 : Val l 1 v1) {R : Int × Int × Int × Int × List Int} (h : Ev (fun k => guessB k l w v1) R) : Ev (fun k => pledgeref39_guess.f k l) R := by
  obtain ⟨_, s1, a1, e1⟩ := h1
  have h0 : rdOf ByteArray.empty l 0 = ofL w := by rw [hl]; rfl
  have hlen : (0 : Int) < (l.length : Int) := by rw [hl]; simp only [List.length_cons]; omega
  unfold pledgeref39_guess.f
  refine Ev.bind (Ev.const a1) (Ev.bind e1 (h.congr (fun k => ?_)))
  rw [if_pos hlen, h0, ofL_toList]
  rfl
theorem ask_words2 : ∀ w ∈ [wPlace, wCancel, wShip, wReturn, wRestock, wTransfer, wQuery], ¬ w = wPick ∧ ¬ w = wKill ∧ ¬ w = wWrite ∧ ¬ w = wSync ∧ ¬ w = wCkpt ∧ ¬ w = wCrash ∧ ¬ w = wBoot ∧ ¬ w = wAsk := by decide
theorem ref_guess_back {k g p t : Int} {l : List Int} (h : GoodP k g p t l) (hb : ByteL l) (hg : 0 ≤ g ∧ g < 4294967296) : Ev (fun m => pledgeref39_guess.f m ((splitL 32 (lineT k g p t l)).map ofL)) (k, g, p, t, l) := by
  obtain ⟨hk, hl0, hl, hg0, hpt⟩ := h
  have eg : g % 4294967296 = g := Int.emod_eq_of_lt hg.1 hg.2
  obtain rfl | rfl | rfl | rfl | rfl | rfl | rfl | rfl : k = 1 ∨ k = 2 ∨ k = 3 ∨ k = 4 ∨ k = 5 ∨ k = 6 ∨ k = 7 ∨ k = 8 := by omega
  · obtain rfl : g = 0 := by omega
    obtain ⟨rfl, rfl⟩ : p = 0 ∧ t = 0 := by omega
    show Ev (fun m => pledgeref39_guess.f m ((splitL 32 (askedT l)).map ofL)) (1, 0, 0, 0, l)
    by_cases hd : (request_Decode.decF l).2.2.2.2.2.2.2.2 = 0
    · obtain ⟨k, o, p, ls, s, f, t, q, hq, ha⟩ := askedT_ok hd
      obtain ⟨hr, he, hs⟩ := dec_ok hb hq
      have hp := ref_plain_ok hr hs
      have hA := ref_asked hr hs
      have hB := ref_bytes hr
      unfold askWB at hA
      rw [he] at hB
      rw [ha, ask_split]
      have hw := ask_words2 _ (askW_first k o p ls s f t q)
      generalize (askW k o p ls s f t q).1 = W1 at *
      generalize (askW k o p ls s f t q).2 = W2 at *
      obtain ⟨v1, h1⟩ := val_any ((W1 :: W2).map ofL) 1
      refine guess_open (w := W1) (r := W2.map ofL) rfl h1 ?_
      unfold guessB
      simp only [if_neg hw.1, if_neg hw.2.1, if_neg hw.2.2.1, if_neg hw.2.2.2.1, if_neg hw.2.2.2.2.1, if_neg hw.2.2.2.2.2.1, if_neg hw.2.2.2.2.2.2.1, if_neg hw.2.2.2.2.2.2.2]
      unfold wAskR
      refine Ev.bind hA (Ev.bind (Ev.const hp) ?_)
      simp only [if_pos (show true = true from rfl)]
      exact Ev.bind hB (Ev.const rfl)
    · unfold askedT
      rw [if_neg hd]
      by_cases hz : l.length = 0
      · obtain rfl := List.eq_nil_of_length_eq_zero hz
        rw [if_pos hz, splitL_none 32 wAsk (by decide)]
        obtain ⟨v1, h1⟩ := val_any ([wAsk].map ofL) 1
        refine guess_open (w := wAsk) (r := []) rfl h1 ?_
        unfold guessB
        refine Ev.congr (f := fun m => (pledgeref39_at.f ([wAsk].map ofL) 1).bind fun t403 => ((pledgeref39_bytes.f m t403).bind fun t404 => (some (1, 0, 0, 0, t404)))) ?_ (fun m => by rw [if_neg (by decide), if_neg (by decide), if_neg (by decide), if_neg (by decide), if_neg (by decide), if_neg (by decide), if_neg (by decide), if_pos rfl]; rfl)
        exact Ev.bind (Ev.const (at_out (by simp))) (Ev.bind (rbytes [] hb (by simp)) (Ev.const rfl))
      · rw [if_neg hz, show askB ++ hexL l = wAsk ++ [hexL l].flatMap (fun t => 32 :: t) from by simp [askB, wAsk], split_tok 32 [hexL l] wAsk (by decide) (fun t ht => by simp at ht; subst ht; exact hexL_no32 l)]
        obtain ⟨v1, h1⟩ := val_any ([wAsk, hexL l].map ofL) 1
        refine guess_open (w := wAsk) (r := [ofL (hexL l)]) rfl h1 ?_
        unfold guessB
        refine Ev.congr (f := fun m => (pledgeref39_at.f ([wAsk, hexL l].map ofL) 1).bind fun t403 => ((pledgeref39_bytes.f m t403).bind fun t404 => (some (1, 0, 0, 0, t404)))) ?_ (fun m => by rw [if_neg (by decide), if_neg (by decide), if_neg (by decide), if_neg (by decide), if_neg (by decide), if_neg (by decide), if_neg (by decide), if_pos rfl]; rfl)
        exact Ev.bind (Ev.const (at_at (i := 1) rfl)) (Ev.bind (rbytes l hb hl) (Ev.const rfl))
  all_goals
    have hn : l = [] := List.eq_nil_of_length_eq_zero (by omega)
    subst hn
  · obtain ⟨rfl, rfl⟩ : p = 0 ∧ t = 0 := by omega
    have e : splitL 32 (lineT 2 g 0 0 []) = [wPick, Lib.itoa g] := by
      have := split_tok 32 [Lib.itoa g] wPick (by decide) (fun t ht => by simp at ht; subst ht; exact itoa_no32 _)
      simpa [lineT, nm] using this
    rw [e]
    refine guess_open (l := [wPick, Lib.itoa g].map ofL) (w := wPick) rfl (val_itoa (i := 1) (u32_64 hg) rfl) ⟨0, fun m _ => ?_⟩
    dsimp only
    unfold guessB
    rw [if_pos rfl, eg]
  · obtain ⟨rfl, rfl⟩ : p = 0 ∧ t = 0 := by omega
    have e : splitL 32 (lineT 3 g 0 0 []) = [wKill, Lib.itoa g] := by
      have := split_tok 32 [Lib.itoa g] wKill (by decide) (fun t ht => by simp at ht; subst ht; exact itoa_no32 _)
      simpa [lineT, nm] using this
    rw [e]
    refine guess_open (l := [wKill, Lib.itoa g].map ofL) (w := wKill) rfl (val_itoa (i := 1) (u32_64 hg) rfl) ⟨0, fun m _ => ?_⟩
    dsimp only
    unfold guessB
    rw [if_neg (by decide), if_pos rfl, eg]
  · obtain ⟨rfl, rfl, rfl⟩ : p = 0 ∧ t = 0 ∧ g = 0 := by omega
    obtain ⟨v1, h1⟩ := val_any ([wWrite].map ofL) 1
    exact guess_open (l := [wWrite].map ofL) (w := wWrite) rfl h1 ⟨0, fun m _ => rfl⟩
  · obtain ⟨rfl, rfl, rfl⟩ : p = 0 ∧ t = 0 ∧ g = 0 := by omega
    obtain ⟨v1, h1⟩ := val_any ([wSync].map ofL) 1
    exact guess_open (l := [wSync].map ofL) (w := wSync) rfl h1 ⟨0, fun m _ => rfl⟩
  · obtain ⟨rfl, rfl, rfl⟩ : p = 0 ∧ t = 0 ∧ g = 0 := by omega
    obtain ⟨v1, h1⟩ := val_any ([wCkpt].map ofL) 1
    exact guess_open (l := [wCkpt].map ofL) (w := wCkpt) rfl h1 ⟨0, fun m _ => rfl⟩
  · obtain rfl : g = 0 := by omega
    have ip : I64 p := by unfold I64; omega
    have it : I64 t := by unfold I64; omega
    have e : splitL 32 (lineT 7 0 p t []) = [wCrash, Lib.itoa p, Lib.itoa t] := by
      have := split_tok 32 [Lib.itoa p, Lib.itoa t] wCrash (by decide) (fun x hx => by simp at hx; rcases hx with rfl | rfl <;> exact itoa_no32 _)
      simpa [lineT, nm] using this
    rw [e]
    refine guess_open (l := [wCrash, Lib.itoa p, Lib.itoa t].map ofL) (w := wCrash) rfl (val_itoa (i := 1) ip rfl) ?_
    unfold guessB
    refine Ev.congr (f := fun m => (pledgeref39_at.f ([wCrash, Lib.itoa p, Lib.itoa t].map ofL) 2).bind fun t401 => ((pledgeref39_value.f m t401).bind fun t402 => (some (7, 0, p, t402, ([] : List Int))))) ?_ (fun m => by rw [if_neg (by decide), if_neg (by decide), if_neg (by decide), if_neg (by decide), if_neg (by decide), if_pos rfl])
    exact Ev.bind (Ev.const (at_at (i := 2) rfl)) (Ev.bind (value_itoa t it) (Ev.const rfl))
  · obtain ⟨rfl, rfl, rfl⟩ : p = 0 ∧ t = 0 ∧ g = 0 := by omega
    obtain ⟨v1, h1⟩ := val_any ([wBoot].map ofL) 1
    exact guess_open (l := [wBoot].map ofL) (w := wBoot) rfl h1 ⟨0, fun m _ => rfl⟩
/-- Words of a text that is not too long. -/
structure Wds (W : List (List UInt8)) : Prop where
  hW : ∀ x ∈ W, x.length ≤ 100000
  hN : W.length ≤ 100001
theorem splitL_sizes (c : UInt8) : ∀ s : List UInt8, (∀ x ∈ splitL c s, x.length ≤ s.length) ∧ (splitL c s).length ≤ s.length + 1
  | [] => by simp [splitL]
  | a :: s => by
    obtain ⟨h1, h2⟩ := splitL_sizes c s
    unfold splitL
    split
    · refine ⟨fun x hx => ?_, by simp only [List.length_cons]; omega⟩
      rcases List.mem_cons.1 hx with rfl | hx
      · simp
      · have := h1 x hx
        simp only [List.length_cons]
        omega
    · cases hq : splitL c s with
      | nil => exact ⟨fun x hx => by simp at hx; subst hx; simp, by simp⟩
      | cons y r =>
        rw [hq] at h1 h2
        refine ⟨fun x hx => ?_, by simp only [List.length_cons] at h2 ⊢; omega⟩
        rcases List.mem_cons.1 hx with rfl | hx
        · have := h1 y (by simp)
          simp only [List.length_cons]
          omega
        · have := h1 x (by simp [hx])
          simp only [List.length_cons]
          omega
theorem splitL_wds (c : UInt8) (s : List UInt8) (h : s.length ≤ 100000) : Wds (splitL c s) := by
  obtain ⟨h1, h2⟩ := splitL_sizes c s
  exact ⟨fun x hx => by have := h1 x hx; omega, by omega⟩
theorem rdW (W : List (List UInt8)) (i : Nat) (h : i < W.length) : rdOf ByteArray.empty (W.map ofL) (i : Int) = ofL W[i] := by
  simp [rdOf, List.getD_eq_getElem?_getD, List.getElem?_eq_getElem h]
theorem number_any {W : List (List UInt8)} (h : Wds W) (i : Nat) : ∃ n, words_number.f (W.map ofL) (i : Int) = some n := by
  by_cases hi : i < W.length
  · unfold words_number.f
    have := h.hW _ (List.getElem_mem hi)
    rw [if_neg (by rw [List.length_map]; omega), rdW W i hi, if_pos ⟨by omega, by rw [ofL_size]; omega⟩]
    exact ⟨_, rfl⟩
  · exact ⟨0, number_out (by rw [List.length_map]; omega)⟩
def U8L (l : List S90) : Prop := ∀ x ∈ l, 0 ≤ x.f0 ∧ x.f0 < 256
theorem asked_any0 (n o p : Int) (rest : List (List UInt8)) : ∀ (pre : List (List UInt8)) (acc : List S90), (∀ x ∈ rest, x.length ≤ 100000) → U8L acc → acc.length + rest.length ≤ 1000000 → n = (((pre ++ rest).map ofL).length : Int) → pre.length + rest.length ≤ 1000000 →
    ∃ ls, U8L ls ∧ Ev (fun m => words_asked.l0 m ((pre ++ rest).map ofL) n (pre.length : Int) 1 o p acc 0 0 0 0) (1, o, p, ls, 0, 0, 0, 0) := by
  induction rest with
  | nil =>
    intro pre acc _ hu _ hn _
    refine ⟨acc, hu, Ev.succ (f := fun _ => some (1, o, p, acc, 0, 0, 0, 0)) (Ev.const rfl) (fun m => ?_)⟩
    rw [words_asked.l0, if_neg (by rw [hn]; simp)]
  | cons x rest ih =>
    intro pre acc hx hu ha hn hp
    rw [List.length_cons] at ha hp
    have hx0 := hx x (by simp)
    have wd := splitL_wds 58 x hx0
    obtain ⟨n0, h0⟩ := number_any wd 0
    obtain ⟨n1, h1⟩ := number_any wd 1
    have q4 : acc.length < 8796093022208 := by omega
    have q5 : acc.length + 1 + rest.length ≤ 1000000 := by omega
    have q6 : pre.length + 1 + rest.length ≤ 1000000 := by omega
    have q7 : pre.length ≤ 1000000000 := by omega
    have q1 : (pre.length : Int) < n := by rw [hn]; simp only [List.length_map, List.length_append, List.length_cons]; omega
    have q2 : (pre.length : Int) < (((pre ++ x :: rest).map ofL).length : Int) := by simp only [List.length_map, List.length_append, List.length_cons]; omega
    have q3 : (0 : Int) ≤ (pre.length : Int) := by omega
    have q8 : 0 ≤ n0 % 256 ∧ n0 % 256 < 256 := by omega
    obtain ⟨ls, hls, he⟩ := ih (pre ++ [x]) (acc ++ [⟨n0 % 256, n1⟩]) (fun y hy => hx y (by simp [hy])) (fun y hy => by
      rcases List.mem_append.1 hy with hy | hy
      · exact hu y hy
      · simp only [List.mem_singleton] at hy; subst hy; exact q8) (by rw [List.length_append]; exact q5) (by rw [List.append_assoc]; exact hn) (by rw [List.length_append]; exact q6)
    rw [List.append_assoc, List.singleton_append, show (pre ++ [x]).length = pre.length + 1 from by simp, ← wr1 pre.length q7] at he
    have er : rdOf ByteArray.empty ((pre ++ x :: rest).map ofL) (pre.length : Int) = ofL x := by
      rw [rdW _ _ (by simp)]
      simp
    have hs : strings_Split.f (ofL x) (⟨#[58]⟩ : ByteArray) = some ((splitL 58 x).map ofL) := prog_split 58 x (by omega)
    refine ⟨ls, hls, he.succ (fun k => ?_)⟩
    rw [words_asked.l0, if_pos q1, if_pos q3, if_pos q2, er, hs, Option.bind_some, show ((0 : Int)) = ((0 : Nat) : Int) from rfl, h0, Option.bind_some, show ((1 : Int)) = ((1 : Nat) : Int) from rfl, h1, Option.bind_some, if_pos q4]
/-- The ranges that a reading keeps. -/
structure RqW (k o p : Int) (l : List S90) (s f t : Int) : Prop where
  hK : 0 ≤ k ∧ k < 256
  hO : 0 ≤ o ∧ o < 4294967296
  hP : 0 ≤ p ∧ p < 256
  hL : U8L l
  hS : 0 ≤ s ∧ s < 256
  hF : 0 ≤ f ∧ f < 256
  hT : 0 ≤ t ∧ t < 256
theorem u8l_nil : U8L [] := fun x hx => by simp at hx
theorem asked_any {w : List UInt8} {r : List (List UInt8)} (h : Wds (w :: r)) : ∃ k o p l s f t q, RqW k o p l s f t ∧ Ev (fun m => words_asked.f m ((w :: r).map ofL)) (k, o, p, l, s, f, t, q) := by
  obtain ⟨n1, h1⟩ := number_any h 1
  obtain ⟨n2, h2⟩ := number_any h 2
  obtain ⟨n3, h3⟩ := number_any h 3
  obtain ⟨n4, h4⟩ := number_any h 4
  replace h1 : words_number.f ((w :: r).map ofL) 1 = some n1 := h1
  replace h2 : words_number.f ((w :: r).map ofL) 2 = some n2 := h2
  replace h3 : words_number.f ((w :: r).map ofL) 3 = some n3 := h3
  replace h4 : words_number.f ((w :: r).map ofL) 4 = some n4 := h4
  have h0 : rdOf ByteArray.empty ((w :: r).map ofL) 0 = ofL w := rfl
  have hlen : (0 : Int) < (((w :: r).map ofL).length : Int) := by simp only [List.map_cons, List.length_cons]; omega
  have m32 : ∀ n : Int, 0 ≤ n % 4294967296 ∧ n % 4294967296 < 4294967296 := fun n => by omega
  have m8 : ∀ n : Int, 0 ≤ n % 256 ∧ n % 256 < 256 := fun n => by omega
  have z8 : (0 : Int) ≤ 0 ∧ (0 : Int) < 256 := by omega
  have z32 : (0 : Int) ≤ 0 ∧ (0 : Int) < 4294967296 := by omega
  have hsz : (w :: r).length ≤ 100001 := h.hN
  have hws := h.hW
  unfold words_asked.f
  simp only [h1, h2, h3, h4, Option.bind_some, if_pos hlen, h0, ofL_toList]
  by_cases e1 : w = ([112, 108, 97, 99, 101] : List UInt8)
  · simp only [if_pos e1]
    have hm : ∃ j : Nat, mn 3 (((w :: r).map ofL).length : Int) = (j : Int) ∧ j ≤ (w :: r).length := by
      unfold mn
      rw [List.length_map]
      split
      · exact ⟨_, rfl, Nat.le_refl _⟩
      · exact ⟨3, rfl, by omega⟩
    obtain ⟨j, hj, hjl⟩ := hm
    have hdrop : ((w :: r).map ofL).drop (j : Int).toNat = ((w :: r).drop j).map ofL := by rw [Int.toNat_natCast, List.map_drop]
    rw [hj]
    have q1 : (0 : Int) ≤ (j : Int) := by omega
    have q2 : (j : Int) ≤ (((w :: r).map ofL).length : Int) := by rw [List.length_map]; omega
    simp only [if_pos q1, if_pos q2, hdrop]
    obtain ⟨ls, hls, he⟩ := asked_any0 ((((w :: r).drop j).map ofL).length : Int) (n1 % 4294967296) (n2 % 256) ((w :: r).drop j) [] [] (fun x hx => hws x (List.mem_of_mem_drop hx)) u8l_nil (by rw [List.length_drop]; show 0 + _ ≤ _; omega) rfl (by rw [List.length_drop]; show 0 + _ ≤ _; omega)
    exact ⟨_, _, _, _, _, _, _, _, ⟨by omega, m32 _, m8 _, hls, z8, z8, z8⟩, he⟩
  simp only [if_neg e1]
  by_cases e2 : w = ([99, 97, 110, 99, 101, 108] : List UInt8)
  · simp only [if_pos e2]
    exact ⟨_, _, _, _, _, _, _, _, ⟨by omega, m32 _, z8, u8l_nil, z8, z8, z8⟩, Ev.const rfl⟩
  simp only [if_neg e2]
  by_cases e3 : w = ([115, 104, 105, 112] : List UInt8)
  · simp only [if_pos e3]
    exact ⟨_, _, _, _, _, _, _, _, ⟨by omega, m32 _, z8, u8l_nil, z8, z8, z8⟩, Ev.const rfl⟩
  simp only [if_neg e3]
  by_cases e4 : w = ([114, 101, 116, 117, 114, 110] : List UInt8)
  · simp only [if_pos e4]
    exact ⟨_, _, _, _, _, _, _, _, ⟨by omega, m32 _, z8, u8l_nil, z8, z8, z8⟩, Ev.const rfl⟩
  simp only [if_neg e4]
  by_cases e5 : w = ([114, 101, 115, 116, 111, 99, 107] : List UInt8)
  · simp only [if_pos e5]
    exact ⟨_, _, _, _, _, _, _, _, ⟨by omega, z32, z8, u8l_nil, m8 _, z8, m8 _⟩, Ev.const rfl⟩
  simp only [if_neg e5]
  by_cases e6 : w = ([116, 114, 97, 110, 115, 102, 101, 114] : List UInt8)
  · simp only [if_pos e6]
    exact ⟨_, _, _, _, _, _, _, _, ⟨by omega, z32, z8, u8l_nil, m8 _, m8 _, m8 _⟩, Ev.const rfl⟩
  simp only [if_neg e6]
  by_cases e7 : w = ([113, 117, 101, 114, 121] : List UInt8)
  · simp only [if_pos e7]
    exact ⟨_, _, _, _, _, _, _, _, ⟨by omega, z32, z8, u8l_nil, m8 _, z8, z8⟩, Ev.const rfl⟩
  simp only [if_neg e7]
  exact ⟨_, _, _, _, _, _, _, _, ⟨by omega, z32, z8, u8l_nil, z8, z8, z8⟩, Ev.const rfl⟩
theorem plain_any (k o p : Int) (l : List S90) (s f t q : Int) : ∃ b, request_Plain.f 2 k o p l s f t q = some b ∧ (b = true → (1 ≤ k ∧ k ≤ 7) ∧ l.length ≤ 3) := by
  have j1 : ∀ x, ∃ b, request_Plain.j1 1 x k o p l s f t q = some b := fun x => by
    simp only [request_Plain.j1]
    unfold request_ordered.f request_moved.f
    repeat' (first | exact ⟨_, rfl⟩ | rw [Option.bind_some] | split)
  have j0 : ∀ x, ∃ b, request_Plain.j0 2 x k o p l s f t q = some b ∧ (x = true → b = false) := fun x => by
    simp only [request_Plain.j0]
    by_cases hx : x = true
    · rw [if_pos hx]; exact ⟨_, rfl, fun _ => rfl⟩
    · rw [if_neg hx]
      repeat' split
      all_goals (first | (obtain ⟨b, hb⟩ := j1 false; exact ⟨b, hb, fun h => absurd h hx⟩) | (obtain ⟨b, hb⟩ := j1 true; exact ⟨b, hb, fun h => absurd h hx⟩) | (obtain ⟨b, hb⟩ := j1 (f != 0); exact ⟨b, hb, fun h => absurd h hx⟩))
  unfold request_Plain.f
  by_cases h1 : k < 1
  · rw [if_pos h1]
    obtain ⟨b, hb, h2⟩ := j0 true
    exact ⟨b, hb, fun h => by rw [h2 rfl] at h; cases h⟩
  rw [if_neg h1]
  by_cases h7 : k > 7
  · rw [if_pos h7]
    obtain ⟨b, hb, h2⟩ := j0 true
    exact ⟨b, hb, fun h => by rw [h2 rfl] at h; cases h⟩
  rw [if_neg h7]
  obtain ⟨b, hb, h2⟩ := j0 (decide ((l.length : Int) > 3))
  refine ⟨b, hb, fun h => ⟨by omega, ?_⟩⟩
  by_cases h3 : (l.length : Int) > 3
  · rw [h2 (decide_eq_true h3)] at h; cases h
  · omega
theorem wB_bytes (x : Int) (n : Nat) : ByteL (wB x n) := fun b hb => by
  unfold wB at hb
  obtain ⟨j, _, rfl⟩ := List.mem_map.1 hb
  exact ⟨Int.emod_nonneg _ (by decide), Int.emod_lt_of_pos _ (by decide)⟩
theorem byteL_app {a b : List Int} (ha : ByteL a) (hb : ByteL b) : ByteL (a ++ b) := fun x hx => by
  rcases List.mem_append.1 hx with h | h
  · exact ha x h
  · exact hb x h
theorem byteL_cons {a : Int} {b : List Int} (ha : 0 ≤ a ∧ a < 256) (hb : ByteL b) : ByteL (a :: b) := fun x hx => by
  rcases List.mem_cons.1 hx with rfl | h
  · exact ha
  · exact hb x h
theorem byteL_nil : ByteL [] := fun x hx => by simp at hx
theorem lnB_bytes : ∀ l : List S90, U8L l → ByteL (request_Encode.lnB l)
  | [], _ => byteL_nil
  | x :: l, h => byteL_app (a := x.f0 :: wB (x.f1 % 18446744073709551616) 8) (byteL_cons (h x (by simp)) (wB_bytes _ _)) (lnB_bytes l (fun y hy => h y (by simp [hy])))
theorem encB_bytes {k o p : Int} {l : List S90} {s f t : Int} (q : Int) (h : RqW k o p l s f t) (hl : l.length ≤ 3) : ByteL (request_Encode.encB k o p l s f t q) := by
  unfold request_Encode.encB
  have c : ∀ x : Int, 0 ≤ x ∧ x < 256 → ByteL [x] := fun x hx => byteL_cons hx byteL_nil
  repeat' split
  · exact byteL_app (byteL_app (byteL_app (byteL_app byteL_nil (c 1 (by omega))) (wB_bytes _ _)) (byteL_cons h.hP (c _ (by omega)))) (lnB_bytes l h.hL)
  · exact byteL_app (byteL_app byteL_nil (c k h.hK)) (wB_bytes _ _)
  · exact byteL_app (byteL_app (byteL_app (byteL_app byteL_nil (c 5 (by omega))) (c s h.hS)) (c t h.hT)) (wB_bytes _ _)
  · exact byteL_app (byteL_app (byteL_app (byteL_app (byteL_app byteL_nil (c 6 (by omega))) (c s h.hS)) (c f h.hF)) (c t h.hT)) (wB_bytes _ _)
  · exact byteL_app (byteL_app byteL_nil (c 7 (by omega))) (c s h.hS)
theorem index16 : ∀ n : Nat, n < 256 → Lib.indexByte (⟨#[48, 49, 50, 51, 52, 53, 54, 55, 56, 57, 97, 98, 99, 100, 101, 102]⟩ : ByteArray).data.toList (UInt8.ofNat n) < 16 := by decide +kernel
theorem nibble_any (c : Int) : ∃ n : Nat, words_nibble.f c = some (n : Int) ∧ n < 16 := by
  unfold words_nibble.f strings_IndexByte.f
  rw [Option.bind_some]
  have h := index16 c.toNat.toUInt8.toNat (UInt8.toNat_lt _)
  rw [UInt8.ofNat_toNat] at h
  generalize Lib.indexByte (⟨#[48, 49, 50, 51, 52, 53, 54, 55, 56, 57, 97, 98, 99, 100, 101, 102]⟩ : ByteArray).data.toList c.toNat.toUInt8 = i at *
  refine ⟨(mx i 0).toNat, ?_, ?_⟩
  · unfold mx
    split
    · congr 1
    · congr 1; omega
  · unfold mx
    split <;> omega
theorem gl_any : ∀ (n : Nat) (s : List UInt8) (acc : List Int), s.length ≤ n → ByteL acc → acc.length + n ≤ 100000000000000 → ∃ l, ByteL l ∧ Ev (fun m => words_guess.l0 m (ofL s) 1 0 0 0 acc) (1, 0, 0, 0, l)
  | n, s, acc, hs, hb, hn => by
    by_cases h2 : 2 ≤ s.length
    · obtain ⟨a, ha, ha16⟩ := nibble_any (bt (ofL s) 0)
      obtain ⟨b, hb1, hb16⟩ := nibble_any (bt (ofL s) 1)
      have hv : 0 ≤ ((16 * a + b : Nat) : Int) ∧ ((16 * a + b : Nat) : Int) < 256 := by omega
      have q : acc.length < 140737488355328 := by omega
      have sz : (ofL s).size = s.length := ofL_size s
      have ex : (ofL s).extract 2 (ofL s).size = ofL (s.drop 2) := by rw [extract_ofL, sz, List.take_length]
      obtain ⟨m, rfl⟩ : ∃ m, n = m + 1 := ⟨n - 1, by omega⟩
      obtain ⟨l, hl, he⟩ := gl_any m (s.drop 2) (acc ++ [((16 * a + b : Nat) : Int)]) (by rw [List.length_drop]; omega) (byteL_app hb (byteL_cons hv byteL_nil)) (by rw [List.length_append]; show acc.length + 1 + m ≤ _; omega)
      refine ⟨l, hl, he.succ (fun k => ?_)⟩
      rw [words_guess.l0, ha, hb1, ex, Option.bind_some, Option.bind_some, orb a ha16 b hb16, sz, if_pos (by omega), if_pos (by omega), if_pos (by omega), if_pos q, if_pos (by omega)]
    · refine ⟨acc, hb, Ev.succ (f := fun _ => some (1, 0, 0, 0, acc)) (Ev.const rfl) (fun k => ?_)⟩
      rw [words_guess.l0, if_neg (by rw [ofL_size]; omega)]
theorem join_len : ∀ (l : List (List UInt8)), (∀ x ∈ l, x.length ≤ 100000) → (Lib.join l [32]).length ≤ l.length * 100001
  | [], _ => by simp [Lib.join]
  | [x], h => by
    have := h x (by simp)
    rw [show Lib.join [x] [32] = x from by simp [Lib.join, List.intercalate]]
    simp
    omega
  | x :: y :: r, h => by
    have h1 := h x (by simp)
    have h2 := join_len (y :: r) (fun z hz => h z (by simp only [List.mem_cons] at hz ⊢; exact .inr hz))
    rw [show Lib.join (x :: y :: r) [32] = x ++ 32 :: Lib.join (y :: r) [32] from by simp [Lib.join, List.intercalate]]
    simp only [List.length_append, List.length_cons] at h2 ⊢
    omega
theorem prog_guess_any {W : List (List UInt8)} (hne : W ≠ []) (h : Wds W) : ∃ k g p t l, ByteL l ∧ (0 ≤ g ∧ g < 4294967296) ∧ Ev (fun m => words_guess.f m (W.map ofL)) (k, g, p, t, l) := by
  obtain ⟨w, r, rfl⟩ := List.exists_cons_of_ne_nil hne
  obtain ⟨n1, h1⟩ := number_any h 1
  obtain ⟨n2, h2⟩ := number_any h 2
  replace h1 : words_number.f ((w :: r).map ofL) 1 = some n1 := h1
  replace h2 : words_number.f ((w :: r).map ofL) 2 = some n2 := h2
  have h0 : rdOf ByteArray.empty ((w :: r).map ofL) 0 = ofL w := rfl
  have hlen : (0 : Int) < (((w :: r).map ofL).length : Int) := by simp only [List.map_cons, List.length_cons]; omega
  have hlen1 : (1 : Int) ≤ (((w :: r).map ofL).length : Int) := by omega
  have z32 : (0 : Int) ≤ 0 ∧ (0 : Int) < 4294967296 := by omega
  have m32 : ∀ n : Int, 0 ≤ n % 4294967296 ∧ n % 4294967296 < 4294967296 := fun n => by omega
  unfold words_guess.f
  simp only [h1, h2, Option.bind_some, if_pos hlen, h0, ofL_toList]
  by_cases e1 : w = ([112, 105, 99, 107] : List UInt8)
  · simp only [if_pos e1]
    exact ⟨_, _, _, _, _, byteL_nil, m32 _, Ev.const rfl⟩
  simp only [if_neg e1]
  by_cases e2 : w = ([107, 105, 108, 108] : List UInt8)
  · simp only [if_pos e2]
    exact ⟨_, _, _, _, _, byteL_nil, m32 _, Ev.const rfl⟩
  simp only [if_neg e2]
  by_cases e3 : w = ([119, 114, 105, 116, 101] : List UInt8)
  · simp only [if_pos e3]
    exact ⟨_, _, _, _, _, byteL_nil, z32, Ev.const rfl⟩
  simp only [if_neg e3]
  by_cases e4 : w = ([115, 121, 110, 99] : List UInt8)
  · simp only [if_pos e4]
    exact ⟨_, _, _, _, _, byteL_nil, z32, Ev.const rfl⟩
  simp only [if_neg e4]
  by_cases e5 : w = ([99, 107, 112, 116] : List UInt8)
  · simp only [if_pos e5]
    exact ⟨_, _, _, _, _, byteL_nil, z32, Ev.const rfl⟩
  simp only [if_neg e5]
  by_cases e6 : w = ([99, 114, 97, 115, 104] : List UInt8)
  · simp only [if_pos e6]
    exact ⟨_, _, _, _, _, byteL_nil, z32, Ev.const rfl⟩
  simp only [if_neg e6]
  by_cases e7 : w = ([98, 111, 111, 116] : List UInt8)
  · simp only [if_pos e7]
    exact ⟨_, _, _, _, _, byteL_nil, z32, Ev.const rfl⟩
  simp only [if_neg e7]
  by_cases e8 : w = ([97, 115, 107] : List UInt8)
  · simp only [if_pos e8, if_pos hlen1]
    have hr : (((w :: r).map ofL).drop 1).map (fun x => x.data.toList) = r := by
      rw [show ((w :: r).map ofL).drop 1 = r.map ofL from rfl, List.map_map]
      refine (List.map_congr_left (fun x _ => ?_)).trans (List.map_id _)
      exact ofL_data x
    have hj := join_len r (fun x hx => h.hW x (by simp [hx]))
    have hN : (w :: r).length ≤ 100001 := h.hN
    rw [List.length_cons] at hN
    have hJ : strings_Join.f (((w :: r).map ofL).drop 1) (⟨#[32]⟩ : ByteArray) = some (ofL (Lib.join r [32])) := by
      unfold strings_Join.f
      rw [hr, show (⟨#[32]⟩ : ByteArray).data.toList = [32] from rfl, if_pos ⟨by rw [List.length_drop, List.length_map, List.length_cons]; omega, by omega⟩]
      rfl
    simp only [hJ, Option.bind_some]
    obtain ⟨l, hl, he⟩ := gl_any (Lib.join r [32]).length (Lib.join r [32]) [] (Nat.le_refl _) byteL_nil (by show 0 + _ ≤ _; omega)
    exact ⟨_, _, _, _, _, hl, z32, he⟩
  simp only [if_neg e8]
  obtain ⟨k, o, p, l, s, f, t, q, hr, he⟩ := asked_any h
  obtain ⟨b, hp, hb⟩ := plain_any k o p l s f t q
  cases b with
  | true =>
    refine ⟨1, 0, 0, 0, request_Encode.encB k o p l s f t q, encB_bytes q hr (hb rfl).2, z32, Ev.bind he (Ev.const ?_)⟩
    unfold request_Encode.f
    rw [if_pos hr.hO, hp]
    rfl
  | false =>
    refine ⟨1, 0, 0, 0, [], byteL_nil, z32, Ev.bind he (Ev.const ?_)⟩
    unfold request_Encode.f
    rw [if_pos hr.hO, hp]
    rfl
theorem prog_read_open {s : List UInt8} (hs : s.length ≤ 100000) {k g p t : Int} {l : List Int} (hg : Ev (fun m => words_guess.f m ((splitL 32 s).map ofL)) (k, g, p, t, l)) {R : Int × Int × Int × Int × List Int × Int}
    (h : Ev (fun m => (script_Good.f m k g p t l).bind fun t227 => (if t227 = true then ((words_Line.f m k g p t l).bind fun t228 => (if t228.toList = s then (some (k, g, p, t, l, 0)) else (some (0, 0, 0, 0, ([] : List Int), 8)))) else (some (0, 0, 0, 0, ([] : List Int), 8)))) R) : Ev (fun m => words_Read.f m (ofL s)) R := by
  unfold words_Read.f
  refine Ev.bind (Ev.const (prog_split 32 s (by omega))) (Ev.bind hg ?_)
  simp only [ofL_toList]
  exact h
theorem goodE {k g p t : Int} {l : List Int} (b : Bool) (h : decide (GoodP k g p t l) = b) : Ev (fun m => script_Good.f m k g p t l) b := Ev.of (script_Good.mono _ _ _ _ _) (k := 1) (by rw [script_good, h])
theorem prog_read_good {k g p t : Int} {l : List Int} (h : GoodP k g p t l) (hb : ByteL l) (hg : 0 ≤ g ∧ g < 4294967296) (hs : (lineT k g p t l).length ≤ 100000) : Ev (fun m => words_Read.f m (ofL (lineT k g p t l))) (k, g, p, t, l, 0) := by
  refine prog_read_open hs (prog_guess_back h hb hg) (Ev.bind (goodE true (decide_eq_true h)) ?_)
  simp only [if_pos (show true = true from rfl)]
  refine Ev.bind (prog_line h hb hg) (Ev.const ?_)
  rw [ofL_toList, if_pos rfl]
theorem prog_read_bad {s : List UInt8} (hs : s.length ≤ 100000) (hn : ∀ k g p t l, GoodP k g p t l → ByteL l → (0 ≤ g ∧ g < 4294967296) → lineT k g p t l ≠ s) : Ev (fun m => words_Read.f m (ofL s)) (0, 0, 0, 0, [], 8) := by
  obtain ⟨k, g, p, t, l, hb, hg, he⟩ := prog_guess_any (splitL_ne 32 s) (splitL_wds 32 s hs)
  refine prog_read_open hs he ?_
  by_cases h : GoodP k g p t l
  · refine Ev.bind (goodE true (decide_eq_true h)) ?_
    simp only [if_pos (show true = true from rfl)]
    refine Ev.bind (prog_line h hb hg) (Ev.const ?_)
    rw [ofL_toList, if_neg (hn _ _ _ _ _ h hb hg)]
  · exact Ev.bind (goodE false (decide_eq_false h)) (Ev.const rfl)
def LinesOk (l : List S90) : Prop := ∀ x ∈ l, LineOk x
theorem linesOk_nil : LinesOk [] := fun x hx => by simp at hx
theorem rasked_any0 (o p : Int) (rest : List (List UInt8)) : ∀ (pre : List (List UInt8)) (acc : List S90), (∀ x ∈ rest, x.length ≤ 100000) → LinesOk acc → acc.length + rest.length ≤ 1000000 → pre.length + rest.length ≤ 1000000 →
    ∃ ls, LinesOk ls ∧ Ev (fun m => pledgeref39_asked.l0 m ((pre ++ rest).map ofL) (pre.length : Int) 1 o p acc 0 0 0 0) (1, o, p, ls, 0, 0, 0, 0) := by
  induction rest with
  | nil =>
    intro pre acc _ hu _ _
    refine ⟨acc, hu, Ev.succ (f := fun _ => some (1, o, p, acc, 0, 0, 0, 0)) (Ev.const rfl) (fun m => ?_)⟩
    rw [pledgeref39_asked.l0, if_neg (by simp)]
  | cons x rest ih =>
    intro pre acc hx hu ha hp
    rw [List.length_cons] at ha hp
    have hx0 := hx x (by simp)
    obtain ⟨v0, i0, e0⟩ := value_any (rdOf ByteArray.empty ((splitL 58 x).map ofL) 0)
    obtain ⟨v1, i1, s1, a1, e1⟩ := val_any ((splitL 58 x).map ofL) 1
    replace a1 : pledgeref39_at.f ((splitL 58 x).map ofL) 1 = some s1 := a1
    have q4 : acc.length < 8796093022208 := by omega
    have q5 : acc.length + 1 + rest.length ≤ 1000000 := by omega
    have q6 : pre.length + 1 + rest.length ≤ 1000000 := by omega
    have q7 : pre.length ≤ 1000000000 := by omega
    have q2 : (pre.length : Int) < (((pre ++ x :: rest).map ofL).length : Int) := by simp only [List.length_map, List.length_append, List.length_cons]; omega
    have q3 : (0 : Int) ≤ (pre.length : Int) := by omega
    have q8 : LineOk (⟨v0 % 256, v1⟩ : S90) := ⟨⟨Int.emod_nonneg _ (by decide), Int.emod_lt_of_pos _ (by decide)⟩, i1⟩
    obtain ⟨ls, hls, he⟩ := ih (pre ++ [x]) (acc ++ [⟨v0 % 256, v1⟩]) (fun y hy => hx y (by simp [hy])) (fun y hy => by
      rcases List.mem_append.1 hy with hy | hy
      · exact hu y hy
      · simp only [List.mem_singleton] at hy; subst hy; exact q8) (by rw [List.length_append]; exact q5) (by rw [List.length_append]; exact q6)
    rw [List.append_assoc, List.singleton_append, show (pre ++ [x]).length = pre.length + 1 from by simp, ← wr1 pre.length q7] at he
    have er : rdOf ByteArray.empty ((pre ++ x :: rest).map ofL) (pre.length : Int) = ofL x := by
      rw [rdW _ _ (by simp)]
      simp
    have hc := cut58 x hx0
    have hne : (0 : Int) < (((splitL 58 x).map ofL).length : Int) := by
      rw [List.length_map]
      have := List.length_pos_iff.2 (splitL_ne 58 x)
      omega
    refine ⟨ls, hls, Ev.succ (f := fun k => (pledgeref39_cut.f k (ofL x) 58).bind fun t311 => (if 0 < (t311.length : Int) then ((pledgeref39_value.f k (rdOf ByteArray.empty t311 0)).bind fun t315 => ((pledgeref39_at.f t311 1).bind fun t316 => ((pledgeref39_value.f k t316).bind fun t317 => (if acc.length < 8796093022208 then (pledgeref39_asked.l0 k ((pre ++ x :: rest).map ofL) (wrap64 ((pre.length : Int) + 1)) 1 o p (acc ++ [(⟨(t315) % 256, t317⟩ : S90)]) 0 0 0 0) else (none))))) else (none))) ?_ (fun k => ?_)⟩
    · refine Ev.bind hc ?_
      simp only [if_pos hne]
      refine Ev.bind e0 (Ev.bind (Ev.const a1) (Ev.bind e1 ?_))
      simp only [if_pos q4]
      exact he
    · rw [pledgeref39_asked.l0, if_pos q2, if_pos q3, er]
theorem rqW_of {k o p : Int} {l : List S90} {s f t q : Int} (h : RqOk k o p l s f t q) : RqW k o p l s f t := ⟨by have := h.hK1; have := h.hK7; omega, h.hO, h.hP, fun x hx => (h.hL x hx).1, h.hS, h.hF, h.hT⟩
/-- As RqOk, without what Plain tells. -/
structure RqV (k o p : Int) (l : List S90) (s f t q : Int) : Prop where
  hO : 0 ≤ o ∧ o < 4294967296
  hP : 0 ≤ p ∧ p < 256
  hL : LinesOk l
  hS : 0 ≤ s ∧ s < 256
  hF : 0 ≤ f ∧ f < 256
  hT : 0 ≤ t ∧ t < 256
  hQ : I64 q
theorem rasked_any {w : List UInt8} {r : List (List UInt8)} (h : Wds (w :: r)) : ∃ k o p l s f t q, RqV k o p l s f t q ∧ Ev (fun m => pledgeref39_asked.f m ((w :: r).map ofL)) (k, o, p, l, s, f, t, q) := by
  obtain ⟨n1, h1⟩ := val_any ((w :: r).map ofL) 1
  obtain ⟨n2, h2⟩ := val_any ((w :: r).map ofL) 2
  obtain ⟨n3, h3⟩ := val_any ((w :: r).map ofL) 3
  obtain ⟨n4, i4, s4, a4, e4⟩ := val_any ((w :: r).map ofL) 4
  replace a4 : pledgeref39_at.f ((w :: r).map ofL) 4 = some s4 := a4
  have i3 := h3.1
  have h0 : rdOf ByteArray.empty ((w :: r).map ofL) 0 = ofL w := rfl
  have hlen : (0 : Int) < (((w :: r).map ofL).length : Int) := by simp only [List.map_cons, List.length_cons]; omega
  have m32 : ∀ n : Int, 0 ≤ n % 4294967296 ∧ n % 4294967296 < 4294967296 := fun n => by omega
  have m8 : ∀ n : Int, 0 ≤ n % 256 ∧ n % 256 < 256 := fun n => by omega
  have z8 : (0 : Int) ≤ 0 ∧ (0 : Int) < 256 := by omega
  have z32 : (0 : Int) ≤ 0 ∧ (0 : Int) < 4294967296 := by omega
  have hsz : (w :: r).length ≤ 100001 := h.hN
  have hws := h.hW
  suffices hh : ∃ k o p l s f t q, RqV k o p l s f t q ∧ Ev (fun m => askedB m ((w :: r).map ofL) n1 n2 n3) (k, o, p, l, s, f, t, q) by
    obtain ⟨k, o, p, l, s, f, t, q, hr, he⟩ := hh
    exact ⟨k, o, p, l, s, f, t, q, hr, asked_open h1 h2 h3 he⟩
  unfold askedB
  simp only [if_pos hlen, h0, ofL_toList]
  by_cases c1 : w = wPlace
  · simp only [if_pos c1]
    rcases r with _ | ⟨r1, _ | ⟨r2, r⟩⟩
    · refine ⟨_, _, _, _, _, _, _, _, ⟨m32 n1, m8 n2, linesOk_nil, z8, z8, z8, z64⟩, Ev.succ (f := fun _ => some (1, n1 % 4294967296, n2 % 256, [], 0, 0, 0, 0)) (Ev.const rfl) (fun m => ?_)⟩
      rw [pledgeref39_asked.l0, if_neg (by simp)]
    · refine ⟨_, _, _, _, _, _, _, _, ⟨m32 n1, m8 n2, linesOk_nil, z8, z8, z8, z64⟩, Ev.succ (f := fun _ => some (1, n1 % 4294967296, n2 % 256, [], 0, 0, 0, 0)) (Ev.const rfl) (fun m => ?_)⟩
      rw [pledgeref39_asked.l0, if_neg (by simp)]
    · obtain ⟨ls, hls, he⟩ := rasked_any0 (n1 % 4294967296) (n2 % 256) r [w, r1, r2] [] (fun x hx => hws x (by simp [hx])) linesOk_nil (by simp only [List.length_cons] at hsz; show 0 + _ ≤ _; omega) (by simp only [List.length_cons] at hsz; show 3 + _ ≤ _; omega)
      exact ⟨_, _, _, _, _, _, _, _, ⟨m32 _, m8 _, hls, z8, z8, z8, z64⟩, he⟩
  simp only [if_neg c1]
  by_cases c2 : w = wCancel
  · simp only [if_pos c2]
    exact ⟨_, _, _, _, _, _, _, _, ⟨m32 _, z8, linesOk_nil, z8, z8, z8, z64⟩, Ev.const rfl⟩
  simp only [if_neg c2]
  by_cases c3 : w = wShip
  · simp only [if_pos c3]
    exact ⟨_, _, _, _, _, _, _, _, ⟨m32 _, z8, linesOk_nil, z8, z8, z8, z64⟩, Ev.const rfl⟩
  simp only [if_neg c3]
  by_cases c4 : w = wReturn
  · simp only [if_pos c4]
    exact ⟨_, _, _, _, _, _, _, _, ⟨m32 _, z8, linesOk_nil, z8, z8, z8, z64⟩, Ev.const rfl⟩
  simp only [if_neg c4]
  by_cases c5 : w = wRestock
  · simp only [if_pos c5]
    exact ⟨_, _, _, _, _, _, _, _, ⟨z32, z8, linesOk_nil, m8 _, z8, m8 _, i3⟩, Ev.const rfl⟩
  simp only [if_neg c5]
  by_cases c6 : w = wTransfer
  · simp only [if_pos c6]
    exact ⟨_, _, _, _, _, _, _, _, ⟨z32, z8, linesOk_nil, m8 _, m8 _, m8 _, i4⟩, Ev.bind (Ev.const a4) (Ev.bind e4 (Ev.const rfl))⟩
  simp only [if_neg c6]
  by_cases c7 : w = wQuery
  · simp only [if_pos c7]
    exact ⟨_, _, _, _, _, _, _, _, ⟨z32, z8, linesOk_nil, m8 _, z8, z8, z64⟩, Ev.const rfl⟩
  simp only [if_neg c7]
  exact ⟨_, _, _, _, _, _, _, _, ⟨z32, z8, linesOk_nil, z8, z8, z8, z64⟩, Ev.const rfl⟩
theorem same_l0 (a b : List S90) (hab : a.length = b.length) : ∀ (m i : Nat), a.length ≤ i + m → i + m ≤ 1000 → ∃ r, pledgeref12_SameLines.l0 (m + 1) a b (i : Int) = some r
  | 0, i, h, _ => ⟨true, by rw [pledgeref12_SameLines.l0, if_neg (by omega)]⟩
  | m + 1, i, h, hi => by
    rw [pledgeref12_SameLines.l0]
    by_cases hi2 : (i : Int) < (a.length : Int)
    · have q1 : (0 : Int) ≤ (i : Int) := by omega
      have q2 : (i : Int) < (b.length : Int) := by omega
      have q3 : a.length ≤ i + 1 + m := by omega
      have q4 : i + 1 + m ≤ 1000 := by omega
      have q5 : i ≤ 1000000000 := by omega
      rw [if_pos hi2, if_pos q1, if_pos q2]
      split
      · exact ⟨_, rfl⟩
      · rw [wr1 i q5]
        exact same_l0 a b hab m (i + 1) q3 q4
    · rw [if_neg hi2]
      exact ⟨_, rfl⟩
theorem sameLines_any (a b : List S90) (h : a.length ≤ 3) : ∃ r, pledgeref12_SameLines.f 5 a b = some r := by
  unfold pledgeref12_SameLines.f
  by_cases hab : (a.length : Int) = (b.length : Int)
  · rw [if_pos hab]
    exact same_l0 a b (by omega) 4 0 (by omega) (by omega)
  · rw [if_neg hab]
    exact ⟨_, rfl⟩
theorem rsame_any (k o p : Int) (l : List S90) (s f t q : Int) (h : l.length ≤ 3) (k' o' p' : Int) (l' : List S90) (s' f' t' q' : Int) : ∃ r, pledgeref34_Same.f 5 k o p l s f t q k' o' p' l' s' f' t' q' = some r := by
  obtain ⟨b, hb⟩ := sameLines_any l l' h
  unfold pledgeref34_Same.f
  rw [hb]
  simp only [Option.bind_some]
  repeat' (first | exact ⟨_, rfl⟩ | split)
theorem rplain_any (k o p : Int) (l : List S90) (s f t q : Int) : ∃ b, pledgeref34_Plain.f k o p l s f t q = some b ∧ (b = true → (1 ≤ k ∧ k ≤ 7) ∧ l.length ≤ 3) := by
  unfold pledgeref34_Plain.f
  by_cases hk : k < 1 ∨ 7 < k
  · rw [if_pos hk]; exact ⟨_, rfl, fun h => by cases h⟩
  rw [if_neg hk]
  by_cases hl : ¬ l.length ≤ 3
  · rw [if_pos hl]; exact ⟨_, rfl, fun h => by cases h⟩
  rw [if_neg hl]
  have h3 : l.length ≤ 3 := Decidable.of_not_not hl
  have fin : ∀ {x : Option Bool}, (∃ r, x = some r) → ∃ b, x = some b ∧ (b = true → (1 ≤ k ∧ k ≤ 7) ∧ l.length ≤ 3) := fun ⟨r, hr⟩ => ⟨r, hr, fun _ => ⟨by omega, h3⟩⟩
  repeat' split
  all_goals exact fin (rsame_any _ _ _ l _ _ _ _ h3 _ _ _ _ _ _ _ _)
theorem rbytes_any : ∀ (n : Nat) (s : List UInt8) (i : Nat) (acc : List Int), s.length ≤ i + n → i + n ≤ 1000000 → ByteL acc → acc.length + n ≤ 1000000 → ∃ l, ByteL l ∧ Ev (fun m => pledgeref39_bytes.l0 m (ofL s) acc (i : Int)) l
  | n, s, i, acc, hs, hi, hb, hn => by
    have q0 : i ≤ 1000000000 := by omega
    by_cases h2 : i + 1 < s.length
    · obtain ⟨a, ha, ha8⟩ := digit_any (bt (ofL s) (i : Int))
      obtain ⟨b, hb1, hb8⟩ := digit_any (bt (ofL s) ((i + 1 : Nat) : Int))
      have hv : 0 ≤ (((16 * a) % 256) + b) % 256 ∧ (((16 * a) % 256) + b) % 256 < 256 := by omega
      have q : acc.length < 140737488355328 := by omega
      have sz : (ofL s).size = s.length := ofL_size s
      obtain ⟨m, rfl⟩ : ∃ m, n = m + 2 := ⟨n - 2, by omega⟩
      · have q1 : s.length ≤ i + 2 + m := by omega
        have q2 : i + 2 + m ≤ 1000000 := by omega
        have q3 : acc.length + 1 + m ≤ 1000000 := by omega
        have r1 : ((i + 1 : Nat) : Int) < (s.length : Int) := by omega
        have r2 : (0 : Int) ≤ (i : Int) := by omega
        have r3 : (i : Int) < (s.length : Int) := by omega
        have r4 : (0 : Int) ≤ ((i + 1 : Nat) : Int) := by omega
        obtain ⟨l, hl, he⟩ := rbytes_any m s (i + 2) (acc ++ [(((16 * a) % 256) + b) % 256]) q1 q2 (byteL_app hb (byteL_cons hv byteL_nil)) (by rw [List.length_append]; exact q3)
        refine ⟨l, hl, he.succ (fun k => ?_)⟩
        rw [pledgeref39_bytes.l0, wr1 i q0, wr2 i q0, sz, ha, hb1, if_pos r1, if_pos r2, if_pos r3, Option.bind_some, if_pos r4, Option.bind_some, if_pos q]
    · refine ⟨acc, hb, Ev.succ (f := fun _ => some acc) (Ev.const rfl) (fun k => ?_)⟩
      have r : ¬ (((i + 1 : Nat) : Int) < ((ofL s).size : Int)) := by rw [ofL_size]; omega
      rw [pledgeref39_bytes.l0, wr1 i q0, if_neg r]
theorem ref_guess_any {W : List (List UInt8)} (hne : W ≠ []) (h : Wds W) : ∃ k g p t l, ByteL l ∧ (0 ≤ g ∧ g < 4294967296) ∧ Ev (fun m => pledgeref39_guess.f m (W.map ofL)) (k, g, p, t, l) := by
  obtain ⟨w, r, rfl⟩ := List.exists_cons_of_ne_nil hne
  obtain ⟨n1, h1⟩ := val_any ((w :: r).map ofL) 1
  obtain ⟨n2, i2, s2, a2, e2⟩ := val_any ((w :: r).map ofL) 2
  replace a2 : pledgeref39_at.f ((w :: r).map ofL) 2 = some s2 := a2
  have z32 : (0 : Int) ≤ 0 ∧ (0 : Int) < 4294967296 := by omega
  have m32 : ∀ n : Int, 0 ≤ n % 4294967296 ∧ n % 4294967296 < 4294967296 := fun n => by omega
  suffices hh : ∃ k g p t l, ByteL l ∧ (0 ≤ g ∧ g < 4294967296) ∧ Ev (fun m => guessB m ((w :: r).map ofL) w n1) (k, g, p, t, l) by
    obtain ⟨k, g, p, t, l, hb, hg, he⟩ := hh
    exact ⟨k, g, p, t, l, hb, hg, guess_open (w := w) (r := r.map ofL) rfl h1 he⟩
  unfold guessB
  by_cases e1 : w = wPick
  · simp only [if_pos e1]
    exact ⟨_, _, _, _, _, byteL_nil, m32 _, Ev.const rfl⟩
  simp only [if_neg e1]
  by_cases e2' : w = wKill
  · simp only [if_pos e2']
    exact ⟨_, _, _, _, _, byteL_nil, m32 _, Ev.const rfl⟩
  simp only [if_neg e2']
  by_cases e3 : w = wWrite
  · simp only [if_pos e3]
    exact ⟨_, _, _, _, _, byteL_nil, z32, Ev.const rfl⟩
  simp only [if_neg e3]
  by_cases e4 : w = wSync
  · simp only [if_pos e4]
    exact ⟨_, _, _, _, _, byteL_nil, z32, Ev.const rfl⟩
  simp only [if_neg e4]
  by_cases e5 : w = wCkpt
  · simp only [if_pos e5]
    exact ⟨_, _, _, _, _, byteL_nil, z32, Ev.const rfl⟩
  simp only [if_neg e5]
  by_cases e6 : w = wCrash
  · simp only [if_pos e6]
    exact ⟨_, _, _, _, _, byteL_nil, z32, Ev.bind (Ev.const a2) (Ev.bind e2 (Ev.const rfl))⟩
  simp only [if_neg e6]
  by_cases e7 : w = wBoot
  · simp only [if_pos e7]
    exact ⟨_, _, _, _, _, byteL_nil, z32, Ev.const rfl⟩
  simp only [if_neg e7]
  by_cases e8 : w = wAsk
  · simp only [if_pos e8]
    have hx : ∃ x : List UInt8, x.length ≤ 100000 ∧ pledgeref39_at.f ((w :: r).map ofL) 1 = some (ofL x) := by
      rcases r with _ | ⟨x, r⟩
      · exact ⟨[], by simp, at_out (by simp)⟩
      · exact ⟨x, h.hW x (by simp), at_at (i := 1) rfl⟩
    obtain ⟨x, hx1, hx2⟩ := hx
    obtain ⟨l, hl, he⟩ := rbytes_any x.length x 0 [] (by omega) (by omega) byteL_nil (by show 0 + _ ≤ _; omega)
    exact ⟨_, _, _, _, _, hl, z32, Ev.bind (Ev.const hx2) (Ev.bind he (Ev.const rfl))⟩
  simp only [if_neg e8]
  obtain ⟨k, o, p, l, s, f, t, q, hr, he⟩ := rasked_any h
  obtain ⟨b, hp, hb⟩ := rplain_any k o p l s f t q
  unfold wAskR
  cases b with
  | true =>
    obtain ⟨hk, hl3⟩ := hb rfl
    have hok : RqOk k o p l s f t q := ⟨hk.1, hk.2, hr.hO, hr.hP, hr.hL, hl3, hr.hS, hr.hF, hr.hT, hr.hQ⟩
    refine ⟨1, 0, 0, 0, request_Encode.encB k o p l s f t q, encB_bytes q (rqW_of hok) hl3, z32, Ev.bind he (Ev.bind (Ev.const hp) ?_)⟩
    simp only [if_pos (show true = true from rfl)]
    exact Ev.bind (ref_bytes hok) (Ev.const rfl)
  | false => exact ⟨0, 0, 0, 0, [], byteL_nil, z32, Ev.bind he (Ev.bind (Ev.const hp) (Ev.const rfl))⟩
theorem ref_read_open {s : List UInt8} (hs : s.length ≤ 100000) {k g p t : Int} {l : List Int} (hg : Ev (fun m => pledgeref39_guess.f m ((splitL 32 s).map ofL)) (k, g, p, t, l)) {R : Int × Int × Int × Int × List Int × Int}
    (h : Ev (fun m => (pledgeref38_Good.f k g p t l).bind fun t227 => (if t227 = true then ((pledgeref39_Line.f m k g p t l).bind fun t228 => (if t228.toList = s then (some (k, g, p, t, l, 0)) else (some (0, 0, 0, 0, ([] : List Int), 8)))) else (some (0, 0, 0, 0, ([] : List Int), 8)))) R) : Ev (fun m => pledgeref39_Read.f m (ofL s)) R := by
  unfold pledgeref39_Read.f
  refine Ev.bind (cut32 s hs) (Ev.bind hg ?_)
  simp only [ofL_toList]
  exact h
theorem ref_read_good {k g p t : Int} {l : List Int} (h : GoodP k g p t l) (hb : ByteL l) (hg : 0 ≤ g ∧ g < 4294967296) (hs : (lineT k g p t l).length ≤ 100000) : Ev (fun m => pledgeref39_Read.f m (ofL (lineT k g p t l))) (k, g, p, t, l, 0) := by
  refine ref_read_open hs (ref_guess_back h hb hg) (Ev.bind (r := true) (Ev.const (by rw [ref_good, decide_eq_true h])) ?_)
  simp only [if_pos (show true = true from rfl)]
  refine Ev.bind (ref_line h hb hg) (Ev.const ?_)
  rw [ofL_toList, if_pos rfl]
theorem ref_read_bad {s : List UInt8} (hs : s.length ≤ 100000) (hn : ∀ k g p t l, GoodP k g p t l → ByteL l → (0 ≤ g ∧ g < 4294967296) → lineT k g p t l ≠ s) : Ev (fun m => pledgeref39_Read.f m (ofL s)) (0, 0, 0, 0, [], 8) := by
  obtain ⟨k, g, p, t, l, hb, hg, he⟩ := ref_guess_any (splitL_ne 32 s) (splitL_wds 32 s hs)
  refine ref_read_open hs he ?_
  by_cases h : GoodP k g p t l
  · refine Ev.bind (r := true) (Ev.const (by rw [ref_good, decide_eq_true h])) ?_
    simp only [if_pos (show true = true from rfl)]
    refine Ev.bind (ref_line h hb hg) (Ev.const ?_)
    rw [ofL_toList, if_neg (hn _ _ _ _ _ h hb hg)]
  · exact Ev.bind (r := false) (Ev.const (by rw [ref_good, decide_eq_false h])) (Ev.const rfl)
/-- What both read: an event that can be told, and its line is this one; or none. -/
theorem read_both (s : List UInt8) (hs : s.length ≤ 100000) : (∃ k g p t l, GoodP k g p t l ∧ ByteL l ∧ (0 ≤ g ∧ g < 4294967296) ∧ lineT k g p t l = s ∧ Ev (fun m => words_Read.f m (ofL s)) (k, g, p, t, l, 0) ∧ Ev (fun m => pledgeref39_Read.f m (ofL s)) (k, g, p, t, l, 0)) ∨
    (Ev (fun m => words_Read.f m (ofL s)) (0, 0, 0, 0, [], 8) ∧ Ev (fun m => pledgeref39_Read.f m (ofL s)) (0, 0, 0, 0, [], 8)) := by
  by_cases h : ∃ k g p t l, GoodP k g p t l ∧ ByteL l ∧ (0 ≤ g ∧ g < 4294967296) ∧ lineT k g p t l = s
  · obtain ⟨k, g, p, t, l, h1, h2, h3, rfl⟩ := h
    exact .inl ⟨k, g, p, t, l, h1, h2, h3, rfl, prog_read_good h1 h2 h3 hs, ref_read_good h1 h2 h3 hs⟩
  · have hn : ∀ k g p t l, GoodP k g p t l → ByteL l → (0 ≤ g ∧ g < 4294967296) → lineT k g p t l ≠ s := fun k g p t l h1 h2 h3 h4 => h ⟨k, g, p, t, l, h1, h2, h3, h4⟩
    exact .inr ⟨prog_read_bad hs hn, ref_read_bad hs hn⟩
end Go.Proofs.YtpnehgajhpejjaaGreatDoor.W
