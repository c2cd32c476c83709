import Derived.Test.YtpnehgajhpejjaaDoorW11
import Derived.Test.YtpnehgajhpejjaaDoorSplit
/- The plain law's parts. -/
namespace Go.Proofs.YtpnehgajhpejjaaDoor.W
open Go.RowKit Go.Proofs.YtpnehgajhpejjaaDoorW.PrintWords
set_option maxRecDepth 100000
set_option linter.unusedVariables false
set_option linter.unusedSimpArgs false
/-- With fuel enough: this answer. -/
def Ev {α : Type} (g : Nat → Option α) (r : α) : Prop := ∃ K, ∀ k, K ≤ k → g k = some r
section
variable {α β : Type}
theorem up {g : Nat → Option α} (hm : ∀ k, LeO (g k) (g (k + 1))) {k : Nat} {r : α} (h : g k = some r) : ∀ n, k ≤ n → g n = some r
  | 0, hn => by obtain rfl : k = 0 := by omega
                exact h
  | n + 1, hn => by
    rcases Nat.lt_or_ge n k with hk | hk
    · obtain rfl : k = n + 1 := by omega
      exact h
    · exact hm n r (up hm h n hk)
theorem Ev.of {g : Nat → Option α} (hm : ∀ k, LeO (g k) (g (k + 1))) {k : Nat} {r : α} (h : g k = some r) : Ev g r := ⟨k, up hm h⟩
theorem Ev.const {x : Option α} {r : α} (h : x = some r) : Ev (fun _ => x) r := ⟨0, fun _ _ => h⟩
theorem Ev.bind {g : Nat → Option α} {f : Nat → α → Option β} {r : α} {s : β} (h : Ev g r) (h2 : Ev (fun k => f k r) s) : Ev (fun k => (g k).bind (f k)) s := by
  obtain ⟨K, h⟩ := h
  obtain ⟨L, h2⟩ := h2
  exact ⟨max K L, fun k hk => by show (g k).bind (f k) = _; rw [h k (by omega)]; exact h2 k (by omega)⟩
theorem Ev.one {g : Nat → Option α} {r s : α} (h : Ev g r) (h2 : Ev g s) : r = s := by
  obtain ⟨K, h⟩ := h
  obtain ⟨L, h2⟩ := h2
  have a := h (max K L) (by omega)
  rw [h2 (max K L) (by omega)] at a
  exact (Option.some.inj a).symm
/-- One round: the fuel is one more. -/
theorem Ev.succ {g f : Nat → Option α} {r : α} (h : Ev f r) (hg : ∀ k, g (k + 1) = f k) : Ev g r := by
  obtain ⟨K, h⟩ := h
  refine ⟨K + 1, fun k hk => ?_⟩
  obtain ⟨n, rfl⟩ : ∃ n, k = n + 1 := ⟨k - 1, by omega⟩
  rw [hg]
  exact h n (by omega)
theorem Ev.congr {g f : Nat → Option α} {r : α} (h : Ev f r) (hg : ∀ k, g k = f k) : Ev g r := by
  obtain ⟨K, h⟩ := h
  exact ⟨K, fun k hk => by rw [hg]; exact h k hk⟩
end
def ofL (l : List UInt8) : ByteArray := ⟨l.toArray⟩
theorem ofL_size (l : List UInt8) : (ofL l).size = l.length := by simp [ofL, ByteArray.size]
theorem ofL_data (l : List UInt8) : (ofL l).data.toList = l := by simp [ofL]
theorem ofL_app (a b : List UInt8) : ofL a ++ ofL b = ofL (a ++ b) := by
  apply ByteArray.ext
  apply Array.ext'
  simp [ofL]
theorem ofL_of (s : ByteArray) : ofL s.data.toList = s := by simp [ofL]
theorem ofL_inj {a b : List UInt8} (h : ofL a = ofL b) : a = b := by
  have := congrArg (fun s => s.data.toList) h
  simpa [ofL] using this
theorem dig_str (z : Int) : strOfNums [z] = ofL [UInt8.ofNat z.toNat] := rfl
theorem dd_big {u : Nat} (h : ¬ u < 10) : Lib.decDigits u = Lib.decDigits (u / 10) ++ [UInt8.ofNat (48 + u % 10)] := by rw [Lib.decDigits, dif_neg h]
theorem dd_small {u : Nat} (h : u < 10) : Lib.decDigits u = [UInt8.ofNat (48 + u)] := by rw [Lib.decDigits, dif_pos h]
theorem dd_len : ∀ (d u : Nat), u < 10 ^ (d + 1) → (Lib.decDigits u).length ≤ d + 1
  | 0, u, h => by rw [dd_small (by simpa using h)]; simp
  | d + 1, u, h => by
    by_cases hu : u < 10
    · rw [dd_small hu]; simp
    · rw [dd_big hu, List.length_append]
      have := dd_len d (u / 10) (by rw [Nat.pow_succ] at h; omega)
      simp only [List.length_cons, List.length_nil]
      omega
theorem dd_len20 (u : Nat) (h : u < 18446744073709551616) : (Lib.decDigits u).length ≤ 20 := dd_len 19 u (by omega)
def ddHead (u : Nat) : List UInt8 := if 10 ≤ u then Lib.decDigits (u / 10) else []
theorem itoa_len20 (n : Int) (h : -9223372036854775808 ≤ n ∧ n ≤ 9223372036854775807) : (Lib.itoa n).length ≤ 21 := by
  unfold Lib.itoa
  split
  · have := dd_len20 n.natAbs (by omega)
    simp only [List.length_cons]
    omega
  · have := dd_len20 n.toNat (by omega)
    omega
/-! ### read again -/
def pn (x : Nat) (l : List UInt8) : Nat := l.foldl (fun x c => x * 10 + (c.toNat - 48)) x
def Dig (l : List UInt8) : Prop := ∀ c ∈ l, 48 ≤ c.toNat ∧ c.toNat ≤ 57
theorem pn_cons (x : Nat) (c : UInt8) (l : List UInt8) : pn x (c :: l) = pn (x * 10 + (c.toNat - 48)) l := by simp only [pn, List.foldl_cons]
theorem pn_ge (l : List UInt8) : ∀ x : Nat, x ≤ pn x l := by
  induction l with
  | nil => intro x; exact Nat.le_refl _
  | cons c l ih =>
    intro x
    rw [pn_cons]
    have := ih (x * 10 + (c.toNat - 48))
    omega
theorem dig_nat (d : Nat) (h : d < 10) : (UInt8.ofNat (48 + d)).toNat = 48 + d := by
  rw [UInt8.toNat_ofNat']
  omega
theorem dd_dig : ∀ (n u : Nat), u ≤ n → Dig (Lib.decDigits u)
  | 0, u, h => by
    rw [dd_small (by omega)]
    intro c hc
    simp only [List.mem_singleton] at hc
    subst hc
    rw [dig_nat u (by omega)]
    omega
  | n + 1, u, h => by
    by_cases hu : u < 10
    · rw [dd_small hu]
      intro c hc
      simp only [List.mem_singleton] at hc
      subst hc
      rw [dig_nat u hu]
      omega
    · rw [dd_big hu]
      intro c hc
      rcases List.mem_append.1 hc with hc | hc
      · exact dd_dig n (u / 10) (by omega) c hc
      · simp only [List.mem_singleton] at hc
        subst hc
        rw [dig_nat (u % 10) (by omega)]
        omega
theorem dd_pn : ∀ (n u : Nat), u ≤ n → pn 0 (Lib.decDigits u) = u
  | 0, u, h => by
    rw [dd_small (by omega), pn_cons, dig_nat u (by omega)]
    show 0 * 10 + (48 + u - 48) = u
    omega
  | n + 1, u, h => by
    by_cases hu : u < 10
    · rw [dd_small hu, pn_cons, dig_nat u hu]
      show 0 * 10 + (48 + u - 48) = u
      omega
    · rw [dd_big hu]
      have ih := dd_pn n (u / 10) (by omega)
      unfold pn at ih ⊢
      rw [List.foldl_append, ih]
      show u / 10 * 10 + ((UInt8.ofNat (48 + u % 10)).toNat - 48) = u
      rw [dig_nat (u % 10) (by omega)]
      omega
theorem dd_ne (u : Nat) : Lib.decDigits u ≠ [] := by
  by_cases hu : u < 10
  · rw [dd_small hu]; simp
  · rw [dd_big hu]; simp
theorem pu_pn (l : List UInt8) : ∀ (acc : Nat), Dig l → pn acc l ≤ 9223372036854775808 → Lib.parseUintM 18446744073709551615 acc l = .ok (pn acc l) := by
  induction l with
  | nil => intro acc _ _; rfl
  | cons c l ih =>
    intro acc hd hb
    rw [pn_cons] at hb ⊢
    have hc := hd c (by simp)
    have hg := pn_ge l (acc * 10 + (c.toNat - 48))
    unfold Lib.parseUintM
    rw [if_pos hc, if_neg (by omega), if_neg (by omega)]
    exact ih _ (fun x hx => hd x (by simp [hx])) hb
theorem pib_neg (r : List UInt8) (u : Nat) (hu : Lib.parseUintB 64 r = .ok u) (hb : u ≤ 9223372036854775808) : Lib.parseIntB 64 (45 :: r) = .ok (-(u : Int)) := by
  unfold Lib.parseIntB
  have h43 : ¬ ((45 : UInt8).toNat = 43) := by decide
  have h45 : (45 : UInt8).toNat = 45 := by decide
  simp only [h43, h45, or_true, if_true, hu]
  rw [if_neg (by simp), if_neg (by simp; omega)]
theorem pib_pos (c : UInt8) (r : List UInt8) (u : Nat) (hc : 48 ≤ c.toNat) (hu : Lib.parseUintB 64 (c :: r) = .ok u) (hb : u < 9223372036854775808) : Lib.parseIntB 64 (c :: r) = .ok (u : Int) := by
  unfold Lib.parseIntB
  have h43 : ¬ (c.toNat = 43) := by omega
  have h45 : ¬ (c.toNat = 45) := by omega
  simp only [h43, h45, or_self, if_false, hu]
  rw [if_neg (by simp; omega), if_neg (by simp)]
theorem numOf_itoa (n : Int) (h : -9223372036854775808 ≤ n ∧ n ≤ 9223372036854775807) : numOf (ofL (Lib.itoa n)) = n := by
  have key : Lib.parseIntB 64 (Lib.itoa n) = .ok n := by
    unfold Lib.itoa
    by_cases hn : n < 0
    · rw [if_pos hn]
      have hp := pu_pn (Lib.decDigits n.natAbs) 0 (dd_dig _ _ (Nat.le_refl _)) (by rw [dd_pn _ _ (Nat.le_refl _)]; omega)
      rw [dd_pn _ _ (Nat.le_refl _)] at hp
      have hu : Lib.parseUintB 64 (Lib.decDigits n.natAbs) = .ok n.natAbs := by
        unfold Lib.parseUintB
        rw [if_neg (dd_ne _)]
        exact hp
      rw [pib_neg _ _ hu (by omega)]
      congr 1
      omega
    · rw [if_neg hn]
      have hp := pu_pn (Lib.decDigits n.toNat) 0 (dd_dig _ _ (Nat.le_refl _)) (by rw [dd_pn _ _ (Nat.le_refl _)]; omega)
      rw [dd_pn _ _ (Nat.le_refl _)] at hp
      have hu : Lib.parseUintB 64 (Lib.decDigits n.toNat) = .ok n.toNat := by
        unfold Lib.parseUintB
        rw [if_neg (dd_ne _)]
        exact hp
      have hd := dd_dig _ n.toNat (Nat.le_refl _)
      cases hl : Lib.decDigits n.toNat with
      | nil => exact absurd hl (dd_ne _)
      | cons c r =>
        rw [hl] at hu hd
        have hc := hd c (by simp)
        rw [pib_pos c r _ hc.1 hu (by omega)]
        congr 1
        omega
  unfold numOf
  rw [ofL_data, key]
theorem bt_ofL (l : List UInt8) (i : Nat) (h : i < l.length) : bt (ofL l) (i : Int) = ((l[i]).toNat : Int) := by
  unfold bt
  rw [dif_pos (by rw [ofL_size]; simpa using h)]
  rfl
def vfin (neg : Bool) (y : Nat) : Int := if neg = true then wrap64 (IntKind.u64.wrap (-(y : Int))) else wrap64 (y : Int)
def I64 (n : Int) : Prop := -9223372036854775808 ≤ n ∧ n ≤ 9223372036854775807
def nm (n : Int) : List UInt8 := 32 :: Lib.itoa n
theorem nm_len (n : Int) (h : I64 n) : (nm n).length ≤ 22 := by
  have := itoa_len20 n h
  simp only [nm, List.length_cons]
  omega
theorem w64 {n : Int} (h : I64 n) : wrap64 n = n := by
  obtain ⟨h0, h1⟩ := h
  simp only [wrap64]
  omega
theorem put_is (w : List UInt8) (l : List Int) (hw : w.length ≤ 100) (hl : l.length ≤ 10) (h : ∀ x ∈ l, I64 x) : words_put.f (ofL w) l = some (ofL (w ++ l.flatMap nm)) := by
  unfold words_put.f
  rw [if_pos ⟨by rw [ofL_size]; omega, by omega, List.all_eq_true.2 (fun x hx => by have := h x hx; simpa [I64] using this)⟩, ofL_data]
  rfl
def LineOk (x : S109) : Prop := (0 ≤ x.f0 ∧ x.f0 < 256) ∧ I64 x.f1
def lnT (l : List S109) : List UInt8 := l.flatMap fun x => nm x.f0 ++ (58 :: Lib.itoa x.f1)
theorem rd90 (pre rest : List S109) (x : S109) : rd_T109 (pre ++ x :: rest) (pre.length : Int) = x := by simp [rd_T109, rdOf, List.getD_eq_getElem?_getD]
theorem u8_64 {n : Int} (h : 0 ≤ n ∧ n < 256) : I64 n := ⟨by omega, by omega⟩
theorem ask_l0 (rest : List S109) : ∀ (pre : List S109) (w : List UInt8), (∀ x ∈ rest, LineOk x) → w.length + 100 * rest.length ≤ 1000 → (pre ++ rest).length ≤ 1000 → Ev (fun k => words_ask.l0 k (ofL w) (pre ++ rest) ((pre ++ rest).length : Int) (pre.length : Int)) (ofL (w ++ lnT rest)) := by
  induction rest with
  | nil =>
    intro pre w _ _ _
    refine Ev.succ (f := fun _ => some (ofL w)) ?_ (fun k => ?_)
    · simp only [lnT, List.flatMap_nil, List.append_nil]
      exact Ev.const rfl
    · rw [words_ask.l0, if_neg (by rw [List.append_nil]; omega)]
  | cons x rest ih =>
    intro pre w hx hw hp
    obtain ⟨h0, h1⟩ := hx x (by simp)
    have hn := nm_len x.f0 (u8_64 h0)
    have hm := itoa_len20 x.f1 h1
    have hlt : pre.length < (pre ++ x :: rest).length := by simp
    have ih2 := ih (pre ++ [x]) (w ++ (nm x.f0 ++ (58 :: Lib.itoa x.f1))) (fun y hy => hx y (by simp [hy])) (by simp only [List.length_append, List.length_cons] at hw ⊢; omega) (by simpa using hp)
    rw [List.append_assoc, List.singleton_append] at ih2
    have e : lnT (x :: rest) = (nm x.f0 ++ (58 :: Lib.itoa x.f1)) ++ lnT rest := rfl
    rw [e, ← List.append_assoc]
    have hput : words_put.f (⟨#[]⟩ : ByteArray) [wrap64 x.f0] = some (ofL (nm x.f0)) := by
      rw [w64 (u8_64 h0)]
      have := put_is [] [x.f0] (by simp) (by simp) (fun y hy => by simp at hy; subst hy; exact u8_64 h0)
      rw [show [x.f0].flatMap nm = nm x.f0 from by simp, List.nil_append] at this
      exact this
    have hfm : strconv_FormatInt.f x.f1 10 = some (ofL (Lib.itoa x.f1)) := by
      unfold strconv_FormatInt.f
      rw [if_pos ⟨h1.1, h1.2, rfl⟩]
      rfl
    have ei : wrap64 ((pre.length : Int) + 1) = ((pre ++ [x]).length : Int) := by
      simp only [wrap64, List.length_append, List.length_cons, List.length_nil] at hp ⊢
      omega
    refine ih2.succ (fun k => ?_)
    rw [words_ask.l0, if_pos (by omega), if_pos (by omega), if_pos (by omega), rd90, hput, Option.bind_some]
    rw [if_pos (by rw [ofL_size]; omega), hfm, Option.bind_some, if_pos (by rw [ofL_size, ofL_size]; omega), if_pos (by rw [ofL_size, ofL_size, ofL_size]; omega), ei]
    congr 1
    rw [show (⟨#[58]⟩ : ByteArray) = ofL [58] from rfl, ofL_app, ofL_app, ofL_app]
    simp
/-- The fields' ranges, and a kind of its own. -/
structure RqOk (k o p : Int) (l : List S109) (s f t q : Int) : Prop where
  hK1 : 1 ≤ k
  hK7 : k ≤ 7
  hO : 0 ≤ o ∧ o < 4294967296
  hP : 0 ≤ p ∧ p < 256
  hL : ∀ x ∈ l, LineOk x
  hN : l.length ≤ 3
  hS : 0 ≤ s ∧ s < 256
  hF : 0 ≤ f ∧ f < 256
  hT : 0 ≤ t ∧ t < 256
  hQ : I64 q
def wPlace : List UInt8 := [112, 108, 97, 99, 101]
def wCancel : List UInt8 := [99, 97, 110, 99, 101, 108]
def wShip : List UInt8 := [115, 104, 105, 112]
def wReturn : List UInt8 := [114, 101, 116, 117, 114, 110]
def wRestock : List UInt8 := [114, 101, 115, 116, 111, 99, 107]
def wTransfer : List UInt8 := [116, 114, 97, 110, 115, 102, 101, 114]
def wQuery : List UInt8 := [113, 117, 101, 114, 121]
def askT (k o p : Int) (l : List S109) (s f t q : Int) : List UInt8 :=
  if k = 1 then (wPlace ++ (nm o ++ nm p)) ++ lnT l else if k = 2 then wCancel ++ nm o else if k = 3 then wShip ++ nm o else if k = 4 then wReturn ++ nm o
  else if k = 5 then wRestock ++ (nm s ++ (nm t ++ nm q)) else if k = 6 then wTransfer ++ (nm s ++ (nm f ++ (nm t ++ nm q))) else wQuery ++ nm s
theorem u32_64 {n : Int} (h : 0 ≤ n ∧ n < 4294967296) : I64 n := ⟨by omega, by omega⟩
theorem prog_ask {k o p : Int} {l : List S109} {s f t q : Int} (h : RqOk k o p l s f t q) : Ev (fun m => words_ask.f m k o p l s f t q) (ofL (askT k o p l s f t q)) := by
  have wo := w64 (u32_64 h.hO)
  have wp := w64 (u8_64 h.hP)
  have ws := w64 (u8_64 h.hS)
  have wf := w64 (u8_64 h.hF)
  have wt := w64 (u8_64 h.hT)
  have io := u32_64 h.hO
  have ip := u8_64 h.hP
  have is_ := u8_64 h.hS
  have if_ := u8_64 h.hF
  have it := u8_64 h.hT
  have iq := h.hQ
  have lo := nm_len o io
  have lp := nm_len p ip
  unfold words_ask.f askT
  have hk1 := h.hK1
  have hk7 := h.hK7
  by_cases h1 : k = 1
  · have hp := put_is wPlace [o, p] (by decide) (by simp) (by intro x hx; simp at hx; rcases hx with rfl | rfl <;> assumption)
    rw [show [o, p].flatMap nm = nm o ++ nm p from by simp] at hp
    have hl := ask_l0 l [] (wPlace ++ (nm o ++ nm p)) h.hL (by have := h.hN; simp only [List.length_append, show wPlace.length = 5 from rfl]; omega) (by have := h.hN; simp; omega)
    refine Ev.congr (f := fun m => words_ask.l0 m (ofL (wPlace ++ (nm o ++ nm p))) l (l.length : Int) 0) ?_ (fun m => ?_)
    · rw [if_pos h1]; exact hl
    · rw [if_pos h1, wo, wp, show (⟨#[112, 108, 97, 99, 101]⟩ : ByteArray) = ofL wPlace from rfl, hp, Option.bind_some]
  · rw [if_neg h1]
    by_cases h5 : k = 5
    · subst h5
      have hp := put_is wRestock [s, t, q] (by decide) (by simp) (by intro x hx; simp at hx; rcases hx with rfl | rfl | rfl <;> assumption)
      rw [show [s, t, q].flatMap nm = nm s ++ (nm t ++ nm q) from by simp] at hp
      refine ⟨0, fun m _ => ?_⟩
      dsimp only
      rw [if_neg (by omega), if_pos rfl]
      simp only [ws, wt, show (⟨#[114, 101, 115, 116, 111, 99, 107]⟩ : ByteArray) = ofL wRestock from rfl, hp, Option.bind_some]
      rfl
    by_cases h6 : k = 6
    · subst h6
      have hp := put_is wTransfer [s, f, t, q] (by decide) (by simp) (by intro x hx; simp at hx; rcases hx with rfl | rfl | rfl | rfl <;> assumption)
      rw [show [s, f, t, q].flatMap nm = nm s ++ (nm f ++ (nm t ++ nm q)) from by simp] at hp
      refine ⟨0, fun m _ => ?_⟩
      dsimp only
      rw [if_neg (by omega), if_neg (by omega), if_pos rfl]
      simp only [ws, wf, wt, show (⟨#[116, 114, 97, 110, 115, 102, 101, 114]⟩ : ByteArray) = ofL wTransfer from rfl, hp, Option.bind_some]
      rfl
    by_cases h7 : k = 7
    · subst h7
      have hp := put_is wQuery [s] (by decide) (by simp) (by intro x hx; simp at hx; subst hx; assumption)
      rw [show [s].flatMap nm = nm s from by simp] at hp
      refine ⟨0, fun m _ => ?_⟩
      dsimp only
      rw [if_neg (by omega), if_neg (by omega), if_neg (by omega), if_pos rfl]
      simp only [ws, show (⟨#[113, 117, 101, 114, 121]⟩ : ByteArray) = ofL wQuery from rfl, hp, Option.bind_some]
      rfl
    refine ⟨0, fun m _ => ?_⟩
    dsimp only
    rw [if_neg h1, if_neg h5, if_neg h6, if_neg h7]
    obtain rfl | rfl | rfl : k = 2 ∨ k = 3 ∨ k = 4 := by omega
    · have hp := put_is wCancel [o] (by decide) (by simp) (by intro x hx; simp at hx; subst hx; assumption)
      rw [show [o].flatMap nm = nm o from by simp] at hp
      have ha : words_about.f 2 = some (ofL wCancel) := rfl
      rw [ha, Option.bind_some, wo, hp]
      rfl
    · have hp := put_is wShip [o] (by decide) (by simp) (by intro x hx; simp at hx; subst hx; assumption)
      rw [show [o].flatMap nm = nm o from by simp] at hp
      have ha : words_about.f 3 = some (ofL wShip) := rfl
      rw [ha, Option.bind_some, wo, hp]
      rfl
    · have hp := put_is wReturn [o] (by decide) (by simp) (by intro x hx; simp at hx; subst hx; assumption)
      rw [show [o].flatMap nm = nm o from by simp] at hp
      have ha : words_about.f 4 = some (ofL wReturn) := rfl
      rw [ha, Option.bind_some, wo, hp]
      rfl
def ByteL (l : List Int) : Prop := ∀ b ∈ l, 0 ≤ b ∧ b < 256
theorem wB_leN : ∀ (l : List Int), ByteL l → wB (leN l) l.length = l
  | [], _ => rfl
  | b :: l, h => by
    have ih := wB_leN l (fun x hx => h x (by simp [hx]))
    have hb := h b (by simp)
    have e : ∀ j, leN (b :: l) / 256 ^ (j + 1) = leN l / 256 ^ j := fun j => by
      show (b + 256 * leN l) / 256 ^ (j + 1) = _
      have h1 : (b + 256 * leN l) / 256 = leN l := by omega
      rw [Int.pow_succ, Int.mul_comm (256 ^ j) 256, ← Int.ediv_ediv_of_nonneg (by decide), h1]
    have e0 : leN (b :: l) % 256 = b := by
      show (b + 256 * leN l) % 256 = b
      omega
    unfold wB at ih ⊢
    rw [List.length_cons, List.range_succ_eq_map, List.map_cons, List.map_map]
    congr 1
    · rw [Int.pow_zero, Int.ediv_one, e0]
    · refine Eq.trans (List.map_congr_left (fun j hj => ?_)) ih
      show leN (b :: l) / 256 ^ (j + 1) % 256 = leN l / 256 ^ j % 256
      rw [e]
theorem rNum_ok {n : Nat} {bs bs' : List Int} {x : Int} (hb : ByteL bs) (h : rNum n (0, bs) = (x, (0, bs'))) : bs = wB x n ++ bs' ∧ 0 ≤ x ∧ x < 256 ^ n := by
  unfold rNum at h
  rw [if_neg (by simp)] at h
  by_cases hl : bs.length < n
  · rw [if_pos hl] at h
    exact absurd (Prod.mk.inj (Prod.mk.inj h).2).1 (by omega)
  · rw [if_neg hl] at h
    obtain ⟨h1, h2⟩ := Prod.mk.inj h
    have h3 := (Prod.mk.inj h2).2
    subst h1
    subst h3
    have hlen : (bs.take n).length = n := by rw [List.length_take]; omega
    have hbt : ByteL (bs.take n) := fun b hx => hb b (List.mem_of_mem_take hx)
    have hr := leN_range (bs.take n) hbt
    have hw := wB_leN (bs.take n) hbt
    rw [hlen] at hr hw
    refine ⟨?_, hr.1, hr.2⟩
    show bs = wB (leN (bs.take n)) n ++ bs.drop n
    rw [hw, List.take_append_drop]
theorem rNum_err {n : Nat} {s : Int × List Int} (h : s.1 ≠ 0) : rNum n s = (0, s) := by
  unfold rNum
  rw [if_pos h]
/-! ### the two readers -/
def Rel (s t : Int × List Int) : Prop := s.1 = t.1 ∧ (s.1 = 0 → s.2 = t.2)
theorem rel_end {s t : Int × List Int} (h : Rel s t) : rEnd s = rEnd t := by
  obtain ⟨h1, h2⟩ := h
  unfold rEnd
  by_cases hs : s.1 = 0
  · rw [h2 hs, h1]
  · rw [if_neg (fun h => hs h.1), if_neg (fun h => hs (h1.trans h.1)), h1]
theorem rLines_err : ∀ (n : Nat) (s : Int × List Int), s.1 ≠ 0 → (request_Decode.rLines n s).2 = s
  | 0, s, _ => rfl
  | n + 1, s, h => by
    simp only [request_Decode.rLines]
    rw [rNum_err h, rNum_err h]
    exact rLines_err n s h
/-! ### what is decoded has these bytes -/
theorem rNum_fine {n : Nat} {s : Int × List Int} (h : (rNum n s).2.1 = 0) : s.1 = 0 := by
  unfold rNum at h
  split at h
  · rename_i h1; exact absurd h h1
  · rename_i h1
    exact Decidable.of_not_not h1
theorem rLines_fine {n : Nat} {s : Int × List Int} (h : (request_Decode.rLines n s).2.1 = 0) : s.1 = 0 := by
  by_cases hs : s.1 = 0
  · exact hs
  · rw [rLines_err n s hs] at h
    exact h
theorem wrap_back {x : Int} (h : 0 ≤ x ∧ x < 18446744073709551616) : wrap64 x % 18446744073709551616 = x ∧ I64 (wrap64 x) := by
  unfold I64
  simp only [wrap64]
  omega
theorem wB_one {x : Int} (h : 0 ≤ x ∧ x < 256) : wB x 1 = [x] := by
  show [x / 256 ^ 0 % 256] = [x]
  rw [Int.pow_zero, Int.ediv_one]
  congr 1
  omega
theorem ok1 {bs : List Int} {s : Int × List Int} (hb : ByteL bs) (hs : s = (0, bs)) (h : (rNum 1 s).2.1 = 0) : bs = (rNum 1 s).1 :: (rNum 1 s).2.2 ∧ (0 ≤ (rNum 1 s).1 ∧ (rNum 1 s).1 < 256) ∧ ByteL (rNum 1 s).2.2 := by
  subst hs
  obtain ⟨x, e, l, hq⟩ : ∃ x e l, rNum 1 (0, bs) = (x, (e, l)) := ⟨_, _, _, rfl⟩
  rw [hq] at h ⊢
  obtain rfl : e = 0 := h
  obtain ⟨h1, h2, h3⟩ := rNum_ok hb hq
  have h4 : x < 256 := by simpa using h3
  rw [wB_one ⟨h2, h4⟩] at h1
  exact ⟨h1, ⟨h2, h4⟩, rNum_wf hq hb⟩
theorem okn {n : Nat} {bs : List Int} {s : Int × List Int} (hb : ByteL bs) (hs : s = (0, bs)) (h : (rNum n s).2.1 = 0) : bs = wB (rNum n s).1 n ++ (rNum n s).2.2 ∧ (0 ≤ (rNum n s).1 ∧ (rNum n s).1 < 256 ^ n) ∧ ByteL (rNum n s).2.2 := by
  subst hs
  obtain ⟨x, e, l, hq⟩ : ∃ x e l, rNum n (0, bs) = (x, (e, l)) := ⟨_, _, _, rfl⟩
  rw [hq] at h ⊢
  obtain rfl : e = 0 := h
  obtain ⟨h1, h2, h3⟩ := rNum_ok hb hq
  exact ⟨h1, ⟨h2, h3⟩, rNum_wf hq hb⟩
theorem pairs {s : Int × List Int} (h : s.1 = 0) : s = (0, s.2) := by
  obtain ⟨a, b⟩ := s
  simp only at h
  rw [h]
theorem lines_ok : ∀ (n : Nat) (bs : List Int), ByteL bs → (request_Decode.rLines n (0, bs)).2.1 = 0 → bs = request_Encode.lnB (request_Decode.rLines n (0, bs)).1 ++ (request_Decode.rLines n (0, bs)).2.2 ∧ (∀ x ∈ (request_Decode.rLines n (0, bs)).1, LineOk x) ∧ ByteL (request_Decode.rLines n (0, bs)).2.2
  | 0, bs, hb, _ => ⟨rfl, fun x hx => by simp [request_Decode.rLines] at hx, hb⟩
  | n + 1, bs, hb, h => by
    simp only [request_Decode.rLines] at h ⊢
    have h8 := rLines_fine h
    have h1 := rNum_fine h8
    have a := ok1 hb rfl h1
    have b := okn (n := 8) a.2.2 (pairs h1) h8
    rw [pairs h8] at h ⊢
    have c := lines_ok n _ b.2.2 h
    have w := wrap_back (x := (rNum 8 (rNum 1 (0, bs)).2).1) ⟨b.2.1.1, by have := b.2.1.2; simpa using this⟩
    refine ⟨?_, ?_, c.2.2⟩
    · have e : ∀ (x : S109) l, request_Encode.lnB (x :: l) = (x.f0 :: wB (x.f1 % 18446744073709551616) 8) ++ request_Encode.lnB l := fun x l => rfl
      rw [e, List.append_assoc, ← c.1]
      show bs = ((rNum 1 (0, bs)).1 % 256) :: (wB (wrap64 (rNum 8 (rNum 1 (0, bs)).2).1 % 18446744073709551616) 8 ++ (rNum 8 (rNum 1 (0, bs)).2).2.2)
      rw [w.1, ← b.1, Int.emod_eq_of_lt a.2.1.1 a.2.1.2]
      exact a.1
    · intro x hx
      rcases List.mem_cons.1 hx with rfl | hx
      · exact ⟨⟨by show 0 ≤ (rNum 1 (0, bs)).1 % 256; omega, by show (rNum 1 (0, bs)).1 % 256 < 256; omega⟩, w.2⟩
      · exact c.2.1 x hx
theorem rEnd_ok {s : Int × List Int} (h : rEnd s = 0) : s.1 = 0 ∧ s.2 = [] := by
  unfold rEnd at h
  by_cases hs : s.1 = 0 ∧ 0 < s.2.length
  · rw [if_pos hs] at h; omega
  · rw [if_neg hs] at h
    exact ⟨h, List.eq_nil_of_length_eq_zero (by omega)⟩
theorem fin_ok {s : Int × List Int} {a b c d e f g : Int} {l : List S109} {r : Int × Int × Int × List S109 × Int × Int × Int × Int × Int} (h : request_Decode.fin s a b c l d e f g = r) (hr : r.2.2.2.2.2.2.2.2 = 0) : rEnd s = 0 ∧ r = (a, b, c, l, d, e, f, g, 0) := by
  unfold request_Decode.fin at h
  by_cases hz : rEnd s = 0
  · rw [if_pos hz] at h
    exact ⟨hz, h.symm⟩
  · rw [if_neg hz] at h
    subst h
    exact absurd hr hz
/-- The fields that a kind does not use are 0. -/
def Shape (k o p : Int) (l : List S109) (s f t q : Int) : Prop :=
  (k = 1 ∧ s = 0 ∧ f = 0 ∧ t = 0 ∧ q = 0) ∨ ((k = 2 ∨ k = 3 ∨ k = 4) ∧ p = 0 ∧ l = [] ∧ s = 0 ∧ f = 0 ∧ t = 0 ∧ q = 0) ∨ (k = 5 ∧ o = 0 ∧ p = 0 ∧ l = [] ∧ f = 0) ∨ (k = 6 ∧ o = 0 ∧ p = 0 ∧ l = []) ∨ (k = 7 ∧ o = 0 ∧ p = 0 ∧ l = [] ∧ f = 0 ∧ t = 0 ∧ q = 0)
theorem tup9 {a b c e f g h i a' b' c' e' f' g' h' i' : Int} {d d' : List S109} (H : (a, b, c, d', e, f, g, h, i) = (a', b', c', d, e', f', g', h', i')) : a = a' ∧ b = b' ∧ c = c' ∧ d' = d ∧ e = e' ∧ f = f' ∧ g = g' ∧ h = h' ∧ i = i' := by simpa only [Prod.mk.injEq] using H
theorem zq64 : I64 0 := ⟨by omega, by omega⟩
theorem dec_ok {bs : List Int} (hb : ByteL bs) {k o p : Int} {l : List S109} {s f t q : Int} (h : request_Decode.decF bs = (k, o, p, l, s, f, t, q, 0)) :
    RqOk k o p l s f t q ∧ request_Encode.encB k o p l s f t q = bs ∧ Shape k o p l s f t q := by
  unfold request_Decode.decF at h
  by_cases he : (rNum 1 (0, bs)).2.1 = 0
  · rw [if_neg (fun h => h he)] at h
    have a := ok1 hb rfl he
    have pa := pairs he
    generalize hk : (rNum 1 (0, bs)).1 = k0 at *
    generalize hs1 : (rNum 1 (0, bs)).2 = s1 at *
    clear hk hs1
    by_cases hk : k0 < 1 ∨ 7 < k0
    · rw [if_pos hk] at h
      have := (tup9 h).2.2.2.2.2.2.2.2
      omega
    rw [if_neg hk] at h
    by_cases h1 : k0 = 1
    · rw [if_pos h1] at h
      by_cases h3 : 3 < (rNum 1 (rNum 1 (rNum 4 s1).2).2).1
      · rw [if_pos h3] at h
        have := (tup9 h).2.2.2.2.2.2.2.2
        omega
      rw [if_neg h3] at h
      obtain ⟨hz, hr⟩ := fin_ok h rfl
      obtain ⟨e1, e2⟩ := rEnd_ok hz
      have f6 := rLines_fine e1
      have f5 := rNum_fine f6
      have f4 := rNum_fine f5
      have b := okn (n := 4) a.2.2 pa f4
      have c := ok1 b.2.2 (pairs f4) f5
      have d := ok1 c.2.2 (pairs f5) f6
      rw [pairs f6] at e1 e2 hr
      have el := lines_ok _ _ d.2.2 e1
      have ll := request_Decode.rLines_len (rNum 1 (rNum 1 (rNum 4 s1).2).2).1.toNat (0, (rNum 1 (rNum 1 (rNum 4 s1).2).2).2.2)
      obtain ⟨rfl, rfl, rfl, rfl, rfl, rfl, rfl, rfl, -⟩ := tup9 hr
      rw [e2, List.append_nil] at el
      generalize (request_Decode.rLines (rNum 1 (rNum 1 (rNum 4 s1).2).2).1.toNat (0, (rNum 1 (rNum 1 (rNum 4 s1).2).2).2.2)).1 = L at *
      have b1 : (rNum 4 s1).1 < 4294967296 := by simpa using b.2.1.2
      have wl : (L.length : Int) = (rNum 1 (rNum 1 (rNum 4 s1).2).2).1 := by omega
      rw [Int.emod_eq_of_lt b.2.1.1 b1, Int.emod_eq_of_lt c.2.1.1 c.2.1.2]
      refine ⟨⟨by omega, by omega, ⟨b.2.1.1, b1⟩, c.2.1, el.2.1, by omega, by omega, by omega, by omega, zq64⟩, ?_, .inl ⟨rfl, rfl, rfl, rfl, rfl⟩⟩
      unfold request_Encode.encB
      rw [if_pos rfl, a.1, b.1, c.1, d.1, ← el.1, wl, h1]
      simp
    rw [if_neg h1] at h
    by_cases h4 : k0 ≤ 4
    · rw [if_pos h4] at h
      obtain ⟨hz, hr⟩ := fin_ok h rfl
      obtain ⟨e1, e2⟩ := rEnd_ok hz
      have b := okn (n := 4) a.2.2 pa e1
      rw [e2, List.append_nil] at b
      obtain ⟨rfl, rfl, rfl, rfl, rfl, rfl, rfl, rfl, -⟩ := tup9 hr
      have b1 : (rNum 4 s1).1 < 4294967296 := by simpa using b.2.1.2
      rw [Int.emod_eq_of_lt b.2.1.1 b1]
      refine ⟨⟨by omega, by omega, ⟨b.2.1.1, b1⟩, by omega, by simp, by simp, by omega, by omega, by omega, zq64⟩, ?_, .inr (.inl ⟨by omega, rfl, rfl, rfl, rfl, rfl, rfl⟩)⟩
      unfold request_Encode.encB
      rw [if_neg h1, if_pos h4, a.1, b.1]
      simp
    rw [if_neg h4] at h
    by_cases h5 : k0 = 5
    · rw [if_pos h5] at h
      obtain ⟨hz, hr⟩ := fin_ok h rfl
      obtain ⟨e1, e2⟩ := rEnd_ok hz
      have f3 := rNum_fine e1
      have f2 := rNum_fine f3
      have b := ok1 a.2.2 pa f2
      have c := ok1 b.2.2 (pairs f2) f3
      have d := okn (n := 8) c.2.2 (pairs f3) e1
      rw [e2, List.append_nil] at d
      have w := wrap_back (x := (rNum 8 (rNum 1 (rNum 1 s1).2).2).1) ⟨d.2.1.1, by have := d.2.1.2; simpa using this⟩
      obtain ⟨rfl, rfl, rfl, rfl, rfl, rfl, rfl, rfl, -⟩ := tup9 hr
      rw [Int.emod_eq_of_lt b.2.1.1 b.2.1.2, Int.emod_eq_of_lt c.2.1.1 c.2.1.2]
      refine ⟨⟨by omega, by omega, by omega, by omega, by simp, by simp, b.2.1, by omega, c.2.1, w.2⟩, ?_, .inr (.inr (.inl ⟨rfl, rfl, rfl, rfl, rfl⟩))⟩
      unfold request_Encode.encB
      rw [if_neg (by omega), if_neg (by omega), if_pos rfl, w.1, a.1, b.1, c.1, ← d.1, h5]
      simp
    rw [if_neg h5] at h
    by_cases h6 : k0 = 6
    · rw [if_pos h6] at h
      obtain ⟨hz, hr⟩ := fin_ok h rfl
      obtain ⟨e1, e2⟩ := rEnd_ok hz
      have f4 := rNum_fine e1
      have f3 := rNum_fine f4
      have f2 := rNum_fine f3
      have b := ok1 a.2.2 pa f2
      have c := ok1 b.2.2 (pairs f2) f3
      have c2 := ok1 c.2.2 (pairs f3) f4
      have d := okn (n := 8) c2.2.2 (pairs f4) e1
      rw [e2, List.append_nil] at d
      have w := wrap_back (x := (rNum 8 (rNum 1 (rNum 1 (rNum 1 s1).2).2).2).1) ⟨d.2.1.1, by have := d.2.1.2; simpa using this⟩
      obtain ⟨rfl, rfl, rfl, rfl, rfl, rfl, rfl, rfl, -⟩ := tup9 hr
      rw [Int.emod_eq_of_lt b.2.1.1 b.2.1.2, Int.emod_eq_of_lt c.2.1.1 c.2.1.2, Int.emod_eq_of_lt c2.2.1.1 c2.2.1.2]
      refine ⟨⟨by omega, by omega, by omega, by omega, by simp, by simp, b.2.1, c.2.1, c2.2.1, w.2⟩, ?_, .inr (.inr (.inr (.inl ⟨rfl, rfl, rfl, rfl⟩)))⟩
      unfold request_Encode.encB
      rw [if_neg (by omega), if_neg (by omega), if_neg (by omega), if_pos rfl, w.1, a.1, b.1, c.1, c2.1, ← d.1, h6]
      simp
    rw [if_neg h6] at h
    obtain ⟨hz, hr⟩ := fin_ok h rfl
    obtain ⟨e1, e2⟩ := rEnd_ok hz
    have b := ok1 a.2.2 pa e1
    rw [e2] at b
    obtain ⟨rfl, rfl, rfl, rfl, rfl, rfl, rfl, rfl, -⟩ := tup9 hr
    rw [Int.emod_eq_of_lt b.2.1.1 b.2.1.2]
    refine ⟨⟨by omega, by omega, by omega, by omega, by simp, by simp, b.2.1, by omega, by omega, zq64⟩, ?_, .inr (.inr (.inr (.inr ⟨rfl, rfl, rfl, rfl, rfl, rfl, rfl⟩)))⟩
    unfold request_Encode.encB
    rw [if_neg (by omega), if_neg (by omega), if_neg (by omega), if_neg (by omega), a.1, b.1]
    simp
    omega
  · rw [if_pos he] at h
    exact absurd (tup9 h).2.2.2.2.2.2.2.2 he
theorem plain_ok {k o p : Int} {l : List S109} {s f t q : Int} (h : RqOk k o p l s f t q) (hs : Shape k o p l s f t q) : request_Plain.f 2 k o p l s f t q = some true := by
  have h3 : ¬ ((l.length : Int) > 3) := by have := h.hN; omega
  have d3 : decide ((l.length : Int) > 3) = false := decide_eq_false h3
  rcases hs with ⟨rfl, rfl, rfl, rfl, rfl⟩ | ⟨hk, rfl, rfl, rfl, rfl, rfl, rfl⟩ | ⟨rfl, rfl, rfl, rfl, rfl⟩ | ⟨rfl, rfl, rfl, rfl⟩ | ⟨rfl, rfl, rfl, rfl, rfl, rfl, rfl⟩
  · unfold request_Plain.f
    rw [if_neg (by omega), if_neg (by omega), d3]
    rfl
  · rcases hk with rfl | rfl | rfl <;> rfl
  · rfl
  · rfl
  · rfl
/-! ### the document's bytes of a request -/
theorem wB_snoc (x : Int) (n : Nat) : wB x (n + 1) = wB x n ++ [x / 256 ^ n % 256] := by
  unfold wB
  rw [List.range_succ, List.map_append]
  rfl
theorem uw (x : Int) : IntKind.u64.wrap x = x % 18446744073709551616 := by
  show x % _ = _
  rfl
theorem wB_len (x : Int) (n : Nat) : (wB x n).length = n := by simp [wB]
/-- An event that can be written. -/
def GoodP (k g p t : Int) (l : List Int) : Prop :=
  (1 ≤ k ∧ k ≤ 8) ∧ (k = 1 ∨ l.length = 0) ∧ l.length ≤ 512 ∧ (k = 2 ∨ k = 3 ∨ g = 0) ∧ ((k = 7 ∧ 0 ≤ p ∧ p ≤ 65535 ∧ 0 ≤ t ∧ t ≤ 65535) ∨ (k ≠ 7 ∧ p = 0 ∧ t = 0))
instance (k g p t : Int) (l : List Int) : Decidable (GoodP k g p t l) := by unfold GoodP; infer_instance
theorem sn_nil (l : List Int) : ((strOfNums l).toList == (strOfNums []).toList) = decide (l.length = 0) := by
  rw [ByteArray.toList_eq, ByteArray.toList_eq, strOfNums_data, strOfNums_data]
  cases l with
  | nil => rfl
  | cons x l => rfl
theorem oy {P Q : Prop} [Decidable P] [Decidable Q] (h : P ↔ Q) : (some (decide P) : Option Bool) = some (decide Q) := by rw [decide_eq_decide.2 h]
theorem on {Q : Prop} [Decidable Q] (h : ¬ Q) : (some false : Option Bool) = some (decide Q) := by rw [decide_eq_false h]
theorem j0_true (k g p t : Int) (l : List Int) : script_Good.j0 1 true k g p t l = some false := rfl
theorem j0_false (k g p t : Int) (l : List Int) : script_Good.j0 1 false k g p t l = some (decide ((k = 7 ∧ 0 ≤ p ∧ p ≤ 65535 ∧ 0 ≤ t ∧ t ≤ 65535) ∨ (k ≠ 7 ∧ p = 0 ∧ t = 0))) := by
  rw [script_Good.j0, if_neg (by decide)]
  by_cases h7 : k = 7
  · rw [if_pos h7]
    by_cases h1 : p ≥ 0
    · rw [if_pos h1]
      by_cases h2 : p ≤ 65535
      · rw [if_pos h2]
        by_cases h3 : t ≥ 0
        · rw [if_pos h3]
          exact oy (by omega)
        · rw [if_neg h3]; exact on (by omega)
      · rw [if_neg h2]; exact on (by omega)
    · rw [if_neg h1]; exact on (by omega)
  · rw [if_neg h7]
    by_cases h1 : p = 0
    · rw [if_pos h1]
      exact oy (P := t = 0) (by omega)
    · rw [if_neg h1]; exact on (by omega)
theorem named_is (k : Int) : script_named.f k = some (decide (k = 2 ∨ k = 3)) := by
  unfold script_named.f
  by_cases h : k = 2
  · subst h; rfl
  · rw [if_neg h]
    exact oy (P := k = 3) (by omega)
theorem script_good (k g p t : Int) (l : List Int) : script_Good.f 1 k g p t l = some (decide (GoodP k g p t l)) := by
  unfold script_Good.f
  simp only [j0_true, j0_false, named_is, Option.bind_some]
  by_cases h1 : k < 1
  · rw [if_pos h1]; exact on (by unfold GoodP; omega)
  rw [if_neg h1]
  by_cases h8 : k > 8
  · rw [if_pos h8]; exact on (by unfold GoodP; omega)
  rw [if_neg h8]
  by_cases hk : k = 1
  · rw [if_pos hk]
    by_cases hl : (l.length : Int) > 512
    · rw [if_pos hl]; exact on (by unfold GoodP; omega)
    rw [if_neg hl, if_neg (by simp [hk])]
    by_cases hg : g = 0
    · rw [show (g != 0) = false from by simp [hg], j0_false]; exact oy (by unfold GoodP; omega)
    · rw [show (g != 0) = true from by simp [hg], j0_true]; exact on (by unfold GoodP; omega)
  rw [if_neg hk]
  by_cases h0 : (l.length : Int) = 0
  · rw [if_pos h0, if_neg (by omega)]
    by_cases h2 : k = 2 ∨ k = 3
    · rw [if_pos (decide_eq_true h2)]; exact oy (by unfold GoodP; omega)
    · rw [if_neg (by simpa using h2)]
      by_cases hg : g = 0
      · rw [show (g != 0) = false from by simp [hg], j0_false]; exact oy (by unfold GoodP; omega)
      · rw [show (g != 0) = true from by simp [hg], j0_true]; exact on (by unfold GoodP; omega)
  · rw [if_neg h0]; exact on (by unfold GoodP; omega)
theorem same_is (k g p t : Int) (l : List Int) (g' p' t' : Int) (l' : List Int) : pledgeref38_Same.f k g p t l k g' p' t' l' = some (decide (g = g' ∧ p = p' ∧ t = t') && ((strOfNums l).toList == (strOfNums l').toList)) := by
  unfold pledgeref38_Same.f
  rw [if_pos rfl]
  by_cases h1 : g = g'
  · rw [if_pos h1]
    by_cases h2 : p = p'
    · rw [if_pos h2]
      by_cases h3 : t = t'
      · rw [if_pos h3, decide_eq_true ⟨h1, h2, h3⟩]; rfl
      · rw [if_neg h3, decide_eq_false (fun h => h3 h.2.2)]; rfl
    · rw [if_neg h2, decide_eq_false (fun h => h2 h.2.1)]; rfl
  · rw [if_neg h1, decide_eq_false (fun h => h1 h.1)]; rfl
theorem rdi (pre rest : List Int) (x : Int) : rd (pre ++ x :: rest) (pre.length : Int) = x := by simp [rd, rdOf, List.getD_eq_getElem?_getD]
theorem hexdig : ∀ a : Nat, a < 16 → UInt8.ofNat (bt (⟨#[48, 49, 50, 51, 52, 53, 54, 55, 56, 57, 97, 98, 99, 100, 101, 102]⟩ : ByteArray) (a : Int)).toNat = hexD.getD a 0 := by decide
def hx (c : Int) : List UInt8 := [hexD.getD (c.toNat / 16) 0, hexD.getD (c.toNat % 16) 0]
theorem hexL_cons (c : Int) (l : List Int) : hexL (c :: l) = hx c ++ hexL l := rfl
theorem hexL_len : ∀ l : List Int, (hexL l).length = 2 * l.length
  | [] => rfl
  | c :: l => by rw [hexL_cons, List.length_append, hexL_len l]; simp [hx]; omega
theorem sn2 (a b : Int) : strOfNums [a, b] = ofL [UInt8.ofNat a.toNat, UInt8.ofNat b.toNat] := rfl
/-- The canonical line. -/
def wPick : List UInt8 := [112, 105, 99, 107]
def wKill : List UInt8 := [107, 105, 108, 108]
def wWrite : List UInt8 := [119, 114, 105, 116, 101]
def wSync : List UInt8 := [115, 121, 110, 99]
def wCkpt : List UInt8 := [99, 107, 112, 116]
def wCrash : List UInt8 := [99, 114, 97, 115, 104]
def wBoot : List UInt8 := [98, 111, 111, 116]
def wAsk : List UInt8 := [97, 115, 107]
def askedT (l : List Int) : List UInt8 :=
  if (request_Decode.decF l).2.2.2.2.2.2.2.2 = 0 then
    askT (request_Decode.decF l).1 (request_Decode.decF l).2.1 (request_Decode.decF l).2.2.1 (request_Decode.decF l).2.2.2.1 (request_Decode.decF l).2.2.2.2.1 (request_Decode.decF l).2.2.2.2.2.1 (request_Decode.decF l).2.2.2.2.2.2.1 (request_Decode.decF l).2.2.2.2.2.2.2.1
  else if l.length = 0 then wAsk else askB ++ hexL l
def lineT (k g p t : Int) (l : List Int) : List UInt8 :=
  if k = 1 then askedT l else if k = 2 then wPick ++ nm g else if k = 3 then wKill ++ nm g else if k = 4 then wWrite else if k = 5 then wSync else if k = 6 then wCkpt else if k = 7 then wCrash ++ (nm p ++ nm t) else wBoot
theorem dec_fields {bs : List Int} (hb : ByteL bs) (h : (request_Decode.decF bs).2.2.2.2.2.2.2.2 = 0) : RqOk (request_Decode.decF bs).1 (request_Decode.decF bs).2.1 (request_Decode.decF bs).2.2.1 (request_Decode.decF bs).2.2.2.1 (request_Decode.decF bs).2.2.2.2.1 (request_Decode.decF bs).2.2.2.2.2.1 (request_Decode.decF bs).2.2.2.2.2.2.1 (request_Decode.decF bs).2.2.2.2.2.2.2.1 := by
  obtain ⟨k, o, p, l, s, f, t, q, e, hq⟩ : ∃ k o p l s f t q e, request_Decode.decF bs = (k, o, p, l, s, f, t, q, e) := ⟨_, _, _, _, _, _, _, _, _, rfl⟩
  rw [hq] at h ⊢
  obtain rfl : e = 0 := h
  exact (dec_ok hb hq).1
theorem dec_guard {bs : List Int} (hb : ByteL bs) (hl : bs.length ≤ 512) : bs.length ≤ 1000000 ∧ bs.all (fun x => decide (0 ≤ x ∧ x < 256)) = true := ⟨by omega, List.all_eq_true.2 (fun x hx => decide_eq_true (hb x hx))⟩
theorem prog_line {k g p t : Int} {l : List Int} (h : GoodP k g p t l) (hb : ByteL l) (hg : 0 ≤ g ∧ g < 4294967296) : Ev (fun m => words_Line.f m k g p t l) (ofL (lineT k g p t l)) := by
  obtain ⟨hk, hl0, hl, hg0, hpt⟩ := h
  have hgood : Ev (fun m => script_Good.f m k g p t l) true := Ev.of (script_Good.mono _ _ _ _ _) (k := 1) (by rw [script_good, decide_eq_true (show GoodP k g p t l from ⟨hk, hl0, hl, hg0, hpt⟩)])
  have wg := w64 (u32_64 hg)
  unfold words_Line.f lineT
  refine Ev.bind hgood ?_
  simp only [if_pos (show true = true from rfl)]
  by_cases h1 : k = 1
  · simp only [if_pos h1]
    refine Ev.bind (r := request_Decode.decF l) (Ev.const (by unfold request_Decode.f; rw [if_pos (dec_guard hb hl)])) ?_
    unfold askedT
    by_cases h0 : (request_Decode.decF l).2.2.2.2.2.2.2.2 = 0
    · simp only [if_pos h0]
      exact Ev.bind (prog_ask (dec_fields hb h0)) (Ev.const rfl)
    · simp only [if_neg h0]
      refine Ev.const ?_
      unfold words_raw.f
      rw [if_pos (dec_guard hb hl)]
      by_cases hz : l.length = 0
      · rw [if_pos hz, if_pos hz]; rfl
      · rw [if_neg hz, if_neg hz]; rfl
  simp only [if_neg h1]
  have p1 : ∀ w : List UInt8, w.length ≤ 100 → words_put.f (ofL w) [g] = some (ofL (w ++ nm g)) := fun w hw => by
    have := put_is w [g] hw (by simp) (fun x hx => by simp at hx; subst hx; exact u32_64 hg)
    simpa using this
  by_cases h2 : k = 2
  · simp only [if_pos h2, wg]
    exact Ev.const (by rw [show (⟨#[112, 105, 99, 107]⟩ : ByteArray) = ofL wPick from rfl, p1 wPick (by decide)]; rfl)
  simp only [if_neg h2]
  by_cases h3 : k = 3
  · simp only [if_pos h3, wg]
    exact Ev.const (by rw [show (⟨#[107, 105, 108, 108]⟩ : ByteArray) = ofL wKill from rfl, p1 wKill (by decide)]; rfl)
  simp only [if_neg h3]
  by_cases h4 : k = 4
  · simp only [if_pos h4]
    exact Ev.const rfl
  simp only [if_neg h4]
  by_cases h5 : k = 5
  · simp only [if_pos h5]
    exact Ev.const rfl
  simp only [if_neg h5]
  by_cases h6 : k = 6
  · simp only [if_pos h6]
    exact Ev.const rfl
  simp only [if_neg h6]
  by_cases h7 : k = 7
  · simp only [if_pos h7]
    have hq : (0 ≤ p ∧ p ≤ 65535) ∧ (0 ≤ t ∧ t ≤ 65535) := by omega
    have := put_is wCrash [p, t] (by decide) (by simp) (fun x hx => by simp at hx; unfold I64; omega)
    exact Ev.const (by rw [show (⟨#[99, 114, 97, 115, 104]⟩ : ByteArray) = ofL wCrash from rfl, this]; simp)
  simp only [if_neg h7]
  exact Ev.const rfl
end Go.Proofs.YtpnehgajhpejjaaDoor.W
namespace Go.Proofs.YtpnehgajhpejjaaDoor.W
open Go.Lib Go.RowKit Go.Proofs.YtpnehgajhpejjaaDoorW.PrintWords
set_option maxRecDepth 100000
set_option linter.unusedVariables false
set_option linter.unusedSimpArgs false
theorem itoa_no (n : Int) (c : UInt8) (h1 : c ≠ 45) (h2 : ¬ (48 ≤ c.toNat ∧ c.toNat ≤ 57)) : c ∉ Lib.itoa n := by
  intro hc
  unfold Lib.itoa at hc
  split at hc
  · rcases List.mem_cons.1 hc with e | hc
    · exact h1 e
    · exact h2 (dd_dig _ _ (Nat.le_refl _) c hc)
  · exact h2 (dd_dig _ _ (Nat.le_refl _) c hc)
theorem split_tok (c : UInt8) : ∀ (ts : List (List UInt8)) (w : List UInt8), c ∉ w → (∀ t ∈ ts, c ∉ t) → splitL c (w ++ ts.flatMap (fun t => c :: t)) = w :: ts
  | [], w, hw, _ => by rw [List.flatMap_nil, List.append_nil]; exact splitL_none c w hw
  | t :: ts, w, hw, ht => by
    rw [List.flatMap_cons, List.cons_append, splitL_app c _ w hw, split_tok c ts t (ht t (by simp)) (fun x hx => ht x (by simp [hx]))]
theorem prog_split (c : UInt8) (s : List UInt8) (h : s.length ≤ 1000000) : strings_Split.f (ofL s) (ofL [c]) = some ((splitL c s).map ofL) := by
  unfold strings_Split.f
  rw [if_pos ⟨by rw [ofL_size]; omega, by rw [ofL_size]; simp⟩]
  have := split_is c (ofL s)
  rw [ofL_data] at this
  rw [← this, List.map_map]
  refine congrArg some ?_
  refine ((List.map_id _).symm.trans (List.map_congr_left (fun x _ => ?_)))
  exact (ofL_of x).symm
theorem number_at {l : List ByteArray} {i : Nat} {n : Int} (hn : I64 n) (h : l[i]? = some (ofL (Lib.itoa n))) : words_number.f l (i : Int) = some n := by
  obtain ⟨hi, he⟩ := List.getElem?_eq_some_iff.1 h
  unfold words_number.f
  have e : rdOf ByteArray.empty l (i : Int) = ofL (Lib.itoa n) := by simp [rdOf, List.getD_eq_getElem?_getD, h]
  have := itoa_len20 n hn
  rw [if_neg (by omega), e, if_pos ⟨by omega, by rw [ofL_size]; omega⟩, numOf_itoa n hn]
theorem number_out {l : List ByteArray} {i : Int} (h : (l.length : Int) ≤ i) : words_number.f l i = some 0 := by
  unfold words_number.f
  rw [if_pos h]
theorem itoa_no32 (n : Int) : (32 : UInt8) ∉ Lib.itoa n := itoa_no n 32 (by decide) (by decide)
theorem itoa_no58 (n : Int) : (58 : UInt8) ∉ Lib.itoa n := itoa_no n 58 (by decide) (by decide)
theorem itoa_no10 (n : Int) : (10 : UInt8) ∉ Lib.itoa n := itoa_no n 10 (by decide) (by decide)
def lnW (x : S109) : List UInt8 := Lib.itoa x.f0 ++ 58 :: Lib.itoa x.f1
def askW (k o p : Int) (l : List S109) (s f t q : Int) : List UInt8 × List (List UInt8) :=
  if k = 1 then (wPlace, Lib.itoa o :: Lib.itoa p :: l.map lnW) else if k = 2 then (wCancel, [Lib.itoa o]) else if k = 3 then (wShip, [Lib.itoa o]) else if k = 4 then (wReturn, [Lib.itoa o])
  else if k = 5 then (wRestock, [Lib.itoa s, Lib.itoa t, Lib.itoa q]) else if k = 6 then (wTransfer, [Lib.itoa s, Lib.itoa f, Lib.itoa t, Lib.itoa q]) else (wQuery, [Lib.itoa s])
theorem askT_is (k o p : Int) (l : List S109) (s f t q : Int) : askT k o p l s f t q = (askW k o p l s f t q).1 ++ (askW k o p l s f t q).2.flatMap (fun t => 32 :: t) := by
  unfold askT askW
  by_cases h1 : k = 1
  · simp only [if_pos h1, List.flatMap_cons, List.flatMap_map, nm, lnT, lnW]
    simp
  simp only [if_neg h1]
  by_cases h2 : k = 2
  · simp [h2, nm]
  simp only [if_neg h2]
  by_cases h3 : k = 3
  · simp [h3, nm]
  simp only [if_neg h3]
  by_cases h4 : k = 4
  · simp [h4, nm]
  simp only [if_neg h4]
  by_cases h5 : k = 5
  · simp [h5, nm]
  simp only [if_neg h5]
  by_cases h6 : k = 6
  · simp [h6, nm]
  simp only [if_neg h6]
  simp [nm]
theorem lnW_no32 (x : S109) : (32 : UInt8) ∉ lnW x := by
  unfold lnW
  intro h
  rcases List.mem_append.1 h with h | h
  · exact itoa_no32 _ h
  · rcases List.mem_cons.1 h with h | h
    · exact absurd h (by decide)
    · exact itoa_no32 _ h
theorem askW_no32 (k o p : Int) (l : List S109) (s f t q : Int) : (32 : UInt8) ∉ (askW k o p l s f t q).1 ∧ ∀ x ∈ (askW k o p l s f t q).2, (32 : UInt8) ∉ x := by
  have h := itoa_no32
  unfold askW
  split
  · refine ⟨(by decide : (32 : UInt8) ∉ wPlace), fun x hx => ?_⟩
    simp only [List.mem_cons, List.mem_map] at hx
    rcases hx with rfl | rfl | ⟨y, _, rfl⟩
    · exact h _
    · exact h _
    · exact lnW_no32 y
  split
  · exact ⟨(by decide : (32 : UInt8) ∉ wCancel), fun x hx => by simp at hx; subst hx; exact h _⟩
  split
  · exact ⟨(by decide : (32 : UInt8) ∉ wShip), fun x hx => by simp at hx; subst hx; exact h _⟩
  split
  · exact ⟨(by decide : (32 : UInt8) ∉ wReturn), fun x hx => by simp at hx; subst hx; exact h _⟩
  split
  · exact ⟨(by decide : (32 : UInt8) ∉ wRestock), fun x hx => by simp at hx; rcases hx with rfl | rfl | rfl <;> exact h _⟩
  split
  · exact ⟨(by decide : (32 : UInt8) ∉ wTransfer), fun x hx => by simp at hx; rcases hx with rfl | rfl | rfl | rfl <;> exact h _⟩
  · exact ⟨(by decide : (32 : UInt8) ∉ wQuery), fun x hx => by simp at hx; subst hx; exact h _⟩
theorem ask_split (k o p : Int) (l : List S109) (s f t q : Int) : splitL 32 (askT k o p l s f t q) = (askW k o p l s f t q).1 :: (askW k o p l s f t q).2 := by
  rw [askT_is]
  exact split_tok 32 _ _ (askW_no32 k o p l s f t q).1 (askW_no32 k o p l s f t q).2
theorem lnW_len (x : S109) (h : LineOk x) : (lnW x).length ≤ 43 := by
  have a := itoa_len20 x.f0 (u8_64 h.1)
  have b := itoa_len20 x.f1 h.2
  simp only [lnW, List.length_append, List.length_cons]
  omega
theorem lnW_split (x : S109) (h : LineOk x) : strings_Split.f (ofL (lnW x)) (⟨#[58]⟩ : ByteArray) = some [ofL (Lib.itoa x.f0), ofL (Lib.itoa x.f1)] := by
  have e := prog_split 58 (lnW x) (by have := lnW_len x h; omega)
  rw [show splitL 58 (lnW x) = [Lib.itoa x.f0, Lib.itoa x.f1] from by unfold lnW; rw [splitL_app 58 _ _ (itoa_no58 _), splitL_none 58 _ (itoa_no58 _)]] at e
  exact e
theorem rdB (pre rest : List ByteArray) (x : ByteArray) : rdOf ByteArray.empty (pre ++ x :: rest) (pre.length : Int) = x := by simp [rdOf, List.getD_eq_getElem?_getD]
theorem asked_l0 (n o p : Int) (rest : List S109) : ∀ (pre acc : List S109), (∀ x ∈ rest, LineOk x) → acc.length + rest.length ≤ 1000 → n = (((pre ++ rest).map fun x => ofL (lnW x)).length : Int) → (pre ++ rest).length ≤ 1000 →
    Ev (fun m => words_asked.l0 m ((pre ++ rest).map fun x => ofL (lnW x)) n (pre.length : Int) 1 o p acc 0 0 0 0) (1, o, p, acc ++ rest, 0, 0, 0, 0) := by
  induction rest with
  | nil =>
    intro pre acc _ _ hn _
    refine Ev.succ (f := fun _ => some (1, o, p, acc ++ [], 0, 0, 0, 0)) (Ev.const rfl) (fun m => ?_)
    rw [words_asked.l0, if_neg (by rw [hn]; simp), List.append_nil]
  | cons x rest ih =>
    intro pre acc hx ha hn hp
    have hx0 := hx x (by simp)
    have ih2 := ih (pre ++ [x]) (acc ++ [x]) (fun y hy => hx y (by simp [hy])) (by simp only [List.length_append, List.length_cons, List.length_nil] at ha ⊢; omega) (by rw [List.append_assoc]; exact hn) (by simpa using hp)
    rw [List.append_assoc, List.singleton_append, List.append_assoc, List.singleton_append] at ih2
    have q1 : (pre.length : Int) < n := by rw [hn]; simp only [List.length_map, List.length_append, List.length_cons]; omega
    have q2 : (pre.length : Int) < (((pre ++ x :: rest).map fun x => ofL (lnW x)).length : Int) := by simp only [List.length_map, List.length_append, List.length_cons]; omega
    have q3 : (0 : Int) ≤ (pre.length : Int) := by omega
    have q4 : acc.length < 8796093022208 := by simp only [List.length_cons] at ha; omega
    have er : rdOf ByteArray.empty ((pre ++ x :: rest).map fun x => ofL (lnW x)) (pre.length : Int) = ofL (lnW x) := by
      have := rdB (pre.map fun x => ofL (lnW x)) (rest.map fun x => ofL (lnW x)) (ofL (lnW x))
      rw [List.length_map] at this
      rw [List.map_append, List.map_cons]
      exact this
    have n0 : words_number.f [ofL (Lib.itoa x.f0), ofL (Lib.itoa x.f1)] 0 = some x.f0 := number_at (i := 0) (u8_64 hx0.1) rfl
    have n1 : words_number.f [ofL (Lib.itoa x.f0), ofL (Lib.itoa x.f1)] 1 = some x.f1 := number_at (i := 1) hx0.2 rfl
    have m0 : x.f0 % 256 = x.f0 := Int.emod_eq_of_lt hx0.1.1 hx0.1.2
    have ei : wrap64 ((pre.length : Int) + 1) = ((pre ++ [x]).length : Int) := by
      simp only [wrap64, List.length_append, List.length_cons, List.length_nil] at hp ⊢
      omega
    refine ih2.succ (fun k => ?_)
    rw [words_asked.l0, if_pos q1, if_pos q3, if_pos q2, er, lnW_split x hx0, Option.bind_some, n0, Option.bind_some, n1, Option.bind_some, if_pos q4, m0, ei]
theorem ofL_toList (l : List UInt8) : (ofL l).toList = l := by rw [ByteArray.toList_eq, ofL_data]
def askWB (k o p : Int) (l : List S109) (s f t q : Int) : List ByteArray := ((askW k o p l s f t q).1 :: (askW k o p l s f t q).2).map ofL
theorem prog_asked {k o p : Int} {l : List S109} {s f t q : Int} (h : RqOk k o p l s f t q) (hs : Shape k o p l s f t q) : Ev (fun m => words_asked.f m (askWB k o p l s f t q)) (k, o, p, l, s, f, t, q) := by
  have io := u32_64 h.hO
  have ip := u8_64 h.hP
  have is_ := u8_64 h.hS
  have if_ := u8_64 h.hF
  have it := u8_64 h.hT
  have iq := h.hQ
  have eo : o % 4294967296 = o := Int.emod_eq_of_lt h.hO.1 h.hO.2
  have ep : p % 256 = p := Int.emod_eq_of_lt h.hP.1 h.hP.2
  have es : s % 256 = s := Int.emod_eq_of_lt h.hS.1 h.hS.2
  have ef : f % 256 = f := Int.emod_eq_of_lt h.hF.1 h.hF.2
  have et : t % 256 = t := Int.emod_eq_of_lt h.hT.1 h.hT.2
  have hL := h.hL
  have hN := h.hN
  have h0 : ∀ (w : List UInt8) (r : List ByteArray), rdOf ByteArray.empty (ofL w :: r) 0 = ofL w := fun _ _ => rfl
  have hlen : ∀ (w : ByteArray) (r : List ByteArray), (0 : Int) < ((w :: r).length : Int) := fun w r => by simp only [List.length_cons]; omega
  unfold words_asked.f askWB
  rcases hs with ⟨rfl, rfl, rfl, rfl, rfl⟩ | ⟨hk, rfl, rfl, rfl, rfl, rfl, rfl⟩ | ⟨rfl, rfl, rfl, rfl, rfl⟩ | ⟨rfl, rfl, rfl, rfl⟩ | ⟨rfl, rfl, rfl, rfl, rfl, rfl, rfl⟩
  · have e : ((askW 1 o p l 0 0 0 0).1 :: (askW 1 o p l 0 0 0 0).2).map ofL = ofL wPlace :: ofL (Lib.itoa o) :: ofL (Lib.itoa p) :: (l.map fun x => ofL (lnW x)) := by simp [askW, List.map_map, Function.comp_def]
    rw [e]
    have n1 : words_number.f (ofL wPlace :: ofL (Lib.itoa o) :: ofL (Lib.itoa p) :: (l.map fun x => ofL (lnW x))) 1 = some o := number_at (i := 1) io rfl
    have n2 : words_number.f (ofL wPlace :: ofL (Lib.itoa o) :: ofL (Lib.itoa p) :: (l.map fun x => ofL (lnW x))) 2 = some p := number_at (i := 2) ip rfl
    have hm : mn 3 ((ofL wPlace :: ofL (Lib.itoa o) :: ofL (Lib.itoa p) :: (l.map fun x => ofL (lnW x))).length : Int) = 3 := by
      simp only [List.length_cons, mn]
      split <;> omega
    have h3 : (3 : Int) ≤ ((ofL wPlace :: ofL (Lib.itoa o) :: ofL (Lib.itoa p) :: (l.map fun x => ofL (lnW x))).length : Int) := by simp only [List.length_cons]; omega
    have hl := asked_l0 (((l.map fun x => ofL (lnW x)).length : Int)) o p l [] [] hL (by simp; omega) rfl (by simp; omega)
    refine hl.congr (fun m => ?_)
    rw [n1, Option.bind_some, Option.bind_some, if_pos (hlen _ _), h0, ofL_toList, if_pos (show wPlace = ([112, 108, 97, 99, 101] : List UInt8) from rfl), n2, Option.bind_some, hm, if_pos (by omega), if_pos h3, eo, ep]
    rfl
  · rcases hk with rfl | rfl | rfl
    · refine ⟨0, fun m _ => ?_⟩
      dsimp only
      rw [show ((askW 2 o 0 [] 0 0 0 0).1 :: (askW 2 o 0 [] 0 0 0 0).2).map ofL = [ofL wCancel, ofL (Lib.itoa o)] from rfl]
      rw [show words_number.f [ofL wCancel, ofL (Lib.itoa o)] 1 = some o from number_at (i := 1) io rfl, Option.bind_some, Option.bind_some, if_pos (hlen _ _), h0, ofL_toList, if_neg (by decide), if_pos (show wCancel = ([99, 97, 110, 99, 101, 108] : List UInt8) from rfl), eo]
    · refine ⟨0, fun m _ => ?_⟩
      dsimp only
      rw [show ((askW 3 o 0 [] 0 0 0 0).1 :: (askW 3 o 0 [] 0 0 0 0).2).map ofL = [ofL wShip, ofL (Lib.itoa o)] from rfl]
      rw [show words_number.f [ofL wShip, ofL (Lib.itoa o)] 1 = some o from number_at (i := 1) io rfl, Option.bind_some, Option.bind_some, if_pos (hlen _ _), h0, ofL_toList, if_neg (by decide), if_neg (by decide), if_pos (show wShip = ([115, 104, 105, 112] : List UInt8) from rfl), eo]
    · refine ⟨0, fun m _ => ?_⟩
      dsimp only
      rw [show ((askW 4 o 0 [] 0 0 0 0).1 :: (askW 4 o 0 [] 0 0 0 0).2).map ofL = [ofL wReturn, ofL (Lib.itoa o)] from rfl]
      rw [show words_number.f [ofL wReturn, ofL (Lib.itoa o)] 1 = some o from number_at (i := 1) io rfl, Option.bind_some, Option.bind_some, if_pos (hlen _ _), h0, ofL_toList, if_neg (by decide), if_neg (by decide), if_neg (by decide), if_pos (show wReturn = ([114, 101, 116, 117, 114, 110] : List UInt8) from rfl), eo]
  · refine ⟨0, fun m _ => ?_⟩
    dsimp only
    rw [show ((askW 5 0 0 [] s 0 t q).1 :: (askW 5 0 0 [] s 0 t q).2).map ofL = [ofL wRestock, ofL (Lib.itoa s), ofL (Lib.itoa t), ofL (Lib.itoa q)] from rfl]
    rw [show words_number.f [ofL wRestock, ofL (Lib.itoa s), ofL (Lib.itoa t), ofL (Lib.itoa q)] 1 = some s from number_at (i := 1) is_ rfl, Option.bind_some, Option.bind_some, if_pos (hlen _ _), h0, ofL_toList, if_neg (by decide), if_neg (by decide), if_neg (by decide), if_neg (by decide), if_pos (show wRestock = ([114, 101, 115, 116, 111, 99, 107] : List UInt8) from rfl), show words_number.f [ofL wRestock, ofL (Lib.itoa s), ofL (Lib.itoa t), ofL (Lib.itoa q)] 2 = some t from number_at (i := 2) it rfl, Option.bind_some, show words_number.f [ofL wRestock, ofL (Lib.itoa s), ofL (Lib.itoa t), ofL (Lib.itoa q)] 3 = some q from number_at (i := 3) iq rfl, Option.bind_some, es, et]
  · refine ⟨0, fun m _ => ?_⟩
    dsimp only
    rw [show ((askW 6 0 0 [] s f t q).1 :: (askW 6 0 0 [] s f t q).2).map ofL = [ofL wTransfer, ofL (Lib.itoa s), ofL (Lib.itoa f), ofL (Lib.itoa t), ofL (Lib.itoa q)] from rfl]
    rw [show words_number.f [ofL wTransfer, ofL (Lib.itoa s), ofL (Lib.itoa f), ofL (Lib.itoa t), ofL (Lib.itoa q)] 1 = some s from number_at (i := 1) is_ rfl, Option.bind_some, Option.bind_some, if_pos (hlen _ _), h0, ofL_toList, if_neg (by decide), if_neg (by decide), if_neg (by decide), if_neg (by decide), if_neg (by decide), if_pos (show wTransfer = ([116, 114, 97, 110, 115, 102, 101, 114] : List UInt8) from rfl), show words_number.f [ofL wTransfer, ofL (Lib.itoa s), ofL (Lib.itoa f), ofL (Lib.itoa t), ofL (Lib.itoa q)] 2 = some f from number_at (i := 2) if_ rfl, Option.bind_some, show words_number.f [ofL wTransfer, ofL (Lib.itoa s), ofL (Lib.itoa f), ofL (Lib.itoa t), ofL (Lib.itoa q)] 3 = some t from number_at (i := 3) it rfl, Option.bind_some, show words_number.f [ofL wTransfer, ofL (Lib.itoa s), ofL (Lib.itoa f), ofL (Lib.itoa t), ofL (Lib.itoa q)] 4 = some q from number_at (i := 4) iq rfl, Option.bind_some, es, ef, et]
  · refine ⟨0, fun m _ => ?_⟩
    dsimp only
    rw [show ((askW 7 0 0 [] s 0 0 0).1 :: (askW 7 0 0 [] s 0 0 0).2).map ofL = [ofL wQuery, ofL (Lib.itoa s)] from rfl]
    rw [show words_number.f [ofL wQuery, ofL (Lib.itoa s)] 1 = some s from number_at (i := 1) is_ rfl, Option.bind_some, Option.bind_some, if_pos (hlen _ _), h0, ofL_toList, if_neg (by decide), if_neg (by decide), if_neg (by decide), if_neg (by decide), if_neg (by decide), if_neg (by decide), if_pos (show wQuery = ([113, 117, 101, 114, 121] : List UInt8) from rfl), es]
theorem extract_ofL (l : List UInt8) (i j : Nat) : (ofL l).extract i j = ofL ((l.take j).drop i) := by
  apply ByteArray.ext
  apply Array.ext'
  simp [ofL, ByteArray.data_extract, List.drop_take]
theorem nib : ∀ a : Nat, a < 16 → words_nibble.f ((hexD.getD a 0).toNat : Int) = some (a : Int) := by decide
theorem orb : ∀ a : Nat, a < 16 → ∀ b : Nat, b < 16 → Go.bits .or .u8 (((a : Int) * 16) % 256) (b : Int) = ((16 * a + b : Nat) : Int) := by decide +kernel
theorem gl0 (rest : List Int) : ∀ (acc : List Int), ByteL rest → acc.length + rest.length ≤ 1000 → Ev (fun m => words_guess.l0 m (ofL (hexL rest)) 1 0 0 0 acc) (1, 0, 0, 0, acc ++ rest) := by
  induction rest with
  | nil =>
    intro acc _ _
    refine Ev.succ (f := fun _ => some (1, 0, 0, 0, acc ++ [])) (Ev.const rfl) (fun m => ?_)
    rw [words_guess.l0, if_neg (by rw [ofL_size]; simp [hexL]), List.append_nil]
  | cons x rest ih =>
    intro acc hb ha
    have hx0 := hb x (by simp)
    have ih2 := ih (acc ++ [x]) (fun y hy => hb y (by simp [hy])) (by simp only [List.length_append, List.length_cons, List.length_nil] at ha ⊢; omega)
    rw [List.append_assoc, List.singleton_append] at ih2
    have n1 : x.toNat / 16 < 16 := by omega
    have n2 : x.toNat % 16 < 16 := by omega
    have el : hexL (x :: rest) = hexD.getD (x.toNat / 16) 0 :: hexD.getD (x.toNat % 16) 0 :: hexL rest := rfl
    have sz : (ofL (hexL (x :: rest))).size = (hexL rest).length + 2 := by rw [ofL_size, el]; rfl
    have b0 : bt (ofL (hexL (x :: rest))) 0 = ((hexD.getD (x.toNat / 16) 0).toNat : Int) := by rw [el]; exact bt_ofL _ 0 (by simp)
    have b1 : bt (ofL (hexL (x :: rest))) 1 = ((hexD.getD (x.toNat % 16) 0).toNat : Int) := by rw [el]; exact bt_ofL _ 1 (by simp)
    have ex : (ofL (hexL (x :: rest))).extract 2 (ofL (hexL (x :: rest))).size = ofL (hexL rest) := by
      rw [extract_ofL, sz, el]
      congr 1
      simp
    have e16 : ((16 * (x.toNat / 16) + x.toNat % 16 : Nat) : Int) = x := by omega
    refine ih2.succ (fun k => ?_)
    rw [words_guess.l0, ex, b0, b1, sz, nib _ n1, Option.bind_some, nib _ n2, Option.bind_some, orb _ n1 _ n2, e16, if_pos (by omega), if_pos (by omega), if_pos (by omega), if_pos (by simp only [List.length_cons] at ha; omega), if_pos (by omega)]
theorem join_one (s : List UInt8) (h : s.length ≤ 100000) : strings_Join.f [ofL s] (⟨#[32]⟩ : ByteArray) = some (ofL s) := by
  unfold strings_Join.f
  have e : Lib.join ([ofL s].map fun x => x.data.toList) (⟨#[32]⟩ : ByteArray).data.toList = s := by simp [Lib.join, ofL]
  rw [e, if_pos ⟨by simp, by omega⟩]
  rfl
theorem askW_first (k o p : Int) (l : List S109) (s f t q : Int) : (askW k o p l s f t q).1 ∈ [wPlace, wCancel, wShip, wReturn, wRestock, wTransfer, wQuery] := by
  unfold askW
  repeat' split
  all_goals simp
theorem ask_words : ∀ w ∈ [wPlace, wCancel, wShip, wReturn, wRestock, wTransfer, wQuery], ¬ w = ([112, 105, 99, 107] : List UInt8) ∧ ¬ w = ([107, 105, 108, 108] : List UInt8) ∧ ¬ w = ([119, 114, 105, 116, 101] : List UInt8) ∧ ¬ w = ([115, 121, 110, 99] : List UInt8) ∧ ¬ w = ([99, 107, 112, 116] : List UInt8) ∧ ¬ w = ([99, 114, 97, 115, 104] : List UInt8) ∧ ¬ w = ([98, 111, 111, 116] : List UInt8) ∧ ¬ w = ([97, 115, 107] : List UInt8) := by decide
theorem askedT_ok {l : List Int} (h : (request_Decode.decF l).2.2.2.2.2.2.2.2 = 0) : ∃ k o p ls s f t q, request_Decode.decF l = (k, o, p, ls, s, f, t, q, 0) ∧ askedT l = askT k o p ls s f t q := by
  obtain ⟨k, o, p, ls, s, f, t, q, e, hq⟩ : ∃ k o p ls s f t q e, request_Decode.decF l = (k, o, p, ls, s, f, t, q, e) := ⟨_, _, _, _, _, _, _, _, _, rfl⟩
  unfold askedT
  rw [hq] at h ⊢
  obtain rfl : e = 0 := h
  exact ⟨k, o, p, ls, s, f, t, q, rfl, if_pos rfl⟩
theorem hexL_no32 (l : List Int) : (32 : UInt8) ∉ hexL l := by
  have hd : ∀ a : Nat, (32 : UInt8) ≠ hexD.getD a 0 := fun a => by
    by_cases h : a < 16
    · exact (show ∀ a : Nat, a < 16 → (32 : UInt8) ≠ hexD.getD a 0 from by decide) a h
    · rw [show hexD.getD a 0 = 0 from by simp [List.getD_eq_getElem?_getD, List.getElem?_eq_none (show hexD.length ≤ a from by simpa [hexD] using h)]]
      decide
  induction l with
  | nil => simp [hexL]
  | cons x l ih =>
    rw [hexL_cons]
    intro h
    rcases List.mem_append.1 h with h | h
    · simp only [hx, List.mem_cons, List.not_mem_nil, or_false] at h
      rcases h with h | h
      · exact hd _ h
      · exact hd _ h
    · exact ih h
theorem prog_guess_back {k g p t : Int} {l : List Int} (h : GoodP k g p t l) (hb : ByteL l) (hg : 0 ≤ g ∧ g < 4294967296) : Ev (fun m => words_guess.f m ((splitL 32 (lineT k g p t l)).map ofL)) (k, g, p, t, l) := by
  obtain ⟨hk, hl0, hl, hg0, hpt⟩ := h
  have h0 : ∀ (w : List UInt8) (r : List (List UInt8)), rdOf ByteArray.empty ((w :: r).map ofL) 0 = ofL w := fun _ _ => rfl
  have hlen : ∀ (w : List UInt8) (r : List (List UInt8)), (0 : Int) < (((w :: r).map ofL).length : Int) := fun w r => by simp only [List.map_cons, List.length_cons]; omega
  have eg : g % 4294967296 = g := Int.emod_eq_of_lt hg.1 hg.2
  obtain rfl | rfl | rfl | rfl | rfl | rfl | rfl | rfl : k = 1 ∨ k = 2 ∨ k = 3 ∨ k = 4 ∨ k = 5 ∨ k = 6 ∨ k = 7 ∨ k = 8 := by omega
  · obtain rfl : g = 0 := by omega
    obtain ⟨rfl, rfl⟩ : p = 0 ∧ t = 0 := by omega
    show Ev (fun m => words_guess.f m ((splitL 32 (askedT l)).map ofL)) (1, 0, 0, 0, l)
    by_cases hd : (request_Decode.decF l).2.2.2.2.2.2.2.2 = 0
    · obtain ⟨k, o, p, ls, s, f, t, q, hq, ha⟩ := askedT_ok hd
      obtain ⟨hr, he, hs⟩ := dec_ok hb hq
      have hp := plain_ok hr hs
      have hA := prog_asked hr hs
      unfold askWB at hA
      rw [ha, ask_split]
      have hw := ask_words _ (askW_first k o p ls s f t q)
      generalize (askW k o p ls s f t q).1 = W1 at *
      generalize (askW k o p ls s f t q).2 = W2 at *
      unfold words_guess.f
      have hE : request_Encode.f k o p ls s f t q = some (l, 0) := by
        unfold request_Encode.f
        rw [if_pos hr.hO, hp, Option.map_some, if_pos rfl, he]
      refine Ev.congr (f := fun m => (words_asked.f m ((W1 :: W2).map ofL)).bind fun bt201 => ((request_Encode.f bt201.1 bt201.2.1 bt201.2.2.1 bt201.2.2.2.1 bt201.2.2.2.2.1 bt201.2.2.2.2.2.1 bt201.2.2.2.2.2.2.1 bt201.2.2.2.2.2.2.2).bind fun bt211 => (some (1, 0, 0, 0, bt211.1)))) ?_ (fun m => ?_)
      · refine Ev.bind hA (Ev.const ?_)
        show (request_Encode.f k o p ls s f t q).bind _ = _
        rw [hE, Option.bind_some]
      · rw [if_pos (hlen _ _), h0, ofL_toList, if_neg hw.1, if_neg hw.2.1, if_neg hw.2.2.1, if_neg hw.2.2.2.1, if_neg hw.2.2.2.2.1, if_neg hw.2.2.2.2.2.1, if_neg hw.2.2.2.2.2.2.1, if_neg hw.2.2.2.2.2.2.2]
    · unfold askedT
      rw [if_neg hd]
      by_cases hz : l.length = 0
      · obtain rfl := List.eq_nil_of_length_eq_zero hz
        rw [if_pos hz, splitL_none 32 wAsk (by decide)]
        unfold words_guess.f
        refine Ev.congr (f := fun m => words_guess.l0 m (ofL (hexL [])) 1 0 0 0 []) ?_ (fun m => ?_)
        · exact gl0 [] [] hb (by simp)
        · rw [if_pos (hlen _ _), h0, ofL_toList, if_neg (by decide), if_neg (by decide), if_neg (by decide), if_neg (by decide), if_neg (by decide), if_neg (by decide), if_neg (by decide), if_pos (show wAsk = ([97, 115, 107] : List UInt8) from rfl), if_pos (by simp)]
          rfl
      · rw [if_neg hz, show askB ++ hexL l = wAsk ++ [hexL l].flatMap (fun t => 32 :: t) from by simp [askB, wAsk], split_tok 32 [hexL l] wAsk (by decide) (fun t ht => by simp at ht; subst ht; exact hexL_no32 l)]
        unfold words_guess.f
        have hh := hexL_len l
        refine Ev.congr (f := fun m => words_guess.l0 m (ofL (hexL l)) 1 0 0 0 []) ?_ (fun m => ?_)
        · exact gl0 l [] hb (by simp; omega)
        · rw [if_pos (hlen _ _), h0, ofL_toList, if_neg (by decide), if_neg (by decide), if_neg (by decide), if_neg (by decide), if_neg (by decide), if_neg (by decide), if_neg (by decide), if_pos (show wAsk = ([97, 115, 107] : List UInt8) from rfl), if_pos (by simp), show (([wAsk, hexL l].map ofL).drop 1) = [ofL (hexL l)] from rfl, join_one _ (by omega), Option.bind_some]
  · have hn : l = [] := List.eq_nil_of_length_eq_zero (by omega)
    subst hn
    obtain ⟨rfl, rfl⟩ : p = 0 ∧ t = 0 := by omega
    have e : splitL 32 (lineT 2 g 0 0 []) = [wPick, Lib.itoa g] := by
      have := split_tok 32 [Lib.itoa g] wPick (by decide) (fun t ht => by simp at ht; subst ht; exact itoa_no32 _)
      simpa [lineT, nm] using this
    rw [e]
    refine ⟨0, fun m _ => ?_⟩
    dsimp only
    unfold words_guess.f
    rw [if_pos (hlen _ _), h0, ofL_toList, if_pos (show wPick = ([112, 105, 99, 107] : List UInt8) from rfl), show words_number.f ([wPick, Lib.itoa g].map ofL) 1 = some g from number_at (i := 1) (u32_64 hg) rfl, Option.bind_some, eg]
  · have hn : l = [] := List.eq_nil_of_length_eq_zero (by omega)
    subst hn
    obtain ⟨rfl, rfl⟩ : p = 0 ∧ t = 0 := by omega
    have e : splitL 32 (lineT 3 g 0 0 []) = [wKill, Lib.itoa g] := by
      have := split_tok 32 [Lib.itoa g] wKill (by decide) (fun t ht => by simp at ht; subst ht; exact itoa_no32 _)
      simpa [lineT, nm] using this
    rw [e]
    refine ⟨0, fun m _ => ?_⟩
    dsimp only
    unfold words_guess.f
    rw [if_pos (hlen _ _), h0, ofL_toList, if_neg (by decide), if_pos (show wKill = ([107, 105, 108, 108] : List UInt8) from rfl), show words_number.f ([wKill, Lib.itoa g].map ofL) 1 = some g from number_at (i := 1) (u32_64 hg) rfl, Option.bind_some, eg]
  · have hn : l = [] := List.eq_nil_of_length_eq_zero (by omega)
    subst hn
    obtain ⟨rfl, rfl, rfl⟩ : p = 0 ∧ t = 0 ∧ g = 0 := by omega
    rw [show lineT 4 0 0 0 [] = wWrite from rfl, splitL_none 32 wWrite (by decide)]
    refine ⟨0, fun m _ => ?_⟩
    dsimp only
    unfold words_guess.f
    rw [if_pos (hlen _ _), h0, ofL_toList, if_neg (by decide), if_neg (by decide), if_pos (show wWrite = ([119, 114, 105, 116, 101] : List UInt8) from rfl)]
  · have hn : l = [] := List.eq_nil_of_length_eq_zero (by omega)
    subst hn
    obtain ⟨rfl, rfl, rfl⟩ : p = 0 ∧ t = 0 ∧ g = 0 := by omega
    rw [show lineT 5 0 0 0 [] = wSync from rfl, splitL_none 32 wSync (by decide)]
    refine ⟨0, fun m _ => ?_⟩
    dsimp only
    unfold words_guess.f
    rw [if_pos (hlen _ _), h0, ofL_toList, if_neg (by decide), if_neg (by decide), if_neg (by decide), if_pos (show wSync = ([115, 121, 110, 99] : List UInt8) from rfl)]
  · have hn : l = [] := List.eq_nil_of_length_eq_zero (by omega)
    subst hn
    obtain ⟨rfl, rfl, rfl⟩ : p = 0 ∧ t = 0 ∧ g = 0 := by omega
    rw [show lineT 6 0 0 0 [] = wCkpt from rfl, splitL_none 32 wCkpt (by decide)]
    refine ⟨0, fun m _ => ?_⟩
    dsimp only
    unfold words_guess.f
    rw [if_pos (hlen _ _), h0, ofL_toList, if_neg (by decide), if_neg (by decide), if_neg (by decide), if_neg (by decide), if_pos (show wCkpt = ([99, 107, 112, 116] : List UInt8) from rfl)]
  · have hn : l = [] := List.eq_nil_of_length_eq_zero (by omega)
    subst hn
    obtain rfl : g = 0 := by omega
    have ip : I64 p := by unfold I64; omega
    have it : I64 t := by unfold I64; omega
    have e : splitL 32 (lineT 7 0 p t []) = [wCrash, Lib.itoa p, Lib.itoa t] := by
      have := split_tok 32 [Lib.itoa p, Lib.itoa t] wCrash (by decide) (fun x hx => by simp at hx; rcases hx with rfl | rfl <;> exact itoa_no32 _)
      simpa [lineT, nm] using this
    rw [e]
    refine ⟨0, fun m _ => ?_⟩
    dsimp only
    unfold words_guess.f
    rw [if_pos (hlen _ _), h0, ofL_toList, if_neg (by decide), if_neg (by decide), if_neg (by decide), if_neg (by decide), if_neg (by decide), if_pos (show wCrash = ([99, 114, 97, 115, 104] : List UInt8) from rfl), show words_number.f ([wCrash, Lib.itoa p, Lib.itoa t].map ofL) 1 = some p from number_at (i := 1) ip rfl, Option.bind_some, show words_number.f ([wCrash, Lib.itoa p, Lib.itoa t].map ofL) 2 = some t from number_at (i := 2) it rfl, Option.bind_some]
  · have hn : l = [] := List.eq_nil_of_length_eq_zero (by omega)
    subst hn
    obtain ⟨rfl, rfl, rfl⟩ : p = 0 ∧ t = 0 ∧ g = 0 := by omega
    rw [show lineT 8 0 0 0 [] = wBoot from rfl, splitL_none 32 wBoot (by decide)]
    refine ⟨0, fun m _ => ?_⟩
    dsimp only
    unfold words_guess.f
    rw [if_pos (hlen _ _), h0, ofL_toList, if_neg (by decide), if_neg (by decide), if_neg (by decide), if_neg (by decide), if_neg (by decide), if_neg (by decide), if_pos (show wBoot = ([98, 111, 111, 116] : List UInt8) from rfl)]
end Go.Proofs.YtpnehgajhpejjaaDoor.W
