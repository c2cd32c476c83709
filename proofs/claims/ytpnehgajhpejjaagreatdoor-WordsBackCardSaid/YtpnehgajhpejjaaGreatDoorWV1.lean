import Derived.Test.YtpnehgajhpejjaaGreatDoorW6
import Derived.Test.YtpnehgajhpejjaaGreatDoorW14
import Derived.Test.YtpnehgajhpejjaaGreatDoorW17
import Derived.Test.YtpnehgajhpejjaaGreatDoorW5
import Derived.Test.YtpnehgajhpejjaaGreatDoorW15
import Derived.Test.YtpnehgajhpejjaaGreatDoorW8
import Derived.Test.YtpnehgajhpejjaaGreatDoorW13
import Derived.Test.YtpnehgajhpejjaaGreatDoorW20
import Derived.Test.YtpnehgajhpejjaaGreatDoorW21
import Derived.Test.YtpnehgajhpejjaaGreatDoorW2
import Derived.Test.YtpnehgajhpejjaaGreatDoorW12
import Derived.Test.YtpnehgajhpejjaaGreatDoorW16
import Derived.Test.YtpnehgajhpejjaaGreatDoorSplit
import Derived.Test.YtpnehgajhpejjaaGreatDoorW9
/- The plain law's parts. -/
namespace Go.Proofs.YtpnehgajhpejjaaGreatDoor.W
open Go.RowKit Go.Proofs.YtpnehgajhpejjaaGreatDoorW.PrintWords
set_option maxRecDepth 100000
set_option linter.unusedVariables false
set_option linter.unusedSimpArgs false
/-- With fuel enough: this answer. -/
def Ev {α : Type} (g : Nat → Option α) (r : α) : Prop := ∃ K, ∀ k, K ≤ k → g k = some r
section
variable {α β : Type}
theorem up {g : Nat → Option α} (hm : ∀ k, LeO (g k) (g (k + 1))) {k : Nat} {r : α} (h : g k = some r) : ∀ n, k ≤ n → g n = some r
  | 0, hn => by obtain rfl : k = 0 := by omega
                exact h
  | n + 1, hn => by
    rcases Nat.lt_or_ge n k with hk | hk
    · obtain rfl : k = n + 1 := by omega
      exact h
    · exact hm n r (up hm h n hk)
theorem Ev.of {g : Nat → Option α} (hm : ∀ k, LeO (g k) (g (k + 1))) {k : Nat} {r : α} (h : g k = some r) : Ev g r := ⟨k, up hm h⟩
theorem Ev.const {x : Option α} {r : α} (h : x = some r) : Ev (fun _ => x) r := ⟨0, fun _ _ => h⟩
theorem Ev.bind {g : Nat → Option α} {f : Nat → α → Option β} {r : α} {s : β} (h : Ev g r) (h2 : Ev (fun k => f k r) s) : Ev (fun k => (g k).bind (f k)) s := by
  obtain ⟨K, h⟩ := h
  obtain ⟨L, h2⟩ := h2
  exact ⟨max K L, fun k hk => by show (g k).bind (f k) = _; rw [h k (by omega)]; exact h2 k (by omega)⟩
theorem Ev.one {g : Nat → Option α} {r s : α} (h : Ev g r) (h2 : Ev g s) : r = s := by
  obtain ⟨K, h⟩ := h
  obtain ⟨L, h2⟩ := h2
  have a := h (max K L) (by omega)
  rw [h2 (max K L) (by omega)] at a
  exact (Option.some.inj a).symm
/-- One round: the fuel is one more. -/
theorem Ev.succ {g f : Nat → Option α} {r : α} (h : Ev f r) (hg : ∀ k, g (k + 1) = f k) : Ev g r := by
  obtain ⟨K, h⟩ := h
  refine ⟨K + 1, fun k hk => ?_⟩
  obtain ⟨n, rfl⟩ : ∃ n, k = n + 1 := ⟨k - 1, by omega⟩
  rw [hg]
  exact h n (by omega)
theorem Ev.congr {g f : Nat → Option α} {r : α} (h : Ev f r) (hg : ∀ k, g k = f k) : Ev g r := by
  obtain ⟨K, h⟩ := h
  exact ⟨K, fun k hk => by rw [hg]; exact h k hk⟩
end
def ofL (l : List UInt8) : ByteArray := ⟨l.toArray⟩
theorem ofL_size (l : List UInt8) : (ofL l).size = l.length := by simp [ofL, ByteArray.size]
theorem ofL_data (l : List UInt8) : (ofL l).data.toList = l := by simp [ofL]
theorem ofL_app (a b : List UInt8) : ofL a ++ ofL b = ofL (a ++ b) := by
  apply ByteArray.ext
  apply Array.ext'
  simp [ofL]
theorem ofL_of (s : ByteArray) : ofL s.data.toList = s := by simp [ofL]
theorem ofL_inj {a b : List UInt8} (h : ofL a = ofL b) : a = b := by
  have := congrArg (fun s => s.data.toList) h
  simpa [ofL] using this
theorem dig_str (z : Int) : strOfNums [z] = ofL [UInt8.ofNat z.toNat] := rfl
theorem dd_big {u : Nat} (h : ¬ u < 10) : Lib.decDigits u = Lib.decDigits (u / 10) ++ [UInt8.ofNat (48 + u % 10)] := by rw [Lib.decDigits, dif_neg h]
theorem dd_small {u : Nat} (h : u < 10) : Lib.decDigits u = [UInt8.ofNat (48 + u)] := by rw [Lib.decDigits, dif_pos h]
theorem dd_len : ∀ (d u : Nat), u < 10 ^ (d + 1) → (Lib.decDigits u).length ≤ d + 1
  | 0, u, h => by rw [dd_small (by simpa using h)]; simp
  | d + 1, u, h => by
    by_cases hu : u < 10
    · rw [dd_small hu]; simp
    · rw [dd_big hu, List.length_append]
      have := dd_len d (u / 10) (by rw [Nat.pow_succ] at h; omega)
      simp only [List.length_cons, List.length_nil]
      omega
theorem dd_len20 (u : Nat) (h : u < 18446744073709551616) : (Lib.decDigits u).length ≤ 20 := dd_len 19 u (by omega)
def ddHead (u : Nat) : List UInt8 := if 10 ≤ u then Lib.decDigits (u / 10) else []
theorem digits_l0 : ∀ (n u : Nat), u ≤ n → u < 18446744073709551616 → ∀ xs : List UInt8, xs.length + (Lib.decDigits u).length ≤ 1000 → Ev (fun k => pledgeref36_digits.l0 k (u : Int) (ofL xs)) (ofL (ddHead u ++ xs))
  | 0, u, hn, hu, xs, hx => by
    obtain rfl : u = 0 := by omega
    refine (Ev.const (x := some (ofL xs)) rfl).succ (fun k => ?_)
    rfl
  | n + 1, u, hn, hu, xs, hx => by
    by_cases h10 : 10 ≤ u
    · have hd := dd_big (u := u) (by omega)
      have ih := digits_l0 n (u / 10) (by omega) (by omega) (UInt8.ofNat (48 + (u / 10) % 10) :: xs) (by
        rw [hd] at hx
        simp only [List.length_append, List.length_cons, List.length_nil] at hx ⊢
        omega)
      have e1 : IntKind.u64.wrap (Int.tdiv (u : Int) 10) = ((u / 10 : Nat) : Int) := by
        rw [IntKind.wrap_u64, Int.tdiv_eq_ediv_of_nonneg (by omega)]
        omega
      have e2 : (IntKind.u64.wrap (48 + (Int.tmod ((u / 10 : Nat) : Int) 10))) % 256 = ((48 + (u / 10) % 10 : Nat) : Int) := by
        rw [IntKind.wrap_u64, Int.tmod_eq_emod_of_nonneg (by omega)]
        omega
      have e3 : ddHead u ++ xs = ddHead (u / 10) ++ (UInt8.ofNat (48 + (u / 10) % 10) :: xs) := by
        unfold ddHead
        rw [if_pos h10]
        by_cases h100 : 10 ≤ u / 10
        · rw [if_pos h100, dd_big (u := u / 10) (by omega)]
          simp
        · rw [if_neg h100, dd_small (u := u / 10) (by omega), Nat.mod_eq_of_lt (by omega)]
          rfl
      rw [e3]
      refine ih.succ (fun k => ?_)
      simp only [pledgeref36_digits.l0]
      rw [if_pos (by omega), e1, Option.bind_some, e2, dig_str, Int.toNat_natCast, ofL_app, if_pos (by rw [ofL_size, ofL_size]; simp only [List.length_cons, List.length_nil]; omega)]
      rfl
    · have e3 : ddHead u = [] := if_neg h10
      rw [e3]
      refine (Ev.const (x := some (ofL xs)) rfl).succ (fun k => ?_)
      simp only [pledgeref36_digits.l0]
      rw [if_neg (by omega)]
theorem digits_ev (u : Nat) (hu : u < 18446744073709551616) : Ev (fun k => pledgeref36_digits.f k (u : Int)) (ofL (Lib.decDigits u)) := by
  have hl := dd_len20 u hu
  have h := digits_l0 u u (Nat.le_refl _) hu [UInt8.ofNat (48 + u % 10)] (by simp only [List.length_cons, List.length_nil]; omega)
  have e : ddHead u ++ [UInt8.ofNat (48 + u % 10)] = Lib.decDigits u := by
    unfold ddHead
    by_cases h10 : 10 ≤ u
    · rw [if_pos h10, dd_big (u := u) (by omega)]
    · rw [if_neg h10, dd_small (by omega), Nat.mod_eq_of_lt (by omega)]
      rfl
  rw [e] at h
  refine h.congr (fun k => ?_)
  unfold pledgeref36_digits.f
  have e2 : (IntKind.u64.wrap (48 + (Int.tmod (u : Int) 10))) % 256 = ((48 + u % 10 : Nat) : Int) := by
    rw [IntKind.wrap_u64, Int.tmod_eq_emod_of_nonneg (by omega)]
    omega
  rw [e2, dig_str, Int.toNat_natCast]
theorem itoa_len20 (n : Int) (h : -9223372036854775808 ≤ n ∧ n ≤ 9223372036854775807) : (Lib.itoa n).length ≤ 21 := by
  unfold Lib.itoa
  split
  · have := dd_len20 n.natAbs (by omega)
    simp only [List.length_cons]
    omega
  · have := dd_len20 n.toNat (by omega)
    omega
theorem Digits_ev (n : Int) (h : -9223372036854775808 ≤ n ∧ n ≤ 9223372036854775807) : Ev (fun k => pledgeref36_Digits.f k n) (ofL (Lib.itoa n)) := by
  unfold pledgeref36_Digits.f Lib.itoa
  by_cases hn : n < 0
  · rw [if_pos hn]
    have e : IntKind.u64.wrap ((IntKind.u64.wrap (wrap64 (-(wrap64 (n + 1))))) + 1) = ((n.natAbs : Nat) : Int) := by
      simp only [IntKind.wrap_u64, wrap64]
      omega
    have hd := digits_ev n.natAbs (by omega)
    have hl := dd_len20 n.natAbs (by omega)
    refine Ev.congr (f := fun k => (pledgeref36_digits.f k ((n.natAbs : Nat) : Int)).bind fun t248 => (if 1 + t248.size ≤ 9223372036854775807 then (some ((⟨#[45]⟩ : ByteArray) ++ t248)) else (none))) (Ev.bind hd (Ev.const ?_)) (fun k => by rw [if_pos hn, e])
    rw [if_pos (by rw [ofL_size]; omega)]
    exact congrArg some (ofL_app [45] _)
  · rw [if_neg hn]
    have e : IntKind.u64.wrap n = ((n.toNat : Nat) : Int) := by
      rw [IntKind.wrap_u64]
      omega
    have hd := digits_ev n.toNat (by omega)
    exact Ev.congr (f := fun k => (pledgeref36_digits.f k ((n.toNat : Nat) : Int)).bind fun t249 => some t249) (Ev.bind hd (Ev.const rfl)) (fun k => by rw [if_neg hn, e])
theorem num_ev (n : Int) (h : -9223372036854775808 ≤ n ∧ n ≤ 9223372036854775807) : Ev (fun k => pledgeref39_num.f k n) (ofL (32 :: Lib.itoa n)) := by
  unfold pledgeref39_num.f
  have hl := itoa_len20 n h
  refine Ev.bind (Digits_ev n h) (Ev.const ?_)
  rw [if_pos (by rw [ofL_size]; omega)]
  exact congrArg some (ofL_app [32] _)
/-! ### read again -/
def pn (x : Nat) (l : List UInt8) : Nat := l.foldl (fun x c => x * 10 + (c.toNat - 48)) x
def Dig (l : List UInt8) : Prop := ∀ c ∈ l, 48 ≤ c.toNat ∧ c.toNat ≤ 57
theorem pn_cons (x : Nat) (c : UInt8) (l : List UInt8) : pn x (c :: l) = pn (x * 10 + (c.toNat - 48)) l := by simp only [pn, List.foldl_cons]
theorem pn_ge (l : List UInt8) : ∀ x : Nat, x ≤ pn x l := by
  induction l with
  | nil => intro x; exact Nat.le_refl _
  | cons c l ih =>
    intro x
    rw [pn_cons]
    have := ih (x * 10 + (c.toNat - 48))
    omega
theorem dig_nat (d : Nat) (h : d < 10) : (UInt8.ofNat (48 + d)).toNat = 48 + d := by
  rw [UInt8.toNat_ofNat']
  omega
theorem dd_dig : ∀ (n u : Nat), u ≤ n → Dig (Lib.decDigits u)
  | 0, u, h => by
    rw [dd_small (by omega)]
    intro c hc
    simp only [List.mem_singleton] at hc
    subst hc
    rw [dig_nat u (by omega)]
    omega
  | n + 1, u, h => by
    by_cases hu : u < 10
    · rw [dd_small hu]
      intro c hc
      simp only [List.mem_singleton] at hc
      subst hc
      rw [dig_nat u hu]
      omega
    · rw [dd_big hu]
      intro c hc
      rcases List.mem_append.1 hc with hc | hc
      · exact dd_dig n (u / 10) (by omega) c hc
      · simp only [List.mem_singleton] at hc
        subst hc
        rw [dig_nat (u % 10) (by omega)]
        omega
theorem dd_pn : ∀ (n u : Nat), u ≤ n → pn 0 (Lib.decDigits u) = u
  | 0, u, h => by
    rw [dd_small (by omega), pn_cons, dig_nat u (by omega)]
    show 0 * 10 + (48 + u - 48) = u
    omega
  | n + 1, u, h => by
    by_cases hu : u < 10
    · rw [dd_small hu, pn_cons, dig_nat u hu]
      show 0 * 10 + (48 + u - 48) = u
      omega
    · rw [dd_big hu]
      have ih := dd_pn n (u / 10) (by omega)
      unfold pn at ih ⊢
      rw [List.foldl_append, ih]
      show u / 10 * 10 + ((UInt8.ofNat (48 + u % 10)).toNat - 48) = u
      rw [dig_nat (u % 10) (by omega)]
      omega
theorem dd_ne (u : Nat) : Lib.decDigits u ≠ [] := by
  by_cases hu : u < 10
  · rw [dd_small hu]; simp
  · rw [dd_big hu]; simp
theorem pu_pn (l : List UInt8) : ∀ (acc : Nat), Dig l → pn acc l ≤ 9223372036854775808 → Lib.parseUintM 18446744073709551615 acc l = .ok (pn acc l) := by
  induction l with
  | nil => intro acc _ _; rfl
  | cons c l ih =>
    intro acc hd hb
    rw [pn_cons] at hb ⊢
    have hc := hd c (by simp)
    have hg := pn_ge l (acc * 10 + (c.toNat - 48))
    unfold Lib.parseUintM
    rw [if_pos hc, if_neg (by omega), if_neg (by omega)]
    exact ih _ (fun x hx => hd x (by simp [hx])) hb
theorem pib_neg (r : List UInt8) (u : Nat) (hu : Lib.parseUintB 64 r = .ok u) (hb : u ≤ 9223372036854775808) : Lib.parseIntB 64 (45 :: r) = .ok (-(u : Int)) := by
  unfold Lib.parseIntB
  have h43 : ¬ ((45 : UInt8).toNat = 43) := by decide
  have h45 : (45 : UInt8).toNat = 45 := by decide
  simp only [h43, h45, or_true, if_true, hu]
  rw [if_neg (by simp), if_neg (by simp; omega)]
theorem pib_pos (c : UInt8) (r : List UInt8) (u : Nat) (hc : 48 ≤ c.toNat) (hu : Lib.parseUintB 64 (c :: r) = .ok u) (hb : u < 9223372036854775808) : Lib.parseIntB 64 (c :: r) = .ok (u : Int) := by
  unfold Lib.parseIntB
  have h43 : ¬ (c.toNat = 43) := by omega
  have h45 : ¬ (c.toNat = 45) := by omega
  simp only [h43, h45, or_self, if_false, hu]
  rw [if_neg (by simp; omega), if_neg (by simp)]
theorem numOf_itoa (n : Int) (h : -9223372036854775808 ≤ n ∧ n ≤ 9223372036854775807) : numOf (ofL (Lib.itoa n)) = n := by
  have key : Lib.parseIntB 64 (Lib.itoa n) = .ok n := by
    unfold Lib.itoa
    by_cases hn : n < 0
    · rw [if_pos hn]
      have hp := pu_pn (Lib.decDigits n.natAbs) 0 (dd_dig _ _ (Nat.le_refl _)) (by rw [dd_pn _ _ (Nat.le_refl _)]; omega)
      rw [dd_pn _ _ (Nat.le_refl _)] at hp
      have hu : Lib.parseUintB 64 (Lib.decDigits n.natAbs) = .ok n.natAbs := by
        unfold Lib.parseUintB
        rw [if_neg (dd_ne _)]
        exact hp
      rw [pib_neg _ _ hu (by omega)]
      congr 1
      omega
    · rw [if_neg hn]
      have hp := pu_pn (Lib.decDigits n.toNat) 0 (dd_dig _ _ (Nat.le_refl _)) (by rw [dd_pn _ _ (Nat.le_refl _)]; omega)
      rw [dd_pn _ _ (Nat.le_refl _)] at hp
      have hu : Lib.parseUintB 64 (Lib.decDigits n.toNat) = .ok n.toNat := by
        unfold Lib.parseUintB
        rw [if_neg (dd_ne _)]
        exact hp
      have hd := dd_dig _ n.toNat (Nat.le_refl _)
      cases hl : Lib.decDigits n.toNat with
      | nil => exact absurd hl (dd_ne _)
      | cons c r =>
        rw [hl] at hu hd
        have hc := hd c (by simp)
        rw [pib_pos c r _ hc.1 hu (by omega)]
        congr 1
        omega
  unfold numOf
  rw [ofL_data, key]
theorem bt_ofL (l : List UInt8) (i : Nat) (h : i < l.length) : bt (ofL l) (i : Int) = ((l[i]).toNat : Int) := by
  unfold bt
  rw [dif_pos (by rw [ofL_size]; simpa using h)]
  rfl
def vfin (neg : Bool) (y : Nat) : Int := if neg = true then wrap64 (IntKind.u64.wrap (-(y : Int))) else wrap64 (y : Int)
theorem value_nil (neg : Bool) (l : List UInt8) (x : Nat) : Ev (fun k => pledgeref39_value.l0 k (ofL l) neg (x : Int) (l.length : Int)) (vfin neg x) := by
  refine Ev.succ (f := fun k => pledgeref39_value.j2 k (ofL l) neg (x : Int) (l.length : Int) false) ?_ (fun k => ?_)
  · refine (Ev.const (x := some (vfin neg x)) rfl).succ (fun k => ?_)
    rw [pledgeref39_value.j2, if_neg (by simp)]
    unfold vfin
    cases neg with
    | true => rw [if_pos rfl, if_pos rfl]
    | false => rw [if_neg (by simp), if_neg (by simp)]
  · rw [pledgeref39_value.l0, if_neg (by rw [ofL_size]; omega)]
theorem value_step (neg : Bool) (l : List UInt8) (i x : Nat) (c : UInt8) (r : Int) (hi : i < l.length) (h20 : i < 20) (hat : bt (ofL l) (i : Int) = (c.toNat : Int)) (hc : 48 ≤ c.toNat ∧ c.toNat ≤ 57) (hx : x * 10 + (c.toNat - 48) < 18446744073709551616)
    (h : Ev (fun k => pledgeref39_value.l0 k (ofL l) neg ((x * 10 + (c.toNat - 48) : Nat) : Int) ((i + 1 : Nat) : Int)) r) : Ev (fun k => pledgeref39_value.l0 k (ofL l) neg (x : Int) (i : Int)) r := by
  have e1 : IntKind.u64.wrap (IntKind.u64.wrap ((x : Int) * 10) + ((c.toNat : Int) - 48) % 256) = ((x * 10 + (c.toNat - 48) : Nat) : Int) := by
    simp only [IntKind.wrap_u64]
    omega
  have e2 : wrap64 ((i : Int) + 1) = ((i + 1 : Nat) : Int) := by
    simp only [wrap64]
    omega
  refine Ev.succ (f := fun k => pledgeref39_value.j2 k (ofL l) neg (x : Int) (i : Int) true) ?_ (fun k => ?_)
  · refine h.succ (fun k => ?_)
    rw [pledgeref39_value.j2, if_pos rfl, if_pos (by omega), if_pos (by rw [ofL_size]; omega), hat, if_pos (by omega), if_pos (by omega), e1, e2]
  · rw [pledgeref39_value.l0, if_pos (by rw [ofL_size]; omega), decide_eq_true (by omega)]
theorem value_l0 (neg : Bool) (rest : List UInt8) : ∀ (pre : List UInt8) (x : Nat), (pre ++ rest).length ≤ 20 → Dig rest → pn x rest < 18446744073709551616 → Ev (fun k => pledgeref39_value.l0 k (ofL (pre ++ rest)) neg (x : Int) (pre.length : Int)) (vfin neg (pn x rest)) := by
  induction rest with
  | nil =>
    intro pre x _ _ _
    rw [List.append_nil]
    exact value_nil neg pre x
  | cons c rest ih =>
    intro pre x hl hd hb
    rw [pn_cons] at hb ⊢
    have hc := hd c (by simp)
    have hg := pn_ge rest (x * 10 + (c.toNat - 48))
    have hlen : pre.length < (pre ++ c :: rest).length := by simp
    have hat : bt (ofL (pre ++ c :: rest)) (pre.length : Int) = (c.toNat : Int) := by
      rw [bt_ofL _ _ hlen]
      simp
    have ih2 := ih (pre ++ [c]) (x * 10 + (c.toNat - 48)) (by simpa using hl) (fun y hy => hd y (by simp [hy])) hb
    rw [List.append_assoc, List.singleton_append] at ih2
    refine value_step neg _ pre.length x c _ hlen (by omega) hat hc (by omega) ?_
    simpa using ih2
theorem value_itoa (n : Int) (h : -9223372036854775808 ≤ n ∧ n ≤ 9223372036854775807) : Ev (fun k => pledgeref39_value.f k (ofL (Lib.itoa n))) n := by
  unfold pledgeref39_value.f
  have hl := itoa_len20 n h
  by_cases hn : n < 0
  · have e : Lib.itoa n = 45 :: Lib.decDigits n.natAbs := by unfold Lib.itoa; rw [if_pos hn]
    have hll := dd_len 18 n.natAbs (by omega)
    rw [e] at hl ⊢
    have h0 := value_l0 true (Lib.decDigits n.natAbs) [45] 0 (by simp; omega) (dd_dig _ _ (Nat.le_refl _)) (by rw [dd_pn _ _ (Nat.le_refl _)]; omega)
    rw [dd_pn _ _ (Nat.le_refl _)] at h0
    have hv : vfin true n.natAbs = n := by
      unfold vfin
      rw [if_pos rfl]
      simp only [IntKind.wrap_u64, wrap64]
      omega
    rw [hv] at h0
    have hb0 : bt (ofL (45 :: Lib.decDigits n.natAbs)) 0 = 45 := rfl
    have h1 : Ev (fun k => pledgeref39_value.l0 k (ofL (45 :: Lib.decDigits n.natAbs)) true 0 0) n := by
      refine Ev.succ (f := fun k => pledgeref39_value.j2 k (ofL (45 :: Lib.decDigits n.natAbs)) true 0 0 true) ?_ (fun k => ?_)
      · refine h0.succ (fun k => ?_)
        simp only [pledgeref39_value.j2]
        rw [if_pos trivial, if_pos (by omega), if_pos (by rw [ofL_size]; simp only [List.length_cons]; omega), hb0, if_neg (by omega), show wrap64 (0 + 1) = 1 from by simp only [wrap64]; rfl]
        rfl
      · simp only [pledgeref39_value.l0]
        rw [if_pos (by rw [ofL_size]; simp only [List.length_cons]; omega), decide_eq_true (by omega)]
    refine Ev.congr (f := fun k => pledgeref39_value.j0 k (ofL (45 :: Lib.decDigits n.natAbs)) true) (h1.succ (fun k => rfl)) (fun k => ?_)
    rw [if_pos (by rw [ofL_size]; simp only [List.length_cons]; omega), if_pos (by rw [ofL_size]; simp only [List.length_cons]; omega), hb0]
    rfl
  · have e : Lib.itoa n = Lib.decDigits n.toNat := by unfold Lib.itoa; rw [if_neg hn]
    have hll := dd_len 18 n.toNat (by omega)
    rw [e] at hl ⊢
    have h0 := value_l0 false (Lib.decDigits n.toNat) [] 0 (by simp; omega) (dd_dig _ _ (Nat.le_refl _)) (by rw [dd_pn _ _ (Nat.le_refl _)]; omega)
    rw [dd_pn _ _ (Nat.le_refl _), List.nil_append] at h0
    have hv : vfin false n.toNat = n := by
      unfold vfin
      rw [if_neg (by simp)]
      simp only [wrap64]
      omega
    rw [hv] at h0
    have hpos : 0 < (Lib.decDigits n.toNat).length := List.length_pos_iff.2 (dd_ne _)
    have hb0 : (bt (ofL (Lib.decDigits n.toNat)) 0 == 45) = false := by
      have hb := bt_ofL (Lib.decDigits n.toNat) 0 hpos
      have hc := dd_dig _ n.toNat (Nat.le_refl _) ((Lib.decDigits n.toNat)[0]) (List.getElem_mem hpos)
      rw [show ((0 : Nat) : Int) = 0 from rfl] at hb
      rw [hb]
      exact beq_eq_false_iff_ne.2 (by omega)
    refine Ev.congr (f := fun k => pledgeref39_value.j0 k (ofL (Lib.decDigits n.toNat)) false) (h0.succ (fun k => rfl)) (fun k => ?_)
    rw [if_pos (by rw [ofL_size]; omega), if_pos (by rw [ofL_size]; omega), hb0]
def I64 (n : Int) : Prop := -9223372036854775808 ≤ n ∧ n ≤ 9223372036854775807
def nm (n : Int) : List UInt8 := 32 :: Lib.itoa n
theorem nm_len (n : Int) (h : I64 n) : (nm n).length ≤ 22 := by
  have := itoa_len20 n h
  simp only [nm, List.length_cons]
  omega
theorem w64 {n : Int} (h : I64 n) : wrap64 n = n := by
  obtain ⟨h0, h1⟩ := h
  simp only [wrap64]
  omega
theorem put_is (w : List UInt8) (l : List Int) (hw : w.length ≤ 100) (hl : l.length ≤ 10) (h : ∀ x ∈ l, I64 x) : words_put.f (ofL w) l = some (ofL (w ++ l.flatMap nm)) := by
  unfold words_put.f
  rw [if_pos ⟨by rw [ofL_size]; omega, by omega, List.all_eq_true.2 (fun x hx => by have := h x hx; simpa [I64] using this)⟩, ofL_data]
  rfl
def LineOk (x : S90) : Prop := (0 ≤ x.f0 ∧ x.f0 < 256) ∧ I64 x.f1
def lnT (l : List S90) : List UInt8 := l.flatMap fun x => nm x.f0 ++ (58 :: Lib.itoa x.f1)
theorem rd90 (pre rest : List S90) (x : S90) : rd_T90 (pre ++ x :: rest) (pre.length : Int) = x := by simp [rd_T90, rdOf, List.getD_eq_getElem?_getD]
theorem u8_64 {n : Int} (h : 0 ≤ n ∧ n < 256) : I64 n := ⟨by omega, by omega⟩
theorem ask_l0 (rest : List S90) : ∀ (pre : List S90) (w : List UInt8), (∀ x ∈ rest, LineOk x) → w.length + 100 * rest.length ≤ 1000 → (pre ++ rest).length ≤ 1000 → Ev (fun k => words_ask.l0 k (ofL w) (pre ++ rest) ((pre ++ rest).length : Int) (pre.length : Int)) (ofL (w ++ lnT rest)) := by
  induction rest with
  | nil =>
    intro pre w _ _ _
    refine Ev.succ (f := fun _ => some (ofL w)) ?_ (fun k => ?_)
    · simp only [lnT, List.flatMap_nil, List.append_nil]
      exact Ev.const rfl
    · rw [words_ask.l0, if_neg (by rw [List.append_nil]; omega)]
  | cons x rest ih =>
    intro pre w hx hw hp
    obtain ⟨h0, h1⟩ := hx x (by simp)
    have hn := nm_len x.f0 (u8_64 h0)
    have hm := itoa_len20 x.f1 h1
    have hlt : pre.length < (pre ++ x :: rest).length := by simp
    have ih2 := ih (pre ++ [x]) (w ++ (nm x.f0 ++ (58 :: Lib.itoa x.f1))) (fun y hy => hx y (by simp [hy])) (by simp only [List.length_append, List.length_cons] at hw ⊢; omega) (by simpa using hp)
    rw [List.append_assoc, List.singleton_append] at ih2
    have e : lnT (x :: rest) = (nm x.f0 ++ (58 :: Lib.itoa x.f1)) ++ lnT rest := rfl
    rw [e, ← List.append_assoc]
    have hput : words_put.f (⟨#[]⟩ : ByteArray) [wrap64 x.f0] = some (ofL (nm x.f0)) := by
      rw [w64 (u8_64 h0)]
      have := put_is [] [x.f0] (by simp) (by simp) (fun y hy => by simp at hy; subst hy; exact u8_64 h0)
      rw [show [x.f0].flatMap nm = nm x.f0 from by simp, List.nil_append] at this
      exact this
    have hfm : strconv_FormatInt.f x.f1 10 = some (ofL (Lib.itoa x.f1)) := by
      unfold strconv_FormatInt.f
      rw [if_pos ⟨h1.1, h1.2, rfl⟩]
      rfl
    have ei : wrap64 ((pre.length : Int) + 1) = ((pre ++ [x]).length : Int) := by
      simp only [wrap64, List.length_append, List.length_cons, List.length_nil] at hp ⊢
      omega
    refine ih2.succ (fun k => ?_)
    rw [words_ask.l0, if_pos (by omega), if_pos (by omega), if_pos (by omega), rd90, hput, Option.bind_some]
    rw [if_pos (by rw [ofL_size]; omega), hfm, Option.bind_some, if_pos (by rw [ofL_size, ofL_size]; omega), if_pos (by rw [ofL_size, ofL_size, ofL_size]; omega), ei]
    congr 1
    rw [show (⟨#[58]⟩ : ByteArray) = ofL [58] from rfl, ofL_app, ofL_app, ofL_app]
    simp
/-- The fields' ranges, and a kind of its own. -/
structure RqOk (k o p : Int) (l : List S90) (s f t q : Int) : Prop where
  hK1 : 1 ≤ k
  hK7 : k ≤ 7
  hO : 0 ≤ o ∧ o < 4294967296
  hP : 0 ≤ p ∧ p < 256
  hL : ∀ x ∈ l, LineOk x
  hN : l.length ≤ 3
  hS : 0 ≤ s ∧ s < 256
  hF : 0 ≤ f ∧ f < 256
  hT : 0 ≤ t ∧ t < 256
  hQ : I64 q
def wPlace : List UInt8 := [112, 108, 97, 99, 101]
def wCancel : List UInt8 := [99, 97, 110, 99, 101, 108]
def wShip : List UInt8 := [115, 104, 105, 112]
def wReturn : List UInt8 := [114, 101, 116, 117, 114, 110]
def wRestock : List UInt8 := [114, 101, 115, 116, 111, 99, 107]
def wTransfer : List UInt8 := [116, 114, 97, 110, 115, 102, 101, 114]
def wQuery : List UInt8 := [113, 117, 101, 114, 121]
def askT (k o p : Int) (l : List S90) (s f t q : Int) : List UInt8 :=
  if k = 1 then (wPlace ++ (nm o ++ nm p)) ++ lnT l else if k = 2 then wCancel ++ nm o else if k = 3 then wShip ++ nm o else if k = 4 then wReturn ++ nm o
  else if k = 5 then wRestock ++ (nm s ++ (nm t ++ nm q)) else if k = 6 then wTransfer ++ (nm s ++ (nm f ++ (nm t ++ nm q))) else wQuery ++ nm s
theorem u32_64 {n : Int} (h : 0 ≤ n ∧ n < 4294967296) : I64 n := ⟨by omega, by omega⟩
theorem prog_ask {k o p : Int} {l : List S90} {s f t q : Int} (h : RqOk k o p l s f t q) : Ev (fun m => words_ask.f m k o p l s f t q) (ofL (askT k o p l s f t q)) := by
  have wo := w64 (u32_64 h.hO)
  have wp := w64 (u8_64 h.hP)
  have ws := w64 (u8_64 h.hS)
  have wf := w64 (u8_64 h.hF)
  have wt := w64 (u8_64 h.hT)
  have io := u32_64 h.hO
  have ip := u8_64 h.hP
  have is_ := u8_64 h.hS
  have if_ := u8_64 h.hF
  have it := u8_64 h.hT
  have iq := h.hQ
  have lo := nm_len o io
  have lp := nm_len p ip
  unfold words_ask.f askT
  have hk1 := h.hK1
  have hk7 := h.hK7
  by_cases h1 : k = 1
  · have hp := put_is wPlace [o, p] (by decide) (by simp) (by intro x hx; simp at hx; rcases hx with rfl | rfl <;> assumption)
    rw [show [o, p].flatMap nm = nm o ++ nm p from by simp] at hp
    have hl := ask_l0 l [] (wPlace ++ (nm o ++ nm p)) h.hL (by have := h.hN; simp only [List.length_append, show wPlace.length = 5 from rfl]; omega) (by have := h.hN; simp; omega)
    refine Ev.congr (f := fun m => words_ask.l0 m (ofL (wPlace ++ (nm o ++ nm p))) l (l.length : Int) 0) ?_ (fun m => ?_)
    · rw [if_pos h1]; exact hl
    · rw [if_pos h1, wo, wp, show (⟨#[112, 108, 97, 99, 101]⟩ : ByteArray) = ofL wPlace from rfl, hp, Option.bind_some]
  · rw [if_neg h1]
    by_cases h5 : k = 5
    · subst h5
      have hp := put_is wRestock [s, t, q] (by decide) (by simp) (by intro x hx; simp at hx; rcases hx with rfl | rfl | rfl <;> assumption)
      rw [show [s, t, q].flatMap nm = nm s ++ (nm t ++ nm q) from by simp] at hp
      refine ⟨0, fun m _ => ?_⟩
      dsimp only
      rw [if_neg (by omega), if_pos rfl]
      simp only [ws, wt, show (⟨#[114, 101, 115, 116, 111, 99, 107]⟩ : ByteArray) = ofL wRestock from rfl, hp, Option.bind_some]
      rfl
    by_cases h6 : k = 6
    · subst h6
      have hp := put_is wTransfer [s, f, t, q] (by decide) (by simp) (by intro x hx; simp at hx; rcases hx with rfl | rfl | rfl | rfl <;> assumption)
      rw [show [s, f, t, q].flatMap nm = nm s ++ (nm f ++ (nm t ++ nm q)) from by simp] at hp
      refine ⟨0, fun m _ => ?_⟩
      dsimp only
      rw [if_neg (by omega), if_neg (by omega), if_pos rfl]
      simp only [ws, wf, wt, show (⟨#[116, 114, 97, 110, 115, 102, 101, 114]⟩ : ByteArray) = ofL wTransfer from rfl, hp, Option.bind_some]
      rfl
    by_cases h7 : k = 7
    · subst h7
      have hp := put_is wQuery [s] (by decide) (by simp) (by intro x hx; simp at hx; subst hx; assumption)
      rw [show [s].flatMap nm = nm s from by simp] at hp
      refine ⟨0, fun m _ => ?_⟩
      dsimp only
      rw [if_neg (by omega), if_neg (by omega), if_neg (by omega), if_pos rfl]
      simp only [ws, show (⟨#[113, 117, 101, 114, 121]⟩ : ByteArray) = ofL wQuery from rfl, hp, Option.bind_some]
      rfl
    refine ⟨0, fun m _ => ?_⟩
    dsimp only
    rw [if_neg h1, if_neg h5, if_neg h6, if_neg h7]
    obtain rfl | rfl | rfl : k = 2 ∨ k = 3 ∨ k = 4 := by omega
    · have hp := put_is wCancel [o] (by decide) (by simp) (by intro x hx; simp at hx; subst hx; assumption)
      rw [show [o].flatMap nm = nm o from by simp] at hp
      have ha : words_about.f 2 = some (ofL wCancel) := rfl
      rw [ha, Option.bind_some, wo, hp]
      rfl
    · have hp := put_is wShip [o] (by decide) (by simp) (by intro x hx; simp at hx; subst hx; assumption)
      rw [show [o].flatMap nm = nm o from by simp] at hp
      have ha : words_about.f 3 = some (ofL wShip) := rfl
      rw [ha, Option.bind_some, wo, hp]
      rfl
    · have hp := put_is wReturn [o] (by decide) (by simp) (by intro x hx; simp at hx; subst hx; assumption)
      rw [show [o].flatMap nm = nm o from by simp] at hp
      have ha : words_about.f 4 = some (ofL wReturn) := rfl
      rw [ha, Option.bind_some, wo, hp]
      rfl
theorem rask_l0 (k o p s f t q : Int) (rest : List S90) : ∀ (pre : List S90) (w : List UInt8), (∀ x ∈ rest, LineOk x) → w.length + 100 * rest.length ≤ 1000 → (pre ++ rest).length ≤ 1000 → Ev (fun m => pledgeref39_Ask.l0 m (ofL w) (pre.length : Int) k o p (pre ++ rest) s f t q) (ofL (w ++ lnT rest)) := by
  induction rest with
  | nil =>
    intro pre w _ _ _
    refine Ev.succ (f := fun _ => some (ofL w)) ?_ (fun m => ?_)
    · simp only [lnT, List.flatMap_nil, List.append_nil]
      exact Ev.const rfl
    · rw [pledgeref39_Ask.l0, if_neg (by rw [List.append_nil]; omega)]
  | cons x rest ih =>
    intro pre w hx hw hp
    obtain ⟨h0, h1⟩ := hx x (by simp)
    have hn := nm_len x.f0 (u8_64 h0)
    have hm := itoa_len20 x.f1 h1
    have hlt : pre.length < (pre ++ x :: rest).length := by simp
    have ih2 := ih (pre ++ [x]) (w ++ (nm x.f0 ++ (58 :: Lib.itoa x.f1))) (fun y hy => hx y (by simp [hy])) (by simp only [List.length_append, List.length_cons] at hw ⊢; omega) (by simpa using hp)
    rw [List.append_assoc, List.singleton_append] at ih2
    have e : lnT (x :: rest) = (nm x.f0 ++ (58 :: Lib.itoa x.f1)) ++ lnT rest := rfl
    rw [e, ← List.append_assoc]
    have ei : wrap64 ((pre.length : Int) + 1) = ((pre ++ [x]).length : Int) := by
      simp only [wrap64, List.length_append, List.length_cons, List.length_nil] at hp ⊢
      omega
    have hnum := num_ev x.f0 (u8_64 h0)
    have hdig := Digits_ev x.f1 h1
    have hw0 := w64 (u8_64 h0)
    refine Ev.succ (f := fun m => (pledgeref39_num.f m x.f0).bind fun t256 => (if w.length + t256.size ≤ 9223372036854775807 then (if w.length + t256.size + 1 ≤ 9223372036854775807 then ((pledgeref36_Digits.f m x.f1).bind fun t258 => (if w.length + t256.size + 1 + t258.size ≤ 9223372036854775807 then (pledgeref39_Ask.l0 m (((ofL w ++ t256) ++ (⟨#[58]⟩ : ByteArray)) ++ t258) ((pre ++ [x]).length : Int) k o p (pre ++ x :: rest) s f t q) else (none))) else (none)) else (none))) ?_ (fun m => ?_)
    · refine Ev.bind hnum ?_
      refine Ev.congr (f := fun m => (pledgeref36_Digits.f m x.f1).bind fun t258 => (if w.length + (ofL (nm x.f0)).size + 1 + t258.size ≤ 9223372036854775807 then (pledgeref39_Ask.l0 m (((ofL w ++ ofL (nm x.f0)) ++ (⟨#[58]⟩ : ByteArray)) ++ t258) ((pre ++ [x]).length : Int) k o p (pre ++ x :: rest) s f t q) else (none))) ?_ (fun m => ?_)
      · refine Ev.bind hdig (ih2.congr (fun m => ?_))
        rw [if_pos (by rw [ofL_size, ofL_size]; omega)]
        congr 1
        rw [show (⟨#[58]⟩ : ByteArray) = ofL [58] from rfl, ofL_app, ofL_app, ofL_app]
        simp
      · rw [show (32 :: Lib.itoa x.f0) = nm x.f0 from rfl, if_pos (by rw [ofL_size]; omega), if_pos (by rw [ofL_size]; omega)]
    · rw [pledgeref39_Ask.l0, if_pos (by omega), if_pos (by omega), rd90, hw0, ei, ofL_size]
theorem ref_ask {k o p : Int} {l : List S90} {s f t q : Int} (h : RqOk k o p l s f t q) : Ev (fun m => pledgeref39_Ask.f m k o p l s f t q) (ofL (askT k o p l s f t q)) := by
  have wo := w64 (u32_64 h.hO)
  have wp := w64 (u8_64 h.hP)
  have ws := w64 (u8_64 h.hS)
  have wf := w64 (u8_64 h.hF)
  have wt := w64 (u8_64 h.hT)
  have no := num_ev o (u32_64 h.hO)
  have np := num_ev p (u8_64 h.hP)
  have ns := num_ev s (u8_64 h.hS)
  have nf := num_ev f (u8_64 h.hF)
  have nt := num_ev t (u8_64 h.hT)
  have nq := num_ev q h.hQ
  have lo := nm_len o (u32_64 h.hO)
  have lp := nm_len p (u8_64 h.hP)
  have ls := nm_len s (u8_64 h.hS)
  have lf := nm_len f (u8_64 h.hF)
  have lt := nm_len t (u8_64 h.hT)
  have lq := nm_len q h.hQ
  have hk1 := h.hK1
  have hk7 := h.hK7
  unfold pledgeref39_Ask.f askT
  rw [wo, ws, wp, wf, wt]
  refine Ev.bind no (Ev.bind ns ?_)
  simp only [show ∀ n, (32 :: Lib.itoa n) = nm n from fun _ => rfl, ofL_size]
  by_cases h1 : k = 1
  · have hl := rask_l0 k o p s f t q l [] (wPlace ++ (nm o ++ nm p)) h.hL (by have := h.hN; simp only [List.length_append, show wPlace.length = 5 from rfl]; omega) (by have := h.hN; simp; omega)
    refine Ev.congr (f := fun m => (pledgeref39_num.f m p).bind fun t254 => (if 5 + (nm o).length + t254.size ≤ 9223372036854775807 then (pledgeref39_Ask.l0 m (((⟨#[112, 108, 97, 99, 101]⟩ : ByteArray) ++ ofL (nm o)) ++ t254) 0 k o p l s f t q) else (none))) ?_ (fun m => by rw [if_pos h1, if_pos (by omega)])
    rw [if_pos h1]
    refine Ev.bind np (hl.congr (fun m => ?_))
    rw [show (32 :: Lib.itoa p) = nm p from rfl, if_pos (by rw [ofL_size]; omega), show (⟨#[112, 108, 97, 99, 101]⟩ : ByteArray) = ofL wPlace from rfl, ofL_app, ofL_app, List.append_assoc]
    rfl
  simp only [if_neg h1]
  by_cases h2 : k = 2
  · simp only [if_pos h2]
    refine Ev.const ?_
    rw [if_pos (by omega)]
    exact congrArg some (ofL_app wCancel _)
  simp only [if_neg h2]
  by_cases h3 : k = 3
  · simp only [if_pos h3]
    refine Ev.const ?_
    rw [if_pos (by omega)]
    exact congrArg some (ofL_app wShip _)
  simp only [if_neg h3]
  by_cases h4 : k = 4
  · simp only [if_pos h4]
    refine Ev.const ?_
    rw [if_pos (by omega)]
    exact congrArg some (ofL_app wReturn _)
  simp only [if_neg h4]
  by_cases h5 : k = 5
  · simp only [if_pos h5]
    simp only [if_pos (show 7 + (nm s).length ≤ 9223372036854775807 from by omega)]
    refine Ev.bind nt ?_
    simp only [show ∀ n, (32 :: Lib.itoa n) = nm n from fun _ => rfl, ofL_size]
    simp only [if_pos (show 7 + (nm s).length + (nm t).length ≤ 9223372036854775807 from by omega)]
    refine Ev.bind nq (Ev.const ?_)
    simp only [show ∀ n, (32 :: Lib.itoa n) = nm n from fun _ => rfl, ofL_size]
    rw [if_pos (by omega), show (⟨#[114, 101, 115, 116, 111, 99, 107]⟩ : ByteArray) = ofL wRestock from rfl, ofL_app, ofL_app, ofL_app]
    simp
  simp only [if_neg h5]
  by_cases h6 : k = 6
  · simp only [if_pos h6]
    simp only [if_pos (show 8 + (nm s).length ≤ 9223372036854775807 from by omega)]
    refine Ev.bind nf ?_
    simp only [show ∀ n, (32 :: Lib.itoa n) = nm n from fun _ => rfl, ofL_size]
    simp only [if_pos (show 8 + (nm s).length + (nm f).length ≤ 9223372036854775807 from by omega)]
    refine Ev.bind nt ?_
    simp only [show ∀ n, (32 :: Lib.itoa n) = nm n from fun _ => rfl, ofL_size]
    simp only [if_pos (show 8 + (nm s).length + (nm f).length + (nm t).length ≤ 9223372036854775807 from by omega)]
    refine Ev.bind nq (Ev.const ?_)
    simp only [show ∀ n, (32 :: Lib.itoa n) = nm n from fun _ => rfl, ofL_size]
    rw [if_pos (by omega), show (⟨#[116, 114, 97, 110, 115, 102, 101, 114]⟩ : ByteArray) = ofL wTransfer from rfl, ofL_app, ofL_app, ofL_app, ofL_app]
    simp
  simp only [if_neg h6]
  refine Ev.const ?_
  rw [if_pos (by omega)]
  exact congrArg some (ofL_app wQuery _)
def ByteL (l : List Int) : Prop := ∀ b ∈ l, 0 ≤ b ∧ b < 256
theorem wB_leN : ∀ (l : List Int), ByteL l → wB (leN l) l.length = l
  | [], _ => rfl
  | b :: l, h => by
    have ih := wB_leN l (fun x hx => h x (by simp [hx]))
    have hb := h b (by simp)
    have e : ∀ j, leN (b :: l) / 256 ^ (j + 1) = leN l / 256 ^ j := fun j => by
      show (b + 256 * leN l) / 256 ^ (j + 1) = _
      have h1 : (b + 256 * leN l) / 256 = leN l := by omega
      rw [Int.pow_succ, Int.mul_comm (256 ^ j) 256, ← Int.ediv_ediv_of_nonneg (by decide), h1]
    have e0 : leN (b :: l) % 256 = b := by
      show (b + 256 * leN l) % 256 = b
      omega
    unfold wB at ih ⊢
    rw [List.length_cons, List.range_succ_eq_map, List.map_cons, List.map_map]
    congr 1
    · rw [Int.pow_zero, Int.ediv_one, e0]
    · refine Eq.trans (List.map_congr_left (fun j hj => ?_)) ih
      show leN (b :: l) / 256 ^ (j + 1) % 256 = leN l / 256 ^ j % 256
      rw [e]
theorem rNum_ok {n : Nat} {bs bs' : List Int} {x : Int} (hb : ByteL bs) (h : rNum n (0, bs) = (x, (0, bs'))) : bs = wB x n ++ bs' ∧ 0 ≤ x ∧ x < 256 ^ n := by
  unfold rNum at h
  rw [if_neg (by simp)] at h
  by_cases hl : bs.length < n
  · rw [if_pos hl] at h
    exact absurd (Prod.mk.inj (Prod.mk.inj h).2).1 (by omega)
  · rw [if_neg hl] at h
    obtain ⟨h1, h2⟩ := Prod.mk.inj h
    have h3 := (Prod.mk.inj h2).2
    subst h1
    subst h3
    have hlen : (bs.take n).length = n := by rw [List.length_take]; omega
    have hbt : ByteL (bs.take n) := fun b hx => hb b (List.mem_of_mem_take hx)
    have hr := leN_range (bs.take n) hbt
    have hw := wB_leN (bs.take n) hbt
    rw [hlen] at hr hw
    refine ⟨?_, hr.1, hr.2⟩
    show bs = wB (leN (bs.take n)) n ++ bs.drop n
    rw [hw, List.take_append_drop]
theorem rNum_err {n : Nat} {s : Int × List Int} (h : s.1 ≠ 0) : rNum n s = (0, s) := by
  unfold rNum
  rw [if_pos h]
/-! ### the two readers -/
def Rel (s t : Int × List Int) : Prop := s.1 = t.1 ∧ (s.1 = 0 → s.2 = t.2)
theorem rel_num {n : Nat} {s t : Int × List Int} (h : Rel s t) : (rNum n s).1 = (gRead n t).1 ∧ Rel (rNum n s).2 (gRead n t).2 := by
  obtain ⟨h1, h2⟩ := h
  unfold rNum gRead
  by_cases hs : s.1 = 0
  · have h3 := h2 hs
    have hs' : ¬ (s.1 ≠ 0) := fun h => h hs
    have ht' : ¬ (t.1 ≠ 0) := fun h => h (h1 ▸ hs)
    rw [if_neg hs', if_neg ht', ← h3]
    unfold gNum
    by_cases hl : s.2.length < n
    · rw [if_pos hl, if_pos hl]
      exact ⟨rfl, rfl, fun h => absurd (show (6 : Int) = 0 from h) (by decide)⟩
    · rw [if_neg hl, if_neg hl]
      exact ⟨rfl, rfl, fun _ => rfl⟩
  · rw [if_pos hs, if_pos (by rw [← h1]; exact hs)]
    exact ⟨rfl, h1, h2⟩
theorem rel_end {s t : Int × List Int} (h : Rel s t) : rEnd s = rEnd t := by
  obtain ⟨h1, h2⟩ := h
  unfold rEnd
  by_cases hs : s.1 = 0
  · rw [h2 hs, h1]
  · rw [if_neg (fun h => hs h.1), if_neg (fun h => hs (h1.trans h.1)), h1]
theorem rLines_err : ∀ (n : Nat) (s : Int × List Int), s.1 ≠ 0 → (request_Decode.rLines n s).2 = s
  | 0, s, _ => rfl
  | n + 1, s, h => by
    simp only [request_Decode.rLines]
    rw [rNum_err h, rNum_err h]
    exact rLines_err n s h
theorem rel_lines : ∀ (n : Nat) (s t : Int × List Int), Rel s t → Rel (request_Decode.rLines n s).2 (pledgeref34_Decode.gLines n t).2 ∧ ((request_Decode.rLines n s).2.1 = 0 → (request_Decode.rLines n s).1 = (pledgeref34_Decode.gLines n t).1)
  | 0, s, t, h => ⟨h, fun _ => rfl⟩
  | n + 1, s, t, h => by
    by_cases hs : s.1 = 0
    · simp only [request_Decode.rLines, pledgeref34_Decode.gLines]
      rw [if_neg (by rw [← h.1]; simpa using hs)]
      have a := rel_num (n := 1) h
      have b := rel_num (n := 8) a.2
      have c := rel_lines n _ _ b.2
      refine ⟨c.1, fun h0 => ?_⟩
      rw [c.2 h0, a.1, b.1]
    · have e := rLines_err (n + 1) s hs
      have e2 : pledgeref34_Decode.gLines (n + 1) t = ([], t) := pledgeref34_Decode.gLines_err _ _ (by rw [← h.1]; exact hs)
      rw [e2]
      refine ⟨by rw [e]; exact h, fun h0 => ?_⟩
      rw [e] at h0
      exact absurd h0 hs
theorem fin_eq {s t : Int × List Int} (h : Rel s t) {a b c d e f g : Int} {l l' : List S90} (hl : s.1 = 0 → l = l') : request_Decode.fin s a b c l d e f g = pledgeref34_Decode.fin t a b c l' d e f g := by
  unfold request_Decode.fin pledgeref34_Decode.fin
  rw [← rel_end h]
  by_cases hz : rEnd s = 0
  · rw [if_pos hz, if_pos hz]
    have h0 : s.1 = 0 := by
      unfold rEnd at hz
      split at hz
      · omega
      · exact hz
    rw [hl h0]
  · rw [if_neg hz, if_neg hz]
theorem dec_eq (bs : List Int) : request_Decode.decF bs = pledgeref34_Decode.decF bs := by
  have h0 : Rel (0, bs) (0, bs) := ⟨rfl, fun _ => rfl⟩
  have a := rel_num (n := 1) h0
  have b4 := rel_num (n := 4) a.2
  have b1 := rel_num (n := 1) a.2
  unfold request_Decode.decF pledgeref34_Decode.decF
  rw [← a.1, ← a.2.1, ← b4.1, ← b1.1]
  by_cases he : (rNum 1 (0, bs)).2.1 = 0
  · have hn : ¬ ((rNum 1 (0, bs)).2.1 ≠ 0) := fun h => h he
    rw [if_neg hn, if_neg hn]
    by_cases hk : (rNum 1 (0, bs)).1 < 1 ∨ 7 < (rNum 1 (0, bs)).1
    · rw [if_pos hk, if_pos hk]
    · rw [if_neg hk, if_neg hk]
      by_cases h1 : (rNum 1 (0, bs)).1 = 1
      · rw [if_pos h1, if_pos h1]
        have c := rel_num (n := 1) b4.2
        have d := rel_num (n := 1) c.2
        rw [← c.1]
        generalize (rNum 4 (rNum 1 (0, bs)).2).1 % 4294967296 = vo
        generalize (rNum 1 (rNum 4 (rNum 1 (0, bs)).2).2).1 % 256 = vp
        generalize (rNum 1 (rNum 4 (rNum 1 (0, bs)).2).2).2 = s at *
        generalize (gRead 1 (gRead 4 (gRead 1 (0, bs)).2).2).2 = t at *
        unfold gCount
        by_cases hd : (rNum 1 s).2.1 = 0
        · have hg : ¬ ((gRead 1 t).2.1 ≠ 0) := fun h => h (by rw [← d.2.1]; exact hd)
          rw [if_neg hg, ← d.1]
          by_cases h3 : 3 < (rNum 1 s).1
          · rw [if_pos h3, if_pos h3]
            rfl
          · rw [if_neg h3, if_neg h3]
            have e := rel_lines (rNum 1 s).1.toNat _ _ d.2
            rw [← d.1]
            exact fin_eq e.1 e.2
        · have hx : (rNum 1 s).1 = 0 := by
            unfold rNum at hd ⊢
            split
            · rfl
            · split
              · rfl
              · rename_i h1 h2
                rw [if_neg h1, if_neg h2] at hd
                exact absurd rfl hd
          have hg : (gRead 1 t).2.1 ≠ 0 := by rw [← d.2.1]; exact hd
          rw [if_pos hg, hx, if_neg (show ¬ ((3 : Int) < 0) from by omega)]
          exact fin_eq d.2 (fun _ => rfl)
      · rw [if_neg h1, if_neg h1]
        by_cases h4 : (rNum 1 (0, bs)).1 ≤ 4
        · rw [if_pos h4, if_pos h4]
          exact fin_eq b4.2 (fun _ => rfl)
        · rw [if_neg h4, if_neg h4]
          have c := rel_num (n := 1) b1.2
          have d8 := rel_num (n := 8) c.2
          have d1 := rel_num (n := 1) c.2
          have e8 := rel_num (n := 8) d1.2
          by_cases h5 : (rNum 1 (0, bs)).1 = 5
          · rw [if_pos h5, if_pos h5, ← c.1, ← d8.1]
            exact fin_eq d8.2 (fun _ => rfl)
          · rw [if_neg h5, if_neg h5]
            by_cases h6 : (rNum 1 (0, bs)).1 = 6
            · rw [if_pos h6, if_pos h6, ← c.1, ← d1.1, ← e8.1]
              exact fin_eq e8.2 (fun _ => rfl)
            · rw [if_neg h6, if_neg h6]
              exact fin_eq b1.2 (fun _ => rfl)
  · rw [if_pos he, if_pos he]
/-! ### what is decoded has these bytes -/
theorem rNum_fine {n : Nat} {s : Int × List Int} (h : (rNum n s).2.1 = 0) : s.1 = 0 := by
  unfold rNum at h
  split at h
  · rename_i h1; exact absurd h h1
  · rename_i h1
    exact Decidable.of_not_not h1
theorem rLines_fine {n : Nat} {s : Int × List Int} (h : (request_Decode.rLines n s).2.1 = 0) : s.1 = 0 := by
  by_cases hs : s.1 = 0
  · exact hs
  · rw [rLines_err n s hs] at h
    exact h
theorem wrap_back {x : Int} (h : 0 ≤ x ∧ x < 18446744073709551616) : wrap64 x % 18446744073709551616 = x ∧ I64 (wrap64 x) := by
  unfold I64
  simp only [wrap64]
  omega
theorem wB_one {x : Int} (h : 0 ≤ x ∧ x < 256) : wB x 1 = [x] := by
  show [x / 256 ^ 0 % 256] = [x]
  rw [Int.pow_zero, Int.ediv_one]
  congr 1
  omega
theorem ok1 {bs : List Int} {s : Int × List Int} (hb : ByteL bs) (hs : s = (0, bs)) (h : (rNum 1 s).2.1 = 0) : bs = (rNum 1 s).1 :: (rNum 1 s).2.2 ∧ (0 ≤ (rNum 1 s).1 ∧ (rNum 1 s).1 < 256) ∧ ByteL (rNum 1 s).2.2 := by
  subst hs
  obtain ⟨x, e, l, hq⟩ : ∃ x e l, rNum 1 (0, bs) = (x, (e, l)) := ⟨_, _, _, rfl⟩
  rw [hq] at h ⊢
  obtain rfl : e = 0 := h
  obtain ⟨h1, h2, h3⟩ := rNum_ok hb hq
  have h4 : x < 256 := by simpa using h3
  rw [wB_one ⟨h2, h4⟩] at h1
  exact ⟨h1, ⟨h2, h4⟩, rNum_wf hq hb⟩
theorem okn {n : Nat} {bs : List Int} {s : Int × List Int} (hb : ByteL bs) (hs : s = (0, bs)) (h : (rNum n s).2.1 = 0) : bs = wB (rNum n s).1 n ++ (rNum n s).2.2 ∧ (0 ≤ (rNum n s).1 ∧ (rNum n s).1 < 256 ^ n) ∧ ByteL (rNum n s).2.2 := by
  subst hs
  obtain ⟨x, e, l, hq⟩ : ∃ x e l, rNum n (0, bs) = (x, (e, l)) := ⟨_, _, _, rfl⟩
  rw [hq] at h ⊢
  obtain rfl : e = 0 := h
  obtain ⟨h1, h2, h3⟩ := rNum_ok hb hq
  exact ⟨h1, ⟨h2, h3⟩, rNum_wf hq hb⟩
theorem pairs {s : Int × List Int} (h : s.1 = 0) : s = (0, s.2) := by
  obtain ⟨a, b⟩ := s
  simp only at h
  rw [h]
theorem lines_ok : ∀ (n : Nat) (bs : List Int), ByteL bs → (request_Decode.rLines n (0, bs)).2.1 = 0 → bs = request_Encode.lnB (request_Decode.rLines n (0, bs)).1 ++ (request_Decode.rLines n (0, bs)).2.2 ∧ (∀ x ∈ (request_Decode.rLines n (0, bs)).1, LineOk x) ∧ ByteL (request_Decode.rLines n (0, bs)).2.2
  | 0, bs, hb, _ => ⟨rfl, fun x hx => by simp [request_Decode.rLines] at hx, hb⟩
  | n + 1, bs, hb, h => by
    simp only [request_Decode.rLines] at h ⊢
    have h8 := rLines_fine h
    have h1 := rNum_fine h8
    have a := ok1 hb rfl h1
    have b := okn (n := 8) a.2.2 (pairs h1) h8
    rw [pairs h8] at h ⊢
    have c := lines_ok n _ b.2.2 h
    have w := wrap_back (x := (rNum 8 (rNum 1 (0, bs)).2).1) ⟨b.2.1.1, by have := b.2.1.2; simpa using this⟩
    refine ⟨?_, ?_, c.2.2⟩
    · have e : ∀ (x : S90) l, request_Encode.lnB (x :: l) = (x.f0 :: wB (x.f1 % 18446744073709551616) 8) ++ request_Encode.lnB l := fun x l => rfl
      rw [e, List.append_assoc, ← c.1]
      show bs = ((rNum 1 (0, bs)).1 % 256) :: (wB (wrap64 (rNum 8 (rNum 1 (0, bs)).2).1 % 18446744073709551616) 8 ++ (rNum 8 (rNum 1 (0, bs)).2).2.2)
      rw [w.1, ← b.1, Int.emod_eq_of_lt a.2.1.1 a.2.1.2]
      exact a.1
    · intro x hx
      rcases List.mem_cons.1 hx with rfl | hx
      · exact ⟨⟨by show 0 ≤ (rNum 1 (0, bs)).1 % 256; omega, by show (rNum 1 (0, bs)).1 % 256 < 256; omega⟩, w.2⟩
      · exact c.2.1 x hx
theorem rEnd_ok {s : Int × List Int} (h : rEnd s = 0) : s.1 = 0 ∧ s.2 = [] := by
  unfold rEnd at h
  by_cases hs : s.1 = 0 ∧ 0 < s.2.length
  · rw [if_pos hs] at h; omega
  · rw [if_neg hs] at h
    exact ⟨h, List.eq_nil_of_length_eq_zero (by omega)⟩
theorem fin_ok {s : Int × List Int} {a b c d e f g : Int} {l : List S90} {r : Int × Int × Int × List S90 × Int × Int × Int × Int × Int} (h : request_Decode.fin s a b c l d e f g = r) (hr : r.2.2.2.2.2.2.2.2 = 0) : rEnd s = 0 ∧ r = (a, b, c, l, d, e, f, g, 0) := by
  unfold request_Decode.fin at h
  by_cases hz : rEnd s = 0
  · rw [if_pos hz] at h
    exact ⟨hz, h.symm⟩
  · rw [if_neg hz] at h
    subst h
    exact absurd hr hz
/-- The fields that a kind does not use are 0. -/
def Shape (k o p : Int) (l : List S90) (s f t q : Int) : Prop :=
  (k = 1 ∧ s = 0 ∧ f = 0 ∧ t = 0 ∧ q = 0) ∨ ((k = 2 ∨ k = 3 ∨ k = 4) ∧ p = 0 ∧ l = [] ∧ s = 0 ∧ f = 0 ∧ t = 0 ∧ q = 0) ∨ (k = 5 ∧ o = 0 ∧ p = 0 ∧ l = [] ∧ f = 0) ∨ (k = 6 ∧ o = 0 ∧ p = 0 ∧ l = []) ∨ (k = 7 ∧ o = 0 ∧ p = 0 ∧ l = [] ∧ f = 0 ∧ t = 0 ∧ q = 0)
theorem tup9 {a b c e f g h i a' b' c' e' f' g' h' i' : Int} {d d' : List S90} (H : (a, b, c, d', e, f, g, h, i) = (a', b', c', d, e', f', g', h', i')) : a = a' ∧ b = b' ∧ c = c' ∧ d' = d ∧ e = e' ∧ f = f' ∧ g = g' ∧ h = h' ∧ i = i' := by simpa only [Prod.mk.injEq] using H
theorem z64 : I64 0 := ⟨by omega, by omega⟩
theorem dec_ok {bs : List Int} (hb : ByteL bs) {k o p : Int} {l : List S90} {s f t q : Int} (h : request_Decode.decF bs = (k, o, p, l, s, f, t, q, 0)) :
    RqOk k o p l s f t q ∧ request_Encode.encB k o p l s f t q = bs ∧ Shape k o p l s f t q := by
  unfold request_Decode.decF at h
  by_cases he : (rNum 1 (0, bs)).2.1 = 0
  · rw [if_neg (fun h => h he)] at h
    have a := ok1 hb rfl he
    have pa := pairs he
    generalize hk : (rNum 1 (0, bs)).1 = k0 at *
    generalize hs1 : (rNum 1 (0, bs)).2 = s1 at *
    clear hk hs1
    by_cases hk : k0 < 1 ∨ 7 < k0
    · rw [if_pos hk] at h
      have := (tup9 h).2.2.2.2.2.2.2.2
      omega
    rw [if_neg hk] at h
    by_cases h1 : k0 = 1
    · rw [if_pos h1] at h
      by_cases h3 : 3 < (rNum 1 (rNum 1 (rNum 4 s1).2).2).1
      · rw [if_pos h3] at h
        have := (tup9 h).2.2.2.2.2.2.2.2
        omega
      rw [if_neg h3] at h
      obtain ⟨hz, hr⟩ := fin_ok h rfl
      obtain ⟨e1, e2⟩ := rEnd_ok hz
      have f6 := rLines_fine e1
      have f5 := rNum_fine f6
      have f4 := rNum_fine f5
      have b := okn (n := 4) a.2.2 pa f4
      have c := ok1 b.2.2 (pairs f4) f5
      have d := ok1 c.2.2 (pairs f5) f6
      rw [pairs f6] at e1 e2 hr
      have el := lines_ok _ _ d.2.2 e1
      have ll := request_Decode.rLines_len (rNum 1 (rNum 1 (rNum 4 s1).2).2).1.toNat (0, (rNum 1 (rNum 1 (rNum 4 s1).2).2).2.2)
      obtain ⟨rfl, rfl, rfl, rfl, rfl, rfl, rfl, rfl, -⟩ := tup9 hr
      rw [e2, List.append_nil] at el
      generalize (request_Decode.rLines (rNum 1 (rNum 1 (rNum 4 s1).2).2).1.toNat (0, (rNum 1 (rNum 1 (rNum 4 s1).2).2).2.2)).1 = L at *
      have b1 : (rNum 4 s1).1 < 4294967296 := by simpa using b.2.1.2
      have wl : (L.length : Int) = (rNum 1 (rNum 1 (rNum 4 s1).2).2).1 := by omega
      rw [Int.emod_eq_of_lt b.2.1.1 b1, Int.emod_eq_of_lt c.2.1.1 c.2.1.2]
      refine ⟨⟨by omega, by omega, ⟨b.2.1.1, b1⟩, c.2.1, el.2.1, by omega, by omega, by omega, by omega, z64⟩, ?_, .inl ⟨rfl, rfl, rfl, rfl, rfl⟩⟩
      unfold request_Encode.encB
      rw [if_pos rfl, a.1, b.1, c.1, d.1, ← el.1, wl, h1]
      simp
    rw [if_neg h1] at h
    by_cases h4 : k0 ≤ 4
    · rw [if_pos h4] at h
      obtain ⟨hz, hr⟩ := fin_ok h rfl
      obtain ⟨e1, e2⟩ := rEnd_ok hz
      have b := okn (n := 4) a.2.2 pa e1
      rw [e2, List.append_nil] at b
      obtain ⟨rfl, rfl, rfl, rfl, rfl, rfl, rfl, rfl, -⟩ := tup9 hr
      have b1 : (rNum 4 s1).1 < 4294967296 := by simpa using b.2.1.2
      rw [Int.emod_eq_of_lt b.2.1.1 b1]
      refine ⟨⟨by omega, by omega, ⟨b.2.1.1, b1⟩, by omega, by simp, by simp, by omega, by omega, by omega, z64⟩, ?_, .inr (.inl ⟨by omega, rfl, rfl, rfl, rfl, rfl, rfl⟩)⟩
      unfold request_Encode.encB
      rw [if_neg h1, if_pos h4, a.1, b.1]
      simp
    rw [if_neg h4] at h
    by_cases h5 : k0 = 5
    · rw [if_pos h5] at h
      obtain ⟨hz, hr⟩ := fin_ok h rfl
      obtain ⟨e1, e2⟩ := rEnd_ok hz
      have f3 := rNum_fine e1
      have f2 := rNum_fine f3
      have b := ok1 a.2.2 pa f2
      have c := ok1 b.2.2 (pairs f2) f3
      have d := okn (n := 8) c.2.2 (pairs f3) e1
      rw [e2, List.append_nil] at d
      have w := wrap_back (x := (rNum 8 (rNum 1 (rNum 1 s1).2).2).1) ⟨d.2.1.1, by have := d.2.1.2; simpa using this⟩
      obtain ⟨rfl, rfl, rfl, rfl, rfl, rfl, rfl, rfl, -⟩ := tup9 hr
      rw [Int.emod_eq_of_lt b.2.1.1 b.2.1.2, Int.emod_eq_of_lt c.2.1.1 c.2.1.2]
      refine ⟨⟨by omega, by omega, by omega, by omega, by simp, by simp, b.2.1, by omega, c.2.1, w.2⟩, ?_, .inr (.inr (.inl ⟨rfl, rfl, rfl, rfl, rfl⟩))⟩
      unfold request_Encode.encB
      rw [if_neg (by omega), if_neg (by omega), if_pos rfl, w.1, a.1, b.1, c.1, ← d.1, h5]
      simp
    rw [if_neg h5] at h
    by_cases h6 : k0 = 6
    · rw [if_pos h6] at h
      obtain ⟨hz, hr⟩ := fin_ok h rfl
      obtain ⟨e1, e2⟩ := rEnd_ok hz
      have f4 := rNum_fine e1
      have f3 := rNum_fine f4
      have f2 := rNum_fine f3
      have b := ok1 a.2.2 pa f2
      have c := ok1 b.2.2 (pairs f2) f3
      have c2 := ok1 c.2.2 (pairs f3) f4
      have d := okn (n := 8) c2.2.2 (pairs f4) e1
      rw [e2, List.append_nil] at d
      have w := wrap_back (x := (rNum 8 (rNum 1 (rNum 1 (rNum 1 s1).2).2).2).1) ⟨d.2.1.1, by have := d.2.1.2; simpa using this⟩
      obtain ⟨rfl, rfl, rfl, rfl, rfl, rfl, rfl, rfl, -⟩ := tup9 hr
      rw [Int.emod_eq_of_lt b.2.1.1 b.2.1.2, Int.emod_eq_of_lt c.2.1.1 c.2.1.2, Int.emod_eq_of_lt c2.2.1.1 c2.2.1.2]
      refine ⟨⟨by omega, by omega, by omega, by omega, by simp, by simp, b.2.1, c.2.1, c2.2.1, w.2⟩, ?_, .inr (.inr (.inr (.inl ⟨rfl, rfl, rfl, rfl⟩)))⟩
      unfold request_Encode.encB
      rw [if_neg (by omega), if_neg (by omega), if_neg (by omega), if_pos rfl, w.1, a.1, b.1, c.1, c2.1, ← d.1, h6]
      simp
    rw [if_neg h6] at h
    obtain ⟨hz, hr⟩ := fin_ok h rfl
    obtain ⟨e1, e2⟩ := rEnd_ok hz
    have b := ok1 a.2.2 pa e1
    rw [e2] at b
    obtain ⟨rfl, rfl, rfl, rfl, rfl, rfl, rfl, rfl, -⟩ := tup9 hr
    rw [Int.emod_eq_of_lt b.2.1.1 b.2.1.2]
    refine ⟨⟨by omega, by omega, by omega, by omega, by simp, by simp, b.2.1, by omega, by omega, z64⟩, ?_, .inr (.inr (.inr (.inr ⟨rfl, rfl, rfl, rfl, rfl, rfl, rfl⟩)))⟩
    unfold request_Encode.encB
    rw [if_neg (by omega), if_neg (by omega), if_neg (by omega), if_neg (by omega), a.1, b.1]
    simp
    omega
  · rw [if_pos he] at h
    exact absurd (tup9 h).2.2.2.2.2.2.2.2 he
theorem plain_ok {k o p : Int} {l : List S90} {s f t q : Int} (h : RqOk k o p l s f t q) (hs : Shape k o p l s f t q) : request_Plain.f 2 k o p l s f t q = some true := by
  have h3 : ¬ ((l.length : Int) > 3) := by have := h.hN; omega
  have d3 : decide ((l.length : Int) > 3) = false := decide_eq_false h3
  rcases hs with ⟨rfl, rfl, rfl, rfl, rfl⟩ | ⟨hk, rfl, rfl, rfl, rfl, rfl, rfl⟩ | ⟨rfl, rfl, rfl, rfl, rfl⟩ | ⟨rfl, rfl, rfl, rfl⟩ | ⟨rfl, rfl, rfl, rfl, rfl, rfl, rfl⟩
  · unfold request_Plain.f
    rw [if_neg (by omega), if_neg (by omega), d3]
    rfl
  · rcases hk with rfl | rfl | rfl <;> rfl
  · rfl
  · rfl
  · rfl
theorem lines_self_l : ∀ (m : Nat) (l : List S90) (i : Nat), l.length ≤ i + m → l.length < 1000 → pledgeref12_SameLines.l0 (m + 1) l l (i : Int) = some true
  | 0, l, i, h, _ => by rw [pledgeref12_SameLines.l0, if_neg (by omega)]
  | m + 1, l, i, h, hl => by
    rw [pledgeref12_SameLines.l0]
    by_cases hi : (i : Int) < (l.length : Int)
    · rw [if_pos hi, if_pos (by omega), if_pos hi, if_neg (by simp)]
      rw [show wrap64 ((i : Int) + 1) = ((i + 1 : Nat) : Int) from by simp only [wrap64]; omega]
      exact lines_self_l m l (i + 1) (by omega) hl
    · rw [if_neg hi]
theorem lines_self (l : List S90) (h : l.length ≤ 3) : pledgeref12_SameLines.f 5 l l = some true := by
  unfold pledgeref12_SameLines.f
  first
  | exact lines_self_l 4 l 0 (by omega) (by omega)
  | (rw [if_pos rfl]; exact lines_self_l 4 l 0 (by omega) (by omega))
  | (rw [if_neg (by simp)]; exact lines_self_l 4 l 0 (by omega) (by omega))
theorem same_self (k o p : Int) (l : List S90) (s f t q : Int) (h : l.length ≤ 3) : pledgeref34_Same.f 5 k o p l s f t q k o p l s f t q = some true := by
  unfold pledgeref34_Same.f
  rw [if_pos rfl, if_pos rfl, if_pos rfl, lines_self l h, Option.bind_some, if_pos rfl, if_pos rfl, if_pos rfl, if_pos rfl, beq_self_eq_true]
theorem ref_plain_ok {k o p : Int} {l : List S90} {s f t q : Int} (h : RqOk k o p l s f t q) (hs : Shape k o p l s f t q) : pledgeref34_Plain.f k o p l s f t q = some true := by
  have h3 : l.length ≤ 3 := h.hN
  unfold pledgeref34_Plain.f
  rw [if_neg (by have := h.hK1; have := h.hK7; omega), if_neg (fun e => e h3)]
  rcases hs with ⟨rfl, rfl, rfl, rfl, rfl⟩ | ⟨hk, rfl, rfl, rfl, rfl, rfl, rfl⟩ | ⟨rfl, rfl, rfl, rfl, rfl⟩ | ⟨rfl, rfl, rfl, rfl⟩ | ⟨rfl, rfl, rfl, rfl, rfl, rfl, rfl⟩
  · rw [if_pos rfl]
    exact same_self _ _ _ _ _ _ _ _ h3
  · rcases hk with rfl | rfl | rfl
    · rw [if_neg (by omega), if_pos rfl]; exact same_self _ _ _ _ _ _ _ _ h3
    · rw [if_neg (by omega), if_neg (by omega), if_pos rfl]; exact same_self _ _ _ _ _ _ _ _ h3
    · rw [if_neg (by omega), if_neg (by omega), if_neg (by omega), if_pos rfl]; exact same_self _ _ _ _ _ _ _ _ h3
  · rw [if_neg (by omega), if_neg (by omega), if_neg (by omega), if_neg (by omega), if_pos rfl]; exact same_self _ _ _ _ _ _ _ _ h3
  · rw [if_neg (by omega), if_neg (by omega), if_neg (by omega), if_neg (by omega), if_neg (by omega), if_pos rfl]; exact same_self _ _ _ _ _ _ _ _ h3
  · rw [if_neg (by omega), if_neg (by omega), if_neg (by omega), if_neg (by omega), if_neg (by omega), if_neg (by omega)]; exact same_self _ _ _ _ _ _ _ _ h3
/-! ### the document's bytes of a request -/
theorem wB_snoc (x : Int) (n : Nat) : wB x (n + 1) = wB x n ++ [x / 256 ^ n % 256] := by
  unfold wB
  rw [List.range_succ, List.map_append]
  rfl
theorem uw (x : Int) : IntKind.u64.wrap x = x % 18446744073709551616 := by
  show x % _ = _
  rfl
theorem num_l0 (x : Int) (n : Nat) (h0 : 0 ≤ x) (hx : x < 18446744073709551616) (hn : n ≤ 8) : ∀ (m j : Nat), n = j + m → Ev (fun k => pledgeref03_Num.l0 k (x / 256 ^ j) (n : Int) (wB x j) (j : Int)) (wB x n)
  | 0, j, h => by
    obtain rfl : n = j := by omega
    refine Ev.succ (f := fun _ => some (wB x n)) (Ev.const rfl) (fun k => ?_)
    rw [pledgeref03_Num.l0, if_neg (by omega)]
  | m + 1, j, h => by
    have ih := num_l0 x n h0 hx hn m (j + 1) (by omega)
    refine ih.succ (fun k => ?_)
    have hp : (0 : Int) ≤ x / 256 ^ j := Int.ediv_nonneg h0 (Int.pow_nonneg (by decide))
    have hq : x / 256 ^ j ≤ x := Int.ediv_le_self _ h0
    have hlen : (wB x j).length = j := by simp [wB]
    rw [pledgeref03_Num.l0, if_pos (by omega), if_pos (by omega), uw, Int.tdiv_eq_ediv_of_nonneg hp, Int.tmod_eq_emod_of_nonneg hp, wB_snoc, Int.pow_succ, ← Int.ediv_ediv_of_nonneg (Int.pow_nonneg (by decide))]
    generalize x / 256 ^ j = y at hp hq ⊢
    rw [show y / 256 % 18446744073709551616 = y / 256 from by omega, show y % 256 % 256 = y % 256 from by omega, show wrap64 ((j : Int) + 1) = ((j + 1 : Nat) : Int) from by simp only [wrap64]; omega]
theorem num_bytes (x : Int) (n : Nat) (h0 : 0 ≤ x) (hx : x < 18446744073709551616) (hn : n ≤ 8) : Ev (fun k => pledgeref03_Num.f k x (n : Int)) (wB x n) := by
  have := num_l0 x n h0 hx hn n 0 (by omega)
  rw [Int.pow_zero, Int.ediv_one] at this
  exact this
theorem int_bytes (x : Int) : Ev (fun k => pledgeref03_Int.f k x) (wB (x % 18446744073709551616) 8) := by
  unfold pledgeref03_Int.f
  rw [uw]
  exact Ev.bind (num_bytes _ 8 (by omega) (by omega) (by omega)) (Ev.const rfl)
theorem linesb_l0 (rest : List S90) : ∀ (pre : List S90) (w : List Int), (pre ++ rest).length ≤ 1000 → w.length + 9 * rest.length ≤ 100000 → Ev (fun k => pledgeref13_LinesBytes.l0 k (pre ++ rest) w (pre.length : Int)) (w ++ request_Encode.lnB rest) := by
  induction rest with
  | nil =>
    intro pre w _ _
    refine Ev.succ (f := fun _ => some w) ?_ (fun k => ?_)
    · rw [show request_Encode.lnB [] = [] from rfl, List.append_nil]; exact Ev.const rfl
    · rw [pledgeref13_LinesBytes.l0, if_neg (by rw [List.append_nil]; omega)]
  | cons x rest ih =>
    intro pre w hp hw
    have hlt : pre.length < (pre ++ x :: rest).length := by simp
    have hl8 : ∀ y, (wB y 8).length = 8 := fun y => by simp [wB]
    have ih2 := ih (pre ++ [x]) (w ++ [x.f0] ++ wB (x.f1 % 18446744073709551616) 8) (by simpa using hp) (by simp only [List.length_append, List.length_cons, List.length_nil, hl8] at hw ⊢; omega)
    rw [List.append_assoc, List.singleton_append] at ih2
    rw [show request_Encode.lnB (x :: rest) = (x.f0 :: wB (x.f1 % 18446744073709551616) 8) ++ request_Encode.lnB rest from rfl]
    have e : w ++ [x.f0] ++ wB (x.f1 % 18446744073709551616) 8 ++ request_Encode.lnB rest = w ++ ((x.f0 :: wB (x.f1 % 18446744073709551616) 8) ++ request_Encode.lnB rest) := by simp
    rw [e] at ih2
    have ei : wrap64 ((pre.length : Int) + 1) = ((pre ++ [x]).length : Int) := by
      simp only [wrap64, List.length_append, List.length_cons, List.length_nil] at hp ⊢
      omega
    refine Ev.succ (f := fun k => (pledgeref03_Int.f k x.f1).bind fun t345 => (if (w ++ [x.f0]).length + t345.length < 140737488355328 then (pledgeref13_LinesBytes.l0 k (pre ++ x :: rest) (w ++ [x.f0] ++ t345) ((pre ++ [x]).length : Int)) else (none))) ?_ (fun k => ?_)
    · refine Ev.bind (int_bytes x.f1) (ih2.congr (fun k => ?_))
      rw [if_pos (by simp only [List.length_append, List.length_cons, List.length_nil, hl8] at hw ⊢; omega)]
    · rw [pledgeref13_LinesBytes.l0, if_pos (by omega), if_pos (by omega), if_pos (by simp at hw; omega), rd90, Option.bind_some, ei]
theorem linesb (l : List S90) (h : l.length ≤ 3) : Ev (fun k => pledgeref13_LinesBytes.f k l) ((l.length : Int) :: request_Encode.lnB l) := by
  have e : (l.length : Int) % 256 = (l.length : Int) := by omega
  refine (linesb_l0 l [] [(l.length : Int)] (by simp; omega) (by simp; omega)).congr (fun k => ?_)
  unfold pledgeref13_LinesBytes.f
  rw [e]
  rfl
theorem wB_len (x : Int) (n : Nat) : (wB x n).length = n := by simp [wB]
theorem ref_bytes {k o p : Int} {l : List S90} {s f t q : Int} (h : RqOk k o p l s f t q) : Ev (fun m => pledgeref34_Bytes.f m k o p l s f t q) (request_Encode.encB k o p l s f t q) := by
  have hN := h.hN
  have hk1 := h.hK1
  have hk7 := h.hK7
  have no := num_bytes o 4 h.hO.1 (by have := h.hO; omega) (by omega)
  have lb := linesb l hN
  have ib := int_bytes q
  unfold pledgeref34_Bytes.f request_Encode.encB
  simp only [Option.bind_some]
  rw [uw, Int.emod_eq_of_lt h.hO.1 (by have := h.hO; omega)]
  by_cases h1 : k = 1
  · subst h1
    simp only [if_pos (show (1 : Int) ≤ 4 from by omega), if_pos (show (1 : Int) = 1 from rfl)]
    refine Ev.bind no ?_
    refine Ev.succ (f := fun m => (pledgeref13_LinesBytes.f m l).bind fun t364 => (if ([1] ++ wB o 4 ++ [p]).length + t364.length < 140737488355328 then (some (([1] ++ wB o 4 ++ [p]) ++ t364)) else (none))) ?_ (fun m => ?_)
    · refine Ev.bind lb (Ev.const ?_)
      rw [if_pos (by simp [request_Encode.lnB_len, wB_len]; omega)]
      simp
    · rw [if_pos (by simp [wB_len]), pledgeref34_Bytes.j0, if_pos rfl, if_pos (by simp [wB_len]), Option.bind_some]
  rw [if_neg h1]
  by_cases h4 : k ≤ 4
  · simp only [if_pos h4]
    refine Ev.bind no ?_
    refine Ev.succ (f := fun m => some ([k] ++ wB o 4)) (Ev.const (by simp)) (fun m => ?_)
    rw [if_pos (by simp [wB_len]), pledgeref34_Bytes.j0, if_neg h1, if_neg (by omega), if_neg (by omega), if_neg (by omega)]
  simp only [if_neg h4]
  by_cases h5 : k = 5
  · subst h5
    refine Ev.succ (f := fun m => (pledgeref03_Int.f m q).bind fun t376 => (if ([5] ++ [s, t] : List Int).length + t376.length < 140737488355328 then (some (([5] ++ [s, t] : List Int) ++ t376)) else (none))) ?_ (fun m => ?_)
    · refine Ev.bind ib (Ev.const ?_)
      rw [if_pos (by simp [wB_len]), if_pos rfl]
      simp
    · rw [pledgeref34_Bytes.j0, if_neg (by omega), if_pos rfl, Option.bind_some, if_pos (by simp), Option.bind_some]
  by_cases h6 : k = 6
  · subst h6
    refine Ev.succ (f := fun m => (pledgeref03_Int.f m q).bind fun t376 => (if ([6] ++ [s, f, t] : List Int).length + t376.length < 140737488355328 then (some (([6] ++ [s, f, t] : List Int) ++ t376)) else (none))) ?_ (fun m => ?_)
    · refine Ev.bind ib (Ev.const ?_)
      rw [if_pos (by simp [wB_len]), if_neg (by omega), if_pos rfl]
      simp
    · rw [pledgeref34_Bytes.j0, if_neg (by omega), if_neg (by omega), if_pos rfl, Option.bind_some, if_pos (by simp), Option.bind_some]
  obtain rfl : k = 7 := by omega
  refine Ev.succ (f := fun m => some ([7] ++ [s])) (Ev.const (by rw [if_neg (by omega), if_neg (by omega)]; simp)) (fun m => ?_)
  rw [pledgeref34_Bytes.j0, if_neg (by omega), if_neg (by omega), if_neg (by omega), if_pos rfl, if_pos (by simp)]
/-- An event that can be written. -/
def GoodP (k g p t : Int) (l : List Int) : Prop :=
  (1 ≤ k ∧ k ≤ 8) ∧ (k = 1 ∨ l.length = 0) ∧ l.length ≤ 512 ∧ (k = 2 ∨ k = 3 ∨ g = 0) ∧ ((k = 7 ∧ 0 ≤ p ∧ p ≤ 65535 ∧ 0 ≤ t ∧ t ≤ 65535) ∨ (k ≠ 7 ∧ p = 0 ∧ t = 0))
instance (k g p t : Int) (l : List Int) : Decidable (GoodP k g p t l) := by unfold GoodP; infer_instance
theorem sn_nil (l : List Int) : ((strOfNums l).toList == (strOfNums []).toList) = decide (l.length = 0) := by
  rw [ByteArray.toList_eq, ByteArray.toList_eq, strOfNums_data, strOfNums_data]
  cases l with
  | nil => rfl
  | cons x l => rfl
theorem oy {P Q : Prop} [Decidable P] [Decidable Q] (h : P ↔ Q) : (some (decide P) : Option Bool) = some (decide Q) := by rw [decide_eq_decide.2 h]
theorem on {Q : Prop} [Decidable Q] (h : ¬ Q) : (some false : Option Bool) = some (decide Q) := by rw [decide_eq_false h]
theorem j0_true (k g p t : Int) (l : List Int) : script_Good.j0 1 true k g p t l = some false := rfl
theorem j0_false (k g p t : Int) (l : List Int) : script_Good.j0 1 false k g p t l = some (decide ((k = 7 ∧ 0 ≤ p ∧ p ≤ 65535 ∧ 0 ≤ t ∧ t ≤ 65535) ∨ (k ≠ 7 ∧ p = 0 ∧ t = 0))) := by
  rw [script_Good.j0, if_neg (by decide)]
  by_cases h7 : k = 7
  · rw [if_pos h7]
    by_cases h1 : p ≥ 0
    · rw [if_pos h1]
      by_cases h2 : p ≤ 65535
      · rw [if_pos h2]
        by_cases h3 : t ≥ 0
        · rw [if_pos h3]
          exact oy (by omega)
        · rw [if_neg h3]; exact on (by omega)
      · rw [if_neg h2]; exact on (by omega)
    · rw [if_neg h1]; exact on (by omega)
  · rw [if_neg h7]
    by_cases h1 : p = 0
    · rw [if_pos h1]
      exact oy (P := t = 0) (by omega)
    · rw [if_neg h1]; exact on (by omega)
theorem named_is (k : Int) : script_named.f k = some (decide (k = 2 ∨ k = 3)) := by
  unfold script_named.f
  by_cases h : k = 2
  · subst h; rfl
  · rw [if_neg h]
    exact oy (P := k = 3) (by omega)
theorem script_good (k g p t : Int) (l : List Int) : script_Good.f 1 k g p t l = some (decide (GoodP k g p t l)) := by
  unfold script_Good.f
  simp only [j0_true, j0_false, named_is, Option.bind_some]
  by_cases h1 : k < 1
  · rw [if_pos h1]; exact on (by unfold GoodP; omega)
  rw [if_neg h1]
  by_cases h8 : k > 8
  · rw [if_pos h8]; exact on (by unfold GoodP; omega)
  rw [if_neg h8]
  by_cases hk : k = 1
  · rw [if_pos hk]
    by_cases hl : (l.length : Int) > 512
    · rw [if_pos hl]; exact on (by unfold GoodP; omega)
    rw [if_neg hl, if_neg (by simp [hk])]
    by_cases hg : g = 0
    · rw [show (g != 0) = false from by simp [hg], j0_false]; exact oy (by unfold GoodP; omega)
    · rw [show (g != 0) = true from by simp [hg], j0_true]; exact on (by unfold GoodP; omega)
  rw [if_neg hk]
  by_cases h0 : (l.length : Int) = 0
  · rw [if_pos h0, if_neg (by omega)]
    by_cases h2 : k = 2 ∨ k = 3
    · rw [if_pos (decide_eq_true h2)]; exact oy (by unfold GoodP; omega)
    · rw [if_neg (by simpa using h2)]
      by_cases hg : g = 0
      · rw [show (g != 0) = false from by simp [hg], j0_false]; exact oy (by unfold GoodP; omega)
      · rw [show (g != 0) = true from by simp [hg], j0_true]; exact on (by unfold GoodP; omega)
  · rw [if_neg h0]; exact on (by unfold GoodP; omega)
theorem same_is (k g p t : Int) (l : List Int) (g' p' t' : Int) (l' : List Int) : pledgeref38_Same.f k g p t l k g' p' t' l' = some (decide (g = g' ∧ p = p' ∧ t = t') && ((strOfNums l).toList == (strOfNums l').toList)) := by
  unfold pledgeref38_Same.f
  rw [if_pos rfl]
  by_cases h1 : g = g'
  · rw [if_pos h1]
    by_cases h2 : p = p'
    · rw [if_pos h2]
      by_cases h3 : t = t'
      · rw [if_pos h3, decide_eq_true ⟨h1, h2, h3⟩]; rfl
      · rw [if_neg h3, decide_eq_false (fun h => h3 h.2.2)]; rfl
    · rw [if_neg h2, decide_eq_false (fun h => h2 h.2.1)]; rfl
  · rw [if_neg h1, decide_eq_false (fun h => h1 h.1)]; rfl
theorem ref_good (k g p t : Int) (l : List Int) : pledgeref38_Good.f k g p t l = some (decide (GoodP k g p t l)) := by
  unfold pledgeref38_Good.f pledgeref38_Good.same
  by_cases hk : k < 1 ∨ 8 < k
  · rw [if_pos hk]; exact on (by unfold GoodP; omega)
  rw [if_neg hk]
  have hs : ((strOfNums l).toList == (strOfNums l).toList) = true := beq_self_eq_true _
  obtain rfl | rfl | rfl | rfl | rfl | rfl | rfl | rfl : k = 1 ∨ k = 2 ∨ k = 3 ∨ k = 4 ∨ k = 5 ∨ k = 6 ∨ k = 7 ∨ k = 8 := by omega
  · rw [if_pos rfl, same_is, hs, Option.map_some, Bool.and_true]
    simp only [← Bool.decide_and, eq_self_iff_true, true_and, and_true]
    exact oy (by unfold GoodP; omega)
  · rw [if_neg (by omega), if_pos rfl, same_is, sn_nil, Option.map_some]
    simp only [← Bool.decide_and, eq_self_iff_true, true_and, and_true]
    exact oy (by unfold GoodP; omega)
  · rw [if_neg (by omega), if_neg (by omega), if_pos rfl, same_is, sn_nil, Option.map_some]
    simp only [← Bool.decide_and, eq_self_iff_true, true_and, and_true]
    exact oy (by unfold GoodP; omega)
  · rw [if_neg (by omega), if_neg (by omega), if_neg (by omega), if_pos rfl, same_is, sn_nil, Option.map_some]
    simp only [← Bool.decide_and, eq_self_iff_true, true_and, and_true]
    exact oy (by unfold GoodP; omega)
  · rw [if_neg (by omega), if_neg (by omega), if_neg (by omega), if_neg (by omega), if_pos rfl, same_is, sn_nil, Option.map_some]
    simp only [← Bool.decide_and, eq_self_iff_true, true_and, and_true]
    exact oy (by unfold GoodP; omega)
  · rw [if_neg (by omega), if_neg (by omega), if_neg (by omega), if_neg (by omega), if_neg (by omega), if_pos rfl, same_is, sn_nil, Option.map_some]
    simp only [← Bool.decide_and, eq_self_iff_true, true_and, and_true]
    exact oy (by unfold GoodP; omega)
  · rw [if_neg (by omega), if_neg (by omega), if_neg (by omega), if_neg (by omega), if_neg (by omega), if_neg (by omega), if_pos rfl, same_is, sn_nil, Option.map_some]
    simp only [← Bool.decide_and, eq_self_iff_true, true_and, and_true]
    exact oy (by unfold GoodP; omega)
  · rw [if_neg (by omega), if_neg (by omega), if_neg (by omega), if_neg (by omega), if_neg (by omega), if_neg (by omega), if_neg (by omega), same_is, sn_nil, Option.map_some]
    simp only [← Bool.decide_and, eq_self_iff_true, true_and, and_true]
    exact oy (by unfold GoodP; omega)
theorem rdi (pre rest : List Int) (x : Int) : rd (pre ++ x :: rest) (pre.length : Int) = x := by simp [rd, rdOf, List.getD_eq_getElem?_getD]
theorem hexdig : ∀ a : Nat, a < 16 → UInt8.ofNat (bt (⟨#[48, 49, 50, 51, 52, 53, 54, 55, 56, 57, 97, 98, 99, 100, 101, 102]⟩ : ByteArray) (a : Int)).toNat = hexD.getD a 0 := by decide
def hx (c : Int) : List UInt8 := [hexD.getD (c.toNat / 16) 0, hexD.getD (c.toNat % 16) 0]
theorem hexL_cons (c : Int) (l : List Int) : hexL (c :: l) = hx c ++ hexL l := rfl
theorem hexL_len : ∀ l : List Int, (hexL l).length = 2 * l.length
  | [] => rfl
  | c :: l => by rw [hexL_cons, List.length_append, hexL_len l]; simp [hx]; omega
theorem sn2 (a b : Int) : strOfNums [a, b] = ofL [UInt8.ofNat a.toNat, UInt8.ofNat b.toNat] := rfl
theorem hex_l0 (rest : List Int) : ∀ (pre : List Int) (w : List UInt8), ByteL rest → (pre ++ rest).length ≤ 1000 → w.length + 2 * rest.length ≤ 10000 → Ev (fun k => pledgeref39_hex.l0 k (pre ++ rest) (ofL w) (pre.length : Int)) (ofL (w ++ hexL rest)) := by
  induction rest with
  | nil =>
    intro pre w _ _ _
    refine Ev.succ (f := fun _ => some (ofL w)) ?_ (fun k => ?_)
    · rw [show hexL [] = [] from rfl, List.append_nil]; exact Ev.const rfl
    · rw [pledgeref39_hex.l0, if_neg (by rw [List.append_nil]; omega)]
  | cons x rest ih =>
    intro pre w hb hp hw
    have hlt : pre.length < (pre ++ x :: rest).length := by simp
    have hx0 := hb x (by simp)
    have ih2 := ih (pre ++ [x]) (w ++ hx x) (fun y hy => hb y (by simp [hy])) (by simpa using hp) (by simp only [List.length_append, List.length_cons, hx, List.length_nil] at hw ⊢; omega)
    rw [List.append_assoc, List.singleton_append, List.append_assoc, ← hexL_cons] at ih2
    have q1 : (pre.length : Int) < ((pre ++ x :: rest).length : Int) := by omega
    have q2 : (0 : Int) ≤ (pre.length : Int) := by omega
    have q3 : (0 : Int) ≤ ((x.toNat / 16 : Nat) : Int) := by omega
    have q4 : ((x.toNat / 16 : Nat) : Int) < 16 := by omega
    have q5 : (0 : Int) ≤ ((x.toNat % 16 : Nat) : Int) := by omega
    have q6 : ((x.toNat % 16 : Nat) : Int) < 16 := by omega
    have n1 : x.toNat / 16 < 16 := by omega
    have n2 : x.toNat % 16 < 16 := by omega
    have hs : (hx x).length = 2 := rfl
    have q7 : (ofL w).size + (ofL (hx x)).size ≤ 9223372036854775807 := by rw [ofL_size, ofL_size, hs]; rw [List.length_cons] at hw; omega
    have ei : wrap64 ((pre.length : Int) + 1) = ((pre ++ [x]).length : Int) := by
      simp only [wrap64, List.length_append, List.length_cons, List.length_nil] at hp ⊢
      omega
    have wx : wrap64 x = x := by simp only [wrap64]; omega
    have td : Int.tdiv x 16 = ((x.toNat / 16 : Nat) : Int) := by rw [Int.tdiv_eq_ediv_of_nonneg hx0.1]; omega
    have tm : Int.tmod x 16 = ((x.toNat % 16 : Nat) : Int) := by rw [Int.tmod_eq_emod_of_nonneg hx0.1]; omega
    have wd : wrap64 ((x.toNat / 16 : Nat) : Int) = ((x.toNat / 16 : Nat) : Int) := by
      simp only [wrap64]
      omega
    refine ih2.succ (fun k => ?_)
    rw [pledgeref39_hex.l0, if_pos q1, if_pos q2, rdi, wx, td, tm, wd, if_pos q3, if_pos q4, if_pos q5, if_pos q6, Option.bind_some]
    rw [sn2, hexdig _ n1, hexdig _ n2, ei]
    rw [show ([hexD.getD (x.toNat / 16) 0, hexD.getD (x.toNat % 16) 0] : List UInt8) = hx x from rfl, if_pos q7, ofL_app]
theorem ref_hex (l : List Int) (hb : ByteL l) (hl : l.length ≤ 512) : Ev (fun k => pledgeref39_hex.f k l) (ofL (hexL l)) := by
  have := hex_l0 l [] [] hb (by simp; omega) (by simp; omega)
  exact this
/-- The canonical line. -/
def wPick : List UInt8 := [112, 105, 99, 107]
def wKill : List UInt8 := [107, 105, 108, 108]
def wWrite : List UInt8 := [119, 114, 105, 116, 101]
def wSync : List UInt8 := [115, 121, 110, 99]
def wCkpt : List UInt8 := [99, 107, 112, 116]
def wCrash : List UInt8 := [99, 114, 97, 115, 104]
def wBoot : List UInt8 := [98, 111, 111, 116]
def wAsk : List UInt8 := [97, 115, 107]
def askedT (l : List Int) : List UInt8 :=
  if (request_Decode.decF l).2.2.2.2.2.2.2.2 = 0 then
    askT (request_Decode.decF l).1 (request_Decode.decF l).2.1 (request_Decode.decF l).2.2.1 (request_Decode.decF l).2.2.2.1 (request_Decode.decF l).2.2.2.2.1 (request_Decode.decF l).2.2.2.2.2.1 (request_Decode.decF l).2.2.2.2.2.2.1 (request_Decode.decF l).2.2.2.2.2.2.2.1
  else if l.length = 0 then wAsk else askB ++ hexL l
def lineT (k g p t : Int) (l : List Int) : List UInt8 :=
  if k = 1 then askedT l else if k = 2 then wPick ++ nm g else if k = 3 then wKill ++ nm g else if k = 4 then wWrite else if k = 5 then wSync else if k = 6 then wCkpt else if k = 7 then wCrash ++ (nm p ++ nm t) else wBoot
theorem dec_fields {bs : List Int} (hb : ByteL bs) (h : (request_Decode.decF bs).2.2.2.2.2.2.2.2 = 0) : RqOk (request_Decode.decF bs).1 (request_Decode.decF bs).2.1 (request_Decode.decF bs).2.2.1 (request_Decode.decF bs).2.2.2.1 (request_Decode.decF bs).2.2.2.2.1 (request_Decode.decF bs).2.2.2.2.2.1 (request_Decode.decF bs).2.2.2.2.2.2.1 (request_Decode.decF bs).2.2.2.2.2.2.2.1 := by
  obtain ⟨k, o, p, l, s, f, t, q, e, hq⟩ : ∃ k o p l s f t q e, request_Decode.decF bs = (k, o, p, l, s, f, t, q, e) := ⟨_, _, _, _, _, _, _, _, _, rfl⟩
  rw [hq] at h ⊢
  obtain rfl : e = 0 := h
  exact (dec_ok hb hq).1
theorem dec_guard {bs : List Int} (hb : ByteL bs) (hl : bs.length ≤ 512) : bs.length ≤ 1000000 ∧ bs.all (fun x => decide (0 ≤ x ∧ x < 256)) = true := ⟨by omega, List.all_eq_true.2 (fun x hx => decide_eq_true (hb x hx))⟩
theorem prog_line {k g p t : Int} {l : List Int} (h : GoodP k g p t l) (hb : ByteL l) (hg : 0 ≤ g ∧ g < 4294967296) : Ev (fun m => words_Line.f m k g p t l) (ofL (lineT k g p t l)) := by
  obtain ⟨hk, hl0, hl, hg0, hpt⟩ := h
  have hgood : Ev (fun m => script_Good.f m k g p t l) true := Ev.of (script_Good.mono _ _ _ _ _) (k := 1) (by rw [script_good, decide_eq_true (show GoodP k g p t l from ⟨hk, hl0, hl, hg0, hpt⟩)])
  have wg := w64 (u32_64 hg)
  unfold words_Line.f lineT
  refine Ev.bind hgood ?_
  simp only [if_pos (show true = true from rfl)]
  by_cases h1 : k = 1
  · simp only [if_pos h1]
    refine Ev.bind (r := request_Decode.decF l) (Ev.const (by unfold request_Decode.f; rw [if_pos (dec_guard hb hl)])) ?_
    unfold askedT
    by_cases h0 : (request_Decode.decF l).2.2.2.2.2.2.2.2 = 0
    · simp only [if_pos h0]
      exact Ev.bind (prog_ask (dec_fields hb h0)) (Ev.const rfl)
    · simp only [if_neg h0]
      refine Ev.const ?_
      unfold words_raw.f
      rw [if_pos (dec_guard hb hl)]
      by_cases hz : l.length = 0
      · rw [if_pos hz, if_pos hz]; rfl
      · rw [if_neg hz, if_neg hz]; rfl
  simp only [if_neg h1]
  have p1 : ∀ w : List UInt8, w.length ≤ 100 → words_put.f (ofL w) [g] = some (ofL (w ++ nm g)) := fun w hw => by
    have := put_is w [g] hw (by simp) (fun x hx => by simp at hx; subst hx; exact u32_64 hg)
    simpa using this
  by_cases h2 : k = 2
  · simp only [if_pos h2, wg]
    exact Ev.const (by rw [show (⟨#[112, 105, 99, 107]⟩ : ByteArray) = ofL wPick from rfl, p1 wPick (by decide)]; rfl)
  simp only [if_neg h2]
  by_cases h3 : k = 3
  · simp only [if_pos h3, wg]
    exact Ev.const (by rw [show (⟨#[107, 105, 108, 108]⟩ : ByteArray) = ofL wKill from rfl, p1 wKill (by decide)]; rfl)
  simp only [if_neg h3]
  by_cases h4 : k = 4
  · simp only [if_pos h4]
    exact Ev.const rfl
  simp only [if_neg h4]
  by_cases h5 : k = 5
  · simp only [if_pos h5]
    exact Ev.const rfl
  simp only [if_neg h5]
  by_cases h6 : k = 6
  · simp only [if_pos h6]
    exact Ev.const rfl
  simp only [if_neg h6]
  by_cases h7 : k = 7
  · simp only [if_pos h7]
    have hq : (0 ≤ p ∧ p ≤ 65535) ∧ (0 ≤ t ∧ t ≤ 65535) := by omega
    have := put_is wCrash [p, t] (by decide) (by simp) (fun x hx => by simp at hx; unfold I64; omega)
    exact Ev.const (by rw [show (⟨#[99, 114, 97, 115, 104]⟩ : ByteArray) = ofL wCrash from rfl, this]; simp)
  simp only [if_neg h7]
  exact Ev.const rfl
theorem ref_line {k g p t : Int} {l : List Int} (h : GoodP k g p t l) (hb : ByteL l) (hg : 0 ≤ g ∧ g < 4294967296) : Ev (fun m => pledgeref39_Line.f m k g p t l) (ofL (lineT k g p t l)) := by
  have hgood : pledgeref38_Good.f k g p t l = some true := by rw [ref_good, decide_eq_true h]
  obtain ⟨hk, hl0, hl, hg0, hpt⟩ := h
  have wg := w64 (u32_64 hg)
  have ng := num_ev g (u32_64 hg)
  have lg := nm_len g (u32_64 hg)
  unfold pledgeref39_Line.f lineT
  refine Ev.bind (Ev.const hgood) ?_
  simp only [if_pos (show true = true from rfl)]
  by_cases h1 : k = 1
  · simp only [if_pos h1]
    refine Ev.bind (r := request_Decode.decF l) (Ev.const (by unfold pledgeref34_Decode.f; rw [if_pos (dec_guard hb hl), dec_eq])) ?_
    unfold askedT
    by_cases h0 : (request_Decode.decF l).2.2.2.2.2.2.2.2 = 0
    · simp only [if_pos h0]
      exact Ev.bind (ref_ask (dec_fields hb h0)) (Ev.const rfl)
    · simp only [if_neg h0]
      by_cases hz : l.length = 0
      · simp only [if_pos hz, if_pos (show (l.length : Int) = 0 from by omega)]
        exact Ev.const rfl
      · simp only [if_neg hz, if_neg (show ¬ ((l.length : Int) = 0) from by omega)]
        refine Ev.bind (ref_hex l hb hl) (Ev.const ?_)
        rw [if_pos (by rw [ofL_size, hexL_len]; omega)]
        exact congrArg some (ofL_app askB _)
  simp only [if_neg h1]
  by_cases h2 : k = 2
  · simp only [if_pos h2, wg]
    refine Ev.bind ng (Ev.const ?_)
    rw [show (32 :: Lib.itoa g) = nm g from rfl, if_pos (by rw [ofL_size]; omega)]
    exact congrArg some (ofL_app wPick _)
  simp only [if_neg h2]
  by_cases h3 : k = 3
  · simp only [if_pos h3, wg]
    refine Ev.bind ng (Ev.const ?_)
    rw [show (32 :: Lib.itoa g) = nm g from rfl, if_pos (by rw [ofL_size]; omega)]
    exact congrArg some (ofL_app wKill _)
  simp only [if_neg h3]
  by_cases h4 : k = 4
  · simp only [if_pos h4]
    exact Ev.const rfl
  simp only [if_neg h4]
  by_cases h5 : k = 5
  · simp only [if_pos h5]
    exact Ev.const rfl
  simp only [if_neg h5]
  by_cases h6 : k = 6
  · simp only [if_pos h6]
    exact Ev.const rfl
  simp only [if_neg h6]
  by_cases h7 : k = 7
  · simp only [if_pos h7]
    have ip : I64 p := by unfold I64; omega
    have it : I64 t := by unfold I64; omega
    have lp := nm_len p ip
    have lt := nm_len t it
    refine Ev.bind (num_ev p ip) ?_
    simp only [show ∀ n, (32 :: Lib.itoa n) = nm n from fun _ => rfl, ofL_size]
    simp only [if_pos (show 5 + (nm p).length ≤ 9223372036854775807 from by omega)]
    refine Ev.bind (num_ev t it) (Ev.const ?_)
    simp only [show ∀ n, (32 :: Lib.itoa n) = nm n from fun _ => rfl, ofL_size]
    rw [if_pos (by omega), show (⟨#[99, 114, 97, 115, 104]⟩ : ByteArray) = ofL wCrash from rfl, ofL_app, ofL_app, List.append_assoc]
  simp only [if_neg h7]
  exact Ev.const rfl
end Go.Proofs.YtpnehgajhpejjaaGreatDoor.W
namespace Go.Proofs.YtpnehgajhpejjaaGreatDoor.W
open Go.Lib Go.RowKit Go.Proofs.YtpnehgajhpejjaaGreatDoorW.PrintWords
set_option maxRecDepth 100000
set_option linter.unusedVariables false
set_option linter.unusedSimpArgs false
theorem itoa_no (n : Int) (c : UInt8) (h1 : c ≠ 45) (h2 : ¬ (48 ≤ c.toNat ∧ c.toNat ≤ 57)) : c ∉ Lib.itoa n := by
  intro hc
  unfold Lib.itoa at hc
  split at hc
  · rcases List.mem_cons.1 hc with e | hc
    · exact h1 e
    · exact h2 (dd_dig _ _ (Nat.le_refl _) c hc)
  · exact h2 (dd_dig _ _ (Nat.le_refl _) c hc)
theorem split_tok (c : UInt8) : ∀ (ts : List (List UInt8)) (w : List UInt8), c ∉ w → (∀ t ∈ ts, c ∉ t) → splitL c (w ++ ts.flatMap (fun t => c :: t)) = w :: ts
  | [], w, hw, _ => by rw [List.flatMap_nil, List.append_nil]; exact splitL_none c w hw
  | t :: ts, w, hw, ht => by
    rw [List.flatMap_cons, List.cons_append, splitL_app c _ w hw, split_tok c ts t (ht t (by simp)) (fun x hx => ht x (by simp [hx]))]
theorem prog_split (c : UInt8) (s : List UInt8) (h : s.length ≤ 1000000) : strings_Split.f (ofL s) (ofL [c]) = some ((splitL c s).map ofL) := by
  unfold strings_Split.f
  rw [if_pos ⟨by rw [ofL_size]; omega, by rw [ofL_size]; simp⟩]
  have := split_is c (ofL s)
  rw [ofL_data] at this
  rw [← this, List.map_map]
  refine congrArg some ?_
  refine ((List.map_id _).symm.trans (List.map_congr_left (fun x _ => ?_)))
  exact (ofL_of x).symm
theorem number_at {l : List ByteArray} {i : Nat} {n : Int} (hn : I64 n) (h : l[i]? = some (ofL (Lib.itoa n))) : words_number.f l (i : Int) = some n := by
  obtain ⟨hi, he⟩ := List.getElem?_eq_some_iff.1 h
  unfold words_number.f
  have e : rdOf ByteArray.empty l (i : Int) = ofL (Lib.itoa n) := by simp [rdOf, List.getD_eq_getElem?_getD, h]
  have := itoa_len20 n hn
  rw [if_neg (by omega), e, if_pos ⟨by omega, by rw [ofL_size]; omega⟩, numOf_itoa n hn]
theorem number_out {l : List ByteArray} {i : Int} (h : (l.length : Int) ≤ i) : words_number.f l i = some 0 := by
  unfold words_number.f
  rw [if_pos h]
theorem itoa_no32 (n : Int) : (32 : UInt8) ∉ Lib.itoa n := itoa_no n 32 (by decide) (by decide)
theorem itoa_no58 (n : Int) : (58 : UInt8) ∉ Lib.itoa n := itoa_no n 58 (by decide) (by decide)
theorem itoa_no10 (n : Int) : (10 : UInt8) ∉ Lib.itoa n := itoa_no n 10 (by decide) (by decide)
end Go.Proofs.YtpnehgajhpejjaaGreatDoor.W
