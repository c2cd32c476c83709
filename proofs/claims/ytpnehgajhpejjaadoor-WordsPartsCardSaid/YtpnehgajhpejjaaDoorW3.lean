import Derived.Test.YtpnehgajhpejjaaDoorSq
import Derived.Test.YtpnehgajhpejjaaDoorW0
namespace Go.Proofs.YtpnehgajhpejjaaDoor.W
open Go.RowKit Go.Proofs.YtpnehgajhpejjaaDoorW.PrintWords Go.Proofs.YtpnehgajhpejjaaDoorW.PrintLast Go.Proofs.YtpnehgajhpejjaaDoorW.PrintMore
attribute [local go_sem] max2_int min2_int max_two min_two max_three min_three max_four min_four
set_option linter.unusedVariables false
set_option linter.unusedSimpArgs false
/-! ### words_raw: function 51 (by hand) -/
def words_raw.f (l0 : List Int) : Option ByteArray := if l0.length ≤ 1000000 ∧ l0.all (fun x => decide (0 ≤ x ∧ x < 256)) = true then some (if l0.length = 0 then ⟨#[97, 115, 107]⟩ else ⟨(askB ++ hexL l0).toArray⟩) else none
theorem words_raw.calls (A0 : Option Addr) (c0 : Nat) (l0 : List Int) (r : ByteArray) (w : World) (hr0 : Kd.C (Kd.int .u8) w A0 l0.length l0) (hc0 : l0.length ≤ c0) (h : words_raw.f l0 = some r) :
    Calls Tryd.prog 51 #[.slice A0 l0.length c0] w fun e w' => e = .returned (.string r) ∧ Below w.heap.size w w' := by
  unfold words_raw.f at h
  split at h
  · rename_i hb
    obtain rfl := Option.some.inj h
    refine rawW A0 c0 l0 w hb.1 hc0 (fun x hx => by simpa using List.all_eq_true.1 hb.2 x hx) (fun j hj => ?_)
    obtain ⟨ad, e, hx⟩ := Kd.at_int hr0 (j : Int) (by omega) (by omega)
    exact ⟨ad, e, by simpa [rd] using hx⟩
  · exact absurd h (by simp)
/-! ### words_put: function 53 (by hand) -/
def words_put.f (a0 : ByteArray) (l0 : List Int) : Option ByteArray := if a0.size ≤ 1000000 ∧ l0.length ≤ 1000000 ∧ l0.all (fun x => decide (-9223372036854775808 ≤ x ∧ x ≤ 9223372036854775807)) = true then some ⟨(putL a0.data.toList l0).toArray⟩ else none
theorem words_put.calls (a0 : ByteArray) (A1 : Option Addr) (c1 : Nat) (l1 : List Int) (r : ByteArray) (w : World) (hG0 : Gl w) (hr1 : Kd.C (Kd.int .i64) w A1 l1.length l1) (hc1 : l1.length ≤ c1) (h : words_put.f a0 l1 = some r) :
    Calls Tryd.prog 53 #[.string a0, .slice A1 l1.length c1] w fun e w' => e = .returned (.string r) ∧ Below w.heap.size w w' := by
  unfold words_put.f at h
  split at h
  · rename_i hb
    obtain rfl := Option.some.inj h
    refine putW a0 A1 c1 l1 w hb.1 hb.2.1 hc1 (fun x hx => by simpa using List.all_eq_true.1 hb.2.2 x hx) (fun j hj => ?_) hG0.1
    obtain ⟨ad, e, hx⟩ := Kd.at_int hr1 (j : Int) (by omega) (by omega)
    exact ⟨ad, e, by simpa [rd] using hx⟩
  · exact absurd h (by simp)
/-! ### strconv_FormatInt: function 81 (by hand) -/
def strconv_FormatInt.f (a0 : Int) (a1 : Int) : Option ByteArray := if -9223372036854775808 ≤ a0 ∧ a0 ≤ 9223372036854775807 ∧ a1 = 10 then some ⟨(Lib.itoa a0).toArray⟩ else none
theorem strconv_FormatInt.calls (a0 : Int) (a1 : Int) (r : ByteArray) (w : World) (hG0 : Gl w) (h : strconv_FormatInt.f a0 a1 = some r) :
    Calls Tryd.prog 81 #[.int .i64 a0, .int .i64 a1] w fun e w' => e = .returned (.string r) ∧ Below w.heap.size w w' := by
  unfold strconv_FormatInt.f at h
  split at h
  · rename_i hb
    obtain ⟨h0, h1, rfl⟩ := hb
    obtain rfl := Option.some.inj h
    refine (Tryd.strconv_FormatInt_10 a0 h0 h1 w hG0.1.here).mono ?_
    rintro e w' ⟨rfl, k, os, rfl⟩
    exact ⟨rfl, below_grow w k os⟩
  · exact absurd h (by simp)
/-! ### words_about: function 82 -/
def words_about.f (a0 : Int) : Option (ByteArray) := if a0 = 2 then (some (⟨#[99, 97, 110, 99, 101, 108]⟩ : ByteArray)) else (if a0 = 3 then (some (⟨#[115, 104, 105, 112]⟩ : ByteArray)) else (some (⟨#[114, 101, 116, 117, 114, 110]⟩ : ByteArray)))
set_option maxHeartbeats 8000000 in
set_option maxRecDepth 100000 in
theorem words_about.calls (a0 : Int) (r : ByteArray) (w : World) (h : words_about.f a0 = some r) :
    Calls Tryd.prog 82 #[.int .u8 a0] w fun e w' => e = .returned (.string r) ∧ Drawn0 w w' := by
  have H : (if a0 = 2 then (some (⟨#[99, 97, 110, 99, 101, 108]⟩ : ByteArray)) else (if a0 = 3 then (some (⟨#[115, 104, 105, 112]⟩ : ByteArray)) else (some (⟨#[114, 101, 116, 117, 114, 110]⟩ : ByteArray)))) = some r := h
  clear h
  by_cases c2 : a0 = 2
  focus
    rw [if_pos c2] at H
    obtain ⟨c2b0, c2b1⟩ := zeq c2
    clear c2
    obtain rfl := Option.some.inj H
  rotate_left
  rw [if_neg c2] at H
  obtain ⟨c2b0, c2b1⟩ := zne c2
  by_cases c3 : a0 = 3
  focus
    rw [if_pos c3] at H
    obtain ⟨c3b0, c3b1⟩ := zeq c3
    clear c3
    obtain rfl := Option.some.inj H
  rotate_left
  rw [if_neg c3] at H
  obtain ⟨c3b0, c3b1⟩ := zne c3
  obtain rfl := Option.some.inj H
  all_goals go_enter Tryd.func82, Tryd.ntmps82
  all_goals go_wp2
  all_goals (go_ret; exact ⟨by first | rfl | (simp; done) | (simp [*]; done), by repeat (first | exact Drawn0.refl _ | apply Drawn0.step)⟩)
end Go.Proofs.YtpnehgajhpejjaaDoor.W
