-- PRINTED by print.py (a twelfth state) out of the translation. Not trusted: Lean checks it.
import Derived.Test.YteeclengpnjlgaaGreatProg
import Derived.Below
import Derived.Deep.Draws
import Derived.Deep.AppendLies
import Derived.Maps.AppendAt
import Derived.OwnWalk
import Derived.Laws.BytesArg
import Derived.Laws.MakeOwn
import Derived.Laws.OwnMore
import Derived.Deep.OwnRows
import Derived.Tactics
import Derived.Lib.ConvBytes
import Derived.Laws.Slices
import Derived.WalkKit
import Derived.KernelRfl
import Derived.RowKit3
import Derived.Deep.LoopGhost
import Derived.Deep.QuietTactic
import Derived.BigQuiet
import Derived.WideLaws
import Derived.Deep.DeepCutAuto
import Derived.Deep.CutBlock
import Derived.Deep.RegionHeld3
import Derived.Laws.Rows
import Derived.Lib.AppendStr
import Derived.ArgAppend
import Derived.Laws.IdiomCopy
import Derived.OrdersHeld
import Derived.Laws.BitsLemmas
import Derived.RowKit
import Derived.Test.YteeclengpnjlgaaGreatEvNl2
import Derived.Test.YteeclengpnjlgaaGreatMk
import Derived.Test.YteeclengpnjlgaaGreatWWords
import Derived.Test.YteeclengpnjlgaaGreatWLast
import Derived.Test.YteeclengpnjlgaaGreatWTab
import Derived.Test.YteeclengpnjlgaaGreatWFour
import Derived.Test.YteeclengpnjlgaaGreatWQPut
import Derived.Test.YteeclengpnjlgaaGreatWApart
import Derived.Test.YteeclengpnjlgaaGreatWArr
import Derived.Test.YteeclengpnjlgaaGreatWZeros
import Derived.Test.YteeclengpnjlgaaGreatWFoot
import Derived.Test.YteeclengpnjlgaaGreatWKept
import Derived.Test.YteeclengpnjlgaaGreatWShare
import Derived.Test.YteeclengpnjlgaaGreatWN
import Derived.Test.YteeclengpnjlgaaGreatWFootNe
import Derived.Test.YteeclengpnjlgaaGreatWAt
import Derived.Test.YteeclengpnjlgaaGreatWEqStruct
import Derived.Test.YteeclengpnjlgaaGreatWRepsOne
import Derived.Test.YteeclengpnjlgaaGreatWInv
import Derived.Test.YteeclengpnjlgaaGreatWInvWords
import Derived.Test.YteeclengpnjlgaaGreatWGuard
import Derived.Test.YteeclengpnjlgaaGreatWNEv
import Derived.Test.YteeclengpnjlgaaGreatWMore
namespace Go.Proofs.YteeclengpnjlgaaGreat.N
open Go.RowKit Go.Proofs.YteeclengpnjlgaaGreatW.PrintWords Go.Proofs.YteeclengpnjlgaaGreatW.PrintLast Go.Proofs.YteeclengpnjlgaaGreatW.PrintMore
attribute [local go_sem] max2_int min2_int max_two min_two max_three min_three max_four min_four   -- for this text's walks alone
set_option linter.unusedVariables false
set_option linter.unusedSimpArgs false



def errW : Option Int → Value
  | none => .nilIface
  | some c => .iface 0 (.int .i64 c)
theorem errW_none : errW none = .nilIface := rfl
theorem errW_some (c : Int) : errW (some c) = .iface 0 (.int .i64 c) := rfl

-- the values' own types
/-! #### struct type 178 -/
structure S178 where
  f0 : Int
  f1 : Int
def z178 : S178 := ⟨(0 : Int), (0 : Int)⟩
def k178 : Kd S178 := Kd.iso (Kd.pair (Kd.int .u8) (Kd.int .i64)) (fun x : S178 => (x.f0, x.f1))
theorem k178_open {w : World} {x : S178} {cs : List Value} (h : k178.K w x cs) : cs = [.int .u8 x.f0, .int .i64 x.f1] := by
  obtain ⟨_, _, rfl, rfl, rfl⟩ := h
  exact rfl
theorem k178_openM {w : World} {base : Nat} {ok : Nat → Prop} {x : S178} {cs : List Value} (h : k178.M w base ok x cs) : cs = [.int .u8 x.f0, .int .i64 x.f1] := by
  obtain ⟨_, _, rfl, rfl, rfl⟩ := h
  exact rfl
theorem k178_mk (w : World) (x : S178)  : k178.K w x [.int .u8 x.f0, .int .i64 x.f1] := ⟨[.int .u8 x.f0], [.int .i64 x.f1], rfl, rfl, rfl⟩
theorem k178_mkM (w : World) (base : Nat) (ok : Nat → Prop) (x : S178)  : k178.M w base ok x [.int .u8 x.f0, .int .i64 x.f1] := ⟨[.int .u8 x.f0], [.int .i64 x.f1], rfl, rfl, rfl⟩
def rd_T178 (xs : List S178) (i : Int) : S178 := xs.getD i.toNat z178
theorem at_T178 {w : World} {A : Option Addr} {n : Nat} {xs : List S178} (h : Kd.C k178 w A n xs) (i : Int) (h0 : 0 ≤ i) (h1 : i < n) : ∃ ad , A = some ad ∧ w.cell? (ad.add (i.toNat * 2)) = some (.int .u8 (rd_T178 xs i).f0) ∧ w.cell? ⟨(ad.add (i.toNat * 2)).block, (ad.add (i.toNat * 2)).off + 1, none⟩ = some (.int .i64 (rd_T178 xs i).f1) := by
  obtain ⟨ad, c, e, _, hK, hc0⟩ := Kd.C_get h z178 i h0 h1
  have hc : ∀ j u, c[j]? = some u → w.cell? (ad.add (i.toNat * 2 + j)) = some u := hc0
  obtain rfl := k178_open hK
  exact ⟨ad, e, hc 0 _ rfl, by rw [← add_field _ _ 1 (by omega)]; exact hc 1 _ rfl⟩

/-! #### struct type 181 -/
structure S181 where
  f0 : Int
  f1 : Int
  f2 : Int
  f3 : Int
def z181 : S181 := ⟨(0 : Int), (0 : Int), (0 : Int), (0 : Int)⟩
def k181 : Kd S181 := Kd.iso (Kd.pair (Kd.int .u32) (Kd.pair (Kd.int .u8) (Kd.pair (Kd.int .u8) (Kd.int .i64)))) (fun x : S181 => (x.f0, x.f1, x.f2, x.f3))
theorem k181_open {w : World} {x : S181} {cs : List Value} (h : k181.K w x cs) : cs = [.int .u32 x.f0, .int .u8 x.f1, .int .u8 x.f2, .int .i64 x.f3] := by
  obtain ⟨_, _, rfl, rfl, ⟨_, _, rfl, rfl, ⟨_, _, rfl, rfl, rfl⟩⟩⟩ := h
  exact rfl
theorem k181_openM {w : World} {base : Nat} {ok : Nat → Prop} {x : S181} {cs : List Value} (h : k181.M w base ok x cs) : cs = [.int .u32 x.f0, .int .u8 x.f1, .int .u8 x.f2, .int .i64 x.f3] := by
  obtain ⟨_, _, rfl, rfl, ⟨_, _, rfl, rfl, ⟨_, _, rfl, rfl, rfl⟩⟩⟩ := h
  exact rfl
theorem k181_mk (w : World) (x : S181)  : k181.K w x [.int .u32 x.f0, .int .u8 x.f1, .int .u8 x.f2, .int .i64 x.f3] := ⟨[.int .u32 x.f0], [.int .u8 x.f1, .int .u8 x.f2, .int .i64 x.f3], rfl, rfl, ⟨[.int .u8 x.f1], [.int .u8 x.f2, .int .i64 x.f3], rfl, rfl, ⟨[.int .u8 x.f2], [.int .i64 x.f3], rfl, rfl, rfl⟩⟩⟩
theorem k181_mkM (w : World) (base : Nat) (ok : Nat → Prop) (x : S181)  : k181.M w base ok x [.int .u32 x.f0, .int .u8 x.f1, .int .u8 x.f2, .int .i64 x.f3] := ⟨[.int .u32 x.f0], [.int .u8 x.f1, .int .u8 x.f2, .int .i64 x.f3], rfl, rfl, ⟨[.int .u8 x.f1], [.int .u8 x.f2, .int .i64 x.f3], rfl, rfl, ⟨[.int .u8 x.f2], [.int .i64 x.f3], rfl, rfl, rfl⟩⟩⟩
def rd_T181 (xs : List S181) (i : Int) : S181 := xs.getD i.toNat z181
theorem at_T181 {w : World} {A : Option Addr} {n : Nat} {xs : List S181} (h : Kd.C k181 w A n xs) (i : Int) (h0 : 0 ≤ i) (h1 : i < n) : ∃ ad , A = some ad ∧ w.cell? (ad.add (i.toNat * 4)) = some (.int .u32 (rd_T181 xs i).f0) ∧ w.cell? ⟨(ad.add (i.toNat * 4)).block, (ad.add (i.toNat * 4)).off + 1, none⟩ = some (.int .u8 (rd_T181 xs i).f1) ∧ w.cell? ⟨(ad.add (i.toNat * 4)).block, (ad.add (i.toNat * 4)).off + 2, none⟩ = some (.int .u8 (rd_T181 xs i).f2) ∧ w.cell? ⟨(ad.add (i.toNat * 4)).block, (ad.add (i.toNat * 4)).off + 3, none⟩ = some (.int .i64 (rd_T181 xs i).f3) := by
  obtain ⟨ad, c, e, _, hK, hc0⟩ := Kd.C_get h z181 i h0 h1
  have hc : ∀ j u, c[j]? = some u → w.cell? (ad.add (i.toNat * 4 + j)) = some u := hc0
  obtain rfl := k181_open hK
  exact ⟨ad, e, hc 0 _ rfl, by rw [← add_field _ _ 1 (by omega)]; exact hc 1 _ rfl, by rw [← add_field _ _ 2 (by omega)]; exact hc 2 _ rfl, by rw [← add_field _ _ 3 (by omega)]; exact hc 3 _ rfl⟩

/-! #### struct type 52 -/
structure S52 where
  f0 : Int
  f1 : Int
  f2 : Int
def z52 : S52 := ⟨(0 : Int), (0 : Int), (0 : Int)⟩
def k52 : Kd S52 := Kd.iso (Kd.pair (Kd.int .u8) (Kd.pair (Kd.int .u8) (Kd.int .u8))) (fun x : S52 => (x.f0, x.f1, x.f2))
theorem k52_open {w : World} {x : S52} {cs : List Value} (h : k52.K w x cs) : cs = [.int .u8 x.f0, .int .u8 x.f1, .int .u8 x.f2] := by
  obtain ⟨_, _, rfl, rfl, ⟨_, _, rfl, rfl, rfl⟩⟩ := h
  exact rfl
theorem k52_openM {w : World} {base : Nat} {ok : Nat → Prop} {x : S52} {cs : List Value} (h : k52.M w base ok x cs) : cs = [.int .u8 x.f0, .int .u8 x.f1, .int .u8 x.f2] := by
  obtain ⟨_, _, rfl, rfl, ⟨_, _, rfl, rfl, rfl⟩⟩ := h
  exact rfl
theorem k52_mk (w : World) (x : S52)  : k52.K w x [.int .u8 x.f0, .int .u8 x.f1, .int .u8 x.f2] := ⟨[.int .u8 x.f0], [.int .u8 x.f1, .int .u8 x.f2], rfl, rfl, ⟨[.int .u8 x.f1], [.int .u8 x.f2], rfl, rfl, rfl⟩⟩
theorem k52_mkM (w : World) (base : Nat) (ok : Nat → Prop) (x : S52)  : k52.M w base ok x [.int .u8 x.f0, .int .u8 x.f1, .int .u8 x.f2] := ⟨[.int .u8 x.f0], [.int .u8 x.f1, .int .u8 x.f2], rfl, rfl, ⟨[.int .u8 x.f1], [.int .u8 x.f2], rfl, rfl, rfl⟩⟩
def rd_T52 (xs : List S52) (i : Int) : S52 := xs.getD i.toNat z52
theorem at_T52 {w : World} {A : Option Addr} {n : Nat} {xs : List S52} (h : Kd.C k52 w A n xs) (i : Int) (h0 : 0 ≤ i) (h1 : i < n) : ∃ ad , A = some ad ∧ w.cell? (ad.add (i.toNat * 3)) = some (.int .u8 (rd_T52 xs i).f0) ∧ w.cell? ⟨(ad.add (i.toNat * 3)).block, (ad.add (i.toNat * 3)).off + 1, none⟩ = some (.int .u8 (rd_T52 xs i).f1) ∧ w.cell? ⟨(ad.add (i.toNat * 3)).block, (ad.add (i.toNat * 3)).off + 2, none⟩ = some (.int .u8 (rd_T52 xs i).f2) := by
  obtain ⟨ad, c, e, _, hK, hc0⟩ := Kd.C_get h z52 i h0 h1
  have hc : ∀ j u, c[j]? = some u → w.cell? (ad.add (i.toNat * 3 + j)) = some u := hc0
  obtain rfl := k52_open hK
  exact ⟨ad, e, hc 0 _ rfl, by rw [← add_field _ _ 1 (by omega)]; exact hc 1 _ rfl, by rw [← add_field _ _ 2 (by omega)]; exact hc 2 _ rfl⟩

def rd_L7 (xs : List (List S178)) (i : Int) : (List S178) := xs.getD i.toNat ([] : List S178)
theorem at_L7 {w : World} {A : Option Addr} {n : Nat} {xs : List (List S178)} (h : Kd.C (Kd.slice 178 k178) w A n xs) (i : Int) (h0 : 0 ≤ i) (h1 : i < n) : ∃ ad A0 c0, A = some ad ∧ w.cell? (ad.add i.toNat) = some (.slice A0 (rd_L7 xs i).length c0) ∧ (rd_L7 xs i).length ≤ c0 ∧ k178.C w A0 (rd_L7 xs i).length (rd_L7 xs i) := by
  obtain ⟨ad, c, e, _, hK, hc0⟩ := Kd.C_get h ([] : List S178) i h0 h1
  have hc : ∀ j u, c[j]? = some u → w.cell? (ad.add (i.toNat * 1 + j)) = some u := hc0
  obtain ⟨A0, c0, rfl, l0, g0⟩ := hK
  exact ⟨ad, A0, c0, e, by have hq := hc 0 _ rfl; rwa [Nat.mul_one, Nat.add_zero] at hq, l0, g0⟩

def rd_L8 (xs : List (List S181)) (i : Int) : (List S181) := xs.getD i.toNat ([] : List S181)
theorem at_L8 {w : World} {A : Option Addr} {n : Nat} {xs : List (List S181)} (h : Kd.C (Kd.slice 181 k181) w A n xs) (i : Int) (h0 : 0 ≤ i) (h1 : i < n) : ∃ ad A0 c0, A = some ad ∧ w.cell? (ad.add i.toNat) = some (.slice A0 (rd_L8 xs i).length c0) ∧ (rd_L8 xs i).length ≤ c0 ∧ k181.C w A0 (rd_L8 xs i).length (rd_L8 xs i) := by
  obtain ⟨ad, c, e, _, hK, hc0⟩ := Kd.C_get h ([] : List S181) i h0 h1
  have hc : ∀ j u, c[j]? = some u → w.cell? (ad.add (i.toNat * 1 + j)) = some u := hc0
  obtain ⟨A0, c0, rfl, l0, g0⟩ := hK
  exact ⟨ad, A0, c0, e, by have hq := hc 0 _ rfl; rwa [Nat.mul_one, Nat.add_zero] at hq, l0, g0⟩

/-! #### struct type 56 -/
structure S56 where
  f0 : Int
  f1 : Int
  f2 : Int
  f3 : (List S178)
  f4 : (List S181)
  f5 : (List S178)
  f6 : Int
  f7 : Int
  f8 : Int
  f9 : Int
def z56 : S56 := ⟨(0 : Int), (0 : Int), (0 : Int), ([] : List S178), ([] : List S181), ([] : List S178), (0 : Int), (0 : Int), (0 : Int), (0 : Int)⟩
def k56 : Kd S56 := Kd.iso (Kd.pair (Kd.int .u8) (Kd.pair (Kd.int .u32) (Kd.pair (Kd.int .u8) (Kd.pair (Kd.slice 178 k178) (Kd.pair (Kd.slice 181 k181) (Kd.pair (Kd.slice 178 k178) (Kd.pair (Kd.int .u8) (Kd.pair (Kd.int .u8) (Kd.pair (Kd.int .u8) (Kd.int .i64)))))))))) (fun x : S56 => (x.f0, x.f1, x.f2, x.f3, x.f4, x.f5, x.f6, x.f7, x.f8, x.f9))
theorem k56_open {w : World} {x : S56} {cs : List Value} (h : k56.K w x cs) : ∃ A3 c3 A4 c4 A5 c5, cs = [.int .u8 x.f0, .int .u32 x.f1, .int .u8 x.f2, .slice A3 x.f3.length c3, .slice A4 x.f4.length c4, .slice A5 x.f5.length c5, .int .u8 x.f6, .int .u8 x.f7, .int .u8 x.f8, .int .i64 x.f9] ∧ x.f3.length ≤ c3 ∧ k178.C w A3 x.f3.length x.f3 ∧ x.f4.length ≤ c4 ∧ k181.C w A4 x.f4.length x.f4 ∧ x.f5.length ≤ c5 ∧ k178.C w A5 x.f5.length x.f5 := by
  obtain ⟨_, _, rfl, rfl, ⟨_, _, rfl, rfl, ⟨_, _, rfl, rfl, ⟨_, _, rfl, ⟨A3, c3, rfl, l3, g3⟩, ⟨_, _, rfl, ⟨A4, c4, rfl, l4, g4⟩, ⟨_, _, rfl, ⟨A5, c5, rfl, l5, g5⟩, ⟨_, _, rfl, rfl, ⟨_, _, rfl, rfl, ⟨_, _, rfl, rfl, rfl⟩⟩⟩⟩⟩⟩⟩⟩⟩ := h
  exact ⟨A3, c3, A4, c4, A5, c5, rfl, l3, g3, l4, g4, l5, g5⟩
theorem k56_openM {w : World} {base : Nat} {ok : Nat → Prop} {x : S56} {cs : List Value} (h : k56.M w base ok x cs) : ∃ v3 v4 v5, cs = [.int .u8 x.f0, .int .u32 x.f1, .int .u8 x.f2, v3, v4, v5, .int .u8 x.f6, .int .u8 x.f7, .int .u8 x.f8, .int .i64 x.f9] ∧ k178.R 178 w base ok v3 x.f3 ∧ k181.R 181 w base ok v4 x.f4 ∧ k178.R 178 w base ok v5 x.f5 := by
  obtain ⟨_, _, rfl, rfl, ⟨_, _, rfl, rfl, ⟨_, _, rfl, rfl, ⟨_, _, rfl, ⟨v3, rfl, g3⟩, ⟨_, _, rfl, ⟨v4, rfl, g4⟩, ⟨_, _, rfl, ⟨v5, rfl, g5⟩, ⟨_, _, rfl, rfl, ⟨_, _, rfl, rfl, ⟨_, _, rfl, rfl, rfl⟩⟩⟩⟩⟩⟩⟩⟩⟩ := h
  exact ⟨v3, v4, v5, rfl, g3, g4, g5⟩
theorem k56_mk (w : World) (x : S56) {A3 : Option Addr} {c3 : Nat} (l3 : x.f3.length ≤ c3) (g3 : k178.C w A3 x.f3.length x.f3) {A4 : Option Addr} {c4 : Nat} (l4 : x.f4.length ≤ c4) (g4 : k181.C w A4 x.f4.length x.f4) {A5 : Option Addr} {c5 : Nat} (l5 : x.f5.length ≤ c5) (g5 : k178.C w A5 x.f5.length x.f5) : k56.K w x [.int .u8 x.f0, .int .u32 x.f1, .int .u8 x.f2, .slice A3 x.f3.length c3, .slice A4 x.f4.length c4, .slice A5 x.f5.length c5, .int .u8 x.f6, .int .u8 x.f7, .int .u8 x.f8, .int .i64 x.f9] := ⟨[.int .u8 x.f0], [.int .u32 x.f1, .int .u8 x.f2, .slice A3 x.f3.length c3, .slice A4 x.f4.length c4, .slice A5 x.f5.length c5, .int .u8 x.f6, .int .u8 x.f7, .int .u8 x.f8, .int .i64 x.f9], rfl, rfl, ⟨[.int .u32 x.f1], [.int .u8 x.f2, .slice A3 x.f3.length c3, .slice A4 x.f4.length c4, .slice A5 x.f5.length c5, .int .u8 x.f6, .int .u8 x.f7, .int .u8 x.f8, .int .i64 x.f9], rfl, rfl, ⟨[.int .u8 x.f2], [.slice A3 x.f3.length c3, .slice A4 x.f4.length c4, .slice A5 x.f5.length c5, .int .u8 x.f6, .int .u8 x.f7, .int .u8 x.f8, .int .i64 x.f9], rfl, rfl, ⟨[.slice A3 x.f3.length c3], [.slice A4 x.f4.length c4, .slice A5 x.f5.length c5, .int .u8 x.f6, .int .u8 x.f7, .int .u8 x.f8, .int .i64 x.f9], rfl, ⟨A3, c3, rfl, l3, g3⟩, ⟨[.slice A4 x.f4.length c4], [.slice A5 x.f5.length c5, .int .u8 x.f6, .int .u8 x.f7, .int .u8 x.f8, .int .i64 x.f9], rfl, ⟨A4, c4, rfl, l4, g4⟩, ⟨[.slice A5 x.f5.length c5], [.int .u8 x.f6, .int .u8 x.f7, .int .u8 x.f8, .int .i64 x.f9], rfl, ⟨A5, c5, rfl, l5, g5⟩, ⟨[.int .u8 x.f6], [.int .u8 x.f7, .int .u8 x.f8, .int .i64 x.f9], rfl, rfl, ⟨[.int .u8 x.f7], [.int .u8 x.f8, .int .i64 x.f9], rfl, rfl, ⟨[.int .u8 x.f8], [.int .i64 x.f9], rfl, rfl, rfl⟩⟩⟩⟩⟩⟩⟩⟩⟩
theorem k56_mkM (w : World) (base : Nat) (ok : Nat → Prop) (x : S56) {v3 : Value} (g3 : k178.R 178 w base ok v3 x.f3) {v4 : Value} (g4 : k181.R 181 w base ok v4 x.f4) {v5 : Value} (g5 : k178.R 178 w base ok v5 x.f5) : k56.M w base ok x [.int .u8 x.f0, .int .u32 x.f1, .int .u8 x.f2, v3, v4, v5, .int .u8 x.f6, .int .u8 x.f7, .int .u8 x.f8, .int .i64 x.f9] := ⟨[.int .u8 x.f0], [.int .u32 x.f1, .int .u8 x.f2, v3, v4, v5, .int .u8 x.f6, .int .u8 x.f7, .int .u8 x.f8, .int .i64 x.f9], rfl, rfl, ⟨[.int .u32 x.f1], [.int .u8 x.f2, v3, v4, v5, .int .u8 x.f6, .int .u8 x.f7, .int .u8 x.f8, .int .i64 x.f9], rfl, rfl, ⟨[.int .u8 x.f2], [v3, v4, v5, .int .u8 x.f6, .int .u8 x.f7, .int .u8 x.f8, .int .i64 x.f9], rfl, rfl, ⟨[v3], [v4, v5, .int .u8 x.f6, .int .u8 x.f7, .int .u8 x.f8, .int .i64 x.f9], rfl, ⟨v3, rfl, g3⟩, ⟨[v4], [v5, .int .u8 x.f6, .int .u8 x.f7, .int .u8 x.f8, .int .i64 x.f9], rfl, ⟨v4, rfl, g4⟩, ⟨[v5], [.int .u8 x.f6, .int .u8 x.f7, .int .u8 x.f8, .int .i64 x.f9], rfl, ⟨v5, rfl, g5⟩, ⟨[.int .u8 x.f6], [.int .u8 x.f7, .int .u8 x.f8, .int .i64 x.f9], rfl, rfl, ⟨[.int .u8 x.f7], [.int .u8 x.f8, .int .i64 x.f9], rfl, rfl, ⟨[.int .u8 x.f8], [.int .i64 x.f9], rfl, rfl, rfl⟩⟩⟩⟩⟩⟩⟩⟩⟩
def rd_T56 (xs : List S56) (i : Int) : S56 := xs.getD i.toNat z56
theorem at_T56 {w : World} {A : Option Addr} {n : Nat} {xs : List S56} (h : Kd.C k56 w A n xs) (i : Int) (h0 : 0 ≤ i) (h1 : i < n) : ∃ ad A3 c3 A4 c4 A5 c5, A = some ad ∧ w.cell? (ad.add (i.toNat * 10)) = some (.int .u8 (rd_T56 xs i).f0) ∧ w.cell? ⟨(ad.add (i.toNat * 10)).block, (ad.add (i.toNat * 10)).off + 1, none⟩ = some (.int .u32 (rd_T56 xs i).f1) ∧ w.cell? ⟨(ad.add (i.toNat * 10)).block, (ad.add (i.toNat * 10)).off + 2, none⟩ = some (.int .u8 (rd_T56 xs i).f2) ∧ w.cell? ⟨(ad.add (i.toNat * 10)).block, (ad.add (i.toNat * 10)).off + 3, none⟩ = some (.slice A3 (rd_T56 xs i).f3.length c3) ∧ w.cell? ⟨(ad.add (i.toNat * 10)).block, (ad.add (i.toNat * 10)).off + 4, none⟩ = some (.slice A4 (rd_T56 xs i).f4.length c4) ∧ w.cell? ⟨(ad.add (i.toNat * 10)).block, (ad.add (i.toNat * 10)).off + 5, none⟩ = some (.slice A5 (rd_T56 xs i).f5.length c5) ∧ w.cell? ⟨(ad.add (i.toNat * 10)).block, (ad.add (i.toNat * 10)).off + 6, none⟩ = some (.int .u8 (rd_T56 xs i).f6) ∧ w.cell? ⟨(ad.add (i.toNat * 10)).block, (ad.add (i.toNat * 10)).off + 7, none⟩ = some (.int .u8 (rd_T56 xs i).f7) ∧ w.cell? ⟨(ad.add (i.toNat * 10)).block, (ad.add (i.toNat * 10)).off + 8, none⟩ = some (.int .u8 (rd_T56 xs i).f8) ∧ w.cell? ⟨(ad.add (i.toNat * 10)).block, (ad.add (i.toNat * 10)).off + 9, none⟩ = some (.int .i64 (rd_T56 xs i).f9) ∧ (rd_T56 xs i).f3.length ≤ c3 ∧ k178.C w A3 (rd_T56 xs i).f3.length (rd_T56 xs i).f3 ∧ (rd_T56 xs i).f4.length ≤ c4 ∧ k181.C w A4 (rd_T56 xs i).f4.length (rd_T56 xs i).f4 ∧ (rd_T56 xs i).f5.length ≤ c5 ∧ k178.C w A5 (rd_T56 xs i).f5.length (rd_T56 xs i).f5 := by
  obtain ⟨ad, c, e, _, hK, hc0⟩ := Kd.C_get h z56 i h0 h1
  have hc : ∀ j u, c[j]? = some u → w.cell? (ad.add (i.toNat * 10 + j)) = some u := hc0
  obtain ⟨A3, c3, A4, c4, A5, c5, rfl, l3, g3, l4, g4, l5, g5⟩ := k56_open hK
  exact ⟨ad, A3, c3, A4, c4, A5, c5, e, hc 0 _ rfl, by rw [← add_field _ _ 1 (by omega)]; exact hc 1 _ rfl, by rw [← add_field _ _ 2 (by omega)]; exact hc 2 _ rfl, by rw [← add_field _ _ 3 (by omega)]; exact hc 3 _ rfl, by rw [← add_field _ _ 4 (by omega)]; exact hc 4 _ rfl, by rw [← add_field _ _ 5 (by omega)]; exact hc 5 _ rfl, by rw [← add_field _ _ 6 (by omega)]; exact hc 6 _ rfl, by rw [← add_field _ _ 7 (by omega)]; exact hc 7 _ rfl, by rw [← add_field _ _ 8 (by omega)]; exact hc 8 _ rfl, by rw [← add_field _ _ 9 (by omega)]; exact hc 9 _ rfl, l3, g3, l4, g4, l5, g5⟩

/-! #### struct type 58 -/
structure S58 where
  f0 : Int
  f1 : Int
  f2 : Int
  f3 : Int
  f4 : Bool
  f5 : S52
  f6 : Int
  f7 : Int
  f8 : S56
def z58 : S58 := ⟨(0 : Int), (0 : Int), (0 : Int), (0 : Int), false, z52, (0 : Int), (0 : Int), z56⟩
def k58 : Kd S58 := Kd.iso (Kd.pair (Kd.int .u8) (Kd.pair (Kd.int .u32) (Kd.pair (Kd.int .u32) (Kd.pair (Kd.int .u8) (Kd.pair Kd.bool (Kd.pair k52 (Kd.pair (Kd.int .i64) (Kd.pair (Kd.int .u8) k56)))))))) (fun x : S58 => (x.f0, x.f1, x.f2, x.f3, x.f4, x.f5, x.f6, x.f7, x.f8))
theorem k58_open {w : World} {x : S58} {cs : List Value} (h : k58.K w x cs) : ∃ A13 c13 A14 c14 A15 c15, cs = [.int .u8 x.f0, .int .u32 x.f1, .int .u32 x.f2, .int .u8 x.f3, .bool x.f4, .int .u8 x.f5.f0, .int .u8 x.f5.f1, .int .u8 x.f5.f2, .int .i64 x.f6, .int .u8 x.f7, .int .u8 x.f8.f0, .int .u32 x.f8.f1, .int .u8 x.f8.f2, .slice A13 x.f8.f3.length c13, .slice A14 x.f8.f4.length c14, .slice A15 x.f8.f5.length c15, .int .u8 x.f8.f6, .int .u8 x.f8.f7, .int .u8 x.f8.f8, .int .i64 x.f8.f9] ∧ x.f8.f3.length ≤ c13 ∧ k178.C w A13 x.f8.f3.length x.f8.f3 ∧ x.f8.f4.length ≤ c14 ∧ k181.C w A14 x.f8.f4.length x.f8.f4 ∧ x.f8.f5.length ≤ c15 ∧ k178.C w A15 x.f8.f5.length x.f8.f5 := by
  obtain ⟨_, _, rfl, rfl, ⟨_, _, rfl, rfl, ⟨_, _, rfl, rfl, ⟨_, _, rfl, rfl, ⟨_, _, rfl, rfl, ⟨_, _, rfl, s5, ⟨_, _, rfl, rfl, ⟨_, _, rfl, rfl, s10⟩⟩⟩⟩⟩⟩⟩⟩ := h
  obtain rfl := k52_open s5
  obtain ⟨A13, c13, A14, c14, A15, c15, rfl, l13, g13, l14, g14, l15, g15⟩ := k56_open s10
  exact ⟨A13, c13, A14, c14, A15, c15, rfl, l13, g13, l14, g14, l15, g15⟩
theorem k58_openM {w : World} {base : Nat} {ok : Nat → Prop} {x : S58} {cs : List Value} (h : k58.M w base ok x cs) : ∃ v13 v14 v15, cs = [.int .u8 x.f0, .int .u32 x.f1, .int .u32 x.f2, .int .u8 x.f3, .bool x.f4, .int .u8 x.f5.f0, .int .u8 x.f5.f1, .int .u8 x.f5.f2, .int .i64 x.f6, .int .u8 x.f7, .int .u8 x.f8.f0, .int .u32 x.f8.f1, .int .u8 x.f8.f2, v13, v14, v15, .int .u8 x.f8.f6, .int .u8 x.f8.f7, .int .u8 x.f8.f8, .int .i64 x.f8.f9] ∧ k178.R 178 w base ok v13 x.f8.f3 ∧ k181.R 181 w base ok v14 x.f8.f4 ∧ k178.R 178 w base ok v15 x.f8.f5 := by
  obtain ⟨_, _, rfl, rfl, ⟨_, _, rfl, rfl, ⟨_, _, rfl, rfl, ⟨_, _, rfl, rfl, ⟨_, _, rfl, rfl, ⟨_, _, rfl, s5, ⟨_, _, rfl, rfl, ⟨_, _, rfl, rfl, s10⟩⟩⟩⟩⟩⟩⟩⟩ := h
  obtain rfl := k52_openM s5
  obtain ⟨v13, v14, v15, rfl, g13, g14, g15⟩ := k56_openM s10
  exact ⟨v13, v14, v15, rfl, g13, g14, g15⟩
theorem k58_mk (w : World) (x : S58) {A13 : Option Addr} {c13 : Nat} (l13 : x.f8.f3.length ≤ c13) (g13 : k178.C w A13 x.f8.f3.length x.f8.f3) {A14 : Option Addr} {c14 : Nat} (l14 : x.f8.f4.length ≤ c14) (g14 : k181.C w A14 x.f8.f4.length x.f8.f4) {A15 : Option Addr} {c15 : Nat} (l15 : x.f8.f5.length ≤ c15) (g15 : k178.C w A15 x.f8.f5.length x.f8.f5) : k58.K w x [.int .u8 x.f0, .int .u32 x.f1, .int .u32 x.f2, .int .u8 x.f3, .bool x.f4, .int .u8 x.f5.f0, .int .u8 x.f5.f1, .int .u8 x.f5.f2, .int .i64 x.f6, .int .u8 x.f7, .int .u8 x.f8.f0, .int .u32 x.f8.f1, .int .u8 x.f8.f2, .slice A13 x.f8.f3.length c13, .slice A14 x.f8.f4.length c14, .slice A15 x.f8.f5.length c15, .int .u8 x.f8.f6, .int .u8 x.f8.f7, .int .u8 x.f8.f8, .int .i64 x.f8.f9] := ⟨[.int .u8 x.f0], [.int .u32 x.f1, .int .u32 x.f2, .int .u8 x.f3, .bool x.f4, .int .u8 x.f5.f0, .int .u8 x.f5.f1, .int .u8 x.f5.f2, .int .i64 x.f6, .int .u8 x.f7, .int .u8 x.f8.f0, .int .u32 x.f8.f1, .int .u8 x.f8.f2, .slice A13 x.f8.f3.length c13, .slice A14 x.f8.f4.length c14, .slice A15 x.f8.f5.length c15, .int .u8 x.f8.f6, .int .u8 x.f8.f7, .int .u8 x.f8.f8, .int .i64 x.f8.f9], rfl, rfl, ⟨[.int .u32 x.f1], [.int .u32 x.f2, .int .u8 x.f3, .bool x.f4, .int .u8 x.f5.f0, .int .u8 x.f5.f1, .int .u8 x.f5.f2, .int .i64 x.f6, .int .u8 x.f7, .int .u8 x.f8.f0, .int .u32 x.f8.f1, .int .u8 x.f8.f2, .slice A13 x.f8.f3.length c13, .slice A14 x.f8.f4.length c14, .slice A15 x.f8.f5.length c15, .int .u8 x.f8.f6, .int .u8 x.f8.f7, .int .u8 x.f8.f8, .int .i64 x.f8.f9], rfl, rfl, ⟨[.int .u32 x.f2], [.int .u8 x.f3, .bool x.f4, .int .u8 x.f5.f0, .int .u8 x.f5.f1, .int .u8 x.f5.f2, .int .i64 x.f6, .int .u8 x.f7, .int .u8 x.f8.f0, .int .u32 x.f8.f1, .int .u8 x.f8.f2, .slice A13 x.f8.f3.length c13, .slice A14 x.f8.f4.length c14, .slice A15 x.f8.f5.length c15, .int .u8 x.f8.f6, .int .u8 x.f8.f7, .int .u8 x.f8.f8, .int .i64 x.f8.f9], rfl, rfl, ⟨[.int .u8 x.f3], [.bool x.f4, .int .u8 x.f5.f0, .int .u8 x.f5.f1, .int .u8 x.f5.f2, .int .i64 x.f6, .int .u8 x.f7, .int .u8 x.f8.f0, .int .u32 x.f8.f1, .int .u8 x.f8.f2, .slice A13 x.f8.f3.length c13, .slice A14 x.f8.f4.length c14, .slice A15 x.f8.f5.length c15, .int .u8 x.f8.f6, .int .u8 x.f8.f7, .int .u8 x.f8.f8, .int .i64 x.f8.f9], rfl, rfl, ⟨[.bool x.f4], [.int .u8 x.f5.f0, .int .u8 x.f5.f1, .int .u8 x.f5.f2, .int .i64 x.f6, .int .u8 x.f7, .int .u8 x.f8.f0, .int .u32 x.f8.f1, .int .u8 x.f8.f2, .slice A13 x.f8.f3.length c13, .slice A14 x.f8.f4.length c14, .slice A15 x.f8.f5.length c15, .int .u8 x.f8.f6, .int .u8 x.f8.f7, .int .u8 x.f8.f8, .int .i64 x.f8.f9], rfl, rfl, ⟨[.int .u8 x.f5.f0, .int .u8 x.f5.f1, .int .u8 x.f5.f2], [.int .i64 x.f6, .int .u8 x.f7, .int .u8 x.f8.f0, .int .u32 x.f8.f1, .int .u8 x.f8.f2, .slice A13 x.f8.f3.length c13, .slice A14 x.f8.f4.length c14, .slice A15 x.f8.f5.length c15, .int .u8 x.f8.f6, .int .u8 x.f8.f7, .int .u8 x.f8.f8, .int .i64 x.f8.f9], rfl, (k52_mk w x.f5 ), ⟨[.int .i64 x.f6], [.int .u8 x.f7, .int .u8 x.f8.f0, .int .u32 x.f8.f1, .int .u8 x.f8.f2, .slice A13 x.f8.f3.length c13, .slice A14 x.f8.f4.length c14, .slice A15 x.f8.f5.length c15, .int .u8 x.f8.f6, .int .u8 x.f8.f7, .int .u8 x.f8.f8, .int .i64 x.f8.f9], rfl, rfl, ⟨[.int .u8 x.f7], [.int .u8 x.f8.f0, .int .u32 x.f8.f1, .int .u8 x.f8.f2, .slice A13 x.f8.f3.length c13, .slice A14 x.f8.f4.length c14, .slice A15 x.f8.f5.length c15, .int .u8 x.f8.f6, .int .u8 x.f8.f7, .int .u8 x.f8.f8, .int .i64 x.f8.f9], rfl, rfl, (k56_mk w x.f8 l13 g13 l14 g14 l15 g15)⟩⟩⟩⟩⟩⟩⟩⟩
theorem k58_mkM (w : World) (base : Nat) (ok : Nat → Prop) (x : S58) {v13 : Value} (g13 : k178.R 178 w base ok v13 x.f8.f3) {v14 : Value} (g14 : k181.R 181 w base ok v14 x.f8.f4) {v15 : Value} (g15 : k178.R 178 w base ok v15 x.f8.f5) : k58.M w base ok x [.int .u8 x.f0, .int .u32 x.f1, .int .u32 x.f2, .int .u8 x.f3, .bool x.f4, .int .u8 x.f5.f0, .int .u8 x.f5.f1, .int .u8 x.f5.f2, .int .i64 x.f6, .int .u8 x.f7, .int .u8 x.f8.f0, .int .u32 x.f8.f1, .int .u8 x.f8.f2, v13, v14, v15, .int .u8 x.f8.f6, .int .u8 x.f8.f7, .int .u8 x.f8.f8, .int .i64 x.f8.f9] := ⟨[.int .u8 x.f0], [.int .u32 x.f1, .int .u32 x.f2, .int .u8 x.f3, .bool x.f4, .int .u8 x.f5.f0, .int .u8 x.f5.f1, .int .u8 x.f5.f2, .int .i64 x.f6, .int .u8 x.f7, .int .u8 x.f8.f0, .int .u32 x.f8.f1, .int .u8 x.f8.f2, v13, v14, v15, .int .u8 x.f8.f6, .int .u8 x.f8.f7, .int .u8 x.f8.f8, .int .i64 x.f8.f9], rfl, rfl, ⟨[.int .u32 x.f1], [.int .u32 x.f2, .int .u8 x.f3, .bool x.f4, .int .u8 x.f5.f0, .int .u8 x.f5.f1, .int .u8 x.f5.f2, .int .i64 x.f6, .int .u8 x.f7, .int .u8 x.f8.f0, .int .u32 x.f8.f1, .int .u8 x.f8.f2, v13, v14, v15, .int .u8 x.f8.f6, .int .u8 x.f8.f7, .int .u8 x.f8.f8, .int .i64 x.f8.f9], rfl, rfl, ⟨[.int .u32 x.f2], [.int .u8 x.f3, .bool x.f4, .int .u8 x.f5.f0, .int .u8 x.f5.f1, .int .u8 x.f5.f2, .int .i64 x.f6, .int .u8 x.f7, .int .u8 x.f8.f0, .int .u32 x.f8.f1, .int .u8 x.f8.f2, v13, v14, v15, .int .u8 x.f8.f6, .int .u8 x.f8.f7, .int .u8 x.f8.f8, .int .i64 x.f8.f9], rfl, rfl, ⟨[.int .u8 x.f3], [.bool x.f4, .int .u8 x.f5.f0, .int .u8 x.f5.f1, .int .u8 x.f5.f2, .int .i64 x.f6, .int .u8 x.f7, .int .u8 x.f8.f0, .int .u32 x.f8.f1, .int .u8 x.f8.f2, v13, v14, v15, .int .u8 x.f8.f6, .int .u8 x.f8.f7, .int .u8 x.f8.f8, .int .i64 x.f8.f9], rfl, rfl, ⟨[.bool x.f4], [.int .u8 x.f5.f0, .int .u8 x.f5.f1, .int .u8 x.f5.f2, .int .i64 x.f6, .int .u8 x.f7, .int .u8 x.f8.f0, .int .u32 x.f8.f1, .int .u8 x.f8.f2, v13, v14, v15, .int .u8 x.f8.f6, .int .u8 x.f8.f7, .int .u8 x.f8.f8, .int .i64 x.f8.f9], rfl, rfl, ⟨[.int .u8 x.f5.f0, .int .u8 x.f5.f1, .int .u8 x.f5.f2], [.int .i64 x.f6, .int .u8 x.f7, .int .u8 x.f8.f0, .int .u32 x.f8.f1, .int .u8 x.f8.f2, v13, v14, v15, .int .u8 x.f8.f6, .int .u8 x.f8.f7, .int .u8 x.f8.f8, .int .i64 x.f8.f9], rfl, (k52_mkM w base ok x.f5 ), ⟨[.int .i64 x.f6], [.int .u8 x.f7, .int .u8 x.f8.f0, .int .u32 x.f8.f1, .int .u8 x.f8.f2, v13, v14, v15, .int .u8 x.f8.f6, .int .u8 x.f8.f7, .int .u8 x.f8.f8, .int .i64 x.f8.f9], rfl, rfl, ⟨[.int .u8 x.f7], [.int .u8 x.f8.f0, .int .u32 x.f8.f1, .int .u8 x.f8.f2, v13, v14, v15, .int .u8 x.f8.f6, .int .u8 x.f8.f7, .int .u8 x.f8.f8, .int .i64 x.f8.f9], rfl, rfl, (k56_mkM w base ok x.f8 g13 g14 g15)⟩⟩⟩⟩⟩⟩⟩⟩
def rd_T58 (xs : List S58) (i : Int) : S58 := xs.getD i.toNat z58
theorem at_T58 {w : World} {A : Option Addr} {n : Nat} {xs : List S58} (h : Kd.C k58 w A n xs) (i : Int) (h0 : 0 ≤ i) (h1 : i < n) : ∃ ad A13 c13 A14 c14 A15 c15, A = some ad ∧ w.cell? (ad.add (i.toNat * 20)) = some (.int .u8 (rd_T58 xs i).f0) ∧ w.cell? ⟨(ad.add (i.toNat * 20)).block, (ad.add (i.toNat * 20)).off + 1, none⟩ = some (.int .u32 (rd_T58 xs i).f1) ∧ w.cell? ⟨(ad.add (i.toNat * 20)).block, (ad.add (i.toNat * 20)).off + 2, none⟩ = some (.int .u32 (rd_T58 xs i).f2) ∧ w.cell? ⟨(ad.add (i.toNat * 20)).block, (ad.add (i.toNat * 20)).off + 3, none⟩ = some (.int .u8 (rd_T58 xs i).f3) ∧ w.cell? ⟨(ad.add (i.toNat * 20)).block, (ad.add (i.toNat * 20)).off + 4, none⟩ = some (.bool (rd_T58 xs i).f4) ∧ w.cell? ⟨(ad.add (i.toNat * 20)).block, (ad.add (i.toNat * 20)).off + 5, none⟩ = some (.int .u8 (rd_T58 xs i).f5.f0) ∧ w.cell? ⟨(ad.add (i.toNat * 20)).block, (ad.add (i.toNat * 20)).off + 6, none⟩ = some (.int .u8 (rd_T58 xs i).f5.f1) ∧ w.cell? ⟨(ad.add (i.toNat * 20)).block, (ad.add (i.toNat * 20)).off + 7, none⟩ = some (.int .u8 (rd_T58 xs i).f5.f2) ∧ w.cell? ⟨(ad.add (i.toNat * 20)).block, (ad.add (i.toNat * 20)).off + 8, none⟩ = some (.int .i64 (rd_T58 xs i).f6) ∧ w.cell? ⟨(ad.add (i.toNat * 20)).block, (ad.add (i.toNat * 20)).off + 9, none⟩ = some (.int .u8 (rd_T58 xs i).f7) ∧ w.cell? ⟨(ad.add (i.toNat * 20)).block, (ad.add (i.toNat * 20)).off + 10, none⟩ = some (.int .u8 (rd_T58 xs i).f8.f0) ∧ w.cell? ⟨(ad.add (i.toNat * 20)).block, (ad.add (i.toNat * 20)).off + 11, none⟩ = some (.int .u32 (rd_T58 xs i).f8.f1) ∧ w.cell? ⟨(ad.add (i.toNat * 20)).block, (ad.add (i.toNat * 20)).off + 12, none⟩ = some (.int .u8 (rd_T58 xs i).f8.f2) ∧ w.cell? ⟨(ad.add (i.toNat * 20)).block, (ad.add (i.toNat * 20)).off + 13, none⟩ = some (.slice A13 (rd_T58 xs i).f8.f3.length c13) ∧ w.cell? ⟨(ad.add (i.toNat * 20)).block, (ad.add (i.toNat * 20)).off + 14, none⟩ = some (.slice A14 (rd_T58 xs i).f8.f4.length c14) ∧ w.cell? ⟨(ad.add (i.toNat * 20)).block, (ad.add (i.toNat * 20)).off + 15, none⟩ = some (.slice A15 (rd_T58 xs i).f8.f5.length c15) ∧ w.cell? ⟨(ad.add (i.toNat * 20)).block, (ad.add (i.toNat * 20)).off + 16, none⟩ = some (.int .u8 (rd_T58 xs i).f8.f6) ∧ w.cell? ⟨(ad.add (i.toNat * 20)).block, (ad.add (i.toNat * 20)).off + 17, none⟩ = some (.int .u8 (rd_T58 xs i).f8.f7) ∧ w.cell? ⟨(ad.add (i.toNat * 20)).block, (ad.add (i.toNat * 20)).off + 18, none⟩ = some (.int .u8 (rd_T58 xs i).f8.f8) ∧ w.cell? ⟨(ad.add (i.toNat * 20)).block, (ad.add (i.toNat * 20)).off + 19, none⟩ = some (.int .i64 (rd_T58 xs i).f8.f9) ∧ (rd_T58 xs i).f8.f3.length ≤ c13 ∧ k178.C w A13 (rd_T58 xs i).f8.f3.length (rd_T58 xs i).f8.f3 ∧ (rd_T58 xs i).f8.f4.length ≤ c14 ∧ k181.C w A14 (rd_T58 xs i).f8.f4.length (rd_T58 xs i).f8.f4 ∧ (rd_T58 xs i).f8.f5.length ≤ c15 ∧ k178.C w A15 (rd_T58 xs i).f8.f5.length (rd_T58 xs i).f8.f5 := by
  obtain ⟨ad, c, e, _, hK, hc0⟩ := Kd.C_get h z58 i h0 h1
  have hc : ∀ j u, c[j]? = some u → w.cell? (ad.add (i.toNat * 20 + j)) = some u := hc0
  obtain ⟨A13, c13, A14, c14, A15, c15, rfl, l13, g13, l14, g14, l15, g15⟩ := k58_open hK
  exact ⟨ad, A13, c13, A14, c14, A15, c15, e, hc 0 _ rfl, by rw [← add_field _ _ 1 (by omega)]; exact hc 1 _ rfl, by rw [← add_field _ _ 2 (by omega)]; exact hc 2 _ rfl, by rw [← add_field _ _ 3 (by omega)]; exact hc 3 _ rfl, by rw [← add_field _ _ 4 (by omega)]; exact hc 4 _ rfl, by rw [← add_field _ _ 5 (by omega)]; exact hc 5 _ rfl, by rw [← add_field _ _ 6 (by omega)]; exact hc 6 _ rfl, by rw [← add_field _ _ 7 (by omega)]; exact hc 7 _ rfl, by rw [← add_field _ _ 8 (by omega)]; exact hc 8 _ rfl, by rw [← add_field _ _ 9 (by omega)]; exact hc 9 _ rfl, by rw [← add_field _ _ 10 (by omega)]; exact hc 10 _ rfl, by rw [← add_field _ _ 11 (by omega)]; exact hc 11 _ rfl, by rw [← add_field _ _ 12 (by omega)]; exact hc 12 _ rfl, by rw [← add_field _ _ 13 (by omega)]; exact hc 13 _ rfl, by rw [← add_field _ _ 14 (by omega)]; exact hc 14 _ rfl, by rw [← add_field _ _ 15 (by omega)]; exact hc 15 _ rfl, by rw [← add_field _ _ 16 (by omega)]; exact hc 16 _ rfl, by rw [← add_field _ _ 17 (by omega)]; exact hc 17 _ rfl, by rw [← add_field _ _ 18 (by omega)]; exact hc 18 _ rfl, by rw [← add_field _ _ 19 (by omega)]; exact hc 19 _ rfl, l13, g13, l14, g14, l15, g15⟩

end Go.Proofs.YteeclengpnjlgaaGreat.N
