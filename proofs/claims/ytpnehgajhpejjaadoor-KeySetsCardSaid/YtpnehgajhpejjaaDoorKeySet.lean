import Derived.Test.YtpnehgajhpejjaaDoorWWords
import Derived.Test.YtpnehgajhpejjaaDoorProg
import Derived.Maps.OwnSet
import Derived.DeepKeys5
import Derived.WideKeyEntry
import Derived.Shelf.SlSortCmp.NoneTotal
import Derived.Shelf.Lay
import Derived.Ground.SlsfProg
/- What the walk of key.Set takes: slices.SortFunc laid here; 'm[k]++' on a map of the call's own, in whatever order its parts run. -/
set_option linter.unusedVariables false
namespace Go.Proofs
open Go.Shelf
shelf_lay_g SlLaysF0.n6 Slsf 6 at Tryd 38 as Tryd.sortK
end Go.Proofs
namespace Go.WideElems
open Go.ChangeShapes Go.WideShapes Go.MapKept Go.ChangeMaps
open Go.WideMaps (KeyLaw)
open Go.Maps (Keyed)
theorem entry_parts {H : Type} {P : Program} {w : World} {t k e : TypeId} {q : IntKind} {b n : Nat} {D : DataW H} (h : w.ownsMap P k (plainElem P e) b n D) (K : KeyLaw P k) (ht : P.underlying t = some (.map k e)) (he : P.underlying e = some (.int q))
    (hz : ∀ u : World, (zeroValue e).run P u = .ok (.int q 0) u) (hn : n < maxLen) {key : Value} {kl : Lit} (hkey : keyOf P k key = some kl) :
    ∃ (c : Int) (v0 : Value) (st : Nat) (w1 : World), D.atKey kl (.lit (.int q 0)) = .lit (.int q c) ∧ (Instr.lookup t (.map (some b)) key false).run P w = .ok (.int q c) w ∧ (Instr.lookup t (.map (some b)) key false).run P w1 = .ok (.int q c) w1 ∧
      (Instr.mapEntry t (.map (some b)) key).run P w = .ok (.tuple #[v0, goInt st]) w1 ∧ w.grownBy w1 (some b) ∧
      ∀ a : Int, (Lit.int q a).wf = true → ∃ w2, (Instr.entryStore t (.map (some b)) (goInt st) (.int q a)).run P w1 = .ok () w2 ∧ w2.ownsMap P k (plainElem P e) b (n + 1) (D.put kl (.lit (.int q a))) ∧ w.grownBy w2 (some b) := by
  obtain ⟨c, hrun, hat, hwc⟩ := h.lookup_int (Keyed.of_law K) ht he (hz w) hkey
  have hup := fun (a : Int) (ha : (Lit.int q a).wf = true) => h.update (Keyed.of_law K) ht hn hkey (val := .int q a) (plainElem_int he ha)
  obtain ⟨es, clock, hb, F, hs, hD⟩ := h
  obtain ⟨v0, st, es1, clock1, hent, hold, hsto⟩ := entry_then_store K ht hz hb F hkey
  have hset : ∀ w2 o o', (setBlock (setBlock w2 b o) b o' : World) = setBlock w2 b o' := fun w2 o o' => by simp [setBlock]
  have hb1 : (setBlock w b (.map es1 clock1)).heap[b]? = some (.map es1 clock1) := heap_setBlock_same hb _
  have hg : ∀ o, w.grownBy (setBlock w b o) (some b) := fun o => ⟨rfl, rfl, rfl, by simp [setBlock], fun i _ hi => heap_setBlock_other hb _ (fun e => hi (by rw [e]))⟩
  refine ⟨c, v0, st, setBlock w b (.map es1 clock1), hat, hrun, ?_, hent, hg _, fun a ha => ?_⟩
  · rcases K.find w hkey es.toList F.keys with ⟨h1, h2⟩ | ⟨j, e0, h1, h2, h3⟩
    · have hc : Value.int q c = .int q 0 := by
        have := hrun
        simp [Instr.lookup, run_underlying ht, MapKept.run_getObj_map hb, K.check w _ hkey, h1, hz, Result.andThen] at this
        rw [this]
      rw [hc]
      have hent' := hent
      simp [Instr.mapEntry, run_underlying ht, MapKept.run_getObj_map hb, K.check w false hkey, h1, hz, MapKept.run_setObj_map _ hb, Result.andThen] at hent'
      obtain ⟨_, hw⟩ := hent'
      have hw' := congrArg (fun u : World => u.heap[b]?) hw
      simp only [heap_setBlock_same hb] at hw'
      rw [show (w.heap.setIfInBounds b (.map (es.push ⟨key, .int q 0, clock⟩) (clock + 1)))[b]? = _ from heap_setBlock_same hb _] at hw'
      simp only [Option.some.injEq, Obj.map.injEq] at hw'
      obtain ⟨he1, he2⟩ := hw'
      subst he1
      have hk1 : ∀ x ∈ (es.push ⟨key, .int q 0, clock⟩).toList, ∃ l, keyOf P k x.key = some l := fun x hx => by
        rw [Array.toList_push] at hx
        rcases List.mem_append.1 hx with hx | hx
        · exact F.keys x hx
        · rw [List.mem_singleton.1 hx]; exact ⟨kl, hkey⟩
      rcases K.find (setBlock w b (.map (es.push ⟨key, .int q 0, clock⟩) clock1)) hkey _ hk1 with ⟨_, g2⟩ | ⟨j, e0, g1, g2, g3⟩
      · exact absurd rfl (g2 ⟨key, .int q 0, clock⟩ (by simp))
      · have hm := List.mem_of_getElem? g2
        rw [Array.toList_push] at hm g1
        rcases List.mem_append.1 hm with hm | hm
        · exact absurd g3 (h2 e0 hm)
        · have : e0.val = .int q 0 := by rw [List.mem_singleton.1 hm]
          simp [Instr.lookup, run_underlying ht, MapKept.run_getObj_map hb1, K.check _ _ hkey, g1, this, Result.andThen]
    · have hent' := hent
      have hj : es[j]? = some e0 := by simpa using h2
      have hsame : es.modify j (fun e => { e with key := key }) = es := by
        apply Array.ext'
        rw [Array.toList_modify, modify_eq_set _ _ _ _ h2]
        have : ({ e0 with key := key } : MapEntry) = e0 := by rw [← h3]
        rw [this]
        exact set_self _ _ _ h2
      simp [Instr.mapEntry, run_underlying ht, MapKept.run_getObj_map hb, K.check w false hkey, h1, hj, h3, K.stays w hkey, hsame, MapKept.run_setObj_map _ hb, Result.andThen] at hent'
      obtain ⟨_, hw⟩ := hent'
      have hw' := congrArg (fun u : World => u.heap[b]?) hw
      simp only [heap_setBlock_same hb] at hw'
      rw [show (w.heap.setIfInBounds b (.map es clock))[b]? = _ from heap_setBlock_same hb _] at hw'
      simp only [Option.some.injEq, Obj.map.injEq] at hw'
      obtain ⟨he1, he2⟩ := hw'
      subst he1
      subst he2
      have hid : setBlock w b (.map es clock) = w := by
        have hlt : b < w.heap.size := (Array.getElem?_eq_some_iff.1 hb).1
        have : w.heap.setIfInBounds b (.map es clock) = w.heap := by
          apply Array.ext_getElem?
          intro i
          rw [Array.getElem?_setIfInBounds]
          split
          · rename_i hi; subst hi; exact hb.symm
          · rfl
        unfold setBlock
        rw [this]
      rw [hid]
      exact hrun
  · obtain ⟨es', clock', r1, r2⟩ := hsto (setBlock w b (.map es1 clock1)) (.int q a) hb1
    obtain ⟨w', hr, ho, hgw⟩ := hup a ha
    rw [r2] at hr
    injection hr with _ hr
    subst hr
    rw [hset] at r1
    exact ⟨_, r1, ho, hgw⟩
end Go.WideElems
namespace Go.Proofs.YtpnehgajhpejjaaDoorW.PrintWords
open Go.RowKit
def Gd (w w' : World) : Prop := ∃ q os', w' = Go.Sort.grow (w.drewN q) os'
theorem Gd.refl (w : World) : Gd w w := ⟨0, #[], by rw [Go.Sort.grow_empty]; rfl⟩
theorem Gd.drewN {w w' : World} (h : Gd w w') (n : Nat) : Gd w (w'.drewN n) := by
  obtain ⟨q, os, rfl⟩ := h
  exact ⟨q + n, os, by simp [Go.Sort.grow, World.drewN, Nat.add_assoc]⟩
theorem Gd.drew {w w' : World} (h : Gd w w') : Gd w w'.drew := h.drewN 1
theorem Gd.alloc {w w' : World} (h : Gd w w') (o : Obj) : Gd w (w'.alloc o) := by
  obtain ⟨q, os, rfl⟩ := h
  exact ⟨q, os ++ #[o], by rw [Go.Sort.alloc_eq_grow, Go.Sort.grow_grow]⟩
theorem wrap64_in (z : Int) (h0 : -9223372036854775808 ≤ z) (h1 : z < 9223372036854775808) : wrap64 z = z := by
  unfold wrap64; omega
theorem blkG {w w' : World} {b k : Nat} {o : Obj} (h : w.heap[k]? = some o) (hg : w.grownBy w' (some b)) (hne : k ≠ b) : w'.heap[k]? = some o :=
  (hg.block k (blk_lt h) (fun e => hne (by cases e; rfl))).trans h
end Go.Proofs.YtpnehgajhpejjaaDoorW.PrintWords
