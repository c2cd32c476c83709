import Derived.Test.YteeclengpnjlgaaGreatEvF
import Derived.Great.BuildSlice
import Derived.Laws.MakeOwn
import Derived.Deep.AppendSrc
import Derived.Laws.IdiomCopy
import Derived.Deep.Upon
/- A closed run, reckoned: operations that lay blocks, and stores. -/
namespace Go.Proofs.YteeclengpnjlgaaGreat.Ev
set_option linter.unusedVariables false
set_option linter.unusedSimpArgs false
open Go.RowKit
variable {P : Program}
inductive Rs where
  | val (v : Value) (n : Nat) (H : T AO)
  | skip (n : Nat) (H : T AO)
  | call (f : FuncId) (args : List Value)
/-- What a result stands for. -/
def RsOk (P : Program) (w0 : Base) (pl : Pl) (a : Act) (o : Oper) (w : World) : Rs → Prop
  | .val v n H => ∃ (q : Pl) (v' : Value) (w' : World), (execOp a.eval o).run P w = .ok (.value v') w' ∧ VT (pl ++ q) v v' ∧ Sim P w0 (pl ++ q) H w' ∧ (pl ++ q).length = n
  | .skip n H => ∃ (q : Pl) (w' : World), (execOp a.eval o).run P w = .ok .skip w' ∧ Sim P w0 (pl ++ q) H w' ∧ (pl ++ q).length = n
  | .call f args => ∃ args' : Array Value, (execOp a.eval o).run P w = .ok (.enter f args') w ∧ Pw (VT pl) args args'.toList
def room (n : Nat) : Bool := Nat.blt n (2 ^ HD)
theorem room_lt {n : Nat} (h : room n = true) : n < 2 ^ HD := Nat.le_of_ble_eq_true h
def evNew (n : Nat) (H : T AO) (v : Value) (o : AO) : Option Rs := bif room n then some (.val v (n + 1) (T.set HD H n o)) else none
theorem Cl_all {pl : Pl} {l : List Value} {cc : Array Value} (h : Pw (VC pl) l cc.toList) : Cl pl l cc := by
  have hl : cc.size = l.length := by have := h.length; simpa using this
  exact ⟨by omega, by rw [← hl, show cc.size = cc.toList.length from (Array.length_toList).symm, List.take_length]; exact h⟩
theorem ptr_VT {pl : Pl} {n b off d : Nat} (h : pl[n]? = some (b, d)) : VT pl (.pointer (some ⟨n, off, none⟩)) (.pointer (some ⟨b, off, none⟩)) := ⟨⟨b, off, none⟩, ⟨pb_of h, rfl, rfl⟩, rfl⟩
theorem slice_VT {pl : Pl} {n b d len cap : Nat} (h : pl[n]? = some (b, d)) : VT pl (.slice (some ⟨n, 0, none⟩) len (2 * cap)) (.slice (some ⟨b, 0, none⟩) len cap) := ⟨⟨b, 0, none⟩, cap, ⟨pb_of h, rfl, rfl⟩, CapR.exact pl n cap, rfl⟩
theorem Pw_pl {pl q : Pl} {l m : List Value} (h : Pw (VC pl) l m) : Pw (VC (pl ++ q)) l m := h.mono (fun _ _ => VC.mono q)
/-- A new block with known cells. -/
theorem new_cells {w0 : Base} {w : World} {pl : Pl} {H : T AO} {cs : List Value} {cc : Array Value} {e : TypeId} (hs : Sim P w0 pl H w) (hr : room pl.length = true) (hc : Pw (VC pl) cs cc.toList) :
    Sim P w0 (pl ++ [(w.heap.size, 0)]) (T.set HD H pl.length (.cells cs e)) (w.alloc (.cells cc e)) :=
  hs.alloc (room_lt hr) ⟨cc, heap_alloc_new w _, (Cl_all hc).mono _, by have := hc.length; simp at this; omega⟩
theorem evNew_ok {w0 : Base} {w : World} {pl : Pl} {H : T AO} {a : Act} {o : Oper} {r : Rs} {v : Value} {ob : AO} {n : Nat} (hn : pl.length = n) (h : evNew n H v ob = some r) (hk : room pl.length = true → ∃ (d : Nat) (v' : Value) (w' : World), (execOp a.eval o).run P w = .ok (.value v') w' ∧ VT (pl ++ [(w.heap.size, d)]) v v' ∧ Sim P w0 (pl ++ [(w.heap.size, d)]) (T.set HD H pl.length ob) w') : RsOk P w0 pl a o w r := by
  subst hn
  unfold evNew at h
  cases hr : room pl.length with
  | false => simp [hr] at h
  | true =>
    simp only [hr, cond_true, Option.some.injEq] at h
    subst h
    obtain ⟨d, v', w', h1, h2, h3⟩ := hk hr
    exact ⟨[(w.heap.size, d)], v', w', h1, h2, h3, by simp⟩
def evAlloc (P : Program) (n : Nat) (H : T AO) (t : TypeId) : Option Rs :=
  match P.info? t with
  | some i => match i.zero with
    | some z => bif plain z then evNew n H (.pointer (some ⟨n, 0, none⟩)) (.cells z.cells.toList t) else none
    | none => none
  | none => none
theorem evAlloc_ok {w0 : Base} {w : World} {pl : Pl} {H : T AO} {a : Act} {o : Oper} {t : TypeId} {r : Rs} {n : Nat} (hn : pl.length = n) (hs : Sim P w0 pl H w) (ho : o.op = .alloc t) (h : evAlloc P n H t = some r) : RsOk P w0 pl a o w r := by
  unfold evAlloc at h
  split at h
  · rename_i i hi
    split at h
    · rename_i z hz
      cases hp : plain z with
      | false => simp [hp] at h
      | true =>
        simp only [hp, cond_true] at h
        refine evNew_ok hn h (fun hr => ⟨0, .pointer (some ⟨w.heap.size, 0, none⟩), w.alloc (.cells z.cells t), ?_, ?_, new_cells hs hr (Pw_self (plain_cells hp))⟩)
        · unfold execOp
          simp only [ho]
          simp [Instr.alloc, run_zero hi hz, newVar, newRow]
        · rw [← hn]; exact ptr_VT last_pl
    · simp at h
  · simp at h
theorem evBox_ok {w0 : Base} {w : World} {pl : Pl} {H : T AO} {tm : T Value} {a : Act} {o : Oper} {t : TypeId} {x : Operand} {v : Value} {r : Rs} {n : Nat} (hn : pl.length = n) (ht : Tm pl tm a) (hs : Sim P w0 pl H w) (ho : o.op = .box t x) (hx : evO tm x = some v) (htu : isTup v = false) (h : evNew n H (.pointer (some ⟨n, 0, none⟩)) (.cells v.cells.toList t) = some r) : RsOk P w0 pl a o w r := by
  refine evNew_ok hn h (fun hr => ⟨0, .pointer (some ⟨w.heap.size, 0, none⟩), w.alloc (.cells (a.eval x).cells t), ?_, ?_, new_cells hs hr (cells_VA (VT_VA htu (evO_ok ht hx)))⟩)
  · unfold execOp
    simp only [ho]
    simp [Instr.box, newVar, newRow]
  · rw [← hn]; exact ptr_VT last_pl
theorem scal_get {cs : Array Value} (h : cs.toList.all scal = true) (i : Nat) : scal cs[i]! = true := by
  rw [getElem!_def]
  cases hc : cs[i]? with
  | none => rfl
  | some v =>
    have : cs.toList[i]? = some v := by simpa using hc
    exact List.all_eq_true.1 h v (List.mem_of_getElem? this)
theorem Pw_zeros {pl : Pl} {z : Array Value} (h : z.toList.all scal = true) (k : Nat) : Pw (VC pl) ((Array.range k).map (z[· % z.size]!)).toList ((Array.range k).map (z[· % z.size]!)).toList := by
  refine Pw.refl (fun v hv => ?_)
  rw [Array.toList_map, List.mem_map] at hv
  obtain ⟨i, _, rfl⟩ := hv
  exact scal_VC (scal_get h _)
def evBuildSlice (P : Program) (n : Nat) (H : T AO) (tm : T Value) (t : TypeId) (len : Nat) (parts : List (Nat × Operand)) : Option Rs :=
  match P.underlying t, evParts tm parts with
  | some (.slice e), some l => match P.info? e with
    | some i => match i.zero with
      | some z => bif plain z && Nat.ble (len * i.size) 16777216 then
          (bif Nat.beq (len * i.size) 0 then (match l with | [] => evNew n H (.slice (some ⟨n, 0, none⟩) len (2 * len)) (.cells [] e) | _ => none)
          else match Instr.fill (fun j => some (j * i.size, i.size)) ((Array.range (len * i.size)).map (z.cells[· % z.cells.size]!)) l with
            | some c => evNew n H (.slice (some ⟨n, 0, none⟩) len (2 * len)) (.cells c.toList e)
            | none => none) else none
      | none => none
    | none => none
  | _, _ => none
theorem evBuildSlice_ok {w0 : Base} {w : World} {pl : Pl} {H : T AO} {tm : T Value} {a : Act} {o : Oper} {t : TypeId} {len : Nat} {parts : Array (Nat × Operand)} {r : Rs} {n : Nat} (hn : pl.length = n) (ht : Tm pl tm a) (hs : Sim P w0 pl H w) (ho : o.op = .buildSlice t len parts) (h : evBuildSlice P n H tm t len parts.toList = some r) : RsOk P w0 pl a o w r := by
  unfold evBuildSlice at h
  split at h
  · rename_i e l he hl
    split at h
    · rename_i i hi
      split at h
      · rename_i z hz
        cases hc : plain z && Nat.ble (len * i.size) 16777216 with
        | false => simp [hc] at h
        | true =>
          simp only [hc, cond_true] at h
          rw [Bool.and_eq_true] at hc
          have hsm : len * i.size ≤ 16777216 := Nat.le_of_ble_eq_true hc.2
          have hparts := evParts_ok ht hl
          cases h0 : Nat.beq (len * i.size) 0 with
          | true =>
            simp only [h0, cond_true] at h
            have h0' : len * i.size = 0 := Nat.eq_of_beq_eq_true h0
            split at h
            · have hp0 : parts = #[] := by
                have h2 : parts.toList.map (fun (i, x) => (i, a.eval x)) = [] := by
                  cases hq : parts.toList.map (fun (i, x) => (i, a.eval x)) with
                  | nil => rfl
                  | cons _ _ => rw [hq] at hparts; exact hparts.elim
                simpa using h2
              subst hp0
              refine evNew_ok hn h (fun hr => ⟨0, .slice (some ⟨w.heap.size, 0, none⟩) len len, w.alloc (.cells #[] e), ?_, ?_, new_cells hs hr trivial⟩)
              · unfold execOp
                simp only [ho]
                simp [Instr.buildSlice, run_underlying he, sizeOf, typeInfo, hi, h0', Instr.fill, newRow, Array.range_zero']
              · rw [← hn]; exact slice_VT last_pl
            · simp at h
          | false =>
            simp only [h0, cond_false] at h
            split at h
            · rename_i c hf
              obtain ⟨c', h1, h2⟩ := fill_R (pl := pl) _ _ _ _ _ _ hparts (Pw_zeros (plain_cells hc.1) _) hf
              refine evNew_ok hn h (fun hr => ⟨0, .slice (some ⟨w.heap.size, 0, none⟩) len len, w.alloc (.cells c' e), ?_, ?_, new_cells hs hr h2⟩)
              · have := run_buildSlice (P := P) w t e len (parts.map fun (i, x) => (i, a.eval x)) c' i z he hi hz (by omega) (fun e' => by rw [e'] at h0; simp at h0) (by simpa using h1)
                unfold execOp
                simp only [ho, Sem.run_bind, this, Result.andThen_ok]
                rfl
              · rw [← hn]; exact slice_VT last_pl
            · simp at h
      · simp at h
    · simp at h
  · simp at h
theorem evMakeMap_ok {w0 : Base} {w : World} {pl : Pl} {H : T AO} {a : Act} {o : Oper} {t : TypeId} {r : Rs} {n : Nat} (hn : pl.length = n) (hs : Sim P w0 pl H w) (ho : o.op = .makeMap t none) (h : evNew n H (.map (some n)) (.map [] 0) = some r) : RsOk P w0 pl a o w r := by
  refine evNew_ok hn h (fun hr => ⟨0, .map (some w.heap.size), w.alloc (.map #[] 0), ?_, ?_, hs.alloc (room_lt hr) ⟨#[], heap_alloc_new w _, trivial⟩⟩)
  · unfold execOp
    simp [ho, Instr.makeMap]
  · rw [← hn]; exact ⟨w.heap.size, pb_of last_pl, rfl⟩
def evMakeSlice (P : Program) (n : Nat) (H : T AO) (t : TypeId) : Value → Value → Option Rs
  | .int _ l, .int _ c => match P.underlying t with
    | some (.slice e) => match P.info? e with
      | some i => match i.zero with
        | some z => bif plain z && decide (0 ≤ l) && decide (l ≤ c) && decide (c ≤ 1000000) && Nat.ble i.bytes 100000000 then
            evNew n H (.slice (some ⟨n, 0, none⟩) l.toNat (2 * c.toNat)) (.cells (madeCells z.cells (c.toNat * i.size)).toList e) else none
        | none => none
      | none => none
    | _ => none
  | _, _ => none
theorem evMakeSlice_ok {w0 : Base} {w : World} {pl : Pl} {H : T AO} {a : Act} {o : Oper} {t : TypeId} {x y : Operand} {u v : Value} {r : Rs} {n : Nat} (hn : pl.length = n) (hs : Sim P w0 pl H w) (ho : o.op = .makeSlice t x y) (hu : VT pl u (a.eval x)) (hv : VT pl v (a.eval y)) (h : evMakeSlice P n H t u v = some r) : RsOk P w0 pl a o w r := by
  unfold evMakeSlice at h
  split at h
  · rename_i k1 l k2 c
    have hu' : a.eval x = .int k1 l := hu
    have hv' : a.eval y = .int k2 c := hv
    split at h
    · rename_i e he
      split at h
      · rename_i i hi
        split at h
        · rename_i z hz
          cases hc : plain z && decide (0 ≤ l) && decide (l ≤ c) && decide (c ≤ 1000000) && Nat.ble i.bytes 100000000 with
          | false => rw [hc] at h; simp at h
          | true =>
            rw [hc] at h
            simp only [cond_true] at h
            simp only [Bool.and_eq_true, decide_eq_true_eq] at hc
            obtain ⟨⟨⟨⟨c1, c2⟩, c3⟩, c4⟩, c5⟩ := hc
            have c5 : i.bytes ≤ 100000000 := Nat.le_of_ble_eq_true c5
            have hb : (i.bytes : Int) * c ≤ 281474976710656 := by
              have h1 : (i.bytes : Int) ≤ 100000000 := by omega
              have := Int.mul_le_mul h1 c4 (by omega) (by omega)
              omega
            refine evNew_ok hn h (fun hr => ⟨0, .slice (some ⟨w.heap.size, 0, none⟩) l.toNat c.toNat, w.alloc (.cells (madeCells z.cells (c.toNat * i.size)) e), ?_, ?_, new_cells hs hr ?_⟩)
            · unfold execOp
              simp only [ho, hu', hv', Sem.run_bind, run_make (P := P) w t e i z he hi hz k1 k2 l c c2 c3 hb (by omega), Result.andThen_ok]
              rfl
            · rw [← hn]; exact slice_VT last_pl
            · exact Pw_zeros (plain_cells c1) _
        · simp at h
      · simp at h
    · simp at h
  · simp at h
/-- Cells written one behind another. -/
def putL : List Value → Nat → List Value → List Value
  | cs, _, [] => cs
  | cs, o, v :: vs => putL (cs.set o v) (o + 1) vs
def putA : Array Value → Nat → List Value → Array Value
  | cc, _, [] => cc
  | cc, o, v :: vs => putA (cc.setIfInBounds o v) (o + 1) vs
theorem putL_length : ∀ (vs cs : List Value) (o : Nat), (putL cs o vs).length = cs.length
  | [], _, _ => rfl
  | v :: vs, cs, o => by
    show (putL (cs.set o v) (o + 1) vs).length = _
    rw [putL_length vs, List.length_set]
theorem putA_size : ∀ (vs : List Value) (cc : Array Value) (o : Nat), (putA cc o vs).size = cc.size
  | [], _, _ => rfl
  | v :: vs, cc, o => by
    show (putA (cc.setIfInBounds o v) (o + 1) vs).size = _
    rw [putA_size vs, Array.size_setIfInBounds]
theorem put_Cl {pl : Pl} : ∀ {vs vs' : List Value} {cs : List Value} {cc : Array Value} {o : Nat}, Pw (VC pl) vs vs' → Cl pl cs cc → Cl pl (putL cs o vs) (putA cc o vs')
  | [], [], _, _, _, _, h => h
  | v :: vs, v' :: vs', cs, cc, o, ⟨h1, h2⟩, h => put_Cl (o := o + 1) h2 (cs := cs.set o v) (cc := cc.setIfInBounds o v') ⟨by rw [List.length_set, Array.size_setIfInBounds]; exact h.1, by
      rw [List.length_set, Array.toList_setIfInBounds, List.take_set]
      exact Pw.set h1 o h.2⟩
  | [], _ :: _, _, _, _, h2, _ => h2.elim
  | _ :: _, [], _, _, _, h2, _ => h2.elim
theorem heap_set_other (w : World) (g o k : Nat) (v : Value) (h : k ≠ g) : (w.setCell ⟨g, o, none⟩ v).heap[k]? = w.heap[k]? := heap_setCell_other w ⟨g, o, none⟩ k v h
theorem heap_setCells {e : TypeId} (g : Nat) : ∀ (vs : List Value) (o : Nat) (w : World) (cc : Array Value), w.heap[g]? = some (.cells cc e (0, 0)) → (w.setCells g o vs).heap[g]? = some (.cells (putA cc o vs) e (0, 0))
  | [], _, _, _, h => h
  | v :: vs, o, w, cc, h => heap_setCells g vs (o + 1) (w.setCell ⟨g, o, none⟩ v) (cc.setIfInBounds o v) (heap_setCell_same w g o cc e v h)
theorem other_setCells (g k : Nat) (hk : k ≠ g) : ∀ (vs : List Value) (o : Nat) (w : World), (w.setCells g o vs).heap[k]? = w.heap[k]?
  | [], _, _ => rfl
  | v :: vs, o, w => (other_setCells g k hk vs (o + 1) _).trans (heap_set_other w g o k v hk)
theorem rest_setCells (g : Nat) : ∀ (vs : List Value) (o : Nat) (w : World), (w.setCells g o vs).heap.size = w.heap.size ∧ (w.setCells g o vs).os = w.os ∧ (w.setCells g o vs).tape = w.tape ∧ (w.setCells g o vs).output = w.output
  | [], _, _ => ⟨rfl, rfl, rfl, rfl⟩
  | v :: vs, o, w => by
    have ih := rest_setCells g vs (o + 1) (w.setCell ⟨g, o, none⟩ v)
    have h1 : (w.setCell ⟨g, o, none⟩ v).heap.size = w.heap.size := by simp [World.setCell]
    exact ⟨ih.1.trans h1, ih.2.1, ih.2.2.1, ih.2.2.2⟩
theorem get_lt {α : Type} {d k : Nat} {t : T α} {v : α} (h : get d t k = some v) : k < 2 ^ d := by
  unfold get at h
  cases hb : Nat.blt k (2 ^ d) with
  | false => simp [hb] at h
  | true => exact Nat.le_of_ble_eq_true hb
/-- Cells of a block are written. -/
theorem Sim.put {w0 : Base} {w : World} {pl : Pl} {H : T AO} {r off b d : Nat} {cs vs vs' : List Value} {e : TypeId} (hs : Sim P w0 pl H w) (hg : get HD H r = some (.cells cs e)) (hb : pl[r]? = some (b, d)) (hv : Pw (VC pl) vs vs') : Sim P w0 pl (T.set HD H r (.cells (putL cs off vs) e)) (w.setCells b off vs') := by
  obtain ⟨b2, d2, hb2, _, cc, h1, h2, h3⟩ := hs.at_ r _ hg rfl
  rw [hb] at hb2
  injection hb2 with hb2
  injection hb2 with e1 e2
  subst e1 e2
  obtain ⟨s1, s2, s3, s4⟩ := rest_setCells b vs' off w
  exact hs.upd (get_lt hg) hg rfl hb s1 s2 s3 s4 (fun k hk => other_setCells b k hk vs' off w) ⟨_, heap_setCells b vs' off w cc h1, put_Cl hv h2, by rw [putL_length, putA_size]; exact h3⟩
theorem there_of {pl : Pl} {w : World} {b off n : Nat} {cs : List Value} {cc : Array Value} {e : TypeId} (h : w.heap[b]? = some (.cells cc e (0, 0))) (hn : off + n ≤ cc.size) : w.there b off n := fun j hj => by
  refine ⟨?_, ?_⟩
  · unfold World.cell?
    rw [h]
    simp
    omega
  · unfold World.frozen?
    rw [h]
    simp
def evStore (P : Program) (n : Nat) (H : T AO) (t : TypeId) (p v : Value) : Option Rs :=
  match p with
  | .pointer (some ⟨r, off, none⟩) => match get HD H r, P.info? t with
    | some (.cells cs e), some i => bif Nat.beq v.cells.size i.size && Nat.ble (off + i.size) cs.length && !isTup v then some (.skip n (T.set HD H r (.cells (putL cs off v.cells.toList) e))) else none
    | _, _ => none
  | _ => none
theorem run_storeVar {w : World} {b off : Nat} {t : TypeId} {v : Value} {i : TypeInfo} (hi : P.info? t = some i) (hs : v.cells.size = i.size) (ht : w.there b off v.cells.size) (h1 : ∀ u ∈ v.cells.toList, u.oneCell' = true) : (storeVar t ⟨b, off, none⟩ v).run P w = .ok () (w.setCells b off v.cells.toList) := by
  have := run_storeCells_cells (P := P) b off v.cells.toList 0 w (fun j hj => by simpa using (ht j (by simpa using hj)).1) (fun j hj => by simpa using (ht j (by simpa using hj)).2) h1
  simp only [Nat.add_zero] at this
  simp [storeVar, sizeOf, typeInfo, hi, hs, this]
theorem evStore_ok {w0 : Base} {w : World} {pl : Pl} {H : T AO} {tm : T Value} {a : Act} {o : Oper} {t : TypeId} {x y : Operand} {p v : Value} {r : Rs} {n : Nat} (hn : pl.length = n) (ht : Tm pl tm a) (hs : Sim P w0 pl H w) (ho : o.op = .store t x y) (hx : evO tm x = some p) (hy : evO tm y = some v) (h : evStore P n H t p v = some r) : RsOk P w0 pl a o w r := by
  unfold evStore at h
  split at h
  · rename_i r0 off
    split at h
    · rename_i cs e i hg hi
      cases hc : Nat.beq v.cells.size i.size && Nat.ble (off + i.size) cs.length && !isTup v with
      | false => rw [hc] at h; simp at h
      | true =>
        rw [hc] at h
        simp only [cond_true, Option.some.injEq] at h
        subst h
        simp only [Bool.and_eq_true, Bool.not_eq_true'] at hc
        obtain ⟨⟨c1, c2⟩, c3⟩ := hc
        have c1 := Nat.eq_of_beq_eq_true c1
        have c2 := Nat.le_of_ble_eq_true c2
        obtain ⟨p', hp1, hp2⟩ := (evO_ok ht hx : VP pl (.pointer (some ⟨r0, off, none⟩)) (a.eval x))
        obtain ⟨b, hb, rfl⟩ := AR_none hp1
        obtain ⟨d, hbd⟩ := pb_some hb
        have hcell := cells_VA (VT_VA c3 (evO_ok ht hy))
        have hlen : (a.eval y).cells.size = i.size := by have := hcell.length; simp at this; omega
        obtain ⟨b2, d2, hb2, _, cc, h1, h2, h3⟩ := hs.at_ r0 _ hg rfl
        rw [hbd] at hb2
        injection hb2 with hb2
        injection hb2 with e1 e2
        subst e1 e2
        refine ⟨[], w.setCells b off (a.eval y).cells.toList, ?_, ?_, by simpa using hn⟩
        · have := run_storeVar (P := P) (w := w) (b := b) (off := off) hi hlen (there_of (pl := pl) (cs := cs) h1 (by rw [hlen]; have := h2.1; omega)) (Pw_one hcell)
          unfold execOp
          simp [ho, hp2, Instr.storeAt, Instr.sureAddr, this]
        · rw [List.append_nil]
          exact hs.put hg hbd hcell
    · simp at h
  · simp at h
end Go.Proofs.YteeclengpnjlgaaGreat.Ev
