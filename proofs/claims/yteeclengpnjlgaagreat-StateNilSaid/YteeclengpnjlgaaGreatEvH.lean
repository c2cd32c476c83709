import Derived.Test.YteeclengpnjlgaaGreatEvG
/- A closed run, reckoned: maps. -/
namespace Go.Proofs.YteeclengpnjlgaaGreat.Ev
set_option linter.unusedVariables false
set_option linter.unusedSimpArgs false
open Go.RowKit
variable {P : Program}
def putO (w : World) (b : Nat) (o : Obj) : World := { w with heap := w.heap.setIfInBounds b o }
theorem run_setMap {w : World} {b : Nat} {es es2 : Array MapEntry} {k k2 : Nat} (h : w.heap[b]? = some (.map es k)) : (setObj b (.map es2 k2)).run P w = .ok () (putO w b (.map es2 k2)) := by
  simp [setObj, Sem.run, h, putO]
theorem putO_same {w : World} {b : Nat} {o : Obj} (h : b < w.heap.size) : (putO w b o).heap[b]? = some o := by
  simp [putO, Array.getElem?_setIfInBounds, h]
theorem putO_other {w : World} {b k : Nat} {o : Obj} (h : k ≠ b) : (putO w b o).heap[k]? = w.heap[k]? := by
  simp [putO, Array.getElem?_setIfInBounds, Ne.symm h]
/-- A map is written anew. -/
theorem Sim.putMap {w0 : Base} {w : World} {pl : Pl} {H : T AO} {r b d : Nat} {es es2 : List MapEntry} {es2' : Array MapEntry} {k k2 : Nat} (hs : Sim P w0 pl H w) (hg : get HD H r = some (.map es k)) (hb : pl[r]? = some (b, d)) (he : Es pl es2 es2'.toList) : Sim P w0 pl (T.set HD H r (.map es2 k2)) (putO w b (.map es2' k2)) := by
  have hlt := hs.ltb hg rfl (pb_of hb)
  exact hs.upd (get_lt hg) hg rfl hb (by simp [putO]) rfl rfl rfl (fun k hk => putO_other hk) ⟨_, putO_same hlt, he⟩
theorem Es.modify {pl : Pl} {f f' : MapEntry → MapEntry} (hf : ∀ e e', Er pl e e' → Er pl (f e) (f' e')) : ∀ {l m : List MapEntry} (i : Nat), Es pl l m → Es pl (l.modify i f) (m.modify i f')
  | [], [], _, _ => by simp [Es]
  | _ :: _, _ :: _, 0, ⟨h1, h2⟩ => ⟨hf _ _ h1, h2⟩
  | _ :: _, _ :: _, i + 1, ⟨h1, h2⟩ => ⟨h1, Es.modify hf i h2⟩
  | [], _ :: _, _, h2 => h2.elim
  | _ :: _, [], _, h2 => h2.elim
theorem Es.append {pl : Pl} : ∀ {l m l2 m2 : List MapEntry}, Es pl l m → Es pl l2 m2 → Es pl (l ++ l2) (m ++ m2)
  | [], [], _, _, _, h => h
  | _ :: _, _ :: _, _, _, ⟨h1, h2⟩, h => ⟨h1, Es.append h2 h⟩
  | [], _ :: _, _, _, h2, _ => h2.elim
  | _ :: _, [], _, _, h2, _ => h2.elim
theorem Es.eraseIdx {pl : Pl} : ∀ {l m : List MapEntry} (i : Nat), Es pl l m → Es pl (l.eraseIdx i) (m.eraseIdx i)
  | [], [], _, _ => by simp [Es]
  | _ :: _, _ :: _, 0, ⟨_, h2⟩ => h2
  | _ :: _, _ :: _, i + 1, ⟨h1, h2⟩ => ⟨h1, Es.eraseIdx i h2⟩
  | [], _ :: _, _, h2 => h2.elim
  | _ :: _, [], _, h2 => h2.elim
theorem Es.get {pl : Pl} : ∀ {l m : List MapEntry} {i : Nat} {e : MapEntry}, Es pl l m → l[i]? = some e → ∃ e', m[i]? = some e' ∧ Er pl e e'
  | _ :: _, b :: _, 0, v, ⟨h1, _⟩, h => by
    simp at h
    subst h
    exact ⟨b, rfl, h1⟩
  | _ :: _, _ :: _, i + 1, v, ⟨_, h2⟩, h => by
    simp at h
    obtain ⟨v', e, r⟩ := Es.get h2 h
    exact ⟨v', by simpa using e, r⟩
  | [], _, _, _, _, h => by simp at h
  | _ :: _, [], _, _, h2, _ => h2.elim
/-- What a found entry is. -/
theorem findNow_at {q2 q : IntKind} {x : Int} : ∀ {es : List MapEntry} {i j : Nat} {v : Value}, Instr.findNow (.int q2) (.int q x) es i = some (some (j, v)) → ∃ k e, j = i + k ∧ es[k]? = some e ∧ e.key = .int q x ∧ e.val = v
  | [], _, _, _, h => by simp [Instr.findNow] at h
  | e :: es, i, j, v, h => by
    unfold Instr.findNow at h
    cases hs : Instr.sameNow (.int q2) (.int q x) e.key with
    | none => simp [hs] at h
    | some b =>
      cases b with
      | true =>
        simp [hs] at h
        refine ⟨0, e, by omega, rfl, ?_, h.2⟩
        cases hk : e.key <;> rw [hk] at hs <;> simp [Instr.sameNow] at hs
        obtain ⟨rfl, rfl⟩ := hs
        rfl
      | false =>
        simp [hs] at h
        obtain ⟨k, e', h1, h2, h3⟩ := findNow_at h
        exact ⟨k + 1, e', by omega, by simpa using h2, h3⟩
theorem run_stays {q : IntKind} {x : Int} (w : World) : (Instr.keyThatStays (.int q x) (.int q x)).run P w = .ok (.int q x) w := by
  simp [Instr.keyThatStays, Instr.sameBits]
/-- A map and a key, as they are told. -/
def evMapOf (P : Program) (H : T AO) (t : TypeId) (m k : Value) : Option (Nat × TypeId × List MapEntry × Nat × Value × Option (Nat × Value)) :=
  match m, k, P.underlying t with
  | .map (some r), .int q x, some (.map kt et) => match get HD H r, P.underlying kt with
    | some (.map es c), some (.int q2) => (Instr.findNow (.int q2) (.int q x) es 0).map fun f => (r, et, es, c, .int q x, f)
    | _, _ => none
  | _, _, _ => none
/-- What stands behind evMapOf. -/
theorem evMapOf_spec {w0 : Base} {w : World} {pl : Pl} {H : T AO} {tm : T Value} {a : Act} {t et : TypeId} {xm xk : Operand} {m k key : Value} {r c : Nat} {es : List MapEntry} {f : Option (Nat × Value)} (ht : Tm pl tm a) (hs : Sim P w0 pl H w) (hm : evO tm xm = some m) (hk : evO tm xk = some k) (h : evMapOf P H t m k = some (r, et, es, c, key, f)) :
    ∃ (q q2 : IntKind) (x : Int) (kt : TypeId) (b d : Nat) (es' : Array MapEntry), key = .int q x ∧ a.eval xm = .map (some b) ∧ a.eval xk = .int q x ∧ P.underlying t = some (.map kt et) ∧ P.underlying kt = some (.int q2) ∧ get HD H r = some (.map es c) ∧ pl[r]? = some (b, d) ∧ w.heap[b]? = some (.map es' c) ∧ Es pl es es'.toList ∧
      ((f = none ∧ Instr.findNow (.int q2) (.int q x) es'.toList 0 = some none) ∨
      (∃ j v v' e e', f = some (j, v) ∧ Instr.findNow (.int q2) (.int q x) es'.toList 0 = some (some (j, v')) ∧ VA pl v v' ∧ es[j]? = some e ∧ es'[j]? = some e' ∧ e'.key = .int q x ∧ e'.born = e.born)) := by
  unfold evMapOf at h
  split at h
  · rename_i r0 q x kt et0 hu
    split at h
    · rename_i es0 c0 q2 hg hkt
      cases hf : Instr.findNow (.int q2) (.int q x) es0 0 with
      | none => simp [hf] at h
      | some f0 =>
        simp only [hf, Option.map_some, Option.some.injEq, Prod.mk.injEq] at h
        obtain ⟨rfl, rfl, rfl, rfl, rfl, rfl⟩ := h
        obtain ⟨b, hb, hm2⟩ := (evO_ok ht hm : VP pl (.map (some r0)) (a.eval xm))
        have hk2 : a.eval xk = .int q x := evO_ok ht hk
        obtain ⟨b2, d2, hb2, _, es', hw, hes⟩ := hs.at_ r0 _ hg rfl
        have : b2 = b := by have := pb_of hb2; rw [hb] at this; injection this with e; exact e.symm
        subst this
        refine ⟨q, q2, x, kt, b2, d2, es', rfl, hm2, hk2, hu, hkt, hg, hb2, hw, hes, ?_⟩
        have hR := findNow_R hes _ hf
        cases f0 with
        | none => exact .inl ⟨rfl, hR⟩
        | some p =>
          obtain ⟨j, v⟩ := p
          obtain ⟨v', h1, h2⟩ := hR
          obtain ⟨k1, e1, h3, h4, _, _⟩ := findNow_at hf
          obtain ⟨k2, e2, h5, h6, h7, _⟩ := findNow_at h1
          have : k1 = j := by omega
          subst this
          have : k2 = k1 := by omega
          subst this
          obtain ⟨e3, h8, h9⟩ := hes.get h4
          rw [h6] at h8
          injection h8 with h8
          subst h8
          exact .inr ⟨k2, v, v', e1, e2, rfl, h1, h2, h4, by simpa using h6, h7, h9.2.1⟩
    · simp at h
  · simp at h
def evMapUpdate (P : Program) (n : Nat) (H : T AO) (t : TypeId) (m k v : Value) : Option Rs :=
  bif isTup v then none else
  match evMapOf P H t m k with
  | some (r, _, es, c, key, some (i, _)) => some (.skip n (T.set HD H r (.map (es.modify i fun e => { e with key := key, val := v }) c)))
  | some (r, _, es, c, key, none) => some (.skip n (T.set HD H r (.map (es ++ [{ key := key, val := v, born := c }]) (c + 1))))
  | none => none
theorem evMapUpdate_ok {w0 : Base} {w : World} {pl : Pl} {H : T AO} {tm : T Value} {a : Act} {o : Oper} {t : TypeId} {xm xk xv : Operand} {m k v : Value} {rs : Rs} {n : Nat} (hn : pl.length = n) (ht : Tm pl tm a) (hs : Sim P w0 pl H w) (ho : o.op = .mapUpdate t xm xk xv) (hm : evO tm xm = some m) (hk : evO tm xk = some k) (hv : evO tm xv = some v) (h : evMapUpdate P n H t m k v = some rs) : RsOk P w0 pl a o w rs := by
  unfold evMapUpdate at h
  cases htu : isTup v with
  | true => simp [htu] at h
  | false =>
    simp only [htu, cond_false] at h
    have hva := VT_VA htu (evO_ok ht hv)
    split at h
    · rename_i r et es c key i u hmo
      injection h with h
      subst h
      obtain ⟨q, q2, x, kt, b, d, es', rfl, h1, h2, h3, h4, h5, h6, h7, h8, ⟨h0, _⟩ | ⟨i, u, v', e, e', h0, h9, h10, h11, h12, h13, h14⟩⟩ := evMapOf_spec ht hs hm hk hmo
      · cases h0
      injection h0 with h0
      injection h0 with h0a h0b
      subst h0a h0b
      refine ⟨[], putO w b (.map (es'.modify i fun e => { e with key := .int q x, val := a.eval xv }) c), ?_, ?_, by simpa using hn⟩
      · unfold execOp
        simp only [ho, h1, h2, Instr.mapUpdate, Sem.run_bind, run_underlying h3, Result.andThen_ok, run_getMap h7, run_checkKey h4, run_findKey h4 h9, h12, Option.map_some, Option.getD_some, h13, run_stays, run_setMap h7]
        rfl
      · rw [List.append_nil]
        refine hs.putMap h5 h6 ?_
        rw [Array.toList_modify]
        exact h8.modify (f := fun e => { e with key := .int q x, val := v }) (f' := fun e => { e with key := .int q x, val := a.eval xv }) (fun e e' he => ⟨rfl, he.2.1, hva⟩) i
    · rename_i r et es c key hmo
      injection h with h
      subst h
      obtain ⟨q, q2, x, kt, b, d, es', rfl, h1, h2, h3, h4, h5, h6, h7, h8, ⟨_, h9⟩ | ⟨_, _, _, _, _, h0, _⟩⟩ := evMapOf_spec ht hs hm hk hmo
      rotate_left
      · cases h0
      refine ⟨[], putO w b (.map (es'.push { key := .int q x, val := a.eval xv, born := c }) (c + 1)), ?_, ?_, by simpa using hn⟩
      · unfold execOp
        simp only [ho, h1, h2, Instr.mapUpdate, Sem.run_bind, run_underlying h3, Result.andThen_ok, run_getMap h7, run_checkKey h4, run_findKey h4 h9, run_setMap h7]
        rfl
      · rw [List.append_nil]
        refine hs.putMap h5 h6 ?_
        rw [Array.toList_push]
        exact h8.append ⟨⟨rfl, rfl, hva⟩, trivial⟩
    · simp at h
def evMapEntry (P : Program) (n : Nat) (H : T AO) (t : TypeId) (m k : Value) : Option Rs :=
  match evMapOf P H t m k with
  | some (r, _, es, c, key, some (i, v)) => (es[i]?).map fun e => .val (.tuple #[v, .int .i64 e.born]) n (T.set HD H r (.map (es.modify i fun e => { e with key := key }) c))
  | some (r, et, es, c, key, none) => match P.info? et with
    | some inf => match inf.zero with
      | some z => bif plain z then some (.val (.tuple #[z, .int .i64 c]) n (T.set HD H r (.map (es ++ [{ key := key, val := z, born := c }]) (c + 1)))) else none
      | none => none
    | none => none
  | none => none
theorem tup2i {pl : Pl} {v v' : Value} (x : Int) (h : VA pl v v') : VT pl (.tuple #[v, .int .i64 x]) (.tuple #[v', .int .i64 x]) := ⟨_, rfl, h, rfl, trivial⟩
theorem plain_VA {pl : Pl} {z : Value} (h : plain z = true) : VA pl z z := VT_VA (by cases z <;> first | rfl | (simp [plain, scal] at h)) (plain_VT (pl := pl) h)
theorem evMapEntry_ok {w0 : Base} {w : World} {pl : Pl} {H : T AO} {tm : T Value} {a : Act} {o : Oper} {t : TypeId} {xm xk : Operand} {m k : Value} {rs : Rs} {n : Nat} (hn : pl.length = n) (ht : Tm pl tm a) (hs : Sim P w0 pl H w) (ho : o.op = .mapEntry t xm xk) (hm : evO tm xm = some m) (hk : evO tm xk = some k) (h : evMapEntry P n H t m k = some rs) : RsOk P w0 pl a o w rs := by
  unfold evMapEntry at h
  split at h
  · rename_i r et es c key i u hmo
    obtain ⟨q, q2, x, kt, b, d, es', rfl, h1, h2, h3, h4, h5, h6, h7, h8, ⟨h0, _⟩ | ⟨i, u, v', e, e', h0, h9, h10, h11, h12, h13, h14⟩⟩ := evMapOf_spec ht hs hm hk hmo
    · cases h0
    injection h0 with h0
    injection h0 with h0a h0b
    subst h0a h0b
    rw [h11] at h
    simp only [Option.map_some, Option.some.injEq] at h
    subst h
    refine ⟨[], .tuple #[v', .int .i64 e.born], putO w b (.map (es'.modify i fun e => { e with key := .int q x }) c), ?_, ?_, ?_, by simpa using hn⟩
    · unfold execOp
      simp only [ho, h1, h2, Instr.mapEntry, Sem.run_bind, run_underlying h3, Result.andThen_ok, run_getMap h7, run_checkKey h4, run_findKey h4 h9, h12, Option.map_some, Option.getD_some, h13, run_stays, run_setMap h7, h14, goInt]
      rfl
    · rw [List.append_nil]; exact tup2i _ h10
    · rw [List.append_nil]
      refine hs.putMap h5 h6 ?_
      rw [Array.toList_modify]
      exact h8.modify (f := fun e => { e with key := .int q x }) (f' := fun e => { e with key := .int q x }) (fun e e' he => ⟨rfl, he.2.1, he.2.2⟩) i
  · rename_i r et es c key hmo
    obtain ⟨q, q2, x, kt, b, d, es', rfl, h1, h2, h3, h4, h5, h6, h7, h8, ⟨_, h9⟩ | ⟨_, _, _, _, _, h0, _⟩⟩ := evMapOf_spec ht hs hm hk hmo
    rotate_left
    · cases h0
    split at h
    · rename_i inf hi
      split at h
      · rename_i z hz
        cases hp : plain z with
        | false => simp [hp] at h
        | true =>
          simp only [hp, cond_true, Option.some.injEq] at h
          subst h
          refine ⟨[], .tuple #[z, .int .i64 c], putO w b (.map (es'.push { key := .int q x, val := z, born := c }) (c + 1)), ?_, ?_, ?_, by simpa using hn⟩
          · unfold execOp
            simp only [ho, h1, h2, Instr.mapEntry, Sem.run_bind, run_underlying h3, Result.andThen_ok, run_getMap h7, run_checkKey h4, run_findKey h4 h9, run_setMap h7, run_zero hi hz, goInt]
            rfl
          · rw [List.append_nil]; exact tup2i _ (plain_VA hp)
          · rw [List.append_nil]
            refine hs.putMap h5 h6 ?_
            rw [Array.toList_push]
            exact h8.append ⟨⟨rfl, rfl, plain_VA hp⟩, trivial⟩
      · simp at h
    · simp at h
  · simp at h
def evEntryStore (n : Nat) (H : T AO) (m k v : Value) : Option Rs :=
  match m, k with
  | .map (some r), .int _ x => match get HD H r with
    | some (.map es c) => match es.findIdx? (fun e => (e.born : Int) == x) with
      | some i => bif isTup v then none else some (.skip n (T.set HD H r (.map (es.modify i fun e => { e with val := v }) c)))
      | none => none
    | _ => none
  | _, _ => none
theorem findIdx_R {pl : Pl} {x : Int} : ∀ {l m : List MapEntry}, Es pl l m → m.findIdx? (fun e => (e.born : Int) == x) = l.findIdx? (fun e => (e.born : Int) == x)
  | [], [], _ => rfl
  | a :: l, b :: m, ⟨h1, h2⟩ => by
    rw [List.findIdx?_cons, List.findIdx?_cons, findIdx_R h2, h1.2.1]
  | [], _ :: _, h2 => h2.elim
  | _ :: _, [], h2 => h2.elim
theorem evEntryStore_ok {w0 : Base} {w : World} {pl : Pl} {H : T AO} {tm : T Value} {a : Act} {o : Oper} {t : TypeId} {xm xk xv : Operand} {m k v : Value} {rs : Rs} {n : Nat} (hn : pl.length = n) (ht : Tm pl tm a) (hs : Sim P w0 pl H w) (ho : o.op = .entryStore t xm xk xv) (hm : evO tm xm = some m) (hk : evO tm xk = some k) (hv : evO tm xv = some v) (h : evEntryStore n H m k v = some rs) : RsOk P w0 pl a o w rs := by
  unfold evEntryStore at h
  split at h
  · rename_i r q x
    split at h
    · rename_i es c hg
      split at h
      · rename_i i hf
        cases htu : isTup v with
        | true => simp [htu] at h
        | false =>
          simp only [htu, cond_false, Option.some.injEq] at h
          subst h
          have hva := VT_VA htu (evO_ok ht hv)
          obtain ⟨b, hb, hm2⟩ := (evO_ok ht hm : VP pl (.map (some r)) (a.eval xm))
          have hk2 : a.eval xk = .int q x := evO_ok ht hk
          obtain ⟨b2, d2, hb2, _, es', hw, hes⟩ := hs.at_ r _ hg rfl
          have : b2 = b := by have := pb_of hb2; rw [hb] at this; injection this with e; exact e.symm
          subst this
          have hf' : es'.findIdx? (fun e => (e.born : Int) == x) = some i := by
            have := findIdx_R (x := x) hes
            rw [hf] at this
            rw [← this]
            cases es' with
            | mk l => simp
          refine ⟨[], putO w b2 (.map (es'.modify i fun e => { e with val := a.eval xv }) c), ?_, ?_, by simpa using hn⟩
          · unfold execOp
            simp only [ho, hm2, hk2, Instr.entryStore, Sem.run_bind, Result.andThen_ok, run_getMap hw, asInt, asIntOf, Sem.run_pure, hf', run_setMap hw]
          · rw [List.append_nil]
            refine hs.putMap hg hb2 ?_
            rw [Array.toList_modify]
            exact hes.modify (f := fun e => { e with val := v }) (f' := fun e => { e with val := a.eval xv }) (fun e e' he => ⟨he.1, he.2.1, hva⟩) i
      · simp at h
    · simp at h
  · simp at h
def evDelete (P : Program) (n : Nat) (H : T AO) (t : TypeId) (m k : Value) : Option Rs :=
  match evMapOf P H t m k with
  | some (r, _, es, c, _, some (i, _)) => some (.val (.tuple #[]) n (T.set HD H r (.map (es.eraseIdx i) c)))
  | some (r, _, es, c, _, none) => some (.val (.tuple #[]) n (T.set HD H r (.map es c)))
  | none => none
theorem evDelete_ok {w0 : Base} {w : World} {pl : Pl} {H : T AO} {tm : T Value} {a : Act} {o : Oper} {t t2 : TypeId} {xm xk : Operand} {m k : Value} {rs : Rs} {n : Nat} {cl : Call} (hn : pl.length = n) (ht : Tm pl tm a) (hs : Sim P w0 pl H w) (ho : o.op = .call cl) (e1 : cl.callee = .builtin .delete) (e2 : cl.args = #[xm, xk]) (e3 : cl.argTypes = #[t, t2]) (hm : evO tm xm = some m) (hk : evO tm xk = some k) (h : evDelete P n H t m k = some rs) : RsOk P w0 pl a o w rs := by
  unfold evDelete at h
  split at h
  · rename_i r et es c key i u hmo
    injection h with h
    subst h
    obtain ⟨q, q2, x, kt, b, d, es', rfl, h1, h2, h3, h4, h5, h6, h7, h8, ⟨h0, _⟩ | ⟨i, u, v', e, e', h0, h9, h10, h11, h12, h13, h14⟩⟩ := evMapOf_spec ht hs hm hk hmo
    · cases h0
    injection h0 with h0
    injection h0 with h0a h0b
    subst h0a h0b
    refine ⟨[], .tuple #[], putO w b (.map (es'.eraseIdxIfInBounds i) c), ?_, ⟨_, rfl, trivial⟩, ?_, by simpa using hn⟩
    · unfold execOp
      simp [ho, resolve, e1, e2, e3, invoke, builtin, h1, h2, Builtin.delete_, run_underlying h3, run_getMap h7, run_checkKey h4, run_findKey h4 h9, run_setMap h7]
    · rw [List.append_nil]
      refine hs.putMap h5 h6 ?_
      rw [Array.toList_eraseIdxIfInBounds]
      exact h8.eraseIdx i
  · rename_i r et es c key hmo
    injection h with h
    subst h
    obtain ⟨q, q2, x, kt, b, d, es', rfl, h1, h2, h3, h4, h5, h6, h7, h8, ⟨_, h9⟩ | ⟨_, _, _, _, _, h0, _⟩⟩ := evMapOf_spec ht hs hm hk hmo
    rotate_left
    · cases h0
    refine ⟨[], .tuple #[], putO w b (.map es' c), ?_, ⟨_, rfl, trivial⟩, ?_, by simpa using hn⟩
    · unfold execOp
      simp [ho, resolve, e1, e2, e3, invoke, builtin, h1, h2, Builtin.delete_, run_underlying h3, run_getMap h7, run_checkKey h4, run_findKey h4 h9, run_setMap h7]
    · rw [List.append_nil]
      exact hs.putMap h5 h6 h8
  · simp at h
end Go.Proofs.YteeclengpnjlgaaGreat.Ev
