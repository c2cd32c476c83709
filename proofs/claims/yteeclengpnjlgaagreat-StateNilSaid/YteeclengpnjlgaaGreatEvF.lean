import Derived.Test.YteeclengpnjlgaaGreatEvE
/- A closed run, reckoned: operations that read memory. -/
namespace Go.Proofs.YteeclengpnjlgaaGreat.Ev
set_option linter.unusedVariables false
set_option linter.unusedSimpArgs false
open Go.RowKit
variable {P : Program}
/-- What is read, and of which block. -/
def evLoad (P : Program) (H : T AO) (tm : T Value) (o : Oper) : Option (Value × Nat) :=
  match o.op with
  | .load t x => match evO tm x with
    | some (.pointer (some ⟨r, off, none⟩)) => match get HD H r, P.underlying t, P.info? t with
      | some (.cells cs e), some d, some i => bif d.isRow then
          (bif Nat.beq ((cs.drop off).take i.size).length i.size then some (.agg ((cs.drop off).take i.size).toArray, r) else none)
        else (match cs[off]? with | some v => some (v, r) | none => none)
      | _, _, _ => none
    | _ => none
  | .lookup t m k ok => match evO tm m, evO tm k, P.underlying t with
    | some (.map (some r)), some (.int q n), some (.map kt et) => match get HD H r, P.underlying kt, P.info? et with
      | some (.map es _), some (.int q2), some i => match i.zero with
        | some z => bif plain z then (match Instr.findNow (.int q2) (.int q n) es 0 with
          | some (some (_, v)) => some (bif ok then .tuple #[v, .bool true] else v, r)
          | some none => some (bif ok then .tuple #[z, .bool false] else z, r)
          | none => none) else none
        | none => none
      | _, _, _ => none
    | _, _, _ => none
  | .call c => match c.callee, c.args.toList, c.argTypes.toList with
    | .builtin .len, [x], [t] => (match evO tm x, P.underlying t with
      | some (.map (some r)), some (.map _ _) => match get HD H r with
        | some (.map es _) => some (.int .i64 es.length, r)
        | _ => none
      | _, _ => none)
    | _, _, _ => none
  | _ => none
theorem AR_none {pl : Pl} {r off : Nat} {p' : Addr} (h : AR pl ⟨r, off, none⟩ p') : ∃ b, pb pl r = some b ∧ p' = ⟨b, off, none⟩ := by
  obtain ⟨b, off', sp⟩ := p'
  obtain ⟨h1, h2, h3⟩ := h
  simp only at h1 h2 h3
  subst h2 h3
  exact ⟨b, h1, rfl⟩
theorem Cl.get {pl : Pl} {cs : List Value} {cc : Array Value} (h : Cl pl cs cc) {i : Nat} {v : Value} (hi : cs[i]? = some v) : ∃ v', cc[i]? = some v' ∧ VC pl v v' := by
  obtain ⟨v', h1, h2⟩ := h.2.get hi
  have hlt := (List.getElem?_eq_some_iff.1 hi).1
  rw [List.getElem?_take_of_lt hlt] at h1
  exact ⟨v', by simpa using h1, h2⟩
theorem Cl.range {pl : Pl} {cs : List Value} {cc : Array Value} (h : Cl pl cs cc) (off n : Nat) (hn : ((cs.drop off).take n).length = n) : ∃ l', Pw (VC pl) ((cs.drop off).take n) l' ∧ l'.length = n ∧ ∀ j v, l'[j]? = some v → cc[off + j]? = some v := by
  refine ⟨((cc.toList.take cs.length).drop off).take n, (h.2.drop off).take n, ?_, ?_⟩
  · exact ((h.2.drop off).take n).length.trans hn
  · intro j v hj
    have hj' : j < n := by
      have := (List.getElem?_eq_some_iff.1 hj).1
      simp at this
      omega
    rw [List.getElem?_take_of_lt hj', List.getElem?_drop] at hj
    have hlt : off + j < cs.length := by
      have := (List.getElem?_eq_some_iff.1 hj).1
      simp at this
      omega
    rw [List.getElem?_take_of_lt hlt] at hj
    simpa using hj
theorem findNow_R {pl : Pl} {d : TypeDesc} {k : Value} : ∀ {es es' : List MapEntry} {i : Nat}, Es pl es es' →
    (∀ r, Instr.findNow d k es i = some r → match r with
      | none => Instr.findNow d k es' i = some none
      | some (j, v) => ∃ v', Instr.findNow d k es' i = some (some (j, v')) ∧ VA pl v v')
  | [], [], i, _, r, h => by simp [Instr.findNow] at h; subst h; rfl
  | e :: es, e' :: es', i, ⟨h1, h2⟩, r, h => by
    unfold Instr.findNow at h
    have hk : e'.key = e.key := h1.1
    cases hs : Instr.sameNow d k e.key with
    | none => simp [hs] at h
    | some b =>
      cases b with
      | true =>
        simp [hs] at h
        subst h
        refine ⟨e'.val, ?_, h1.2.2⟩
        unfold Instr.findNow
        rw [hk, hs]
      | false =>
        simp [hs] at h
        have ih := findNow_R h2 r h
        cases r with
        | none => simp only at ih ⊢; unfold Instr.findNow; rw [hk, hs]; exact ih
        | some p =>
          obtain ⟨j, v⟩ := p
          simp only at ih ⊢
          obtain ⟨v', h3, h4⟩ := ih
          refine ⟨v', ?_, h4⟩
          unfold Instr.findNow
          rw [hk, hs]
          exact h3
  | [], _ :: _, _, h2, _, _ => h2.elim
  | _ :: _, [], _, h2, _, _ => h2.elim
theorem run_getMap {w : World} {b : Nat} {es : Array MapEntry} {k : Nat} (h : w.heap[b]? = some (.map es k)) : (getObj b).run P w = .ok (.map es k) w := by
  simp [getObj, Sem.run, h]
theorem run_checkKey {kt : TypeId} {q : IntKind} (h : P.underlying kt = some (.int q)) (e : Bool) (k : IntKind) (n : Int) (w : World) : (Instr.checkKey e 10000 kt (.int k n)).run P w = .ok () w := by
  show (Instr.checkKey e (9999 + 1) kt (.int k n)).run P w = _
  unfold Instr.checkKey
  rw [Sem.run_bind, run_underlying h]
  rfl
theorem run_findKey {kt : TypeId} {d : TypeDesc} (h : P.underlying kt = some d) {k : Value} {es : List MapEntry} {r : Option (Nat × Value)} (hf : Instr.findNow d k es 0 = some r) (w : World) : (Instr.findKey kt k es).run P w = .ok r w := by
  unfold Instr.findKey
  rw [Sem.run_bind, run_underlying h]
  simp [hf]
theorem run_zero {t : TypeId} {i : TypeInfo} {z : Value} (h : P.info? t = some i) (hz : i.zero = some z) (w : World) : (zeroValue t).run P w = .ok z w := by
  simp [zeroValue, typeInfo, h, hz]
theorem tup2 {pl : Pl} {v v' : Value} (b : Bool) (h : VA pl v v') : VT pl (.tuple #[v, .bool b]) (.tuple #[v', .bool b]) := ⟨_, rfl, h, rfl, trivial⟩
/-- What stands at a token. -/
def Held (P : Program) (pl : Pl) (H : T AO) (t : Nat) (w : World) : Prop := ∀ o, get HD H t = some o → o.live = true → ∃ b d, pl[t]? = some (b, d) ∧ Ob P pl b d w o
theorem evLoad_at {pl : Pl} {tm : T Value} {a : Act} {o : Oper} {v : Value} {t : Nat} {H : T AO} {w1 : World} (ht : Tm pl tm a) (hs : Held P pl H t w1) (h : evLoad P H tm o = some (v, t)) :
    ∃ v' b, pb pl t = some b ∧ VT pl v v' ∧ ∀ w : World, w.heap[b]? = w1.heap[b]? → (execOp a.eval o).run P w = .ok (.value v') w := by
  unfold evLoad at h
  cases ho : o.op <;> simp only [ho] at h <;> try (simp at h; done)
  case load ty x =>
    split at h
    · rename_i r off hx
      split at h
      · rename_i cs e d i hg hd hi
        obtain ⟨p', hp1, hp2⟩ := (evO_ok ht hx : VP pl (.pointer (some ⟨r, off, none⟩)) (a.eval x))
        obtain ⟨b, hb, rfl⟩ := AR_none hp1
        have hrt : r = t := by
          cases hr : d.isRow with
          | true =>
            simp only [hr, cond_true] at h
            cases hn : Nat.beq ((cs.drop off).take i.size).length i.size with
            | false => rw [hn] at h; exact absurd h (by simp only [cond_false]; exact fun x => nomatch x)
            | true => rw [hn] at h; simp only [cond_true, Option.some.injEq, Prod.mk.injEq] at h; exact h.2
          | false =>
            simp only [hr, cond_false] at h
            split at h
            · simp only [Option.some.injEq, Prod.mk.injEq] at h; exact h.2
            · simp at h
        obtain ⟨b2, d2, hb2, cc, hw, hcl, _⟩ := hs _ (hrt ▸ hg) rfl
        rw [← hrt] at hb2
        replace hb2 := pb_of hb2
        have : b2 = b := by rw [hb] at hb2; injection hb2 with e; exact e.symm
        subst this
        cases hr : d.isRow with
        | true =>
          simp only [hr, cond_true] at h
          cases hn : Nat.beq ((cs.drop off).take i.size).length i.size with
          | false => rw [hn] at h; exact absurd h (by simp only [cond_false]; exact fun x => nomatch x)
          | true =>
            simp only [hn, cond_true, Option.some.injEq, Prod.mk.injEq] at h
            obtain ⟨rfl, rfl⟩ := h
            obtain ⟨l', h1, h2, h3⟩ := hcl.range off i.size (Nat.eq_of_beq_eq_true hn)
            refine ⟨.agg l'.toArray, b2, hb, ⟨_, rfl, by simpa using h1⟩, fun w hww => ?_⟩
            have hra : w.rangeAt b2 off l' := fun j u hu => by
              unfold World.cell?
              rw [hww, hw]
              exact h3 j u hu
            unfold execOp
            simp only [ho, hp2, Sem.run_bind, run_loadAt_mid w b2 off ty l' d hra hd hr (by rw [hi, h2]; rfl), Result.andThen_ok]
            rfl
        | false =>
          simp only [hr, cond_false] at h
          split at h
          · rename_i u hu
            simp only [Option.some.injEq, Prod.mk.injEq] at h
            obtain ⟨rfl, rfl⟩ := h
            obtain ⟨v', h1, h2⟩ := hcl.get hu
            refine ⟨v', b2, hb, VA_VT (VC_VA h2), fun w hww => ?_⟩
            have hcell : w.cell? ⟨b2, off, none⟩ = some v' := by
              unfold World.cell?
              rw [hww, hw]
              exact h1
            have hag : (isAgg ty).run P w = .ok false w := by
              unfold isAgg
              rw [Sem.run_bind, run_underlying hd w]
              cases d <;> simp_all
            unfold execOp
            simp [ho, hp2, Instr.loadAt, Instr.sureAddr, loadVar, hag, hcell]
          · simp at h
      · simp at h
    · simp at h
  case lookup ty m k ok =>
    split at h
    · rename_i r q n kt et hm hk hu
      split at h
      · rename_i es kk q2 i hg hkt hi
        split at h
        · rename_i z hz
          cases hpz : plain z with
          | false => simp [hpz] at h
          | true =>
            simp only [hpz, cond_true] at h
            obtain ⟨b, hb, hm2⟩ := (evO_ok ht hm : VP pl (.map (some r)) (a.eval m))
            have hk2 : a.eval k = .int q n := evO_ok ht hk
            have hrt : r = t := by
              split at h
              · simp only [Option.some.injEq, Prod.mk.injEq] at h; exact h.2
              · simp only [Option.some.injEq, Prod.mk.injEq] at h; exact h.2
              · simp at h
            obtain ⟨b2, d2, hb2, es', hw, hes⟩ := hs _ (hrt ▸ hg) rfl
            rw [← hrt] at hb2
            replace hb2 := pb_of hb2
            have : b2 = b := by rw [hb] at hb2; injection hb2 with e; exact e.symm
            subst this
            have key : ∀ (w : World), w.heap[b2]? = w1.heap[b2]? → ∀ (f : Option (Nat × Value)), Instr.findNow (.int q2) (.int q n) es'.toList 0 = some f → (execOp a.eval o).run P w = .ok (.value (match f with | some (_, v) => (if ok then .tuple #[v, .bool true] else v) | none => (if ok then .tuple #[z, .bool false] else z))) w := by
              intro w hww f hf
              unfold execOp
              have h1 := run_getMap (P := P) (hww.trans hw)
              simp only [ho, hm2, hk2, Instr.lookup, Sem.run_bind, run_underlying hu, Result.andThen_ok, h1, Sem.run_pure, run_checkKey hkt, run_findKey hkt hf]
              cases f with
              | none => simp [run_zero hi hz]
              | some p => simp
            split at h
            · rename_i j u hf
              obtain ⟨u', h1, h2⟩ := findNow_R hes _ hf
              simp only [Option.some.injEq, Prod.mk.injEq] at h
              obtain ⟨rfl, rfl⟩ := h
              refine ⟨_, b2, hb, ?_, fun w hww => key w hww _ h1⟩
              cases ok
              · exact VA_VT h2
              · exact tup2 true h2
            · rename_i hf
              have h1 := findNow_R hes _ hf
              simp only [Option.some.injEq, Prod.mk.injEq] at h
              obtain ⟨rfl, rfl⟩ := h
              refine ⟨_, b2, hb, ?_, fun w hww => key w hww _ h1⟩
              have hzv : VA pl z z := by
                have := plain_VT (pl := pl) hpz
                exact VT_VA (by cases z <;> first | rfl | (simp [plain, scal] at hpz)) this
              cases ok
              · exact VA_VT hzv
              · exact tup2 false hzv
            · simp at h
        · simp at h
      · simp at h
    · simp at h
  case call c =>
    split at h
    · rename_i x ty hc ha hty
      split at h
      · rename_i r k e hx hu
        split at h
        · rename_i es kk hg
          simp only [Option.some.injEq, Prod.mk.injEq] at h
          obtain ⟨rfl, rfl⟩ := h
          obtain ⟨b, hb, hm2⟩ := (evO_ok ht hx : VP pl (.map (some r)) (a.eval x))
          obtain ⟨b2, d2, hb2, es', hw, hes⟩ := hs _ hg rfl
          replace hb2 := pb_of hb2
          have : b2 = b := by rw [hb] at hb2; injection hb2 with e; exact e.symm
          subst this
          have hlen : ∀ {l m : List MapEntry}, Es pl l m → m.length = l.length := by
            intro l
            induction l with
            | nil => intro m h; cases m with | nil => rfl | cons _ _ => exact h.elim
            | cons a l ih => intro m h; cases m with | nil => exact h.elim | cons b m => exact congrArg (· + 1) (ih h.2)
          refine ⟨.int .i64 es.length, b2, hb, rfl, fun w hww => ?_⟩
          have e2 : c.args = #[x] := Array.toList_inj.1 ha
          have e3 : c.argTypes = #[ty] := Array.toList_inj.1 hty
          have h1 := run_getMap (P := P) (hww.trans hw)
          have h2 : es'.size = es.length := by have := hlen hes; simpa using this
          unfold execOp
          simp [ho, resolve, hc, e2, e3, invoke, builtin, hm2, Builtin.len_, run_underlying hu, h1, goInt, h2]
        · simp at h
      · simp at h
    · simp at h
theorem evLoad_ok {pl : Pl} {tm : T Value} {a : Act} {o : Oper} {v : Value} {t : Nat} {H : T AO} {w0 : Base} {w1 : World} (ht : Tm pl tm a) (hs : Sim P w0 pl H w1) (h : evLoad P H tm o = some (v, t)) :
    ∃ v' b, pb pl t = some b ∧ VT pl v v' ∧ ∀ w : World, w.heap[b]? = w1.heap[b]? → (execOp a.eval o).run P w = .ok (.value v') w :=
  evLoad_at ht (fun o' hg hl => by obtain ⟨b, d, h1, _, h2⟩ := hs.at_ t o' hg hl; exact ⟨b, d, h1, h2⟩) h
end Go.Proofs.YteeclengpnjlgaaGreat.Ev
