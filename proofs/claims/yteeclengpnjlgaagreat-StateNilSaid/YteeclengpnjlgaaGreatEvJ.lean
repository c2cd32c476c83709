import Derived.Test.YteeclengpnjlgaaGreatEvI
/- A closed run, reckoned: one operation. -/
namespace Go.Proofs.YteeclengpnjlgaaGreat.Ev
set_option linter.unusedVariables false
set_option linter.unusedSimpArgs false
open Go.RowKit
variable {P : Program}
def evCopy (P : Program) (n : Nat) (H : T AO) (t : TypeId) (d s : Value) : Option Rs :=
  match P.underlying t, d with
  | some (.slice e), .slice (some ⟨r, off, none⟩) dLen _ => match s, get HD H r, P.info? e with
    | .slice none m _, _, some i => bif Nat.beq m 0 then some (.val (.int .i64 0) n H) else none
    | .slice (some ⟨r2, off2, none⟩) m _, some (.cells cs ee), some i => match get HD H r2 with
      | some (.cells cs2 _) => bif Nat.beq ((cs2.drop off2).take (Nat.min m dLen * i.size)).length (Nat.min m dLen * i.size) && Nat.ble (off + Nat.min m dLen * i.size) cs.length then
          some (.val (.int .i64 (Nat.min m dLen)) n (T.set HD H r (.cells (putL cs off ((cs2.drop off2).take (Nat.min m dLen * i.size))) ee))) else none
      | _ => none
    | _, _, _ => none
  | _, _ => none
theorem evCopy_ok {w0 : Base} {w : World} {pl : Pl} {H : T AO} {tm : T Value} {a : Act} {o : Oper} {t t2 : TypeId} {xd xs : Operand} {d s : Value} {rs : Rs} {n : Nat} {cl : Call} (hn : pl.length = n) (ht : Tm pl tm a) (hs : Sim P w0 pl H w) (ho : o.op = .call cl) (e1 : cl.callee = .builtin .copy) (e2 : cl.args = #[xd, xs]) (e3 : cl.argTypes = #[t, t2]) (hx : evO tm xd = some d) (hy : evO tm xs = some s) (h : evCopy P n H t d s = some rs) : RsOk P w0 pl a o w rs := by
  have hrun : ∀ {v w'}, (Builtin.copy_ #[t, t2] o.type #[a.eval xd, a.eval xs]).run P w = .ok v w' → (execOp a.eval o).run P w = .ok (.value v) w' := by
    intro v w' hr
    unfold execOp
    simp [ho, resolve, e1, e2, e3, invoke, builtin, hr]
  unfold evCopy at h
  split at h
  · rename_i e r off dLen c0 he
    obtain ⟨p', c', hp1, hcap, hev⟩ := (evO_ok ht hx : VP pl (.slice (some ⟨r, off, none⟩) dLen c0) (a.eval xd))
    obtain ⟨b, hbb, rfl⟩ := AR_none hp1
    obtain ⟨d, hbd⟩ := pb_some hbb
    split at h
    · rename_i m c2 i hi
      cases hb : Nat.beq m 0 with
      | false => simp [hb] at h
      | true =>
        simp only [hb, cond_true, Option.some.injEq] at h
        subst h
        have h0 := Nat.eq_of_beq_eq_true hb
        subst h0
        have hev2 : a.eval xs = .slice none 0 c2 := evO_ok ht hy
        refine ⟨[], .int .i64 0, w, hrun ?_, rfl, by rw [List.append_nil]; exact hs, by simpa using hn⟩
        rw [hev, hev2]
        simp [Builtin.copy_, run_underlying he, sizeOf, typeInfo, hi, Builtin.lenOf, Builtin.firstCells, storeCells, goInt]
    · rename_i r2 off2 m c2 cs ee i hgr hi
      split at h
      · rename_i cs2 e4 hg2
        cases hb : Nat.beq ((cs2.drop off2).take (Nat.min m dLen * i.size)).length (Nat.min m dLen * i.size) && Nat.ble (off + Nat.min m dLen * i.size) cs.length with
        | false => rw [hb] at h; simp at h
        | true =>
          rw [hb] at h
          simp only [cond_true, Option.some.injEq] at h
          subst h
          rw [Bool.and_eq_true] at hb
          have b1 := Nat.eq_of_beq_eq_true hb.1
          have b2 := Nat.le_of_ble_eq_true hb.2
          obtain ⟨p2, c3, hp2, _, hev2⟩ := (evO_ok ht hy : VP pl (.slice (some ⟨r2, off2, none⟩) m c2) (a.eval xs))
          obtain ⟨b4, hb4, rfl⟩ := AR_none hp2
          obtain ⟨b5, cc2, hb5, hw2, hcl2⟩ := hs.cells hg2
          rw [hb4] at hb5
          injection hb5 with hb5
          subst hb5
          obtain ⟨l', h1, h2, h3⟩ := hcl2.range off2 (Nat.min m dLen * i.size) b1
          obtain ⟨b6, d6, hb6, _, cc, hw, hcl, _⟩ := hs.at_ r _ hgr rfl
          rw [hbd] at hb6
          injection hb6 with hb6
          injection hb6 with q1 q2
          subst q1 q2
          have hfc := run_firstCells_some (P := P) w i.size (Nat.min m dLen) ⟨b4, off2, none⟩ m c3 l' h2 (fun j v hv => by
            rw [Addr.add_mid]
            unfold World.cell?
            rw [hw2]
            exact h3 j v hv)
          have hth := there_of (pl := pl) (cs := cs) (off := off) (n := l'.length) hw (by rw [h2]; have := hcl.1; omega)
          have hst := run_storeCells_cells (P := P) b off l' 0 w (fun j hj => by simpa using (hth j hj).1) (fun j hj => by simpa using (hth j hj).2) (Pw_one h1)
          simp only [Nat.add_zero] at hst
          refine ⟨[], .int .i64 (Nat.min m dLen), w.setCells b off l', hrun ?_, rfl, ?_, by simpa using hn⟩
          · rw [hev, hev2]
            have hfc' : (Builtin.firstCells i.size (Nat.min m dLen) (.slice (some ⟨b4, off2, none⟩) m c3)).run P w = .ok l'.toArray w := hfc
            simp [Builtin.copy_, run_underlying he, sizeOf, typeInfo, hi, Builtin.lenOf, hfc', hst, goInt]
          · rw [List.append_nil]
            exact hs.put hgr hbd h1
      · simp at h
    · simp at h
  · simp at h
def callable (P : Program) (g : FuncId) : Bool := match P.funcs[g]? with
  | some fn => fn.body.isSome && !(fn.name == "runtime.NumGoroutine")
  | none => false
theorem run_enter {g : FuncId} (h : callable P g = true) (args : Array Value) (w : World) : (callFunc g args).run P w = .ok (.enter g args) w := by
  unfold callable at h
  cases hf : P.funcs[g]? with
  | none => simp [hf] at h
  | some fn =>
    simp only [hf, Bool.and_eq_true, Bool.not_eq_true'] at h
    obtain ⟨h1, h2⟩ := h
    cases hb : fn.body with
    | none => simp [hb] at h1
    | some c =>
      have h3 : fn.name ≠ "runtime.NumGoroutine" := by simpa using h2
      simp [callFunc, hf, h3, hb]
def evCall (P : Program) (tm : T Value) (f : Operand) (args : List Operand) : Option Rs :=
  match evO tm f, evList tm args with
  | some (.func (.func g) _ cap), some l => bif callable P g then some (.call g (l ++ cap.toList)) else none
  | _, _ => none
theorem Pw_VP_VT {pl : Pl} {l m : List Value} (h : Pw (VP pl) l m) : Pw (VT pl) l m := h.mono (fun a b hab => by
  refine VA_VT (VC_VA ?_)
  cases a <;> first | exact hab | exact hab.elim)
theorem evCall_ok {w0 : Base} {w : World} {pl : Pl} {tm : T Value} {a : Act} {o : Oper} {rs : Rs} {cl : Call} {f : Operand} (ht : Tm pl tm a) (ho : o.op = .call cl) (e1 : cl.callee = .value f) (h : evCall P tm f cl.args.toList = some rs) : RsOk P w0 pl a o w rs := by
  unfold evCall at h
  split at h
  · rename_i g fs cap l hf hl
    cases hc : callable P g with
    | false => simp [hc] at h
    | true =>
      simp only [hc, cond_true, Option.some.injEq] at h
      subst h
      obtain ⟨g', cap', hg, hfs, hev, hp⟩ := (evO_ok ht hf : VC pl (.func (.func g) fs cap) (a.eval f))
      injection hg with hg
      subst hg
      refine ⟨cl.args.map a.eval ++ cap', ?_, ?_⟩
      · unfold execOp
        simp [ho, resolve, e1, hev, Deferred.ofValue, invoke, run_enter hc]
      · rw [Array.toList_append, Array.toList_map]
        exact (evList_ok ht hl).append (Pw_VP_VT hp)
  · simp at h
def evEff (P : Program) (n : Nat) (H : T AO) (tm : T Value) (o : Oper) : Option Rs :=
  match o.op with
  | .alloc t => evAlloc P n H t
  | .box t x => match evO tm x with
    | some v => bif isTup v then none else evNew n H (.pointer (some ⟨n, 0, none⟩)) (.cells v.cells.toList t)
    | none => none
  | .buildSlice t len parts => evBuildSlice P n H tm t len parts.toList
  | .makeMap _ none => evNew n H (.map (some n)) (.map [] 0)
  | .makeSlice t x y => match evO tm x, evO tm y with
    | some u, some v => evMakeSlice P n H t u v
    | _, _ => none
  | .store t x y => match evO tm x, evO tm y with
    | some u, some v => evStore P n H t u v
    | _, _ => none
  | .mapUpdate t m k v => match evO tm m, evO tm k, evO tm v with
    | some m, some k, some v => evMapUpdate P n H t m k v
    | _, _, _ => none
  | .mapEntry t m k => match evO tm m, evO tm k with
    | some m, some k => evMapEntry P n H t m k
    | _, _ => none
  | .entryStore _ m k v => match evO tm m, evO tm k, evO tm v with
    | some m, some k, some v => evEntryStore n H m k v
    | _, _, _ => none
  | .call c => match c.callee with
    | .value f => evCall P tm f c.args.toList
    | .builtin b => match b, c.args.toList, c.argTypes.toList with
      | .append, [s, x], [t, t2] => (match evO tm s, evO tm x with
        | some s, some x => evAppend P n H t t2 s x
        | _, _ => none)
      | .copy, [s, x], [t, _] => (match evO tm s, evO tm x with
        | some s, some x => evCopy P n H t s x
        | _, _ => none)
      | .delete, [s, x], [t, _] => (match evO tm s, evO tm x with
        | some s, some x => evDelete P n H t s x
        | _, _ => none)
      | _, _, _ => none
    | _ => none
  | _ => none
theorem evEff_ok {w0 : Base} {w : World} {pl : Pl} {H : T AO} {tm : T Value} {a : Act} {o : Oper} {rs : Rs} {n : Nat} (hn : pl.length = n) (ht : Tm pl tm a) (hs : Sim P w0 pl H w) (h : evEff P n H tm o = some rs) : RsOk P w0 pl a o w rs := by
  unfold evEff at h
  cases ho : o.op <;> simp only [ho] at h <;> try (simp at h; done)
  case alloc t => exact evAlloc_ok hn hs ho h
  case box t x =>
    split at h
    · rename_i v hx
      cases htu : isTup v with
      | true => simp [htu] at h
      | false =>
        simp only [htu, cond_false] at h
        exact evBox_ok hn ht hs ho hx htu h
    · simp at h
  case buildSlice t len parts => exact evBuildSlice_ok hn ht hs ho h
  case makeMap t r =>
    cases r with
    | none => exact evMakeMap_ok hn hs ho h
    | some r => simp at h
  case makeSlice t x y =>
    split at h
    · rename_i u v hx hy
      exact evMakeSlice_ok hn hs ho (evO_ok ht hx) (evO_ok ht hy) h
    · simp at h
  case store t x y =>
    split at h
    · rename_i u v hx hy
      exact evStore_ok hn ht hs ho hx hy h
    · simp at h
  case mapUpdate t m k v =>
    split at h
    · rename_i m' k' v' h1 h2 h3
      exact evMapUpdate_ok hn ht hs ho h1 h2 h3 h
    · simp at h
  case mapEntry t m k =>
    split at h
    · rename_i m' k' h1 h2
      exact evMapEntry_ok hn ht hs ho h1 h2 h
    · simp at h
  case entryStore t m k v =>
    split at h
    · rename_i m' k' v' h1 h2 h3
      exact evEntryStore_ok hn ht hs ho h1 h2 h3 h
    · simp at h
  case call c =>
    split at h
    · rename_i f hc
      exact evCall_ok ht ho hc h
    · rename_i b hc
      split at h
      · rename_i s x t t2 ha hty
        split at h
        · rename_i s' x' h1 h2
          exact evAppend_ok hn ht hs ho hc (Array.toList_inj.1 ha) (Array.toList_inj.1 hty) h1 h2 h
        · simp at h
      · rename_i s x t t2 ha hty
        split at h
        · rename_i s' x' h1 h2
          exact evCopy_ok hn ht hs ho hc (Array.toList_inj.1 ha) (Array.toList_inj.1 hty) h1 h2 h
        · simp at h
      · rename_i s x t t2 ha hty
        split at h
        · rename_i s' x' h1 h2
          exact evDelete_ok hn ht hs ho hc (Array.toList_inj.1 ha) (Array.toList_inj.1 hty) h1 h2 h
        · simp at h
      · simp at h
    · simp at h
/-- One operation. -/
def evOp (P : Program) (n : Nat) (H : T AO) (tm : T Value) (o : Oper) : Option Rs :=
  match evPure P tm o with
  | some v => some (.val v n H)
  | none => match evLoad P H tm o with
    | some (v, _) => some (.val v n H)
    | none => evEff P n H tm o
theorem evOp_ok {w0 : Base} {w : World} {pl : Pl} {H : T AO} {tm : T Value} {a : Act} {o : Oper} {rs : Rs} {n : Nat} (hn : pl.length = n) (ht : Tm pl tm a) (hs : Sim P w0 pl H w) (h : evOp P n H tm o = some rs) : RsOk P w0 pl a o w rs := by
  unfold evOp at h
  split at h
  · rename_i v hp
    injection h with h
    subst h
    obtain ⟨v', h1, h2⟩ := evPure_ok ht hp
    exact ⟨[], v', w, h1 w, by rw [List.append_nil]; exact h2, by rw [List.append_nil]; exact hs, by simpa using hn⟩
  · split at h
    · rename_i v t hl
      injection h with h
      subst h
      obtain ⟨v', b, h1, h2, h3⟩ := evLoad_ok ht hs hl
      exact ⟨[], v', w, h3 w rfl, by rw [List.append_nil]; exact h2, by rw [List.append_nil]; exact hs, by simpa using hn⟩
    · exact evEff_ok hn ht hs h
end Go.Proofs.YteeclengpnjlgaaGreat.Ev
