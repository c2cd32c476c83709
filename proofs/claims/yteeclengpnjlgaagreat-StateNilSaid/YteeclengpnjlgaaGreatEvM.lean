import Derived.Test.YteeclengpnjlgaaGreatEvL
/- A closed run, reckoned: regions that draw their order. -/
namespace Go.Proofs.YteeclengpnjlgaaGreat.Ev
set_option linter.unusedVariables false
set_option linter.unusedSimpArgs false
open Go.RowKit Go.Proofs.YteeclengpnjlgaaGreatW.PrintLast
variable {P : Program}
theorem AR_fun {pl : Pl} {a b c : Addr} (h : AR pl a b) (h' : AR pl a c) : c = b := by
  obtain ⟨h1, h2, h3⟩ := h
  obtain ⟨g1, g2, g3⟩ := h'
  rw [h1] at g1
  injection g1 with g1
  cases b
  cases c
  simp only at *
  subst g1 h2 h3 g2 g3
  rfl
theorem CapR_fun {pl : Pl} {t c x y : Nat} (h : CapR pl t c x) (h' : CapR pl t c y) : y = x := by
  unfold CapR at h h'
  split at h
  · rename_i hc
    rw [if_pos hc] at h'
    obtain ⟨d, h1, h2⟩ := h
    obtain ⟨e, g1, g2⟩ := h'
    rw [h1] at g1
    injection g1 with g1
    omega
  · rename_i hc
    rw [if_neg hc] at h'
    omega
theorem VP_fun {pl : Pl} {v x y : Value} (h : VP pl v x) (h' : VP pl v y) : y = x := by
  cases v with
  | pointer a => cases a with
    | none => have h1 : x = _ := h; have h2 : y = _ := h'; rw [h1, h2]
    | some a =>
      obtain ⟨p, h1, rfl⟩ := h
      obtain ⟨q, h2, rfl⟩ := h'
      rw [AR_fun h1 h2]
  | slice a n c => cases a with
    | none => have h1 : x = _ := h; have h2 : y = _ := h'; rw [h1, h2]
    | some a =>
      obtain ⟨p, c1, h1, k1, rfl⟩ := h
      obtain ⟨q, c2, h2, k2, rfl⟩ := h'
      rw [AR_fun h1 h2, CapR_fun k1 k2]
  | map r => cases r with
    | none => have h1 : x = _ := h; have h2 : y = _ := h'; rw [h1, h2]
    | some r =>
      obtain ⟨p, h1, rfl⟩ := h
      obtain ⟨q, h2, rfl⟩ := h'
      rw [h1] at h2
      injection h2 with h2
      rw [h2]
  | chan r => cases r with
    | none => have h1 : x = _ := h; have h2 : y = _ := h'; rw [h1, h2]
    | some r => exact h.elim
  | func fn fs cs => exact h.elim
  | iface t u => exact h.elim
  | agg cs => exact h.elim
  | tuple cs => exact h.elim
  | _ => have h1 : x = _ := h; have h2 : y = _ := h'; rw [h1, h2]
theorem Pw_fun {R : Value → Value → Prop} (hR : ∀ v x y, R v x → R v y → y = x) : ∀ {l m m' : List Value}, Pw R l m → Pw R l m' → m' = m
  | [], [], [], _, _ => rfl
  | _ :: _, _ :: _, _ :: _, ⟨h1, h2⟩, ⟨g1, g2⟩ => by rw [hR _ _ _ h1 g1, Pw_fun hR h2 g2]
  | [], _ :: _, _, h, _ => h.elim
  | [], [], _ :: _, _, h => h.elim
  | _ :: _, [], _, h, _ => h.elim
  | _ :: _, _ :: _, [], _, h => h.elim
def isFn : Value → Bool
  | .func _ _ _ => true
  | _ => false
def isAg : Value → Bool
  | .agg _ => true
  | _ => false
theorem VC_VP {pl : Pl} {v x : Value} (hn : isFn v = false) (h : VC pl v x) : VP pl v x := by
  cases v <;> first | exact h | (simp [isFn] at hn)
theorem VA_VC {pl : Pl} {v x : Value} (hn : isAg v = false) (h : VA pl v x) : VC pl v x := by
  cases v <;> first | exact h | (simp [isAg] at hn)
theorem VC_fun {pl : Pl} {v x y : Value} (h : VC pl v x) (h' : VC pl v y) : y = x := by
  cases hn : isFn v with
  | true =>
    cases v <;> simp [isFn] at hn
    obtain ⟨f, c1, e1, _, rfl, p1⟩ := h
    obtain ⟨g, c2, e2, _, rfl, p2⟩ := h'
    rw [e1] at e2
    injection e2 with e2
    subst e2
    have := Pw_fun (R := VP pl) (fun _ _ _ a b => VP_fun a b) p1 p2
    rw [Array.toList_inj] at this
    rw [this]
  | false => exact VP_fun (VC_VP hn h) (VC_VP hn h')
theorem VA_fun {pl : Pl} {v x y : Value} (h : VA pl v x) (h' : VA pl v y) : y = x := by
  cases hn : isAg v with
  | true =>
    cases v <;> simp [isAg] at hn
    obtain ⟨c1, rfl, p1⟩ := h
    obtain ⟨c2, rfl, p2⟩ := h'
    have := Pw_fun (R := VC pl) (fun _ _ _ a b => VC_fun a b) p1 p2
    rw [Array.toList_inj] at this
    rw [this]
  | false => exact VC_fun (VA_VC hn h) (VA_VC hn h')
theorem VT_fun {pl : Pl} {v x y : Value} (h : VT pl v x) (h' : VT pl v y) : y = x := by
  cases hn : isTup v with
  | true =>
    cases v <;> simp [isTup] at hn
    obtain ⟨c1, rfl, p1⟩ := h
    obtain ⟨c2, rfl, p2⟩ := h'
    have := Pw_fun (R := VA pl) (fun _ _ _ a b => VA_fun a b) p1 p2
    rw [Array.toList_inj] at this
    rw [this]
  | false => exact VA_fun (VT_VA hn h) (VT_VA hn h')
theorem Es_fun {pl : Pl} : ∀ {l m m' : List MapEntry}, Es pl l m → Es pl l m' → m' = m
  | [], [], [], _, _ => rfl
  | _ :: _, a :: _, b :: _, ⟨h1, h2⟩, ⟨g1, g2⟩ => by
    rw [Es_fun h2 g2]
    have : b = a := by
      cases a
      cases b
      obtain ⟨a1, a2, a3⟩ := h1
      obtain ⟨b1, b2, b3⟩ := g1
      simp only at *
      rw [VA_fun a3 b3, a1, b1, a2, b2]
    rw [this]
  | [], _ :: _, _, h, _ => h.elim
  | [], [], _ :: _, _, h => h.elim
  | _ :: _, [], _, h, _ => h.elim
  | _ :: _, _ :: _, [], _, h => h.elim
theorem Ob_back {pl q : Pl} {b d : Nat} {w w' : World} {o : AO} (h : Ob P pl b d w o) (h' : Ob P (pl ++ q) b d w' o) : Ob P pl b d w' o := by
  cases o with
  | cells cs e =>
    obtain ⟨cc, h1, h2, h3⟩ := h
    obtain ⟨cc', g1, g2, g3⟩ := h'
    refine ⟨cc', g1, ⟨g2.1, ?_⟩, g3⟩
    have := Pw_fun (R := VC (pl ++ q)) (fun _ _ _ a b => VC_fun a b) (Pw_pl (q := q) h2.2) g2.2
    rw [this]
    exact h2.2
  | map es k =>
    obtain ⟨es', h1, h2⟩ := h
    obtain ⟨es2, g1, g2⟩ := h'
    have := Es_fun (h2.mono q) g2
    rw [Array.toList_inj] at this
    subst this
    exact ⟨_, g1, h2⟩
  | dead => trivial
/-- What stood at the tokens that are left alone stands there still. -/
def Stays (P : Program) (pl : Pl) (H : T AO) (n : Pr) (w : World) : Prop := ∀ t, Prot n t → Held P pl H t w
theorem Stays.start {w0 : Base} {w : World} {pl : Pl} {H : T AO} (n : Pr) (hs : Sim P w0 pl H w) : Stays P pl H n w := fun t _ o hg hl => by
  obtain ⟨b, d, h1, _, h2⟩ := hs.at_ t o hg hl
  exact ⟨b, d, h1, h2⟩
theorem Stays.next {w0 : Base} {w w' : World} {pl q : Pl} {H H' : T AO} {n : Pr} (h : Stays P pl H n w) (hs : Sim P w0 (pl ++ q) H' w') (ha : Agree n H H') : Stays P pl H n w' := fun t ht o hg hl => by
  obtain ⟨b, d, h1, h2⟩ := h t ht o hg hl
  obtain ⟨b', d', g1, _, g2⟩ := hs.at_ t o ((ha t ht).trans hg) hl
  rw [pl_pre h1] at g1
  injection g1 with g1
  injection g1 with e1 e2
  subst e1 e2
  exact ⟨b, d, h1, Ob_back h2 g2⟩
def stepP (P : Program) (nt : Nat) (ops : Array Oper) (o : Oper) (st : St) : Option St :=
  match want ops st.tm o with
  | some false => (putT nt st.tm o.dst undef).map fun tm => ⟨st.n, st.H, tm⟩
  | some true => match evPure P st.tm o with
    | some v => (putT nt st.tm o.dst v).map fun tm => ⟨st.n, st.H, tm⟩
    | none => none
  | none => none
def inPr (n : Pr) (t : Nat) : Bool := Nat.blt t n.1 && !n.2.contains t
theorem inPr_ok {n : Pr} {t : Nat} (h : inPr n t = true) : Prot n t := by
  unfold inPr at h
  rw [Bool.and_eq_true] at h
  exact ⟨Nat.le_of_ble_eq_true h.1, by simpa using h.2⟩
def stepT (P : Program) (nt : Nat) (ops : Array Oper) (n1 : Pr) (H1 : T AO) (o : Oper) (st : St) : Option St :=
  match want ops st.tm o with
  | some false => (putT nt st.tm o.dst undef).map fun tm => ⟨st.n, st.H, tm⟩
  | some true => match evLoad P H1 st.tm o with
    | some (v, t) => bif inPr n1 t then (putT nt st.tm o.dst v).map fun tm => ⟨st.n, st.H, tm⟩ else none
    | none => none
  | none => none
theorem stepP_ok {w0 : Base} {pl : Pl} {nt : Nat} {ops : Array Oper} {o : Oper} {st st' : St} {a : Act} {w : World} (hat : At P w0 pl nt st a w) (h : stepP P nt ops o st = some st') : ∃ v, Yields P ops o v a ∧ At P w0 pl nt st' (a.put o.dst v) w ∧ st'.H = st.H ∧ st'.n = st.n := by
  unfold stepP at h
  have nil : pl ++ ([] : Pl) = pl := List.append_nil pl
  split at h
  · rename_i hw
    obtain ⟨tm, h1, rfl⟩ := map_some h
    refine ⟨undef, .inr ⟨want_ok hat.tm hw, rfl⟩, ?_, rfl, rfl⟩
    have := hat.put (q := []) (n := st.n) (by rw [nil]; exact hat.sim) (by rw [nil]; exact hat.len) (undef_VT _) h1
    rwa [nil] at this
  · rename_i hw
    split at h
    · rename_i v hp
      obtain ⟨tm, h1, rfl⟩ := map_some h
      obtain ⟨v', hg, hv⟩ := evPure_ok hat.tm hp
      refine ⟨v', .inl ⟨want_ok hat.tm hw, hg⟩, ?_, rfl, rfl⟩
      have := hat.put (q := []) (n := st.n) (by rw [nil]; exact hat.sim) (by rw [nil]; exact hat.len) (by rw [nil]; exact hv) h1
      rwa [nil] at this
    · cases h
  · cases h
theorem stepT_ok {w0 : Base} {pl q : Pl} {nt : Nat} {n1 : Pr} {H1 : T AO} {ops : Array Oper} {o : Oper} {st st' : St} {a : Act} {w : World} (hat : At P w0 (pl ++ q) nt st a w) (hS : Stays P pl H1 n1 w) (h : stepT P nt ops n1 H1 o st = some st') : ∃ v, YieldsIf P ops (Stays P pl H1 n1) o v a ∧ At P w0 (pl ++ q) nt st' (a.put o.dst v) w ∧ st'.H = st.H ∧ st'.n = st.n := by
  unfold stepT at h
  have nil : pl ++ q ++ ([] : Pl) = pl ++ q := List.append_nil _
  split at h
  · rename_i hw
    obtain ⟨tm, h1, rfl⟩ := map_some h
    refine ⟨undef, .inr ⟨want_ok hat.tm hw, rfl⟩, ?_, rfl, rfl⟩
    have := hat.put (q := []) (n := st.n) (by rw [nil]; exact hat.sim) (by rw [nil]; exact hat.len) (undef_VT _) h1
    rwa [nil] at this
  · rename_i hw
    split at h
    · rename_i v t hp
      obtain ⟨hlt, h⟩ := cond_some h
      have hlt : Prot n1 t := inPr_ok hlt
      obtain ⟨tm, h1, rfl⟩ := map_some h
      have held : ∀ w, Stays P pl H1 n1 w → Held P (pl ++ q) H1 t w := fun w hw' o' hg hl => by
        obtain ⟨b, d, g1, g2⟩ := hw' t hlt o' hg hl
        exact ⟨b, d, pl_pre g1, g2.mono q⟩
      obtain ⟨v', b, _, hv, hr⟩ := evLoad_at hat.tm (held w hS) hp
      refine ⟨v', .inl ⟨want_ok hat.tm hw, fun w2 hw2 => ?_⟩, ?_, rfl, rfl⟩
      · obtain ⟨v2, b2, _, hv2, hr2⟩ := evLoad_at hat.tm (held w2 hw2) hp
        rw [VT_fun hv hv2] at hr2
        exact hr2 w2 rfl
      · have := hat.put (q := []) (n := st.n) (by rw [nil]; exact hat.sim) (by rw [nil]; exact hat.len) (by rw [nil]; exact hv) h1
        rwa [nil] at this
    · cases h
  · cases h
/-- An operation that lays an empty block and reads nothing: it may come up at any time. -/
def flOf (P : Program) (o : Oper) : Option (Obj × AO × (Nat → Value)) :=
  match o.guard, o.op with
  | none, .alloc t => match P.info? t with
    | some i => match i.zero with
      | some z => bif plain z then some (.cells z.cells t, .cells z.cells.toList t, fun n => .pointer (some ⟨n, 0, none⟩)) else none
      | none => none
    | none => none
  | none, .makeMap _ none => some (.map #[] 0, .map [] 0, fun n => .map (some n))
  | _, _ => none
structure Floats (P : Program) (o : Oper) (ob : Obj) (ao : AO) (mk : Nat → Value) : Prop where
  guard : o.guard = none
  run : ∀ (a : Act) (w : World), (execOp a.eval o).run P w = .ok (.value (mk w.heap.size)) (w.alloc ob)
  vt : ∀ (pl : Pl) (n b d : Nat), pl[n]? = some (b, d) → VT pl (mk n) (mk b)
  ob : ∀ (pl : Pl) (b : Nat) (w : World), w.heap[b]? = some ob → Ob P pl b 0 w ao
theorem flOf_ok {o : Oper} {ob : Obj} {ao : AO} {mk : Nat → Value} (h : flOf P o = some (ob, ao, mk)) : Floats P o ob ao mk := by
  unfold flOf at h
  split at h
  · rename_i t hg ho
    split at h
    · rename_i i hi
      split at h
      · rename_i z hz
        obtain ⟨hp, h⟩ := cond_some h
        injection h with h
        injection h with h1 h
        injection h with h2 h3
        subst h1 h2 h3
        refine ⟨hg, fun a w => ?_, fun pl n b d hb => ptr_VT hb, fun pl b w hw => ⟨_, hw, Cl_all (Pw_self (plain_cells hp)), by simp⟩⟩
        unfold execOp
        simp only [ho]
        simp [Instr.alloc, run_zero hi hz, newVar, newRow]
      · cases h
    · cases h
  · rename_i t hg ho
    injection h with h
    injection h with h1 h
    injection h with h2 h3
    subst h1 h2 h3
    refine ⟨hg, fun a w => ?_, fun pl n b d hb => ⟨b, pb_of hb, rfl⟩, fun pl b w hw => ⟨_, hw, trivial⟩⟩
    unfold execOp
    simp [ho, Instr.makeMap]
  · cases h
def stepF (P : Program) (nt : Nat) (o : Oper) (st : St) : Option St :=
  match flOf P o with
  | some (_, ao, mk) => bif room st.n && o.dst.isSome then (putT nt st.tm o.dst (mk st.n)).map fun tm => ⟨st.n + 1, T.set HD st.H st.n ao, tm⟩ else none
  | none => none
/-- What floats, by its number. -/
def flIx : List (Nat × Nat) → Option Nat
  | [] => none
  | (i, k) :: r => bif Nat.beq k 6 then some i else flIx r
/-- May what floats come up now, with nothing known of its temporary? -/
def flFree (P : Program) (nt : Nat) (ops : Array Oper) (r : List (Nat × Nat)) (tm : T Value) : Bool :=
  match flIx r with
  | some j => match ops[j]? with
    | some o => (flOf P o).isSome && (match o.dst with
      | some d => Nat.blt d nt && Nat.blt d (2 ^ TD) && (match get TD tm d with | none => true | some _ => false)
      | none => false)
    | none => false
  | none => false
/-- The steps of a region that draws: 0 looks at no memory, 1 reads what stood there at the start, 2 leaves that alone, 3 what comes last; 5 as 2, where what floats may come up too; 6 what floats. -/
def evReg (P : Program) (K : Kn) (lo : Pr) (nt : Nat) (ops : Array Oper) (n1 : Pr) (H1 : T AO) : List (Nat × Nat) → St → Option St
  | [], st => some st
  | (i, k) :: r, st => match ops[i]? with
    | none => none
    | some o => match (match k with
        | 0 => stepP P nt ops o st
        | 1 => stepT P nt ops n1 H1 o st
        | 2 => stepOp P K n1 nt ops o st
        | 3 => stepOp P K lo nt ops o st
        | 5 => bif flFree P nt ops r st.tm then stepOp P K n1 nt ops o st else none
        | 6 => stepF P nt o st
        | _ => none) with
      | some st1 => evReg P K lo nt ops n1 H1 r st1
      | none => none
def dstOf (ops : Array Oper) (i : Nat) : Option Tmp := (ops[i]?).bind (·.dst)
def neB : Option Tmp → Option Tmp → Bool
  | some a, some b => !Nat.beq a b
  | _, _ => true
def noTE : List (Nat × Nat) → Bool
  | [] => true
  | (_, k) :: r => (Nat.beq k 0 || Nat.beq k 3) && noTE r
/-- May the steps be gone so? -/
def chkReg (ops : Array Oper) (ds : List Nat) : List (Nat × Nat) → Array Bool → Bool
  | [], l => (Region.ready .any ops l).isEmpty
  | (i, k) :: r, l => (match k with
      | 0 => anyB .any ops l (l.setIfInBounds i true) i
      | 1 => takeB .any ops ds l (l.setIfInBounds i true) i
      | 2 => readyB .any ops l (l.setIfInBounds i true) i && !ds.contains i
      | 3 => readyB .any ops l (l.setIfInBounds i true) i && ds.contains i && noTE r
      | _ => false) && chkReg ops ds r (l.setIfInBounds i true)
/-- The steps, what floats (number j) having come up. -/
def chkFl (ops : Array Oper) (ds : List Nat) (j : Nat) : List (Nat × Nat) → Array Bool → Bool
  | [], _ => false
  | (i, k) :: r, l => match k with
      | 0 => anyB .any ops l (l.setIfInBounds i true) i && neB (dstOf ops i) (dstOf ops j) && chkFl ops ds j r (l.setIfInBounds i true)
      | 1 => takeB .any ops ds l (l.setIfInBounds i true) i && neB (dstOf ops i) (dstOf ops j) && chkFl ops ds j r (l.setIfInBounds i true)
      | 2 => readyB .any ops l (l.setIfInBounds i true) i && !ds.contains i && neB (dstOf ops i) (dstOf ops j) && chkFl ops ds j r (l.setIfInBounds i true)
      | 5 => readyB .any ops l (l.setIfInBounds i true) i && !ds.contains i && neB (dstOf ops i) (dstOf ops j) && chkFl ops ds j r (l.setIfInBounds i true)
      | 6 => Nat.beq i j && chkReg ops ds r l
      | _ => false
/-- The steps, one of which floats. -/
def chkOne (ops : Array Oper) (ds : List Nat) : List (Nat × Nat) → Array Bool → Bool
  | [], _ => false
  | (i, k) :: r, l => match k with
      | 0 => anyB .any ops l (l.setIfInBounds i true) i && chkOne ops ds r (l.setIfInBounds i true)
      | 1 => takeB .any ops ds l (l.setIfInBounds i true) i && chkOne ops ds r (l.setIfInBounds i true)
      | 2 => readyB .any ops l (l.setIfInBounds i true) i && !ds.contains i && chkOne ops ds r (l.setIfInBounds i true)
      | 5 => (match flIx r with
        | some j => (Region.ready .any ops l == [i, j] || Region.ready .any ops l == [j, i]) && !ds.contains i && !ds.contains j && chkFl ops ds j ((i, 5) :: r) (l.setIfInBounds j true) && chkOne ops ds r (l.setIfInBounds i true)
        | none => false)
      | 6 => readyB .any ops l (l.setIfInBounds i true) i && !ds.contains i && chkReg ops ds r (l.setIfInBounds i true)
      | _ => false
theorem evReg_ok {K : Kn} (hK : KOk P K) {w0 : Base} {pl : Pl} {lo n1 : Pr} {nt : Nat} {ops : Array Oper} {ds : List Nat} {H1 : T AO} {Q : Exit → Act → World → Prop} (hlo : lo.1 ≤ pl.length) (hn1 : n1.1 ≤ pl.length) (hin : ∀ t, Prot lo t → Prot n1 t) (hP : ∀ c a w, ¬ Q (.panic c) a w) (x : Nat) :
    ∀ (l : List (Nat × Nat)) (ls : Array Bool) {q : Pl} {st st' : St} {a : Act} {w : World}, At P w0 (pl ++ q) nt st a w → (noTE l = true ∨ (Stays P pl H1 n1 w ∧ Agree n1 H1 st.H)) → chkReg ops ds l ls = true → evReg P K lo nt ops n1 H1 l st = some st' →
      (∀ (q' : Pl) (a' : Act) (w' : World), At P w0 (pl ++ q') nt st' a' w' → Agree lo st.H st'.H → Q .normal a' w') → wpAnyLast P .any ops Q (Stays P pl H1 n1) ds (l.length + x) ls a w
  | [], ls, q, st, st', a, w, hat, hS, hc, h, hQ => by
    simp [evReg] at h
    subst h
    exact done_ (by simpa [chkReg] using hc) (hQ q a w hat (Agree.refl _ _))
  | (i, k) :: r, ls, q, st, st', a, w, hat, hS, hc, h, hQ => by
    unfold evReg at h
    cases ho : ops[i]? with
    | none => simp [ho] at h
    | some o =>
      simp only [ho] at h
      unfold chkReg at hc
      rw [Bool.and_eq_true] at hc
      obtain ⟨hc1, hc2⟩ := hc
      have hlen : ((i, k) :: r).length + x = (r.length + x) + 1 := by simp; omega
      rw [hlen]
      have hle : pl.length ≤ st.n := by rw [← hat.len, List.length_append]; omega
      have hnt : noTE ((i, k) :: r) = true → noTE r = true := fun hn => by
        unfold noTE at hn
        rw [Bool.and_eq_true] at hn
        exact hn.2
      split at h
      · rename_i st1 hstep
        match k, hc1, hstep, hS, hnt with
        | 0, hc1, hstep, hS, hnt =>
          obtain ⟨v, hy, hat1, e1, e2⟩ := stepP_ok hat hstep
          refine pure_ (ls.setIfInBounds i true) ho rfl hc1 (fun c a w hp => absurd hp (hP _ _ _)) hy rfl ?_
          refine evReg_ok hK hlo hn1 hin hP x r _ hat1 ?_ hc2 h (fun q' a' w' hat' hag => hQ q' a' w' hat' (by rw [← e1]; exact hag))
          rcases hS with hS | ⟨hS, hA⟩
          · exact .inl (hnt hS)
          · exact .inr ⟨hS, by rw [e1]; exact hA⟩
        | 1, hc1, hstep, hS, hnt =>
          rcases hS with hS | ⟨hS, hA⟩
          · simp [noTE] at hS
          · obtain ⟨v, hy, hat1, e1, e2⟩ := stepT_ok hat hS hstep
            refine take_ (ls.setIfInBounds i true) ho rfl hc1 (fun c a w hp => absurd hp (hP _ _ _)) hy hS rfl ?_
            exact evReg_ok hK hlo hn1 hin hP x r _ hat1 (.inr ⟨hS, by rw [e1]; exact hA⟩) hc2 h (fun q' a' w' hat' hag => hQ q' a' w' hat' (by rw [← e1]; exact hag))
        | 2, hc1, hstep, hS, hnt =>
          rcases hS with hS | ⟨hS, hA⟩
          · simp [noTE] at hS
          · have hc1 : (readyB .any ops ls (ls.setIfInBounds i true) i && !ds.contains i) = true := hc1
            rw [Bool.and_eq_true] at hc1
            refine one_ (ls.setIfInBounds i true) ho rfl hc1.1 (by have := hc1.2; simpa using this) (fun Kc hKc => ?_)
            refine step_ok hK hat (Nat.le_trans hn1 hle) hstep Kc (fun q2 a2 w2 hat2 hag2 _ => ?_)
            have hat3 := app_assoc hat2
            have hS2 := hS.next (q := q ++ q2) hat3.sim (hA.trans hag2)
            refine hKc.out a2 w2 hS2 (fun _ => ?_)
            exact evReg_ok hK hlo hn1 hin hP x r _ hat3 (.inr ⟨hS2, hA.trans hag2⟩) hc2 h (fun q' a' w' hat' hag => hQ q' a' w' hat' ((hag2.less hin).trans hag))
        | 3, hc1, hstep, hS, hnt =>
          have hc1 : (readyB .any ops ls (ls.setIfInBounds i true) i && ds.contains i && noTE r) = true := hc1
          simp only [Bool.and_eq_true] at hc1
          obtain ⟨⟨c1, c2⟩, c3⟩ := hc1
          refine last_ (ls.setIfInBounds i true) ho rfl c1 (by simpa using c2) (fun Kc hKc => ?_)
          refine step_ok hK hat (Nat.le_trans hlo hle) hstep Kc (fun q2 a2 w2 hat2 hag2 _ => ?_)
          exact hKc.out a2 w2 (evReg_ok hK hlo hn1 hin hP x r _ (app_assoc hat2) (.inl c3) hc2 h (fun q' a' w' hat' hag => hQ q' a' w' hat' (hag2.trans hag)))
        | k + 4, hc1, _, _, _ => simp at hc1
      · cases h
theorem putT_some {nt : Nat} {tm tm' : T Value} {d : Tmp} {v : Value} (h : putT nt tm (some d) v = some tm') : d < nt ∧ d < 2 ^ TD ∧ tm' = T.set TD tm d v := by
  unfold putT at h
  obtain ⟨hc, h⟩ := cond_some h
  injection h with h
  rw [Bool.and_eq_true] at hc
  exact ⟨Nat.le_of_ble_eq_true hc.1, Nat.le_of_ble_eq_true hc.2, h.symm⟩
theorem stepF_some {nt : Nat} {o : Oper} {st st' : St} {ob : Obj} {ao : AO} {mk : Nat → Value} (hf : flOf P o = some (ob, ao, mk)) (h : stepF P nt o st = some st') : ∃ d, o.dst = some d ∧ room st.n = true ∧ d < nt ∧ d < 2 ^ TD ∧ st' = ⟨st.n + 1, T.set HD st.H st.n ao, T.set TD st.tm d (mk st.n)⟩ := by
  unfold stepF at h
  rw [hf] at h
  simp only at h
  obtain ⟨hc, h⟩ := cond_some h
  rw [Bool.and_eq_true] at hc
  obtain ⟨tm, h1, rfl⟩ := map_some h
  cases hd : o.dst with
  | none => rw [hd] at hc; simp at hc
  | some d =>
    rw [hd] at h1
    obtain ⟨h2, h3, rfl⟩ := putT_some h1
    exact ⟨d, rfl, hc.1, h2, h3, rfl⟩
theorem stepF_ok {w0 : Base} {pl : Pl} {nt : Nat} {o : Oper} {st st' : St} {a : Act} {w : World} {ob : Obj} {ao : AO} {mk : Nat → Value} (hat : At P w0 pl nt st a w) (hf : flOf P o = some (ob, ao, mk)) (h : stepF P nt o st = some st') : At P w0 (pl ++ [(w.heap.size, 0)]) nt st' (a.put o.dst (mk w.heap.size)) (w.alloc ob) := by
  obtain ⟨d, hd, hr, h1, h2, rfl⟩ := stepF_some hf h
  have F := flOf_ok hf
  have hl := hat.len
  have hs := hat.sim.alloc (o := ao) (ob := ob) (d := 0) (room_lt (by rw [hl]; exact hr)) (F.ob _ _ _ (heap_alloc_new w _))
  refine hat.put (dst := o.dst) (v := mk st.n) (by rw [← hl]; exact hs) (by simp [hl]) (F.vt _ _ _ _ (by rw [← hl]; exact last_pl)) ?_
  rw [hd]
  show (bif Nat.blt d nt && Nat.blt d (2 ^ TD) then some (T.set TD st.tm d (mk st.n)) else none) = _
  rw [show Nat.blt d nt = true from Nat.ble_eq_true_of_le h1, show Nat.blt d (2 ^ TD) = true from Nat.ble_eq_true_of_le h2]
  rfl
/-- The base where a block stands that no token tells. -/
def Base.held (w0 : Base) (w1 : World) (h : Stay w0 w1) (c : Nat) (hc : c < w1.heap.size) : Base := ⟨w1, fun b => w0.F b ∨ b = c, fun b hb => by
  rcases hb with hb | rfl
  · exact h.lt hb
  · exact hc⟩
theorem getD_put_ne {a : Act} {o : Option Tmp} {v : Value} {d : Tmp} (h : o ≠ some d) : (a.put o v).tmps.getD d undef = a.tmps.getD d undef := by
  cases o with
  | none => rfl
  | some t =>
    show (a.tmps.setIfInBounds t v).getD d undef = _
    have : t ≠ d := fun e => h (by rw [e])
    rw [Array.getD_eq_getD_getElem?, Array.getD_eq_getD_getElem?, Array.getElem?_setIfInBounds_ne this]
theorem getD_put_eq {a : Act} {v : Value} {d : Tmp} (h : d < a.tmps.size) : (a.put (some d) v).tmps.getD d undef = v := by
  show (a.tmps.setIfInBounds d v).getD d undef = _
  rw [Array.getD_eq_getD_getElem?, Array.getElem?_setIfInBounds_self_of_lt h]
  rfl
theorem At.hold {w0 : Base} {pl : Pl} {nt : Nat} {st : St} {a : Act} {w : World} {ob : Obj} {d : Tmp} {v : Value} (hat : At P w0 pl nt st a w) (hs : Stay w0 (w.alloc ob)) (hc : w.heap.size < (w.alloc ob).heap.size) (hd : get TD st.tm d = none) : At P (w0.held (w.alloc ob) hs w.heap.size hc) pl nt st (a.put (some d) v) (w.alloc ob) where
  tm := ⟨hat.tm.defers, fun t u hg => by
    obtain ⟨h1, h2⟩ := hat.tm.at_ t u hg
    have hne : (some d : Option Tmp) ≠ some t := fun e => by
      injection e with e
      subst e
      rw [hd] at hg
      cases hg
    refine ⟨?_, by rw [getD_put_ne hne]; exact h2⟩
    show t < (a.tmps.setIfInBounds d v).size
    rw [Array.size_setIfInBounds]
    exact h1⟩
  sim := {
    below := Stay.refl _
    at_ := fun t o hg hl => by
      obtain ⟨b, e, h1, h2, h3⟩ := hat.sim.at_ t o hg hl
      have hlt := hat.sim.ltb hg hl (pb_of h1)
      refine ⟨b, e, h1, ?_, h3.move (heap_al w ob b hlt)⟩
      rintro (h | h)
      · exact h2 h
      · omega
    inj := hat.sim.inj }
  len := hat.len
  sz := by
    show (a.tmps.setIfInBounds d v).size = nt
    rw [Array.size_setIfInBounds]
    exact hat.sz
theorem At.settle {w0 : Base} {w1 : World} {hs1 : Stay w0 w1} {c : Nat} {hc : c < w1.heap.size} {pl : Pl} {nt : Nat} {o : Oper} {st st' : St} {a : Act} {w : World} {ob : Obj} {ao : AO} {mk : Nat → Value} {d : Tmp} (hat : At P (w0.held w1 hs1 c hc) pl nt st a w) (hob : w1.heap[c]? = some ob) (hnf : ¬ w0.F c)
    (hf : flOf P o = some (ob, ao, mk)) (hd : o.dst = some d) (hv : a.tmps.getD d undef = mk c) (h : stepF P nt o st = some st') : At P w0 (pl ++ [(c, 0)]) nt st' a w := by
  obtain ⟨d', hd', hr, h1, h2, rfl⟩ := stepF_some hf h
  rw [hd] at hd'
  injection hd' with e
  subst e
  have F := flOf_ok hf
  have hl := hat.len
  have below : Stay w0 w := ⟨hat.sim.below.os.trans hs1.os, hat.sim.below.tape.trans hs1.tape, hat.sim.below.output.trans hs1.output, Nat.le_trans hs1.size hat.sim.below.size, fun k hk => (hat.sim.below.block k (.inl hk)).trans (hs1.block k hk)⟩
  have hcb : w.heap[c]? = some ob := (hat.sim.below.block c (.inr rfl)).trans hob
  have hcl : c < w.heap.size := hat.sim.below.lt (.inr rfl)
  have sim0 : Sim P w0 pl st.H w := ⟨below, fun t o hg hl => by
    obtain ⟨b, e, g1, g2, g3⟩ := hat.sim.at_ t o hg hl
    exact ⟨b, e, g1, fun hh => g2 (.inl hh), g3⟩, hat.sim.inj⟩
  have hs := sim0.new (w' := w) (o := ao) (b := c) (d := 0) (room_lt (by rw [hl]; exact hr)) below (Nat.le_refl _) hcl hnf (fun _ _ _ => rfl) (fun t o hg hlv hb => by
    obtain ⟨b, e, g1, g2, g3⟩ := hat.sim.at_ t o hg hlv
    rw [pb_of g1] at hb
    injection hb with hb
    exact g2 (.inr hb)) (F.ob _ _ _ hcb)
  refine ⟨⟨hat.tm.defers, fun t v hg => ?_⟩, by rw [← hl]; exact hs, by simp [hl], hat.sz⟩
  rw [get_set h2] at hg
  split at hg
  · rename_i e
    subst e
    injection hg with hg
    subst hg
    refine ⟨by rw [hat.sz]; exact h1, ?_⟩
    rw [hv]
    exact F.vt _ _ _ _ (by rw [← hl]; exact last_pl)
  · obtain ⟨g1, g2⟩ := hat.tm.at_ t v hg
    exact ⟨g1, VT.mono _ g2⟩
theorem neB_ne {ops : Array Oper} {i j : Nat} {o oj : Oper} {d : Tmp} (hi : ops[i]? = some o) (hj : ops[j]? = some oj) (hd : oj.dst = some d) (h : neB (dstOf ops i) (dstOf ops j) = true) : o.dst ≠ some d := fun e => by
  unfold dstOf at h
  rw [hi, hj] at h
  simp [e, hd, neB] at h
/-- What floats has come up, and is not told yet. -/
theorem evFl_ok {K : Kn} (hK : KOk P K) {w0 : Base} {pl : Pl} {lo n1 : Pr} {nt : Nat} {ops : Array Oper} {ds : List Nat} {H1 : T AO} {Q : Exit → Act → World → Prop} (hlo : lo.1 ≤ pl.length) (hn1 : n1.1 ≤ pl.length) (hin : ∀ t, Prot lo t → Prot n1 t) (hP : ∀ c a w, ¬ Q (.panic c) a w) (x : Nat)
    {j : Nat} {oj : Oper} (hj : ops[j]? = some oj) {ob : Obj} {ao : AO} {mk : Nat → Value} (hfl : flOf P oj = some (ob, ao, mk)) {dj : Tmp} (hd : oj.dst = some dj) {w1 : World} {hs1 : Stay w0 w1} {c : Nat} {hc1 : c < w1.heap.size} (hob : w1.heap[c]? = some ob) (hnf : ¬ w0.F c) :
    ∀ (l : List (Nat × Nat)) (ls : Array Bool) {q : Pl} {st st' : St} {a : Act} {w : World}, At P (w0.held w1 hs1 c hc1) (pl ++ q) nt st a w → a.tmps.getD dj undef = mk c → Stays P pl H1 n1 w → Agree n1 H1 st.H → chkFl ops ds j l ls = true → evReg P K lo nt ops n1 H1 l st = some st' →
      (∀ (q' : Pl) (a' : Act) (w' : World), At P w0 (pl ++ q') nt st' a' w' → Agree lo st.H st'.H → Q .normal a' w') → wpAnyLast P .any ops Q (Stays P pl H1 n1) ds (l.length - 1 + x) ls a w
  | [], ls, q, st, st', a, w, hat, hv, hS, hA, hc, h, hQ => by simp [chkFl] at hc
  | (i, k) :: r, ls, q, st, st', a, w, hat, hv, hS, hA, hc, h, hQ => by
    unfold evReg at h
    cases ho : ops[i]? with
    | none => simp [ho] at h
    | some o =>
      simp only [ho] at h
      have hle : pl.length ≤ st.n := by rw [← hat.len, List.length_append]; omega
      have hlen : ∀ (b : Bool) (l' : Array Bool), (b && chkFl ops ds j r l') = true → b = true ∧ chkFl ops ds j r l' = true ∧ ((i, k) :: r).length - 1 + x = (r.length - 1 + x) + 1 := fun b l' hb => by
        rw [Bool.and_eq_true] at hb
        refine ⟨hb.1, hb.2, ?_⟩
        cases r with
        | nil => have := hb.2; simp [chkFl] at this
        | cons y r => simp; omega
      split at h
      · rename_i st1 hstep
        match k, hc, hstep, hlen with
        | 0, hc, hstep, hlen =>
          obtain ⟨hc1, hc2, hl⟩ := hlen _ _ hc
          rw [hl]
          rw [Bool.and_eq_true] at hc1
          obtain ⟨v, hy, hat1, e1, e2⟩ := stepP_ok hat hstep
          refine pure_ (ls.setIfInBounds i true) ho rfl hc1.1 (fun c a w hp => absurd hp (hP _ _ _)) hy rfl ?_
          exact evFl_ok hK hlo hn1 hin hP x hj hfl hd hob hnf r _ hat1 (by rw [getD_put_ne (neB_ne ho hj hd hc1.2)]; exact hv) hS (by rw [e1]; exact hA) hc2 h (fun q' a' w' hat' hag => hQ q' a' w' hat' (by rw [← e1]; exact hag))
        | 1, hc, hstep, hlen =>
          obtain ⟨hc1, hc2, hl⟩ := hlen _ _ hc
          rw [hl]
          rw [Bool.and_eq_true] at hc1
          obtain ⟨v, hy, hat1, e1, e2⟩ := stepT_ok hat hS hstep
          refine take_ (ls.setIfInBounds i true) ho rfl hc1.1 (fun c a w hp => absurd hp (hP _ _ _)) hy hS rfl ?_
          exact evFl_ok hK hlo hn1 hin hP x hj hfl hd hob hnf r _ hat1 (by rw [getD_put_ne (neB_ne ho hj hd hc1.2)]; exact hv) hS (by rw [e1]; exact hA) hc2 h (fun q' a' w' hat' hag => hQ q' a' w' hat' (by rw [← e1]; exact hag))
        | 2, hc, hstep, hlen =>
          obtain ⟨hc1, hc2, hl⟩ := hlen _ _ hc
          rw [hl]
          rw [Bool.and_eq_true, Bool.and_eq_true] at hc1
          refine one_ (ls.setIfInBounds i true) ho rfl hc1.1.1 (by have := hc1.1.2; simpa using this) (fun Kc hKc => ?_)
          refine step_ok hK hat (Nat.le_trans hn1 hle) hstep Kc (fun q2 a2 w2 hat2 hag2 hput => ?_)
          obtain ⟨v2, rfl⟩ := hput
          have hat3 := app_assoc hat2
          have hS2 := hS.next (q := q ++ q2) hat3.sim (hA.trans hag2)
          refine hKc.out _ w2 hS2 (fun _ => ?_)
          exact evFl_ok hK hlo hn1 hin hP x hj hfl hd hob hnf r _ hat3 (by rw [getD_put_ne (neB_ne ho hj hd hc1.2)]; exact hv) hS2 (hA.trans hag2) hc2 h (fun q' a' w' hat' hag => hQ q' a' w' hat' ((hag2.less hin).trans hag))
        | 3, hc, hstep, hlen => simp [chkFl] at hc
        | 4, hc, hstep, hlen => simp [chkFl] at hc
        | 5, hc, hstep, hlen =>
          obtain ⟨hc1, hc2, hl⟩ := hlen _ _ hc
          rw [hl]
          rw [Bool.and_eq_true, Bool.and_eq_true] at hc1
          have hstep := (cond_some hstep).2
          refine one_ (ls.setIfInBounds i true) ho rfl hc1.1.1 (by have := hc1.1.2; simpa using this) (fun Kc hKc => ?_)
          refine step_ok hK hat (Nat.le_trans hn1 hle) hstep Kc (fun q2 a2 w2 hat2 hag2 hput => ?_)
          obtain ⟨v2, rfl⟩ := hput
          have hat3 := app_assoc hat2
          have hS2 := hS.next (q := q ++ q2) hat3.sim (hA.trans hag2)
          refine hKc.out _ w2 hS2 (fun _ => ?_)
          exact evFl_ok hK hlo hn1 hin hP x hj hfl hd hob hnf r _ hat3 (by rw [getD_put_ne (neB_ne ho hj hd hc1.2)]; exact hv) hS2 (hA.trans hag2) hc2 h (fun q' a' w' hat' hag => hQ q' a' w' hat' ((hag2.less hin).trans hag))
        | 6, hc, hstep, hlen =>
          have hc : (Nat.beq i j && chkReg ops ds r ls) = true := hc
          rw [Bool.and_eq_true] at hc
          have hij : i = j := Nat.eq_of_beq_eq_true hc.1
          subst hij
          rw [ho] at hj
          injection hj with hj
          subst hj
          obtain ⟨d', hd', hr, h1, h2, e⟩ := stepF_some hfl hstep
          have hag : Agree n1 st.H st1.H := by rw [e]; exact Agree.set (room_lt hr) (np (Nat.le_trans hn1 hle))
          have hag' : Agree lo st.H st1.H := by rw [e]; exact Agree.set (room_lt hr) (np (Nat.le_trans hlo hle))
          have hat1 := app_assoc (At.settle hat hob hnf hfl hd hv hstep)
          show wpAnyLast P .any ops Q (Stays P pl H1 n1) ds (r.length + x) ls a w
          exact evReg_ok hK hlo hn1 hin hP x r _ hat1 (.inr ⟨hS, hA.trans hag⟩) hc.2 h (fun q' a' w' hat' hg => hQ q' a' w' hat' (hag'.trans hg))
        | k + 7, hc, _, _ => simp [chkFl] at hc
      · cases h
/-- What floats has not come up yet. -/
theorem evOne_ok {K : Kn} (hK : KOk P K) {w0 : Base} {pl : Pl} {lo n1 : Pr} {nt : Nat} {ops : Array Oper} {ds : List Nat} {H1 : T AO} {Q : Exit → Act → World → Prop} (hlo : lo.1 ≤ pl.length) (hn1 : n1.1 ≤ pl.length) (hin : ∀ t, Prot lo t → Prot n1 t) (hP : ∀ c a w, ¬ Q (.panic c) a w) (x : Nat) :
    ∀ (l : List (Nat × Nat)) (ls : Array Bool) {q : Pl} {st st' : St} {a : Act} {w : World}, At P w0 (pl ++ q) nt st a w → Stays P pl H1 n1 w → Agree n1 H1 st.H → chkOne ops ds l ls = true → evReg P K lo nt ops n1 H1 l st = some st' →
      (∀ (q' : Pl) (a' : Act) (w' : World), At P w0 (pl ++ q') nt st' a' w' → Agree lo st.H st'.H → Q .normal a' w') → wpAnyLast P .any ops Q (Stays P pl H1 n1) ds (l.length + x) ls a w
  | [], ls, q, st, st', a, w, hat, hS, hA, hc, h, hQ => by simp [chkOne] at hc
  | (i, k) :: r, ls, q, st, st', a, w, hat, hS, hA, hc, h, hQ => by
    have h0 := h
    unfold evReg at h
    cases ho : ops[i]? with
    | none => simp [ho] at h
    | some o =>
      simp only [ho] at h
      have hle : pl.length ≤ st.n := by rw [← hat.len, List.length_append]; omega
      have hlen : ((i, k) :: r).length + x = (r.length + x) + 1 := by simp; omega
      rw [hlen]
      split at h
      · rename_i st1 hstep
        match k, hc, hstep, h0 with
        | 0, hc, hstep, h0 =>
          have hc : (anyB .any ops ls (ls.setIfInBounds i true) i && chkOne ops ds r (ls.setIfInBounds i true)) = true := hc
          rw [Bool.and_eq_true] at hc
          obtain ⟨v, hy, hat1, e1, e2⟩ := stepP_ok hat hstep
          refine pure_ (ls.setIfInBounds i true) ho rfl hc.1 (fun c a w hp => absurd hp (hP _ _ _)) hy rfl ?_
          exact evOne_ok hK hlo hn1 hin hP x r _ hat1 hS (by rw [e1]; exact hA) hc.2 h (fun q' a' w' hat' hag => hQ q' a' w' hat' (by rw [← e1]; exact hag))
        | 1, hc, hstep, h0 =>
          have hc : (takeB .any ops ds ls (ls.setIfInBounds i true) i && chkOne ops ds r (ls.setIfInBounds i true)) = true := hc
          rw [Bool.and_eq_true] at hc
          obtain ⟨v, hy, hat1, e1, e2⟩ := stepT_ok hat hS hstep
          refine take_ (ls.setIfInBounds i true) ho rfl hc.1 (fun c a w hp => absurd hp (hP _ _ _)) hy hS rfl ?_
          exact evOne_ok hK hlo hn1 hin hP x r _ hat1 hS (by rw [e1]; exact hA) hc.2 h (fun q' a' w' hat' hag => hQ q' a' w' hat' (by rw [← e1]; exact hag))
        | 2, hc, hstep, h0 =>
          have hc : (readyB .any ops ls (ls.setIfInBounds i true) i && !ds.contains i && chkOne ops ds r (ls.setIfInBounds i true)) = true := hc
          rw [Bool.and_eq_true, Bool.and_eq_true] at hc
          refine one_ (ls.setIfInBounds i true) ho rfl hc.1.1 (by have := hc.1.2; simpa using this) (fun Kc hKc => ?_)
          refine step_ok hK hat (Nat.le_trans hn1 hle) hstep Kc (fun q2 a2 w2 hat2 hag2 _ => ?_)
          have hat3 := app_assoc hat2
          have hS2 := hS.next (q := q ++ q2) hat3.sim (hA.trans hag2)
          refine hKc.out a2 w2 hS2 (fun _ => ?_)
          exact evOne_ok hK hlo hn1 hin hP x r _ hat3 hS2 (hA.trans hag2) hc.2 h (fun q' a' w' hat' hag => hQ q' a' w' hat' ((hag2.less hin).trans hag))
        | 3, hc, hstep, h0 => simp [chkOne] at hc
        | 4, hc, hstep, h0 => simp [chkOne] at hc
        | 5, hc, hstep, h0 =>
          obtain ⟨hfree, hstep⟩ := cond_some hstep
          unfold chkOne at hc
          unfold flFree at hfree
          cases hix : flIx r with
          | none => simp [hix] at hc
          | some j =>
            simp only [hix] at hc hfree
            simp only [Bool.and_eq_true] at hc
            obtain ⟨⟨⟨⟨c1, c2⟩, c3⟩, c4⟩, c5⟩ := hc
            cases hj : ops[j]? with
            | none => simp [hj] at hfree
            | some oj =>
              simp only [hj] at hfree
              rw [Bool.and_eq_true] at hfree
              obtain ⟨f1, f2⟩ := hfree
              obtain ⟨⟨ob, ao, mk⟩, hfl⟩ := Option.isSome_iff_exists.1 f1
              cases hd : oj.dst with
              | none => simp [hd] at f2
              | some d =>
                simp only [hd, Bool.and_eq_true] at f2
                obtain ⟨⟨f2, f3⟩, f4⟩ := f2
                have f4 : get TD st.tm d = none := by
                  cases hg : get TD st.tm d with
                  | none => rfl
                  | some v => rw [hg] at f4; cases f4
                have F := flOf_ok hfl
                have br1 : ∀ Kc : Act → World → Prop, Shut (∀ a' w', Stays P pl H1 n1 w' → (Stays P pl H1 n1 w' → wpAnyLast P .any ops Q (Stays P pl H1 n1) ds (r.length + x) (ls.setIfInBounds i true) a' w') → Kc a' w') → if Region.wanted o (yielded ops a.tmps) = true then Oper.wp P o a w Kc Q else Kc (a.put o.dst undef) w := by
                  intro Kc hKc
                  refine step_ok hK hat (Nat.le_trans hn1 hle) hstep Kc (fun q2 a2 w2 hat2 hag2 _ => ?_)
                  have hat3 := app_assoc hat2
                  have hS2 := hS.next (q := q ++ q2) hat3.sim (hA.trans hag2)
                  refine hKc.out a2 w2 hS2 (fun _ => ?_)
                  exact evOne_ok hK hlo hn1 hin hP x r _ hat3 hS2 (hA.trans hag2) c5 h (fun q' a' w' hat' hag => hQ q' a' w' hat' ((hag2.less hin).trans hag))
                have br2 : ∀ Kc : Act → World → Prop, Shut (∀ a' w', Stays P pl H1 n1 w' → (Stays P pl H1 n1 w' → wpAnyLast P .any ops Q (Stays P pl H1 n1) ds (r.length + x) (ls.setIfInBounds j true) a' w') → Kc a' w') → if Region.wanted oj (yielded ops a.tmps) = true then Oper.wp P oj a w Kc Q else Kc (a.put oj.dst undef) w := by
                  intro Kc hKc
                  have hw : Region.wanted oj (yielded ops a.tmps) = true := by
                    unfold Region.wanted
                    rw [F.guard]
                  rw [if_pos hw]
                  unfold Oper.wp
                  rw [F.run, Oper.upon_value, hd]
                  have hsz : w.heap.size < (w.alloc ob).heap.size := by rw [World.size_alloc]; omega
                  have hat1 := hat.hold (ob := ob) (d := d) (v := mk w.heap.size) (hat.sim.below.alloc ob) hsz f4
                  have hS1 := hS.next (q := q) hat1.sim hA
                  refine hKc.out _ _ hS1 (fun _ => ?_)
                  have := evFl_ok hK hlo hn1 hin hP x hj hfl hd (heap_alloc_new w ob) hat.sim.below.new ((i, 5) :: r) (ls.setIfInBounds j true) hat1 (getD_put_eq (by rw [hat.sz]; exact Nat.le_of_ble_eq_true f2)) hS1 hA c4 h0 hQ
                  simpa using this
                have hdi : i ∉ ds := by have := c2; simpa using this
                have hdj : j ∉ ds := by have := c3; simpa using this
                rw [Bool.or_eq_true] at c1
                rcases c1 with c1 | c1
                · exact two_ (ls.setIfInBounds i true) (ls.setIfInBounds j true) ho hj rfl rfl (by simp [c1]) hdi hdj br1 br2
                · exact two_ (ls.setIfInBounds j true) (ls.setIfInBounds i true) hj ho rfl rfl (by simp [c1]) hdj hdi br2 br1
        | 6, hc, hstep, h0 =>
          have hc : (readyB .any ops ls (ls.setIfInBounds i true) i && !ds.contains i && chkReg ops ds r (ls.setIfInBounds i true)) = true := hc
          rw [Bool.and_eq_true, Bool.and_eq_true] at hc
          cases hfl : flOf P o with
          | none =>
            have hs : stepF P nt o st = some st1 := hstep
            unfold stepF at hs
            rw [hfl] at hs
            cases hs
          | some t =>
            obtain ⟨ob, ao, mk⟩ := t
            have F := flOf_ok hfl
            obtain ⟨d', hd', hr, h1, h2, e⟩ := stepF_some hfl hstep
            have hag : Agree n1 st.H st1.H := by rw [e]; exact Agree.set (room_lt hr) (np (Nat.le_trans hn1 hle))
            have hag' : Agree lo st.H st1.H := by rw [e]; exact Agree.set (room_lt hr) (np (Nat.le_trans hlo hle))
            have hat1 := app_assoc (stepF_ok hat hfl hstep)
            refine one_ (ls.setIfInBounds i true) ho rfl hc.1.1 (by have := hc.1.2; simpa using this) (fun Kc hKc => ?_)
            have hw : Region.wanted o (yielded ops a.tmps) = true := by
              unfold Region.wanted
              rw [F.guard]
            rw [if_pos hw]
            unfold Oper.wp
            rw [F.run, Oper.upon_value]
            have hS1 := hS.next (q := q ++ [(w.heap.size, 0)]) hat1.sim (hA.trans hag)
            refine hKc.out _ _ hS1 (fun _ => ?_)
            exact evReg_ok hK hlo hn1 hin hP x r _ hat1 (.inr ⟨hS1, hA.trans hag⟩) hc.2 h (fun q' a' w' hat' hg => hQ q' a' w' hat' (hag'.trans hg))
        | k + 7, hc, _, _ => simp [chkOne] at hc
      · cases h
end Go.Proofs.YteeclengpnjlgaaGreat.Ev
