import Derived.Test.YteeclengpnjlgaaGreatEvB
import Derived.Laws.Tables
import Derived.Deep.MidRow
import Derived.Great.Walk
/- A closed run, reckoned: operations that look at no memory. -/
namespace Go.Proofs.YteeclengpnjlgaaGreat.Ev
set_option linter.unusedVariables false
set_option linter.unusedSimpArgs false
open Go.RowKit
variable {P : Program}
def pureRun (P : Program) {α : Type} : Sem α → Option α
  | .pure a => some a
  | .program k => pureRun P (k P)
  | _ => none
theorem pureRun_run {α : Type} {s : Sem α} {a : α} (w : World) (h : pureRun P s = some a) : s.run P w = .ok a w := by
  induction s with
  | pure b => simp [pureRun] at h; subst h; rfl
  | program k ih => exact ih P h
  | _ => simp [pureRun] at h
/-- A value of one cell without a place. -/
def scal : Value → Bool
  | .bool _ | .int _ _ | .string _ | .float _ _ | .complex _ _ _ | .pointer none | .slice none _ _ | .map none | .chan none | .nilFunc | .nilIface => true
  | _ => false
def plain : Value → Bool
  | .agg cs => cs.all scal
  | v => scal v
theorem scal_VC {pl : Pl} {v : Value} (h : scal v = true) : VC pl v v := by
  cases v <;> first | rfl | (simp [scal] at h; done) | (rename_i a; cases a <;> first | rfl | (simp [scal] at h; done)) | (rename_i a _ _; cases a <;> first | rfl | (simp [scal] at h; done))
theorem VC_scal {pl : Pl} {v v' : Value} (h : scal v = true) (hv : VC pl v v') : v' = v := by
  cases v <;> first | exact hv | (simp [scal] at h; done) | (rename_i a; cases a <;> first | exact hv | (simp [scal] at h; done)) | (rename_i a _ _; cases a <;> first | exact hv | (simp [scal] at h; done))
theorem Pw_scal {pl : Pl} : ∀ {l m : List Value}, l.all scal = true → Pw (VC pl) l m → m = l
  | [], [], _, _ => rfl
  | a :: l, b :: m, h, ⟨h1, h2⟩ => by
    rw [List.all_cons, Bool.and_eq_true] at h
    rw [VC_scal h.1 h1, Pw_scal h.2 h2]
  | [], _ :: _, _, h2 => h2.elim
  | _ :: _, [], _, h2 => h2.elim
theorem VC_VA {pl : Pl} {v v' : Value} (h : VC pl v v') : VA pl v v' := by
  cases v <;> first | exact h | exact h.elim
theorem VA_VT {pl : Pl} {v v' : Value} (h : VA pl v v') : VT pl v v' := by
  cases v <;> first | exact h | exact h.elim
theorem all_list {cs : Array Value} : cs.all scal = cs.toList.all scal := by rw [← Array.all_toList]
theorem plain_VT {pl : Pl} {v : Value} (h : plain v = true) : VT pl v v := by
  cases v
  case agg cs =>
    refine ⟨cs, rfl, Pw.refl (fun v hv => ?_)⟩
    have h' : cs.all scal = true := h
    rw [all_list, List.all_eq_true] at h'
    exact scal_VC (h' v hv)
  all_goals exact VA_VT (VC_VA (scal_VC h))
theorem VT_plain {pl : Pl} {v v' : Value} (h : plain v = true) (hv : VT pl v v') : v' = v := by
  cases v
  case agg cs =>
    obtain ⟨cs', rfl, hp⟩ := hv
    have h' : cs.all scal = true := h
    rw [all_list] at h'
    have := Pw_scal h' hp
    rw [Array.toList_inj] at this
    rw [this]
  case tuple vs => simp [plain, scal] at h
  case func _ _ _ => simp [plain, scal] at h
  case iface _ _ => simp [plain, scal] at h
  all_goals exact VC_scal (pl := pl) h hv
/-- An operand. -/
def evO (tm : T Value) : Operand → Option Value
  | .tmp t => get TD tm t
  | .const v => bif plain v then some v else none
  | .func f => some (.func (.func f) #[] #[])
  | .global _ => none
theorem evO_ok {pl : Pl} {tm : T Value} {a : Act} {x : Operand} {v : Value} (ht : Tm pl tm a) (h : evO tm x = some v) : VT pl v (a.eval x) := by
  cases x with
  | tmp t => exact (ht.at_ t v h).2
  | const u =>
    unfold evO at h
    cases hp : plain u with
    | false => simp [hp] at h
    | true =>
      simp [hp] at h
      subst h
      exact plain_VT hp
  | func f =>
    simp [evO] at h
    subst h
    exact ⟨f, #[], rfl, rfl, rfl, trivial⟩
  | global g => simp [evO] at h
theorem VC_one {pl : Pl} {v v' : Value} (h : VC pl v v') : v'.cells = #[v'] ∧ v'.oneCell' = true := by
  cases v with
  | func fn fs cs =>
    obtain ⟨f, cs', _, _, rfl, _⟩ := h
    exact ⟨rfl, rfl⟩
  | pointer a =>
    cases a with
    | none => have h' : v' = _ := h; subst h'; exact ⟨rfl, rfl⟩
    | some a => obtain ⟨a', _, rfl⟩ := h; exact ⟨rfl, rfl⟩
  | slice a n c =>
    cases a with
    | none => have h' : v' = _ := h; subst h'; exact ⟨rfl, rfl⟩
    | some a => obtain ⟨a', c', _, _, rfl⟩ := h; exact ⟨rfl, rfl⟩
  | map r =>
    cases r with
    | none => have h' : v' = _ := h; subst h'; exact ⟨rfl, rfl⟩
    | some r => obtain ⟨b, _, rfl⟩ := h; exact ⟨rfl, rfl⟩
  | chan r =>
    cases r with
    | none => have h' : v' = _ := h; subst h'; exact ⟨rfl, rfl⟩
    | some r => exact h.elim
  | agg cs => exact h.elim
  | tuple cs => exact h.elim
  | iface t x => exact h.elim
  | _ => have h' : v' = _ := h; subst h'; exact ⟨rfl, rfl⟩
theorem one_of {pl : Pl} {v v' : Value} (h : VC pl v v') (hc : v.cells = #[v]) : Pw (VC pl) v.cells.toList v'.cells.toList := by
  rw [hc, (VC_one h).1]
  exact ⟨h, trivial⟩
theorem cells_VA {pl : Pl} {v v' : Value} (h : VA pl v v') : Pw (VC pl) v.cells.toList v'.cells.toList := by
  cases v
  case agg cs =>
    obtain ⟨cs', rfl, hp⟩ := h
    exact hp
  all_goals exact one_of (pl := pl) h rfl
theorem Pw_one {pl : Pl} : ∀ {l m : List Value}, Pw (VC pl) l m → ∀ v ∈ m, v.oneCell' = true
  | [], [], _, _, h => by simp at h
  | _ :: _, b :: m, ⟨h1, h2⟩, v, h => by
    rcases List.mem_cons.1 h with rfl | h
    · exact (VC_one h1).2
    · exact Pw_one h2 v h
  | [], _ :: _, h2, _, _ => h2.elim
  | _ :: _, [], h2, _, _ => h2.elim
/-- A part that is filled. -/
theorem fold_set {pl : Pl} (off : Nat) : ∀ (l m : List Value) (k : Nat) (z z' : Array Value), Pw (VC pl) l m → Pw (VC pl) z.toList z'.toList →
    Pw (VC pl) ((l.zipIdx k).foldl (fun cs (p : Value × Nat) => cs.setIfInBounds (off + p.2) p.1) z).toList ((m.zipIdx k).foldl (fun cs (p : Value × Nat) => cs.setIfInBounds (off + p.2) p.1) z').toList
  | [], [], _, _, _, _, h => h
  | a :: l, b :: m, k, z, z', ⟨h1, h2⟩, h => by
    rw [List.zipIdx_cons, List.zipIdx_cons, List.foldl_cons, List.foldl_cons]
    refine fold_set off l m (k + 1) _ _ h2 ?_
    rw [Array.toList_setIfInBounds, Array.toList_setIfInBounds]
    exact Pw.set h1 _ h
  | [], _ :: _, _, _, _, h2, _ => h2.elim
  | _ :: _, [], _, _, _, h2, _ => h2.elim
/-- Parts, with the same numbers. -/
def Pt (pl : Pl) : List (Nat × Value) → List (Nat × Value) → Prop
  | [], [] => True
  | a :: l, b :: m => b.1 = a.1 ∧ VA pl a.2 b.2 ∧ Pt pl l m
  | _, _ => False
theorem fill_R {pl : Pl} (place : Nat → Option (Nat × Nat)) : ∀ (l m : List (Nat × Value)) (z z' c : Array Value), Pt pl l m → Pw (VC pl) z.toList z'.toList → Instr.fill place z l = some c → ∃ c', Instr.fill place z' m = some c' ∧ Pw (VC pl) c.toList c'.toList
  | [], [], z, z', c, _, h, hf => by
    simp [Instr.fill] at hf
    subst hf
    exact ⟨z', rfl, h⟩
  | (i, v) :: l, (j, u) :: m, z, z', c, ⟨h1, h2, h3⟩, h, hf => by
    have h1' : j = i := h1
    subst h1'
    have hc := cells_VA h2
    have hl : u.cells.size = v.cells.size := by have := hc.length; simpa using this
    have hz : z'.size = z.size := by have := h.length; simpa using this
    unfold Instr.fill at hf ⊢
    cases hp : place j with
    | none => simp [hp] at hf
    | some p =>
      obtain ⟨off, size⟩ := p
      simp only [hp] at hf ⊢
      rw [hl, hz]
      split at hf
      · simp at hf
      · rename_i hn
        rw [if_neg hn]
        refine fill_R place l m _ _ c h3 ?_ hf
        have := fold_set off v.cells.toList u.cells.toList 0 z z' hc h
        rw [← Array.foldl_toList, ← Array.foldl_toList, Array.toList_zipIdx, Array.toList_zipIdx]
        exact this
  | [], _ :: _, _, _, _, h2, _, _ => h2.elim
  | _ :: _, [], _, _, _, h2, _, _ => h2.elim
theorem plain_cells {z : Value} (h : plain z = true) : z.cells.toList.all scal = true := by
  cases z
  case agg cs => rw [← all_list]; exact h
  all_goals (first | (show List.all [_] scal = true; simpa [plain] using h) | (simp [plain, scal] at h))
theorem Pw_self {pl : Pl} {l : List Value} (h : l.all scal = true) : Pw (VC pl) l l := Pw.refl (fun v hv => scal_VC (List.all_eq_true.1 h v hv))
/-- The zero of a type is plain. -/
def zeroOk (P : Program) (t : TypeId) : Bool := match P.info? t with | some i => (match i.zero with | some z => plain z | none => false) | none => false
theorem built_R {pl : Pl} {t : TypeId} {l m : List (Nat × Value)} {c : Array Value} (hz : zeroOk P t = true) (hp : Pt pl l m) (h : P.built t l = some c) : ∃ c', P.built t m = some c' ∧ Pw (VC pl) c.toList c'.toList := by
  unfold zeroOk at hz
  unfold Program.built at h ⊢
  cases hit : P.info? t with
  | none => simp [hit] at h
  | some it =>
    cases hu : P.underlying t with
    | none => simp [hit, hu] at h
    | some d =>
      simp only [hit] at hz
      cases hzz : it.zero with
      | none => simp [hzz] at hz
      | some z =>
        simp only [hzz] at hz
        have hzp := Pw_self (pl := pl) (plain_cells hz)
        cases d <;> try (simp [hit, hu] at h; done)
        case array n e =>
          cases hie : P.info? e with
          | none => simp [hit, hu, hzz, hie] at h
          | some ie =>
            simp only [hit, hu, hzz, hie] at h ⊢
            exact fill_R _ l m _ _ c hp hzp h
        case struct fields =>
          cases hpl : fields.toList.mapM (fun f => (P.info? f.type).map fun i => (f.offset, i.size)) with
          | none => simp [hit, hu, hzz, hpl] at h
          | some places =>
            simp only [hit, hu, hzz, hpl] at h ⊢
            exact fill_R _ l m _ _ c hp hzp h
end Go.Proofs.YteeclengpnjlgaaGreat.Ev
