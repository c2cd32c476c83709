import Derived.Test.YteeclengpnjlgaaGreatEvA
import Derived.Below
import Derived.Carry
import Derived.RowKit
/- A closed run, reckoned: memory. -/
namespace Go.Proofs.YteeclengpnjlgaaGreat.Ev
set_option linter.unusedVariables false
set_option linter.unusedSimpArgs false
open Go.RowKit
inductive AO where
  | cells (cs : List Value) (e : TypeId)
  | map (es : List MapEntry) (clock : Nat)
  | dead
def AO.live : AO → Bool
  | .dead => false
  | _ => true
def Er (pl : Pl) (e e' : MapEntry) : Prop := e'.key = e.key ∧ e'.born = e.born ∧ VA pl e.val e'.val
def Es (pl : Pl) : List MapEntry → List MapEntry → Prop
  | [], [] => True
  | a :: l, b :: m => Er pl a b ∧ Es pl l m
  | _, _ => False
theorem Es.mono {pl : Pl} (q : Pl) : ∀ {l m : List MapEntry}, Es pl l m → Es (pl ++ q) l m
  | [], [], _ => trivial
  | _ :: _, _ :: _, ⟨h1, h2⟩ => ⟨⟨h1.1, h1.2.1, h1.2.2.mono q⟩, Es.mono q h2⟩
  | [], _ :: _, h2 => h2.elim
  | _ :: _, [], h2 => h2.elim
/-- Cells that are known: the first ones of a block. -/
def Cl (pl : Pl) (cs : List Value) (cc : Array Value) : Prop := cs.length ≤ cc.size ∧ Pw (VC pl) cs (cc.toList.take cs.length)
def Ob (P : Program) (pl : Pl) (b d : Nat) (w : World) : AO → Prop
  | .cells cs e => ∃ cc, w.heap[b]? = some (.cells cc e (0, 0)) ∧ Cl pl cs cc ∧ cs.length + d * P.cellsOf e ≤ cc.size
  | .map es k => ∃ es', w.heap[b]? = some (.map es' k) ∧ Es pl es es'.toList
  | .dead => True
theorem Cl.mono {pl : Pl} (q : Pl) {cs : List Value} {cc : Array Value} (h : Cl pl cs cc) : Cl (pl ++ q) cs cc := ⟨h.1, h.2.mono (fun _ _ => VC.mono q)⟩
theorem Ob.mono {P : Program} {pl : Pl} (q : Pl) {b d : Nat} {w : World} {o : AO} (h : Ob P pl b d w o) : Ob P (pl ++ q) b d w o := by
  cases o with
  | cells cs e => obtain ⟨cc, h1, h2, h3⟩ := h; exact ⟨cc, h1, h2.mono q, h3⟩
  | map es k => obtain ⟨es', h1, h2⟩ := h; exact ⟨es', h1, h2.mono q⟩
  | dead => trivial
theorem Ob.move {P : Program} {pl : Pl} {b d : Nat} {w w' : World} {o : AO} (h : Ob P pl b d w o) (e : w'.heap[b]? = w.heap[b]?) : Ob P pl b d w' o := by
  cases o with
  | cells cs e' => obtain ⟨cc, h1, h2⟩ := h; exact ⟨cc, e.trans h1, h2⟩
  | map es k => obtain ⟨es', h1, h2⟩ := h; exact ⟨es', e.trans h1, h2⟩
  | dead => trivial
/-- The world at the start, and the blocks of it that nothing writes. -/
structure Base where
  w : World
  F : Nat → Prop
  lt : ∀ b, F b → b < w.heap.size
def Base.of (w : World) : Base := ⟨w, fun b => b < w.heap.size, fun _ h => h⟩
structure Stay (B : Base) (w : World) : Prop where
  os : w.os = B.w.os
  tape : w.tape = B.w.tape
  output : w.output = B.w.output
  size : B.w.heap.size ≤ w.heap.size
  block : ∀ k, B.F k → w.heap[k]? = B.w.heap[k]?
theorem Stay.refl (B : Base) : Stay B B.w := ⟨rfl, rfl, rfl, Nat.le_refl _, fun _ _ => rfl⟩
theorem Stay.lt {B : Base} {w : World} (h : Stay B w) {k : Nat} (hk : B.F k) : k < w.heap.size := Nat.lt_of_lt_of_le (B.lt k hk) h.size
theorem Stay.alloc {B : Base} {w : World} (h : Stay B w) (o : Obj) : Stay B (w.alloc o) := ⟨h.os, h.tape, h.output, Nat.le_trans h.size (by rw [World.size_alloc]; omega), fun k hk => (heap_alloc_old w o k (h.lt hk)).trans (h.block k hk)⟩
theorem Stay.new {B : Base} {w : World} (h : Stay B w) : ¬ B.F w.heap.size := fun hf => by
  have := h.lt hf
  omega
/-- The worlds that a memory of tokens stands for: w0 is the world at the start; token t lies at pl[t]. -/
structure Sim (P : Program) (w0 : Base) (pl : Pl) (H : T AO) (w : World) : Prop where
  below : Stay w0 w
  at_ : ∀ (t : Nat) (o : AO), get HD H t = some o → o.live = true → ∃ b d, pl[t]? = some (b, d) ∧ ¬ w0.F b ∧ Ob P pl b d w o
  inj : ∀ (s t : Nat) (o o' : AO) (b : Nat), get HD H s = some o → o.live = true → get HD H t = some o' → o'.live = true → pb pl s = some b → pb pl t = some b → s = t
theorem get_nil (d t : Nat) {α : Type} : get d (.nil : T α) t = none := by
  unfold get
  rw [T.get_nil]
  cases Nat.blt t (2 ^ d) <;> rfl
theorem Sim.start (P : Program) (w0 : Base) : Sim P w0 [] .nil w0.w where
  below := Stay.refl _
  at_ := fun t o h => by rw [get_nil] at h; cases h
  inj := fun s t o o' b h => by rw [get_nil] at h; cases h
theorem Sim.ltb {P : Program} {w0 : Base} {pl : Pl} {H : T AO} {w : World} (h : Sim P w0 pl H w) {t b : Nat} {o : AO} (hg : get HD H t = some o) (hl : o.live = true) (e : pb pl t = some b) : b < w.heap.size := by
  obtain ⟨b', d, h1, _, h2⟩ := h.at_ t o hg hl
  rw [pb_of h1] at e
  injection e with e
  subst e
  cases o with
  | cells cs el => obtain ⟨cc, h3, _⟩ := h2; exact (Array.getElem?_eq_some_iff.1 h3).1
  | map es k => obtain ⟨es', h3, _⟩ := h2; exact (Array.getElem?_eq_some_iff.1 h3).1
  | dead => simp [AO.live] at hl
theorem heap_al (w : World) (o : Obj) (k : Nat) (h : k < w.heap.size) : (w.alloc o).heap[k]? = w.heap[k]? := heap_alloc_old w o k h
theorem last_pl {pl : Pl} {x : Nat × Nat} : (pl ++ [x])[pl.length]? = some x := by simp
theorem split_pl {pl : Pl} {x : Nat × Nat} {t b : Nat} (h : pb (pl ++ [x]) t = some b) : pb pl t = some b ∨ (t = pl.length ∧ b = x.1) := by
  obtain ⟨d, h⟩ := pb_some h
  rcases Nat.lt_or_ge t pl.length with ht | ht
  · rw [List.getElem?_append_left ht] at h
    exact .inl (pb_of h)
  · rw [List.getElem?_append_right ht] at h
    rcases hd : t - pl.length with _ | k
    · rw [hd] at h
      simp at h
      subst h
      exact .inr ⟨by omega, rfl⟩
    · rw [hd] at h
      simp at h
/-- A new token: of a new block, or of one whose token is dead. -/
theorem Sim.new {P : Program} {w0 : Base} {pl : Pl} {H : T AO} {w w' : World} (h : Sim P w0 pl H w) {o : AO} {b d : Nat} (hn : pl.length < 2 ^ HD) (hbe : Stay w0 w') (hsz : w.heap.size ≤ w'.heap.size) (hb : b < w'.heap.size) (hge : ¬ w0.F b)
    (hold : ∀ k, k < w.heap.size → k ≠ b → w'.heap[k]? = w.heap[k]?) (hfree : ∀ t o, get HD H t = some o → o.live = true → pb pl t ≠ some b) (ho : Ob P (pl ++ [(b, d)]) b d w' o) : Sim P w0 (pl ++ [(b, d)]) (T.set HD H pl.length o) w' where
  below := hbe
  at_ := fun t o' hg hl => by
    rw [get_set hn] at hg
    split at hg
    · rename_i e
      subst e
      injection hg with hg
      subst hg
      exact ⟨b, d, last_pl, hge, ho⟩
    · obtain ⟨b', d', h1, h2, h3⟩ := h.at_ t o' hg hl
      exact ⟨b', d', pl_pre h1, h2, (h3.move (hold b' (h.ltb hg hl (pb_of h1)) (fun e => hfree t o' hg hl (e ▸ pb_of h1)))).mono _⟩
  inj := fun s t o1 o2 b' hs hls ht hlt hbs hbt => by
    have old : ∀ (x : Nat) (o3 : AO), x ≠ pl.length → get HD H x = some o3 → o3.live = true → pb (pl ++ [(b, d)]) x = some b' → pb pl x = some b' ∧ b' ≠ b := fun x o3 hx hgx hlx hbx => by
      rcases split_pl hbx with h1 | ⟨h1, _⟩
      · exact ⟨h1, fun e => hfree x o3 hgx hlx (e ▸ h1)⟩
      · exact absurd h1 hx
    have new : ∀ x, x = pl.length → pb (pl ++ [(b, d)]) x = some b' → b' = b := fun x hx hbx => by
      subst hx
      rw [pb_of (last_pl (x := (b, d)))] at hbx
      injection hbx with e
      exact e.symm
    rw [get_set hn] at hs ht
    split at hs <;> split at ht
    · omega
    · rename_i e1 e2
      exact absurd (new s e1 hbs) (old t o2 e2 ht hlt hbt).2
    · rename_i e1 e2
      exact absurd (new t e2 hbt) (old s o1 e1 hs hls hbs).2
    · rename_i e1 e2
      exact h.inj s t o1 o2 b' hs hls ht hlt (old s o1 e1 hs hls hbs).1 (old t o2 e2 ht hlt hbt).1
theorem Sim.alloc {P : Program} {w0 : Base} {pl : Pl} {H : T AO} {w : World} (h : Sim P w0 pl H w) {o : AO} {ob : Obj} {d : Nat} (hn : pl.length < 2 ^ HD) (ho : Ob P (pl ++ [(w.heap.size, d)]) w.heap.size d (w.alloc ob) o) : Sim P w0 (pl ++ [(w.heap.size, d)]) (T.set HD H pl.length o) (w.alloc ob) :=
  h.new hn (h.below.alloc ob) (by rw [World.size_alloc]; omega) (by rw [World.size_alloc]; omega) h.below.new (fun k hk _ => heap_al w ob k hk) (fun t o' hg hl e => by have := h.ltb hg hl e; omega) ho
/-- One block is written anew. -/
theorem Sim.upd {P : Program} {w0 : Base} {pl : Pl} {H : T AO} {w w' : World} (h : Sim P w0 pl H w) {t : Nat} {o o2 : AO} (ht : t < 2 ^ HD) (hg : get HD H t = some o) (hl : o.live = true) {b d : Nat} (hb : pl[t]? = some (b, d))
    (hs : w'.heap.size = w.heap.size) (h1 : w'.os = w.os) (h2 : w'.tape = w.tape) (h3 : w'.output = w.output) (hne : ∀ k, k ≠ b → w'.heap[k]? = w.heap[k]?) (ho : Ob P pl b d w' o2) : Sim P w0 pl (T.set HD H t o2) w' where
  below := by
    obtain ⟨b', d', hb', hge, _⟩ := h.at_ t o hg hl
    have : b' = b := by rw [hb] at hb'; injection hb' with e; injection e with e _; exact e.symm
    subst this
    exact ⟨h1.trans h.below.os, h2.trans h.below.tape, h3.trans h.below.output, hs ▸ h.below.size, fun k hk => (hne k (fun e => hge (e ▸ hk))).trans (h.below.block k hk)⟩
  at_ := fun s o' hg' hl' => by
    rw [get_set ht] at hg'
    split at hg'
    · rename_i e
      subst e
      injection hg' with e
      subst e
      obtain ⟨b', d', hb', hge, _⟩ := h.at_ s o hg hl
      have : b' = b := by rw [hb] at hb'; injection hb' with e; injection e with e _; exact e.symm
      subst this
      exact ⟨b', d, hb, hge, ho⟩
    · rename_i e
      obtain ⟨b', d', hb', hge, hO⟩ := h.at_ s o' hg' hl'
      exact ⟨b', d', hb', hge, hO.move (hne b' (fun e' => by subst e'; exact e (h.inj s t o' o b' hg' hl' hg hl (pb_of hb') (pb_of hb))))⟩
  inj := fun s t' o1 o2' b' hs' hls ht' hlt hbs hbt => by
    have lv : ∀ (x : Nat) (o3 : AO), get HD (T.set HD H t o2) x = some o3 → o3.live = true → ∃ o4, get HD H x = some o4 ∧ o4.live = true := fun x o3 hx hlx => by
      rw [get_set ht] at hx
      split at hx
      · rename_i e
        subst e
        exact ⟨o, hg, hl⟩
      · exact ⟨o3, hx, hlx⟩
    obtain ⟨o4, g4, l4⟩ := lv s o1 hs' hls
    obtain ⟨o5, g5, l5⟩ := lv t' o2' ht' hlt
    exact h.inj s t' o4 o5 b' g4 l4 g5 l5 hbs hbt
/-- A draw. -/
theorem Sim.drew {P : Program} {w0 : Base} {pl : Pl} {H : T AO} {w : World} (h : Sim P w0 pl H w) : Sim P w0 pl H w.drew :=
  ⟨⟨h.below.os, h.below.tape, h.below.output, h.below.size, h.below.block⟩, fun t o hg hl => by
    obtain ⟨b, d, h1, h2, h3⟩ := h.at_ t o hg hl
    exact ⟨b, d, h1, h2, h3.move rfl⟩, h.inj⟩
theorem Sim.cells {P : Program} {w0 : Base} {pl : Pl} {H : T AO} {w : World} (h : Sim P w0 pl H w) {t : Nat} {cs : List Value} {e : TypeId} (hg : get HD H t = some (.cells cs e)) : ∃ b cc, pb pl t = some b ∧ w.heap[b]? = some (.cells cc e (0, 0)) ∧ Cl pl cs cc := by
  obtain ⟨b, d, h1, _, cc, h3, h4, _⟩ := h.at_ t _ hg rfl
  exact ⟨b, cc, pb_of h1, h3, h4⟩
/-- The temporaries. -/
structure Tm (pl : Pl) (tm : T Value) (a : Act) : Prop where
  defers : a.defers = []
  at_ : ∀ (t : Nat) (v : Value), get TD tm t = some v → t < a.tmps.size ∧ VT pl v (a.tmps.getD t undef)
theorem Tm.mono {pl : Pl} (q : Pl) {tm : T Value} {a : Act} (h : Tm pl tm a) : Tm (pl ++ q) tm a := ⟨h.defers, fun t v hg => ⟨(h.at_ t v hg).1, (h.at_ t v hg).2.mono q⟩⟩
theorem Tm.put {pl : Pl} {tm : T Value} {a : Act} (h : Tm pl tm a) {t : Nat} {v v' : Value} (ht : t < 2 ^ TD) (hlt : t < a.tmps.size) (hv : VT pl v v') : Tm pl (T.set TD tm t v) (a.put (some t) v') where
  defers := h.defers
  at_ := fun s u hg => by
    rw [get_set ht] at hg
    show s < (a.tmps.setIfInBounds t v').size ∧ VT pl u ((a.tmps.setIfInBounds t v').getD s undef)
    rw [Array.size_setIfInBounds]
    split at hg
    · rename_i e
      subst e
      injection hg with e
      subst e
      exact ⟨hlt, by rw [Array.getD_eq_getD_getElem?, Array.getElem?_setIfInBounds_self_of_lt hlt]; exact hv⟩
    · rename_i e
      obtain ⟨h1, h2⟩ := h.at_ s u hg
      exact ⟨h1, by rw [Array.getD_eq_getD_getElem?, Array.getElem?_setIfInBounds_ne (fun e' => e e'.symm), ← Array.getD_eq_getD_getElem?]; exact h2⟩
theorem Tm.put_none {pl : Pl} {tm : T Value} {a : Act} (h : Tm pl tm a) (v : Value) : Tm pl tm (a.put none v) := h
end Go.Proofs.YteeclengpnjlgaaGreat.Ev
