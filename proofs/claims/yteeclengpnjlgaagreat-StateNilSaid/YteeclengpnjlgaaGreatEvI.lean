import Derived.Test.YteeclengpnjlgaaGreatEvH
/- A closed run, reckoned: append, copy. -/
namespace Go.Proofs.YteeclengpnjlgaaGreat.Ev
set_option linter.unusedVariables false
set_option linter.unusedSimpArgs false
open Go.RowKit
variable {P : Program}
/-- The elements of a slice, as cells; how many elements. -/
def evSrc (P : Program) (H : T AO) (t size : Nat) : Value → Option (List Value × Nat)
  | .slice none m _ => match P.underlying t with
    | some (.slice _) => bif Nat.beq m 0 then some ([], 0) else none
    | _ => none
  | .slice (some ⟨r, off, none⟩) m _ => match P.underlying t, get HD H r with
    | some (.slice _), some (.cells cs _) => bif Nat.beq ((cs.drop off).take (m * size)).length (m * size) then some ((cs.drop off).take (m * size), m) else none
    | _, _ => none
  | .string s => match P.underlying t with
    | some .string => bif Nat.beq size 1 then some (byteCells s, s.size) else none
    | _ => none
  | _ => none
theorem evSrc_ok {w0 : Base} {w : World} {pl : Pl} {H : T AO} {t size m : Nat} {u u' : Value} {news : List Value} (hs : Sim P w0 pl H w) (hu : VT pl u u') (h : evSrc P H t size u = some (news, m)) :
    ∃ news', Src P size t u' m news' w ∧ Pw (VC pl) news news' := by
  unfold evSrc at h
  split at h
  · rename_i m0 c0
    split at h
    · rename_i e he
      cases hb : Nat.beq m0 0 with
      | false => simp [hb] at h
      | true =>
        simp only [hb, cond_true, Option.some.injEq, Prod.mk.injEq] at h
        obtain ⟨rfl, rfl⟩ := h
        have h0 : m0 = 0 := Nat.eq_of_beq_eq_true hb
        subst h0
        have hu' : u' = .slice none 0 c0 := hu
        subst hu'
        exact ⟨[], Src.ofNil w he c0, trivial⟩
    · simp at h
  · rename_i r off m0 c0
    split at h
    · rename_i e cs e2 he hg
      cases hb : Nat.beq ((cs.drop off).take (m0 * size)).length (m0 * size) with
      | false => rw [hb] at h; exact absurd h (by simp only [cond_false]; exact fun x => nomatch x)
      | true =>
        rw [hb] at h
        simp only [cond_true, Option.some.injEq, Prod.mk.injEq] at h
        obtain ⟨rfl, rfl⟩ := h
        obtain ⟨p', c', hp1, _, rfl⟩ := (hu : VP pl (.slice (some ⟨r, off, none⟩) m0 c0) u')
        obtain ⟨b, hbb, rfl⟩ := AR_none hp1
        obtain ⟨b2, cc, hb2, hw, hcl⟩ := hs.cells hg
        rw [hbb] at hb2
        injection hb2 with hb2
        subst hb2
        obtain ⟨l', h1, h2, h3⟩ := hcl.range off (m0 * size) (Nat.eq_of_beq_eq_true hb)
        refine ⟨l', Src.ofSlice w he ⟨b, off, none⟩ m0 c' l' h2 (fun j v hv => ?_) (Pw_one h1), h1⟩
        rw [Addr.add_mid]
        unfold World.cell?
        rw [hw]
        exact h3 j v hv
    · simp at h
  · rename_i s
    split at h
    · rename_i he
      cases hb : Nat.beq size 1 with
      | false => simp [hb] at h
      | true =>
        simp only [hb, cond_true, Option.some.injEq, Prod.mk.injEq] at h
        obtain ⟨rfl, rfl⟩ := h
        have h1 : size = 1 := Nat.eq_of_beq_eq_true hb
        subst h1
        have hu' : u' = .string s := hu
        subst hu'
        refine ⟨_, Src.ofString w he s, Pw.refl (fun v hv => ?_)⟩
        unfold byteCells at hv
        rw [List.mem_map] at hv
        obtain ⟨_, _, rfl⟩ := hv
        rfl
    · simp at h
  · simp at h
def evAppend (P : Program) (n : Nat) (H : T AO) (t t2 : TypeId) (s x : Value) : Option Rs :=
  match P.underlying t, s with
  | some (.slice e), .slice base sLen sCap => match P.info? e with
    | some i => match i.zero, evSrc P H t2 i.size x with
      | some z, some (news, m) => bif plain z && Nat.beq z.cells.size i.size && Nat.ble ((sLen + m) * i.bytes) 140737488355328 && Nat.ble (sLen + m) 1000000000 then
          (match base with
          | none => bif Nat.beq sLen 0 && Nat.beq sCap 0 then (bif Nat.beq m 0 then some (.val (.slice none 0 0) n H) else
              bif room n then some (.val (.slice (some ⟨n, 0, none⟩) m (2 * m + 1)) (n + 1) (T.set HD H n (.cells news e))) else none) else none
          | some ⟨r, off, none⟩ => match get HD H r with
            | some (.cells cs e2) => bif Nat.beq ((cs.drop off).take (sLen * i.size)).length (sLen * i.size) && Nat.beq e2 e then
                (bif Nat.ble (sLen + m) (sCap / 2) then
                  (bif Nat.ble (off + (sLen + m) * i.size) cs.length then some (.val (.slice (some ⟨r, off, none⟩) (sLen + m) sCap) n (T.set HD H r (.cells (putL cs (off + sLen * i.size) news) e2))) else none)
                else bif room n then
                  (bif Nat.beq (sCap % 2) 0 then some (.val (.slice (some ⟨n, 0, none⟩) (sLen + m) (2 * (sLen + m) + 1)) (n + 1) (T.set HD H n (.cells ((cs.drop off).take (sLen * i.size) ++ news) e)))
                  else bif Nat.beq off 0 && Nat.beq cs.length (sCap / 2 * i.size) then some (.val (.slice (some ⟨n, 0, none⟩) (sLen + m) (2 * (sLen + m) + 1)) (n + 1) (T.set HD (T.set HD H r .dead) n (.cells ((cs.drop off).take (sLen * i.size) ++ news) e))) else none)
                else none) else none
            | _ => none
          | _ => none) else none
      | _, _ => none
    | none => none
  | _, _ => none
theorem Sim.kill {w0 : Base} {w : World} {pl : Pl} {H : T AO} {r : Nat} {o : AO} (hs : Sim P w0 pl H w) (hg : get HD H r = some o) : Sim P w0 pl (T.set HD H r .dead) w where
  below := hs.below
  at_ := fun t o' h hl => by
    rw [get_set (get_lt hg)] at h
    split at h
    · injection h with h
      subst h
      simp [AO.live] at hl
    · exact hs.at_ t o' h hl
  inj := fun s t o1 o2 b h1 l1 h2 l2 hb1 hb2 => by
    rw [get_set (get_lt hg)] at h1 h2
    split at h1
    · injection h1 with h1
      subst h1
      simp [AO.live] at l1
    · split at h2
      · injection h2 with h2
        subst h2
        simp [AO.live] at l2
      · exact hs.inj s t o1 o2 b h1 l1 h2 l2 hb1 hb2
theorem size_zeros (z : Array Value) (n : Nat) : (Builtin.zeroCells z n).size = n * z.size := by simp [Builtin.zeroCells]
theorem open_VT {pl : Pl} {n b d len cap : Nat} (h : pl[n]? = some (b, d)) (hc : cap = len + d) : VT pl (.slice (some ⟨n, 0, none⟩) len (2 * len + 1)) (.slice (some ⟨b, 0, none⟩) len cap) :=
  ⟨⟨b, 0, none⟩, cap, ⟨pb_of h, rfl, rfl⟩, by unfold CapR; rw [if_pos (by omega)]; exact ⟨d, pd_of h, by omega⟩, rfl⟩
/-- A new row, longer than told. -/
theorem grow_new {w0 : Base} {w : World} {pl : Pl} {H : T AO} {cs cs' : List Value} {z : Array Value} {need newCap : Nat} {e : TypeId} {i : TypeInfo} (hs : Sim P w0 pl H w) (hr : room pl.length = true) (hc : Pw (VC pl) cs cs') (hi : P.info? e = some i) (hz : z.size = i.size) :
    Sim P w0 (pl ++ [(w.heap.size, newCap - need)]) (T.set HD H pl.length (.cells cs e)) (w.drew.alloc (.cells (cs'.toArray ++ Builtin.zeroCells z (newCap - need)) e)) := by
  have hd := hs.drew
  have hl := hc.length
  have := hd.alloc (room_lt hr) (ob := .cells (cs'.toArray ++ Builtin.zeroCells z (newCap - need)) e) (o := .cells cs e) (d := newCap - need) ⟨_, heap_alloc_new w.drew _, ⟨by simp; omega, ?_⟩, ?_⟩
  · exact this
  · rw [← hl]
    have : ((cs'.toArray ++ Builtin.zeroCells z (newCap - need)).toList.take cs'.length) = cs' := by
      rw [Array.toList_append]
      simp
    rw [this]
    exact Pw_pl hc
  · have h1 : P.cellsOf e = i.size := by unfold Program.cellsOf; rw [hi]; rfl
    rw [h1, Array.size_append, size_zeros, hz]
    simp
    omega
theorem put_take : ∀ (vs : List Value) (cc : Array Value) (k : Nat), k + vs.length ≤ cc.size → (putA cc k vs).toList.take (k + vs.length) = cc.toList.take k ++ vs
  | [], cc, k, _ => by simp [putA]
  | v :: vs, cc, k, h => by
    have hk : k < cc.size := by simp at h; omega
    have ih := put_take vs (cc.setIfInBounds k v) (k + 1) (by rw [Array.size_setIfInBounds]; simp at h; omega)
    show (putA (cc.setIfInBounds k v) (k + 1) vs).toList.take (k + (vs.length + 1)) = _
    rw [show k + (vs.length + 1) = k + 1 + vs.length by omega, ih, Array.toList_setIfInBounds, List.take_set, List.take_succ_eq_append_getElem (by simpa using hk)]
    rw [List.set_append_right _ _ (by simp; omega)]
    simp [Nat.min_eq_left (Nat.le_of_lt hk)]
theorem evAppend_ok {w0 : Base} {w : World} {pl : Pl} {H : T AO} {tm : T Value} {a : Act} {o : Oper} {t t2 : TypeId} {xs xx : Operand} {s x : Value} {rs : Rs} {n : Nat} {cl : Call} (hn : pl.length = n) (ht : Tm pl tm a) (hs : Sim P w0 pl H w) (ho : o.op = .call cl) (e1 : cl.callee = .builtin .append) (e2 : cl.args = #[xs, xx]) (e3 : cl.argTypes = #[t, t2]) (hx : evO tm xs = some s) (hy : evO tm xx = some x) (h : evAppend P n H t t2 s x = some rs) : RsOk P w0 pl a o w rs := by
  have hrun : ∀ {v w'}, (Builtin.append_ #[t, t2] o.type #[a.eval xs, a.eval xx]).run P w = .ok v w' → (execOp a.eval o).run P w = .ok (.value v) w' := by
    intro v w' hr
    unfold execOp
    simp [ho, resolve, e1, e2, e3, invoke, builtin, hr]
  unfold evAppend at h
  split at h
  · rename_i e base sLen sCap he
    split at h
    · rename_i i hi
      split at h
      · rename_i z news m hz hsrc
        cases hc : plain z && Nat.beq z.cells.size i.size && Nat.ble ((sLen + m) * i.bytes) 140737488355328 && Nat.ble (sLen + m) 1000000000 with
        | false => rw [hc] at h; simp at h
        | true =>
          rw [hc] at h
          simp only [cond_true] at h
          simp only [Bool.and_eq_true] at hc
          obtain ⟨⟨⟨c1, c2⟩, c3⟩, c4⟩ := hc
          have c2 := Nat.eq_of_beq_eq_true c2
          have c3 := Nat.le_of_ble_eq_true c3
          have c4 := Nat.le_of_ble_eq_true c4
          obtain ⟨news', hS, hN⟩ := evSrc_ok hs (evO_ok ht hy) hsrc
          have hnl : news.length = m * i.size := by rw [← hN.length]; exact hS.newsLen
          split at h
          · cases hb : Nat.beq sLen 0 && Nat.beq sCap 0 with
            | false => simp [hb] at h
            | true =>
              simp only [hb, cond_true] at h
              rw [Bool.and_eq_true] at hb
              have b1 := Nat.eq_of_beq_eq_true hb.1
              have b2 := Nat.eq_of_beq_eq_true hb.2
              subst b1 b2
              have hev : a.eval xs = .slice none 0 0 := evO_ok ht hx
              cases hm0 : Nat.beq m 0 with
              | true =>
                simp only [hm0, cond_true, Option.some.injEq] at h
                subst h
                have hm := Nat.eq_of_beq_eq_true hm0
                subst hm
                have hn0 : news' = [] := List.eq_nil_of_length_eq_zero (by have := hS.newsLen; simpa using this)
                subst hn0
                refine ⟨[], .slice none 0 0, w, hrun ?_, rfl, by rw [List.append_nil]; exact hs, by simpa using hn⟩
                rw [hev]
                rcases hS.kind with ⟨e', hk⟩ | hk <;> simp [Builtin.append_, run_underlying he, run_underlying hk, sizeOf, typeInfo, hi, hS.len, hS.cells]
              | false =>
                simp only [hm0, cond_false] at h
                cases hr : room n with
                | false => simp [hr] at h
                | true =>
                  simp only [hr, cond_true, Option.some.injEq] at h
                  subst h
                  have hmp : 0 < m := by
                    rcases Nat.eq_zero_or_pos m with e0 | e0
                    · subst e0; simp at hm0
                    · exact e0
                  subst hn
                  have hg := run_append_grow_src (P := P) w t t2 o.type e i z he hi hz none 0 0 [] (run_firstCells_none w.drew i.size 0 0 0) (a.eval xx) m news' hS (by omega) (by omega) (growslice_fits (by omega) c3)
                  rw [Nat.zero_add] at hg
                  have hge := grownCap_ge w m 0 e
                  refine ⟨[(w.heap.size, grownCap w m 0 e - m)], _, _, hrun (by rw [hev]; exact hg), open_VT last_pl (by omega), ?_, by simp⟩
                  have := grow_new (need := m) (newCap := grownCap w m 0 e) hs hr (cs := news) (cs' := news') hN hi c2
                  simpa using this
          · rename_i r off
            split at h
            · rename_i cs ee hgr
              cases hb : Nat.beq ((cs.drop off).take (sLen * i.size)).length (sLen * i.size) && Nat.beq ee e with
              | false => rw [hb] at h; simp at h
              | true =>
                rw [hb] at h
                simp only [cond_true] at h
                rw [Bool.and_eq_true] at hb
                have b1 := Nat.eq_of_beq_eq_true hb.1
                have b2 := Nat.eq_of_beq_eq_true hb.2
                subst b2
                obtain ⟨p', c', hp1, hcap, hev⟩ := (evO_ok ht hx : VP pl (.slice (some ⟨r, off, none⟩) sLen sCap) (a.eval xs))
                obtain ⟨b, hbb, rfl⟩ := AR_none hp1
                obtain ⟨d, hbd⟩ := pb_some hbb
                obtain ⟨b3, d3, hb3, hge0, cc, hw, hcl, hrm⟩ := hs.at_ r _ hgr rfl
                rw [hbd] at hb3
                injection hb3 with hb3
                injection hb3 with q1 q2
                subst q1 q2
                have hcz : P.cellsOf ee = i.size := by unfold Program.cellsOf; rw [hi]; rfl
                rw [hcz] at hrm
                have hcapc : sCap / 2 ≤ c' := hcap.cap
                obtain ⟨olds', o1, o2, o3⟩ := hcl.range off (sLen * i.size) b1
                have holdc : ∀ j u, olds'[j]? = some u → w.cell? ((⟨b, off, none⟩ : Addr).add j) = some u := fun j u hu => by
                  rw [Addr.add_mid]
                  unfold World.cell?
                  rw [hw]
                  exact o3 j u hu
                have hsum : (sLen + m) * i.size = sLen * i.size + m * i.size := Nat.add_mul _ _ _
                have hol : off + sLen * i.size ≤ cs.length ∨ sLen * i.size = 0 := by
                  rcases Nat.eq_zero_or_pos (sLen * i.size) with e0 | e0
                  · exact .inr e0
                  · left
                    have := b1
                    simp at this
                    omega
                have growCase : ∀ (H1 : T AO), Sim P w0 pl H1 w → room n = true → c' < sLen + m → RsOk P w0 pl a o w (.val (.slice (some ⟨n, 0, none⟩) (sLen + m) (2 * (sLen + m) + 1)) (n + 1) (T.set HD H1 n (.cells ((cs.drop off).take (sLen * i.size) ++ news) ee))) := by
                  intro H1 hs1 hr hlt
                  have hg := run_append_grow_src (P := P) w t t2 o.type ee i z he hi hz (some ⟨b, off, none⟩) sLen c' olds' (run_firstCells_some w.drew i.size sLen ⟨b, off, none⟩ sLen c' olds' o2 (by simpa using holdc)) (a.eval xx) m news' hS hlt (by omega) (growslice_fits hlt c3)
                  have hge := grownCap_ge w (sLen + m) c' ee
                  subst hn
                  refine ⟨[(w.heap.size, grownCap w (sLen + m) c' ee - (sLen + m))], _, _, hrun (by rw [hev]; exact hg), open_VT last_pl (by omega), ?_, by simp⟩
                  exact grow_new (need := sLen + m) (newCap := grownCap w (sLen + m) c' ee) hs1 hr (o1.append hN) hi c2
                have inPlace : off + (sLen + m) * i.size ≤ cc.size → sLen + m ≤ c' → (Builtin.append_ #[t, t2] o.type #[a.eval xs, a.eval xx]).run P w = .ok (.slice (some ⟨b, off, none⟩) (sLen + m) c') (w.setCells b (off + sLen * i.size) news') := by
                  intro hfit hle
                  rw [hev]
                  have hth := there_of (pl := pl) (cs := cs) (off := off + sLen * i.size) (n := news'.length) hw (by rw [hN.length, hnl]; omega)
                  exact run_append_room_src (P := P) w t t2 o.type ee i he hi b off sLen c' (a.eval xx) m news' hS hle (fun j hj => (hth j hj).1) (fun j hj => (hth j hj).2)
                cases hfit : Nat.ble (sLen + m) (sCap / 2) with
                | true =>
                  simp only [hfit, cond_true] at h
                  have hfit := Nat.le_of_ble_eq_true hfit
                  cases hin : Nat.ble (off + (sLen + m) * i.size) cs.length with
                  | false => simp [hin] at h
                  | true =>
                    simp only [hin, cond_true, Option.some.injEq] at h
                    subst h
                    have hin := Nat.le_of_ble_eq_true hin
                    refine ⟨[], _, _, hrun (inPlace (by have := hcl.1; omega) (by omega)), ?_, ?_, by simpa using hn⟩
                    · rw [List.append_nil]
                      exact ⟨⟨b, off, none⟩, c', ⟨hbb, rfl, rfl⟩, hcap, rfl⟩
                    · rw [List.append_nil]
                      exact hs.put hgr hbd hN
                | false =>
                  simp only [hfit, cond_false] at h
                  have hnf : sCap / 2 < sLen + m := by
                    rcases Nat.lt_or_ge (sCap / 2) (sLen + m) with hh | hh
                    · exact hh
                    · rw [Nat.ble_eq_true_of_le hh] at hfit; cases hfit
                  cases hr : room n with
                  | false => simp [hr] at h
                  | true =>
                    simp only [hr, cond_true] at h
                    cases hev2 : Nat.beq (sCap % 2) 0 with
                    | true =>
                      simp only [hev2, cond_true, Option.some.injEq] at h
                      subst h
                      have h2 := Nat.eq_of_beq_eq_true hev2
                      unfold CapR at hcap
                      rw [if_neg (by omega)] at hcap
                      exact growCase H hs hr (by omega)
                    | false =>
                      simp only [hev2, cond_false] at h
                      cases hoff : Nat.beq off 0 && Nat.beq cs.length (sCap / 2 * i.size) with
                      | false => simp [hoff] at h
                      | true =>
                        simp only [hoff, cond_true, Option.some.injEq] at h
                        subst h
                        rw [Bool.and_eq_true] at hoff
                        have f1 := Nat.eq_of_beq_eq_true hoff.1
                        have f2 := Nat.eq_of_beq_eq_true hoff.2
                        subst f1
                        have hodd : sCap % 2 = 1 := by
                          rcases Nat.mod_two_eq_zero_or_one sCap with hh | hh
                          · rw [hh] at hev2; simp at hev2
                          · exact hh
                        unfold CapR at hcap
                        rw [if_pos hodd] at hcap
                        obtain ⟨d4, hd4, hc4⟩ := hcap
                        rw [pd_of hbd] at hd4
                        injection hd4 with hd4
                        have hd4 : d = d4 := hd4
                        subst hd4
                        have hs1 := hs.kill hgr
                        rcases Nat.lt_or_ge c' (sLen + m) with hlt | hge
                        · exact growCase _ hs1 hr hlt
                        · have hmul : c' * i.size = sCap / 2 * i.size + d * i.size := by rw [hc4, Nat.add_mul]
                          have hfit2 : 0 + (sLen + m) * i.size ≤ cc.size := by
                            have : (sLen + m) * i.size ≤ c' * i.size := Nat.mul_le_mul_right _ hge
                            omega
                          obtain ⟨s1, s2, s3, s4⟩ := rest_setCells b news' (0 + sLen * i.size) w
                          have hbw : b < w.heap.size := hs.ltb hgr rfl hbb
                          refine ⟨[(b, c' - (sLen + m))], _, _, hrun (inPlace hfit2 hge), ?_, ?_, by rw [← hn]; simp⟩
                          · rw [← hn]
                            exact open_VT last_pl (by omega)
                          · rw [← hn]
                            refine hs1.new (room_lt (by rw [hn]; exact hr)) ⟨s2.trans hs.below.os, s3.trans hs.below.tape, s4.trans hs.below.output, by rw [s1]; exact hs.below.size, fun k hk => (other_setCells b k (fun e => hge0 (e ▸ hk)) _ _ _).trans (hs.below.block k hk)⟩ (by omega) (by omega) hge0 (fun k _ hk => other_setCells b k hk _ _ _) ?_ ⟨_, heap_setCells b news' _ w cc hw, ⟨?_, ?_⟩, ?_⟩
                            · intro t' o' hg' hl' hb'
                              rw [get_set (get_lt hgr)] at hg'
                              split at hg'
                              · injection hg' with hg'; subst hg'; simp [AO.live] at hl'
                              · rename_i hne
                                exact hne (hs.inj t' r o' _ b hg' hl' hgr rfl hb' hbb)
                            · rw [putA_size, List.length_append, b1, hnl]
                              omega
                            · rw [List.length_append, b1]
                              have hp := put_take news' cc (0 + sLen * i.size) (by rw [hN.length, hnl]; omega)
                              rw [← hN.length]
                              rw [Nat.zero_add] at hp ⊢
                              rw [hp]
                              refine Pw_pl (Pw.append ?_ hN)
                              have hpre := hcl.2.take (sLen * i.size)
                              rw [List.take_take, Nat.min_eq_left (by rcases hol with hh | hh <;> omega)] at hpre
                              simpa using hpre
                            · rw [hcz, putA_size, List.length_append, b1, hnl, Nat.sub_mul]
                              have : (sLen + m) * i.size ≤ c' * i.size := Nat.mul_le_mul_right _ hge
                              omega
            · simp at h
          · simp at h
      · simp at h
    · simp at h
  · simp at h
end Go.Proofs.YteeclengpnjlgaaGreat.Ev
