/- Vc, part O: what each operation comes to. No program in sight. -/
import Derived.Test.YtdhiapllbjamfaaVcJ
import Derived.Laws.AppendOwn
import Derived.Laws.OwnMore
import Derived.Laws.MakeOwn
set_option linter.unusedVariables false
set_option linter.unusedSimpArgs false
namespace Vc
open Go Go.RowKit
variable {P : Program} {W : World} {Q : Value → Prop} {QM : World → Value → Prop}

def St.putS (st : St) (dst : Option Tmp) (v : SV) (c : Ctr) : St :=
  match dst with
  | none => { st with c := c }
  | some d => { st with t := (d, v) :: st.t, c := c }
def PutOk (st : St) (dst : Option Tmp) (v : SV) (c : Ctr) : Prop := ∀ d, dst = some d → d < st.n ∧ v.wf c = true
theorem put_resolve {st : St} {dst : Option Tmp} {v : SV} {c : Ctr} {K : St → Env → Prop} {ρ : Env} (h : St.put (PA P W Q QM) st dst v c K ρ) : K (st.putS dst v c) ρ ∧ PutOk st dst v c := by
  unfold St.put at h
  cases dst with
  | none => exact ⟨h, fun d hd => by cases hd⟩
  | some d =>
    simp only at h
    by_cases hd : d < st.n ∧ v.wf c = true
    · rw [if_pos hd] at h; exact ⟨h, fun d' he => by cases he; exact hd⟩
    · rw [if_neg hd] at h; exact h.elim
theorem putS_c (st : St) (dst : Option Tmp) (v : SV) (c : Ctr) : (st.putS dst v c).c = c ∧ (st.putS dst v c).m = st.m ∧ (st.putS dst v c).n = st.n ∧ (st.putS dst v c).o = st.o ∧ (st.putS dst v c).r = st.r ∧ (st.putS dst v c).d = st.d := by
  unfold St.putS; split <;> exact ⟨rfl, rfl, rfl, rfl, rfl, rfl⟩
theorem getS_putS (st : St) (dst : Option Tmp) (v : SV) (c : Ctr) (t : Nat) : getS (st.putS dst v c).t t = if dst = some t then v else getS st.t t := by
  unfold St.putS
  cases dst with
  | none => simp
  | some d => simp only [getS_cons, Option.some.injEq]
theorem putS_wf {st : St} {dst : Option Tmp} {v : SV} {c : Ctr} (hw : st.WF) (hle : st.c.le c) (hp : PutOk st dst v c) : (st.putS dst v c).WF := by
  obtain ⟨q1, q2, q3, q4, q5, q6⟩ := putS_c st dst v c
  have g := hw.grow hle
  refine ⟨fun i => ?_, by rw [q2, q1]; exact g.m, by rw [q4, q1]; exact g.o, by rw [q2, q4]; exact hw.ap, by rw [q5, q1]; exact g.r, by rw [q6, q1]; exact g.d⟩
  rw [getS_putS, q1]
  by_cases hd : dst = some i
  · rw [if_pos hd]; exact (hp i hd).2
  · rw [if_neg hd]; exact g.t i

theorem St.WF.beyond {st : St} (h : st.WF) {k : Nat} (hk : st.c.nk ≤ k) : getE st.m st.o k = none := by
  cases hg : getE st.m st.o k with
  | none => rfl
  | some e => have := entWf_lt (h.ent hg); omega

/-- What a step resolves to. -/
def Rsv (P : Program) (W : World) (st : St) (o : Oper) (K : St → Env → Prop) (ρ : Env) : Prop :=
  ∃ s' ρ' sv C, K s' ρ' ∧ st.c.le s'.c ∧ Env.like st.c ρ ρ' ∧ ∀ ρ'', Env.like s'.c ρ' ρ'' → OFact P W st o ρ'' s' sv C

theorem chg_quiet {s1 s' : St} {ρ : Env} {β : Nat → Nat} {w w' : World} (h : s1.WF) (hm : getE s'.m s'.o = getE s1.m s1.o) (hb : Below w.heap.size w w') : Chg W s1 s' ρ [] β β w w' where
  os := hb.os
  tape := hb.tape
  output := hb.output
  size := hb.size
  frame b hl _ := hb.block b hl
  off _ _ := rfl
  new k e' hk hg := by
    rcases hk with hk | hk
    · cases hk
    · rw [hm, h.beyond hk] at hg; cases hg
  inj k k' e e' hk hk' hg hg' := by
    rcases hk with hk | hk
    · cases hk
    · rw [hm, h.beyond hk] at hg; cases hg

theorem val_fact {st : St} {o : Oper} {sv : SV} {c : Ctr} {ρ : Env} (wf : st.WF) (h1 : ValOk P W st o sv ρ) (h2 : st.c.le c) (h4 : PutOk st o.dst sv c) : OFact P W st o ρ (st.putS o.dst sv c) sv [] := by
  obtain ⟨q1, q2, q3, q4, q5, q6⟩ := putS_c st o.dst sv c
  have hm : getE (st.putS o.dst sv c).m (st.putS o.dst sv c).o = getE st.m st.o := by rw [q2, q4]
  refine ⟨q3, q5, q6, by rw [q1]; exact h2, putS_wf wf h2 h4, fun t => getS_putS st o.dst sv c t, fun d hd => (h4 d hd).1, fun k hk => (by cases hk), fun k _ _ => (by rw [hm]), fun k e' hk hg => ?_, fun β a w hB ho hr next Q' hn => ?_⟩
  · rcases hk with hk | hk
    · cases hk
    · rw [hm, wf.beyond hk] at hg; cases hg
  · exact h1 β a w hB ho (fun k hk e hg => hr k (List.mem_append.2 (.inl hk)) e hg) next Q' fun v w' hv hb => hn β v w' hv (chg_quiet wf hm hb)

theorem getE_new {m : Mem} {o : OMem} {nk : Nat} {cs : List At} {t : TypeId} (k : Nat) : getE ((nk, cs, t) :: m) o k = if nk = k then some (.fix cs t) else getE m o k := by
  unfold getE
  rw [getM_cons]
  by_cases h : nk = k
  · rw [if_pos h, if_pos h]
  · rw [if_neg h, if_neg h]

theorem new_fact {st : St} {o : Oper} {cs : List At} {t : TypeId} {v : At} {vd : Nat → Value} {ρ : Env} (wf : st.WF) (h1 : cs.all (At.wf st.c) = true) (hids : ∀ x ∈ idsOf cs, x ∈ valIds st o) (h2 : ∀ β : Nat → Nat, v.den ρ β = vd (β st.c.nk))
    (h3 : ∀ (β : Nat → Nat) (a : Act) (w : World), OpsOk st o ρ β a → (execOp a.eval o).run P w = .ok (.value (vd w.heap.size)) (w.alloc (.cells (cs.map (At.den ρ β)).toArray t)))
    (h4 : PutOk { st with m := (st.c.nk, cs, t) :: st.m } o.dst (.cv (.one v)) { st.c with nk := st.c.nk + 1 }) :
    OFact P W st o ρ ({ st with m := (st.c.nk, cs, t) :: st.m }.putS o.dst (.cv (.one v)) { st.c with nk := st.c.nk + 1 }) (.cv (.one v)) [] := by
  obtain ⟨q1, q2, q3, q4, q5, q6⟩ := putS_c { st with m := (st.c.nk, cs, t) :: st.m } o.dst (.cv (.one v)) { st.c with nk := st.c.nk + 1 }
  have hle := Ctr.le_nk st.c 1
  have hm : ∀ k, getE ({ st with m := (st.c.nk, cs, t) :: st.m }.putS o.dst (.cv (.one v)) { st.c with nk := st.c.nk + 1 }).m ({ st with m := (st.c.nk, cs, t) :: st.m }.putS o.dst (.cv (.one v)) { st.c with nk := st.c.nk + 1 }).o k = if st.c.nk = k then some (.fix cs t) else getE st.m st.o k := fun k => by
    rw [q2, q4]; exact getE_new k
  have wf1 : ({ st with m := (st.c.nk, cs, t) :: st.m } : St).WF ∨ True := .inr trivial
  refine ⟨q3, q5, q6, by rw [q1]; exact hle, ?_, fun t' => getS_putS _ o.dst _ _ t', fun d hd => (h4 d hd).1, fun k hk => (by cases hk), fun k hk _ => (by rw [hm, if_neg (by omega)]), fun k e' hk hg x hx => ?_, fun β a w hB ho hr next Q' hn => ?_⟩
  · have g := wf.grow hle
    refine ⟨fun i => ?_, fun k cs' t' hg => ?_, by rw [q4, q1]; exact g.o, fun k x hk => ?_, by rw [q5, q1]; exact g.r, by rw [q6, q1]; exact g.d⟩
    · rw [getS_putS, q1]
      by_cases hd : o.dst = some i
      · rw [if_pos hd]; exact (h4 i hd).2
      · rw [if_neg hd]; exact g.t i
    · rw [q2, getM_cons] at hg
      rw [q1]
      by_cases hk : st.c.nk = k
      · rw [if_pos hk] at hg
        cases hg
        exact ⟨by simp [← hk], all_wf_le hle h1⟩
      · rw [if_neg hk] at hg
        exact g.m k cs' t' hg
    · rw [q4] at hk
      rw [q2, getM_cons]
      have := (wf.o k x.1 x.2.1 x.2.2 hk).1
      rw [if_neg (by omega)]
      exact wf.ap k x hk
  · rcases hk with hk | hk
    · cases hk
    · rw [hm] at hg
      by_cases hkk : st.c.nk = k
      · rw [if_pos hkk] at hg
        cases hg
        exact .inl (hids x hx)
      · rw [if_neg hkk, wf.beyond hk] at hg; cases hg
  · unfold Oper.wp
    rw [h3 β a w ho, Oper.upon_value]
    have hβn : ∀ k, k < st.c.nk → (fun k => if k = st.c.nk then w.heap.size else β k) k = β k := fun k hk => if_neg (Nat.ne_of_lt hk)
    refine hn (fun k => if k = st.c.nk then w.heap.size else β k) _ _ (fun _ => ?_) ⟨rfl, rfl, rfl, by simp, fun b hb _ => ?_, fun k hk => ?_, fun k e' hk hg => ?_, fun k k' e e' hk hk' hg hg' => ?_⟩
    · show _ = v.den ρ _
      rw [h2]
      simp only [if_true]
    · exact Below.heap_alloc _ _ _ hb
    · rw [q1] at hk
      exact if_neg (by intro he; subst he; simp at hk)
    · rcases hk with hk | hk
      · cases hk
      · rw [hm] at hg
        by_cases hkk : st.c.nk = k
        · rw [if_pos hkk] at hg
          cases hg
          subst hkk
          refine ⟨⟨?_, ?_⟩, fun b hb => .inl ?_⟩
          · simp only [if_true]; exact hB.size
          · simp only [if_true]
            rw [map_den_like (Env.like_refl _ ρ) hβn h1]
            show (w.heap.push _)[w.heap.size]? = _
            simp
          · simp only [blkE, if_true, Option.some.injEq] at hb
            omega
        · rw [if_neg hkk, wf.beyond hk] at hg; cases hg
    · have one : ∀ {k e}, (k ∈ ([] : List Nat) ∨ st.c.nk ≤ k) → getE ({ st with m := (st.c.nk, cs, t) :: st.m }.putS o.dst (.cv (.one v)) { st.c with nk := st.c.nk + 1 }).m ({ st with m := (st.c.nk, cs, t) :: st.m }.putS o.dst (.cv (.one v)) { st.c with nk := st.c.nk + 1 }).o k = some e → k = st.c.nk := by
        intro k e hk hg
        rcases hk with hk | hk
        · cases hk
        · rw [hm] at hg
          by_cases hkk : st.c.nk = k
          · exact hkk.symm
          · rw [if_neg hkk, wf.beyond hk] at hg; cases hg
      rw [one hk hg, one hk' hg']

theorem getE_set {m : Mem} {o : OMem} {k0 : Nat} {cs cs' : List At} {t : TypeId} (h : getM m k0 = some (cs, t)) (k : Nat) : getE (setM m k0 cs') o k = if k0 = k then some (.fix cs' t) else getE m o k := by
  unfold getE
  rw [getM_setM]
  by_cases hk : k0 = k
  · subst hk; rw [if_pos rfl, if_pos rfl, h]; rfl
  · rw [if_neg hk, if_neg hk]

theorem sto_fact {st : St} {o : Oper} {ρ : Env} {k0 : Nat} {cs cs' : List At} {t : TypeId} (wf : st.WF) (hg0 : getM st.m k0 = some (cs, t)) (hwr : k0 ∈ writesOf st o) (h3 : cs'.all (At.wf st.c) = true) (hids : ∀ x ∈ idsOf cs', x ∈ valIds st o ∨ x ∈ idsOf cs)
    (h4 : ∀ (β : Nat → Nat) (a : Act) (w : World), OpsOk st o ρ β a → w.heap[β k0]? = some (.cells (cs.map (At.den ρ β)).toArray t) → (execOp a.eval o).run P w = .ok .skip (w.setRow (β k0) (cs'.map (At.den ρ β)).toArray))
    (h5 : PutOk { st with m := setM st.m k0 cs' } o.dst .any st.c) : OFact P W st o ρ ({ st with m := setM st.m k0 cs' }.putS o.dst .any st.c) .any [k0] := by
  obtain ⟨q1, q2, q3, q4, q5, q6⟩ := putS_c { st with m := setM st.m k0 cs' } o.dst .any st.c
  have hm : ∀ k, getE ({ st with m := setM st.m k0 cs' }.putS o.dst .any st.c).m ({ st with m := setM st.m k0 cs' }.putS o.dst .any st.c).o k = if k0 = k then some (.fix cs' t) else getE st.m st.o k := fun k => by
    rw [q2, q4]; exact getE_set hg0 k
  have hk0 := (wf.m k0 cs t hg0).1
  refine ⟨q3, q5, q6, by rw [q1]; exact Ctr.le_refl _, ?_, fun t' => getS_putS _ o.dst _ _ t', fun d hd => (h5 d hd).1, fun k hk => ?_, fun k _ hk => ?_, fun k e' hk hg x hx => ?_, fun β a w hB ho hr next Q' hn => ?_⟩
  · refine ⟨fun i => ?_, fun k cs2 t2 hg => ?_, by rw [q4, q1]; exact wf.o, fun k x hk => ?_, by rw [q5, q1]; exact wf.r, by rw [q6, q1]; exact wf.d⟩
    · rw [getS_putS, q1]
      by_cases hd : o.dst = some i
      · rw [if_pos hd]; rfl
      · rw [if_neg hd]; exact wf.t i
    · rw [q2, getM_setM] at hg
      rw [q1]
      by_cases hk : k0 = k
      · subst hk
        rw [if_pos rfl, hg0] at hg
        simp only [Option.map_some, Option.some.injEq, Prod.mk.injEq] at hg
        obtain ⟨rfl, rfl⟩ := hg
        exact ⟨hk0, h3⟩
      · rw [if_neg hk] at hg
        exact wf.m k cs2 t2 hg
    · rw [q4] at hk
      rw [q2, getM_setM]
      have := wf.ap k x hk
      by_cases hkk : k0 = k
      · subst hkk; rw [if_pos rfl, this]; rfl
      · rw [if_neg hkk]; exact this
  · simp only [List.mem_singleton] at hk; subst hk; exact ⟨hwr, hk0⟩
  · rw [hm, if_neg (fun e => hk (by simp [e]))]
  · rw [hm] at hg
    by_cases hkk : k0 = k
    · rw [if_pos hkk] at hg
      cases hg
      rcases hids x hx with h | h
      · exact .inl h
      · exact .inr ⟨k0, _, List.mem_append.2 (.inr hwr), getE_m hg0, h⟩
    · rw [if_neg hkk] at hg
      rcases hk with hk | hk
      · simp only [List.mem_singleton] at hk; exact (hkk hk.symm).elim
      · rw [wf.beyond hk] at hg; cases hg
  · obtain ⟨m1, m2⟩ := hr k0 (List.mem_append.2 (.inr hwr)) _ (getE_m hg0)
    unfold Oper.wp
    rw [h4 β a w ho m2, Oper.upon_skip]
    refine hn β _ _ (fun h => (h rfl).elim) ⟨rfl, rfl, rfl, by rw [setRow_size]; exact Nat.le_refl _, fun b hb hnb => ?_, fun _ _ => rfl, fun k e' hk hg => ?_, fun k k' e e' hk hk' hg hg' => ?_⟩
    · exact heap_setRow_ne _ _ _ _ fun he => hnb k0 _ (by simp) (getE_m hg0) (by simp [blkE, he])
    · rw [hm] at hg
      by_cases hkk : k0 = k
      · rw [if_pos hkk] at hg
        cases hg
        subst hkk
        refine ⟨⟨m1, setRow_heap w _ _ _ _ _ m2⟩, fun b hb => .inr ⟨k0, _, by simp, getE_m hg0, ?_, .inl rfl⟩⟩
        simpa [blkE] using hb
      · rw [if_neg hkk] at hg
        rcases hk with hk | hk
        · simp only [List.mem_singleton] at hk; exact (hkk hk.symm).elim
        · rw [wf.beyond hk] at hg; cases hg
    · have one : ∀ {k e}, (k ∈ [k0] ∨ st.c.nk ≤ k) → getE ({ st with m := setM st.m k0 cs' }.putS o.dst .any st.c).m ({ st with m := setM st.m k0 cs' }.putS o.dst .any st.c).o k = some e → k = k0 := by
        intro k e hk hg
        rcases hk with hk | hk
        · simpa using hk
        · rw [hm, if_neg (by omega), wf.beyond hk] at hg; cases hg
      rw [one hk hg, one hk' hg']
end Vc
