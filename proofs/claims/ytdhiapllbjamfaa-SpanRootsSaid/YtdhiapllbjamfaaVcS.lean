/- Vc, part S: a drawn region, in whatever order: one operation more. No program in sight. -/
import Derived.Test.YtdhiapllbjamfaaVcR
set_option linter.unusedVariables false
set_option linter.unusedSimpArgs false
namespace Vc
open Go Go.RowKit
variable {P : Program} {W : World} {ops : Array Oper} {ρ : Env} {sts : Nat → St} {rd wr : List (Nat × Nat)}

theorem putS_tmps {st : St} {a : Act} {dst : Option Tmp} {v : SV} {c : Ctr} (hp : PutOk st dst v c) (hs : a.tmps.size = st.n) (val : Value) (t : Nat) : (a.put dst val).tmps[t]? = if dst = some t then some val else a.tmps[t]? := by
  cases dst with
  | none => simp [Act.put]
  | some d =>
    rw [getElem?_put t (by rw [hs]; exact (hp d rfl).1)]
    simp only [Option.some.injEq]
theorem put_size (a : Act) (dst : Option Tmp) (v : Value) : (a.put dst v).tmps.size = a.tmps.size := by
  cases dst <;> simp [Act.put]
theorem put_dfr (a : Act) (dst : Option Tmp) (v : Value) : (a.put dst v).defers = a.defers := by
  cases dst <;> rfl

/-- What is the same whatever the operation: slots, and what is done. -/
theorem inv_next {i : Nat} {o : Oper} (hw : Way P W ops ρ sts rd wr) (hd : drawOk ops = true) {a0 a : Act} {β0 β β' : Nat → Nat} {listed : Array Bool} {w w' : World} (inv : Inv W ops ρ sts a0 β0 listed a w β)
    (ho : ops[i]? = some o) (hun : listed.getD i false = false) (hr : ∀ e ∈ o.after, Region.binds .any e = true → listed.getD e.on false = true)
    {s1 : St} {sv : SV} {c : Ctr} (hn1 : s1.n = (sts i).n) (hp : PutOk s1 o.dst sv c) (hsv : ∀ t, o.dst = some t → getS (sts (i + 1)).t t = sv) {val : Value} (hval : sv ≠ .any → val = sv.den ρ β')
    (hB : Below W.heap.size W w')
    (hβ : ∀ t j p, ops[j]? = some p → p.dst = some t → listed.getD j false = true → (getS (sts ops.size).t t).den ρ β' = (getS (sts ops.size).t t).den ρ β)
    (hmem : ∀ k j, j ≤ ops.size → (∀ m, m < ops.size → getM (sts (m + 1)).m k ≠ getM (sts m).m k → (m < j ↔ (listed.setIfInBounds i true).getD m false = true)) →
      ∀ cs t, getM (sts j).m k = some (cs, t) → W.heap.size ≤ β' k ∧ w'.heap[β' k]? = some (.cells (cs.map (At.den ρ β')).toArray t))
    (hpb : ∀ k, ((getM (sts 0).m k).isSome = true ∨ ∃ m, m < ops.size ∧ laid sts m k ∧ (listed.setIfInBounds i true).getD m false = true) → β' k < w'.heap.size)
    (hinj : ∀ k k', ((getM (sts 0).m k).isSome = true ∨ ∃ m, m < ops.size ∧ laid sts m k ∧ (listed.setIfInBounds i true).getD m false = true) →
      ((getM (sts 0).m k').isSome = true ∨ ∃ m, m < ops.size ∧ laid sts m k' ∧ (listed.setIfInBounds i true).getD m false = true) → β' k = β' k' → k = k')
    (hag : ∀ k, k < (sts 0).c.nk → β' k = β0 k) : Inv W ops ρ sts a0 β0 (listed.setIfInBounds i true) (a.put o.dst val) w' β' := by
  have hi : i < ops.size := (Array.getElem?_eq_some_iff.1 ho).1
  have hil : i < listed.size := by rw [inv.lsize]; exact hi
  have hsz : a.tmps.size = s1.n := by rw [hn1, hw.n i (by omega)]; exact inv.size
  refine ⟨by simp [inv.lsize], fun j oj hj hl e he hb => ?_, by rw [put_size]; exact inv.size, by rw [put_dfr]; exact inv.dfr, hB, fun t j p hj hpt hl hn => ?_, fun t ht => ?_, hmem, hpb, hinj, hag⟩
  · rw [getD_set listed i _ hil] at hl ⊢
    by_cases hon : i = e.on
    · rw [if_pos hon]
    · rw [if_neg hon]
      by_cases hij : i = j
      · subst hij
        rw [ho] at hj
        cases hj
        exact hr e he hb
      · rw [if_neg hij] at hl
        exact inv.closed j oj hj hl e he hb
  · rw [putS_tmps hp hsz]
    by_cases hij : i = j
    · subst hij
      rw [ho] at hj
      cases hj
      rw [if_pos hpt]
      have hsame : SameS ρ (getS (sts (i + 1)).t t) (getS (sts ops.size).t t) := by
        refine hw.same ops.size (i + 1) (by omega) (Nat.le_refl _) fun m h1 h3 q hq hqt => ?_
        have := ((drawOk_spec hd hq).2 i o ho).1 t hpt
        rcases this.1 with h4 | h4
        · omega
        · exact h4 hqt
      have h5 : sv ≠ .any := by rw [← hsv t hpt]; exact hsame.any hn
      rw [hval h5, ← hsame.den, hsv t hpt]
    · rw [getD_set listed i j hil, if_neg hij] at hl
      have hne : o.dst ≠ some t := by
        have := ((drawOk_spec hd ho).2 j p hj).1 t hpt
        rcases this.1 with h4 | h4
        · exact (hij h4).elim
        · exact h4
      rw [if_neg hne, inv.s2 t j p hj hpt hl hn, hβ t j p hj hpt hl]
  · have hne : o.dst ≠ some t := by
      intro he
      have := ht i o ho he
      rw [getD_set listed i i hil, if_pos rfl] at this
      cases this
    rw [putS_tmps hp hsz, if_neg hne]
    refine inv.s3 t fun j p hj hpt => ?_
    have := ht j p hj hpt
    rw [getD_set listed i j hil] at this
    by_cases hij : i = j
    · rw [if_pos hij] at this; cases this
    · rw [if_neg hij] at this; exact this

theorem inv_step {i : Nat} {o : Oper} (hw : Way P W ops ρ sts rd wr) (hd : drawOk ops = true) {a0 a : Act} {β0 β : Nat → Nat} {w0 w : World} {ρ0 : Env} (hC : Core W ρ0 β0 (sts 0) a0 w0) (hl : Env.like (sts 0).c ρ0 ρ)
    {listed : Array Bool} (inv : Inv W ops ρ sts a0 β0 listed a w β) (ho : ops[i]? = some o) (hun : listed.getD i false = false) (hr : ∀ e ∈ o.after, Region.binds .any e = true → listed.getD e.on false = true)
    {Q' : Exit → Act → World → Prop} {K : Act → World → Prop} (hK : ∀ a' w' β', Inv W ops ρ sts a0 β0 (listed.setIfInBounds i true) a' w' β' → K a' w') : wpOp P ops Q' i K a w := by
  have hi : i < ops.size := (Array.getElem?_eq_some_iff.1 ho).1
  have hil : i < listed.size := by rw [inv.lsize]; exact hi
  have hfct := hw.fct i o ho
  have hget : ∀ m, i ≠ m → (listed.setIfInBounds i true).getD m false = listed.getD m false := fun m hm => by rw [getD_set listed i m hil, if_neg hm]
  -- an operation that comes behind this one is not done
  have later : ∀ m om, ops[m]? = some om → reach ops 3 m i = true → listed.getD m false = false := by
    intro m om hm hrch
    cases hlm : listed.getD m false with
    | false => rfl
    | true =>
      have := reach_listed inv.closed 3 m i om hm (inv.closed m om hm hlm) hrch
      rw [this] at hun; cases hun
  -- where memory and the numbers of blocks stay
  have quiet : ∀ (s1 : St) (sv : SV) (c : Ctr) (val : Value) (w' : World), s1.n = (sts i).n → PutOk s1 o.dst sv c → (∀ t, o.dst = some t → getS (sts (i + 1)).t t = sv) → (sv ≠ .any → val = sv.den ρ β) →
      (sts (i + 1)).m = (sts i).m → (sts (i + 1)).c.nk = (sts i).c.nk → Below w.heap.size w w' → K (a.put o.dst val) w' := by
    intro s1 sv c val w' hn1 hp hsv hval hme hnk hb
    have hnl : ∀ k, ¬ laid sts i k := fun k hk => by obtain ⟨l1, l2⟩ := hk; omega
    have hpres : ∀ k, ((getM (sts 0).m k).isSome = true ∨ ∃ m, m < ops.size ∧ laid sts m k ∧ (listed.setIfInBounds i true).getD m false = true) →
        ((getM (sts 0).m k).isSome = true ∨ ∃ m, m < ops.size ∧ laid sts m k ∧ listed.getD m false = true) := by
      rintro k (h | ⟨m, h1, h2, h3⟩)
      · exact .inl h
      · refine .inr ⟨m, h1, h2, ?_⟩
        rw [hget m (fun e => hnl k (e ▸ h2))] at h3
        exact h3
    refine hK _ _ β (inv_next (w' := w') hw hd inv ho hun hr hn1 hp hsv hval (inv.below.trans (hb.mono inv.below.size)) (fun _ _ _ _ _ _ => rfl) ?_ (fun k hk => Nat.lt_of_lt_of_le (inv.pb k (hpres k hk)) hb.size) (fun k k' hk hk' => inv.inj k k' (hpres k hk) (hpres k' hk')) inv.agree)
    intro k j hj hcut cs t hg
    obtain ⟨q1, q2⟩ := inv.mem k j hj (fun m hm hc => by
      have := hcut m hm hc
      rw [hget m (fun e => by subst e; exact hc (by rw [hme]))] at this
      exact this) cs t hg
    exact ⟨q1, by rw [hb.block _ (heap_lt q2)]; exact q2⟩
  unfold wpOp
  simp only [ho]
  generalize hs' : sts (i + 1) = s' at hfct
  cases hfct with
  | skip s1 k wt p =>
    rw [wanted_at hw hd hC hl inv ho hun hr wt]
    simp only [Bool.false_eq_true, if_false]
    obtain ⟨q1, q2, q3⟩ := putS_c s1 o.dst .und s1.c
    refine quiet s1 .und s1.c undef w k.c.2.2 p (fun t ht => ?_) (fun _ => rfl) ?_ ?_ (Below.refl _ _)
    · rw [hs', getS_putS, if_pos ht]
    · rw [hs', q2, k.c.2.1]
    · rw [hs', q1, k.c.1]
  | run s1 _ k wt f h1 h2 h3 h4 h5 =>
    rw [wanted_at hw hd hC hl inv ho hun hr wt]
    simp only [if_true]
    refine .inl ?_
    have hops := ops_at hw hd hC hl inv ho hun hr k
    obtain ⟨k1, k2, k3⟩ := k.c
    have hwi := hw.wf i (by omega)
    cases f with
    | val sv c f1 f2 f3 f4 =>
      obtain ⟨q1, q2, q3⟩ := putS_c s1 o.dst sv c
      refine f1 β a w inv.below hops ?_ K Q' fun v w' hv hb => quiet s1 sv c v w' k3 f4 (fun t ht => ?_) hv ?_ ?_ hb
      · intro kk hk cs t hg
        rw [k2] at hg
        have hkl := (hwi.m kk cs t hg).1
        refine inv.mem kk i (by omega) (fun m hm hc => ?_) cs t hg
        obtain ⟨om, hom⟩ := hw.get hm
        rcases hw.change hom hc with hlaid | ⟨hwr, _, _⟩
        · refine ⟨fun hmi => ?_, fun hlm => ?_⟩
          · exact reach_listed inv.closed 3 i m o ho hr (h1 kk (List.mem_append.2 (.inl hk)) m hmi hlaid)
          · rcases Nat.lt_or_ge m i with h' | h'
            · exact h'
            · have := hw.nk m i h' (by omega)
              obtain ⟨l1, l2⟩ := hlaid
              omega
        · rcases hw.apart kk i m (h4 kk hk) hwr with ⟨a1, a2⟩ | ⟨a1, a2⟩
          · refine ⟨fun _ => ?_, fun _ => a1⟩
            simp only [direct, ho, Array.any_eq_true', Bool.and_eq_true, decide_eq_true_eq] at a2
            obtain ⟨e, he, hb, rfl⟩ := a2
            exact hr e he hb
          · refine ⟨fun a3 => by omega, fun hlm => ?_⟩
            have := later m om hom (by simp only [reach]; rw [a2]; rfl)
            rw [hlm] at this; cases this
      · rw [hs', getS_putS, if_pos ht]
      · rw [hs', q2, k2]
      · rw [hs', q1, f3, k1]
    | new cs t v vd f1 f2 f3 f4 =>
      obtain ⟨q1, q2, q3⟩ := putS_c { s1 with m := (s1.c.nk, cs, t) :: s1.m } o.dst (.cv (.one v)) { s1.c with nk := s1.c.nk + 1 }
      have hm' : (sts (i + 1)).m = ((sts i).c.nk, cs, t) :: (sts i).m := by rw [hs', q2, k1, k2]
      have hnk' : (sts (i + 1)).c.nk = (sts i).c.nk + 1 := by rw [hs', q1, k1]
      have hlaid : laid sts i (sts i).c.nk := ⟨rfl, hnk'⟩
      let β' : Nat → Nat := fun x => if x = (sts i).c.nk then w.heap.size else β x
      have hβn : ∀ x, x ≠ (sts i).c.nk → β' x = β x := fun x hx => if_neg hx
      have hβ0 : β' (sts i).c.nk = w.heap.size := if_pos rfl
      unfold Oper.wp
      rw [f3 β a w hops, Oper.upon_value]
      have hcids : ∀ x ∈ idsOf cs, x ≠ (sts i).c.nk := by
        intro x hx he
        subst he
        refine h3 ((sts i).c.nk, cs, t) ?_ _ hx i (Nat.le_refl _) hlaid
        rw [← hs', hm']
        exact List.mem_cons_self
      refine hK _ _ β' (inv_next hw hd inv ho hun hr (s1 := { s1 with m := (s1.c.nk, cs, t) :: s1.m }) k3 f4 (fun x hx => ?_) (fun _ => ?_) (inv.below.alloc inv.below.size _) ?_ ?_ ?_ ?_ ?_)
      · rw [hs', getS_putS, if_pos hx]
      · show _ = v.den ρ β'
        rw [f2 β', k1, hβ0]
      · intro x j p hj hpx hlj
        by_cases hjn : getS (sts ops.size).t x = .any
        · rw [hjn]; rfl
        refine SV.den_ids fun y hy => hβn y fun he => ?_
        subst he
        have hjs : j < ops.size := (Array.getElem?_eq_some_iff.1 hj).1
        have hsame : SameS ρ (getS (sts (j + 1)).t x) (getS (sts ops.size).t x) := by
          refine hw.same ops.size (j + 1) (by omega) (Nat.le_refl _) fun m a1 a3 q hq hqt => ?_
          have := ((drawOk_spec hd hq).2 j p hj).1 x hpx
          rcases this.1 with a4 | a4
          · omega
          · exact a4 hqt
        have hy2 := hsame.ids hy
        have hlt := svIds_lt ((hw.wf (j + 1) (by omega)).t x) _ hy2
        have hij : i < j := by
          rcases Nat.lt_or_ge i j with a1 | a1
          · exact a1
          · by_cases hij : i = j
            · subst hij; rw [hlj] at hun; cases hun
            · have := hw.nk i (j + 1) (by omega) (by omega)
              omega
        have hfj := hw.fct j p hj
        generalize hsj : sts (j + 1) = sj at hfj hy2
        cases hfj with
        | skip s1' _ _ _ => rw [getS_putS, if_pos hpx] at hy2; cases hy2
        | run s1' _ _ _ _ g1 g2 _ _ _ =>
          have := later j p hj (g2 x hpx _ hy2 i hij hlaid)
          rw [hlj] at this; cases this
      · intro kk j hj hcut cs' t' hg
        by_cases hkk : kk = (sts i).c.nk
        · subst hkk
          have hchg : getM (sts (i + 1)).m (sts i).c.nk ≠ getM (sts i).m (sts i).c.nk := by
            rw [hm', getM_cons, if_pos rfl]
            intro he
            have := (hwi.m _ _ _ he.symm).1
            omega
          have hij : i < j := (hcut i hi hchg).2 (by rw [getD_set listed i i hil, if_pos rfl])
          have heq : getM (sts j).m (sts i).c.nk = getM (sts (i + 1)).m (sts i).c.nk := by
            refine Way.chain sts j (i + 1) (by omega) fun m a1 a2 => ?_
            by_cases hc : getM (sts (m + 1)).m (sts i).c.nk = getM (sts m).m (sts i).c.nk
            · exact hc
            · exfalso
              have hms : m < ops.size := by omega
              obtain ⟨om, hom⟩ := hw.get hms
              have hlm := (hcut m hms hc).1 a2
              rw [hget m (by omega)] at hlm
              rcases hw.change hom hc with ⟨l1, _⟩ | ⟨_, _, hold⟩
              · have := hw.nk m (i + 1) a1 (by omega)
                omega
              · have := later m om hom (hold i (by omega) hlaid)
                rw [hlm] at this; cases this
          rw [heq, hm', getM_cons, if_pos rfl] at hg
          cases hg
          rw [hβ0]
          refine ⟨inv.below.size, ?_⟩
          rw [map_den_ids (fun x hx => hβn x (hcids x hx))]
          show (w.heap.push _)[w.heap.size]? = _
          simp
        · have hnc : getM (sts (i + 1)).m kk = getM (sts i).m kk := by rw [hm', getM_cons, if_neg (fun e => hkk e.symm)]
          obtain ⟨p1, p2⟩ := inv.mem kk j hj (fun m hm hc => by
            have := hcut m hm hc
            rw [hget m (fun e => by subst e; exact hc hnc)] at this
            exact this) cs' t' hg
          rw [hβn kk hkk]
          refine ⟨p1, ?_⟩
          rw [Below.heap_alloc _ _ _ (heap_lt p2), p2, map_den_ids (fun x hx => hβn x ?_)]
          intro he
          subst he
          rcases Nat.lt_or_ge i j with a1 | a1
          · exact hw.cells j hj _ (getM_mem hg) _ hx i a1 hlaid
          · have := ids_lt ((hw.wf j hj).m kk cs' t' hg).2 _ hx
            have := hw.nk i j a1 (by omega)
            omega
      · rintro kk (hk | ⟨m, m1, m2, m3⟩)
        · obtain ⟨x, hx⟩ := Option.isSome_iff_exists.1 hk
          have h0 := (hC.wf.m kk x.1 x.2 hx).1
          have := hw.nk i 0 (by omega) (by omega)
          rw [hβn kk (by omega)]
          have := inv.pb kk (.inl hk)
          simp; omega
        · by_cases hmi : i = m
          · subst hmi
            obtain ⟨l1, l2⟩ := m2
            rw [← l1, hβ0]; simp
          · rw [hget m hmi] at m3
            by_cases hkk : kk = (sts i).c.nk
            · rw [hkk, hβ0]; simp
            · rw [hβn kk hkk]
              have := inv.pb kk (.inr ⟨m, m1, m2, m3⟩)
              simp; omega
      · have cls : ∀ kk, ((getM (sts 0).m kk).isSome = true ∨ ∃ m, m < ops.size ∧ laid sts m kk ∧ (listed.setIfInBounds i true).getD m false = true) → kk = (sts i).c.nk ∨ (kk ≠ (sts i).c.nk ∧ ((getM (sts 0).m kk).isSome = true ∨ ∃ m, m < ops.size ∧ laid sts m kk ∧ listed.getD m false = true)) := by
          rintro kk (hk | ⟨m, m1, m2, m3⟩)
          · by_cases hkk : kk = (sts i).c.nk
            · exact .inl hkk
            · exact .inr ⟨hkk, .inl hk⟩
          · by_cases hkk : kk = (sts i).c.nk
            · exact .inl hkk
            · refine .inr ⟨hkk, .inr ⟨m, m1, m2, ?_⟩⟩
              rw [hget m (fun e => hkk (by subst e; exact m2.1.symm))] at m3
              exact m3
        intro kk kk' hk hk' he
        rcases cls kk hk with rfl | ⟨n1, p1⟩ <;> rcases cls kk' hk' with rfl | ⟨n2, p2⟩
        · rfl
        · rw [hβ0, hβn kk' n2] at he
          have := inv.pb kk' p2
          omega
        · rw [hβ0, hβn kk n1] at he
          have := inv.pb kk p1
          omega
        · rw [hβn kk n1, hβn kk' n2] at he
          exact inv.inj kk kk' p1 p2 he
      · intro kk hk
        have := hw.nk i 0 (by omega) (by omega)
        rw [hβn kk (by omega)]
        exact inv.agree kk hk
    | sto k0 cs cs' t f1 f2 f3 f6 f4 f5 =>
      obtain ⟨q1, q2, q3⟩ := putS_c { s1 with m := setM s1.m k0 cs' } o.dst .any s1.c
      have hm' : (sts (i + 1)).m = setM (sts i).m k0 cs' := by rw [hs', q2, k2]
      have hnk' : (sts (i + 1)).c.nk = (sts i).c.nk := by rw [hs', q1, k1]
      rw [k2] at f1
      have hk0 := (hwi.m k0 cs t f1).1
      have hcut0 : ∀ m, m < ops.size → getM (sts (m + 1)).m k0 ≠ getM (sts m).m k0 → (m < i ↔ listed.getD m false = true) := by
        intro m hm hc
        obtain ⟨om, hom⟩ := hw.get hm
        rcases hw.change hom hc with hlaid | ⟨_, hst, _⟩
        · refine ⟨fun hmi => ?_, fun hlm => ?_⟩
          · exact reach_listed inv.closed 3 i m o ho hr (h1 k0 (List.mem_append.2 (.inr (by rw [f2]; simp))) m hmi hlaid)
          · rcases Nat.lt_or_ge m i with h' | h'
            · exact h'
            · have := hw.nk m i h' (by omega)
              obtain ⟨l1, l2⟩ := hlaid
              omega
        · refine ⟨fun hmi => ?_, fun hlm => ?_⟩
          · have hdir := ((drawOk_spec hd ho).2 m om hom).2 f6 hst hmi
            simp only [direct, ho, Array.any_eq_true', Bool.and_eq_true, decide_eq_true_eq] at hdir
            obtain ⟨e, he, hb, rfl⟩ := hdir
            exact hr e he hb
          · rcases Nat.lt_or_ge m i with h' | h'
            · exact h'
            · exfalso
              by_cases hmi : m = i
              · subst hmi; rw [hlm] at hun; cases hun
              · have hdir := ((drawOk_spec hd hom).2 i o ho).2 hst f6 (by omega)
                have := later m om hom (by simp only [reach]; rw [hdir]; rfl)
                rw [hlm] at this; cases this
      obtain ⟨m1, m2⟩ := inv.mem k0 i (by omega) hcut0 cs t f1
      unfold Oper.wp
      rw [f4 β a w hops m2, Oper.upon_skip]
      have hnl : ∀ x, ¬ laid sts i x := fun x hx => by obtain ⟨l1, l2⟩ := hx; omega
      have hpres : ∀ x, ((getM (sts 0).m x).isSome = true ∨ ∃ m, m < ops.size ∧ laid sts m x ∧ (listed.setIfInBounds i true).getD m false = true) →
          ((getM (sts 0).m x).isSome = true ∨ ∃ m, m < ops.size ∧ laid sts m x ∧ listed.getD m false = true) := by
        rintro x (h | ⟨m, h1, h2, h3⟩)
        · exact .inl h
        · refine .inr ⟨m, h1, h2, ?_⟩
          rw [hget m (fun e => hnl x (e ▸ h2))] at h3
          exact h3
      have cutp : ∀ {x j y}, j ≤ ops.size → (∀ m, m < ops.size → getM (sts (m + 1)).m x ≠ getM (sts m).m x → (m < j ↔ listed.getD m false = true)) → getM (sts j).m x = some y →
          ((getM (sts 0).m x).isSome = true ∨ ∃ m, m < ops.size ∧ laid sts m x ∧ listed.getD m false = true) := by
        intro x j y hj hcut hg
        rcases hw.pres j hj x y hg with h | ⟨m, c1, c2⟩
        · exact .inl h
        · refine .inr ⟨m, by omega, c2, (hcut m (by omega) ?_).1 c1⟩
          obtain ⟨om, hom⟩ := hw.get (i := m) (by omega)
          obtain ⟨cs2, ty2, hl2⟩ := hw.laid_change hom (by omega) c2
          rw [hl2, getM_cons, if_pos rfl]
          intro he
          have := ((hw.wf m (by omega)).m x _ _ he.symm).1
          obtain ⟨l1, l2⟩ := c2
          omega
      refine hK _ _ β (inv_next hw hd inv ho hun hr (s1 := { s1 with m := setM s1.m k0 cs' }) k3 f5 (fun x hx => by rw [hs', getS_putS, if_pos hx]) (fun hn => (hn rfl).elim) (below_setRow inv.below m1 _) (fun _ _ _ _ _ _ => rfl) ?_ (fun x hx => ?_) (fun x x' hx hx' => inv.inj x x' (hpres x hx) (hpres x' hx')) inv.agree)
      · intro kk j hj hcut cs2 t2 hg
        by_cases hkk : k0 = kk
        · subst hkk
          have heq : getM (sts j).m k0 = getM (sts (i + 1)).m k0 := by
            rcases Nat.lt_or_ge i j with a1 | a1
            · refine Way.chain sts j (i + 1) (by omega) fun m b1 b2 => ?_
              by_cases hc : getM (sts (m + 1)).m k0 = getM (sts m).m k0
              · exact hc
              · exfalso
                have hms : m < ops.size := by omega
                have hlm := (hcut m hms hc).1 b2
                rw [hget m (by omega)] at hlm
                have := (hcut0 m hms hc).2 hlm
                omega
            · refine (Way.chain sts (i + 1) j (by omega) fun m b1 b2 => ?_).symm
              by_cases hc : getM (sts (m + 1)).m k0 = getM (sts m).m k0
              · exact hc
              · exfalso
                have hms : m < ops.size := by omega
                by_cases hmi : m = i
                · subst hmi
                  have := (hcut m hms hc).2 (by rw [getD_set listed m m hil, if_pos rfl])
                  omega
                · have hlm := (hcut0 m hms hc).1 (by omega)
                  have := (hcut m hms hc).2 (by rw [hget m (by omega)]; exact hlm)
                  omega
          rw [heq, hm', getM_setM, if_pos rfl, f1] at hg
          simp only [Option.map_some, Option.some.injEq, Prod.mk.injEq] at hg
          obtain ⟨rfl, rfl⟩ := hg
          exact ⟨m1, setRow_heap w _ _ _ _ _ m2⟩
        · have hnc : getM (sts (i + 1)).m kk = getM (sts i).m kk := by rw [hm', getM_setM, if_neg hkk]
          have hcut2 : ∀ m, m < ops.size → getM (sts (m + 1)).m kk ≠ getM (sts m).m kk → (m < j ↔ listed.getD m false = true) := fun m hm hc => by
            have := hcut m hm hc
            rw [hget m (fun e => by subst e; exact hc hnc)] at this
            exact this
          obtain ⟨p1, p2⟩ := inv.mem kk j hj hcut2 cs2 t2 hg
          refine ⟨p1, ?_⟩
          rw [heap_setRow_ne _ _ _ _ (fun he => hkk (inv.inj kk k0 (cutp hj hcut2 hg) (cutp (by omega) hcut0 f1) he).symm)]
          exact p2
      · rw [setRow_size]
        exact inv.pb x (hpres x hx)
end Vc
