/- Vc, part R: a drawn region, in whatever order: the proof. No program in sight. -/
import Derived.Test.YtdhiapllbjamfaaVcP
set_option linter.unusedVariables false
set_option linter.unusedSimpArgs false
namespace Vc
open Go Go.RowKit
variable {P : Program} {W : World}

def laid (sts : Nat → St) (m k : Nat) : Prop := (sts m).c.nk = k ∧ (sts (m + 1)).c.nk = k + 1
structure Way (P : Program) (W : World) (ops : Array Oper) (ρ : Env) (sts : Nat → St) (rd wr : List (Nat × Nat)) : Prop where
  wf : ∀ i, i ≤ ops.size → (sts i).WF
  fct : ∀ i o, ops[i]? = some o → Fct P W ops ρ (fun k => ∀ m, m < i → laid sts m k → reach ops 3 i m = true) (fun k => ∀ m, m ≤ i → ¬ laid sts m k) i rd wr (sts i) o (sts (i + 1))
  apart : ∀ k i j, (k, i) ∈ rd → (k, j) ∈ wr → (j < i ∧ direct ops i j = true) ∨ (i < j ∧ direct ops j i = true)

theorem Fct.step {ops : Array Oper} {ρ : Env} {old fr : Nat → Prop} {i : Nat} {rd wr : List (Nat × Nat)} {s s' : St} {o : Oper} (h : Fct P W ops ρ old fr i rd wr s o s') :
    s'.n = s.n ∧ s.c.le s'.c ∧ (∀ t, o.dst ≠ some t → SameS ρ (getS s.t t) (getS s'.t t)) ∧
    ((s'.m = s.m ∧ s'.c.nk = s.c.nk) ∨ (∃ cs ty, s'.m = (s.c.nk, cs, ty) :: s.m ∧ s'.c.nk = s.c.nk + 1) ∨ (∃ k cs', s'.m = setM s.m k cs' ∧ s'.c.nk = s.c.nk ∧ (k, i) ∈ wr ∧ isStore o = true ∧ old k)) := by
  cases h with
  | skip s1 k w p =>
    obtain ⟨k1, k2, k3⟩ := k.c
    obtain ⟨q1, q2, q3⟩ := putS_c s1 o.dst .und s1.c
    refine ⟨by rw [q3, k3], by rw [q1, k1]; exact Ctr.le_refl _, fun t ht => ?_, .inl ⟨by rw [q2, k2], by rw [q1, k1]⟩⟩
    rw [getS_putS, if_neg ht]
    exact k.same t
  | run s1 _ k w f h1 h2 h3 h4 h5 =>
    obtain ⟨k1, k2, k3⟩ := k.c
    cases f with
    | val sv c f1 f2 f3 f4 =>
      obtain ⟨q1, q2, q3⟩ := putS_c s1 o.dst sv c
      refine ⟨by rw [q3, k3], by rw [q1, ← k1]; exact f2, fun t ht => ?_, .inl ⟨by rw [q2, k2], by rw [q1, f3, k1]⟩⟩
      rw [getS_putS, if_neg ht]
      exact k.same t
    | new cs t v vd f1 f2 f3 f4 =>
      obtain ⟨q1, q2, q3⟩ := putS_c { s1 with m := (s1.c.nk, cs, t) :: s1.m } o.dst (.cv (.one v)) { s1.c with nk := s1.c.nk + 1 }
      refine ⟨by rw [q3, k3], ?_, fun t ht => ?_, .inr (.inl ⟨cs, t, by rw [q2, k1, k2], by rw [q1, k1]⟩)⟩
      · rw [q1, k1]
        exact ⟨Nat.le_refl _, Nat.le_refl _, Nat.le_refl _, Nat.le_refl _, Nat.le_succ _⟩
      · rw [getS_putS, if_neg ht]
        exact k.same t
    | sto kk cs cs' t f1 f2 f3 f6 f4 f5 =>
      obtain ⟨q1, q2, q3⟩ := putS_c { s1 with m := setM s1.m kk cs' } o.dst .any s1.c
      refine ⟨by rw [q3, k3], by rw [q1, k1]; exact Ctr.le_refl _, fun t ht => ?_, .inr (.inr ⟨kk, cs', by rw [q2, k2], by rw [q1, k1], h5 kk (by rw [f2]; simp), f6, h1 kk (by rw [f2]; simp)⟩)⟩
      rw [getS_putS, if_neg ht]
      exact k.same t

section
variable {ops : Array Oper} {ρ : Env} {sts : Nat → St} {rd wr : List (Nat × Nat)}

theorem Way.get (hw : Way P W ops ρ sts rd wr) {i : Nat} (hi : i < ops.size) : ∃ o, ops[i]? = some o := ⟨ops[i], Array.getElem?_eq_getElem hi⟩
theorem Way.nk (hw : Way P W ops ρ sts rd wr) : ∀ (j i : Nat), i ≤ j → j ≤ ops.size → (sts i).c.nk ≤ (sts j).c.nk
  | 0, i, h, _ => by obtain rfl : i = 0 := by omega
                     exact Nat.le_refl _
  | j + 1, i, h, hj => by
    by_cases hi : i = j + 1
    · subst hi; exact Nat.le_refl _
    · obtain ⟨o, ho⟩ := hw.get (i := j) (by omega)
      exact Nat.le_trans (hw.nk j i (by omega) (by omega)) (hw.fct j o ho).step.2.1.2.2.2.2
theorem Way.n (hw : Way P W ops ρ sts rd wr) : ∀ j, j ≤ ops.size → (sts j).n = (sts 0).n
  | 0, _ => rfl
  | j + 1, hj => by
    obtain ⟨o, ho⟩ := hw.get (i := j) (by omega)
    rw [(hw.fct j o ho).step.1]
    exact hw.n j (by omega)
theorem Way.le (hw : Way P W ops ρ sts rd wr) : ∀ j, j ≤ ops.size → (sts 0).c.le (sts j).c
  | 0, _ => Ctr.le_refl _
  | j + 1, hj => by
    obtain ⟨o, ho⟩ := hw.get (i := j) (by omega)
    exact Ctr.le_trans (hw.le j (by omega)) (hw.fct j o ho).step.2.1
theorem Way.same (hw : Way P W ops ρ sts rd wr) {t : Nat} : ∀ (j i : Nat), i ≤ j → j ≤ ops.size → (∀ m, i ≤ m → m < j → ∀ o, ops[m]? = some o → o.dst ≠ some t) → SameS ρ (getS (sts i).t t) (getS (sts j).t t)
  | 0, i, h, _, _ => by obtain rfl : i = 0 := by omega
                        exact .inl rfl
  | j + 1, i, h, hj, hd => by
    by_cases hi : i = j + 1
    · subst hi; exact .inl rfl
    · obtain ⟨o, ho⟩ := hw.get (i := j) (by omega)
      exact (hw.same j i (by omega) (by omega) (fun m h1 h2 => hd m h1 (by omega))).trans ((hw.fct j o ho).step.2.2.1 t (hd j (by omega) (by omega) o ho))
theorem Way.chain (sts : Nat → St) {k : Nat} : ∀ (j i : Nat), i ≤ j → (∀ m, i ≤ m → m < j → getM (sts (m + 1)).m k = getM (sts m).m k) → getM (sts j).m k = getM (sts i).m k
  | 0, i, h, _ => by obtain rfl : i = 0 := by omega
                     rfl
  | j + 1, i, h, hd => by
    by_cases hi : i = j + 1
    · subst hi; rfl
    · rw [hd j (by omega) (by omega)]
      exact Way.chain sts j i (by omega) (fun m h1 h2 => hd m h1 (by omega))
/-- What changes a block. -/
theorem Way.change (hw : Way P W ops ρ sts rd wr) {m k : Nat} {o : Oper} (ho : ops[m]? = some o) (hc : getM (sts (m + 1)).m k ≠ getM (sts m).m k) :
    laid sts m k ∨ ((k, m) ∈ wr ∧ isStore o = true ∧ ∀ j, j < m → laid sts j k → reach ops 3 m j = true) := by
  obtain ⟨_, _, _, h⟩ := (hw.fct m o ho).step
  rcases h with ⟨h1, h2⟩ | ⟨cs, ty, h1, h2⟩ | ⟨k', cs', h1, h2, h3, h4, h5⟩
  · rw [h1] at hc; exact (hc rfl).elim
  · rw [h1, getM_cons] at hc
    by_cases hk : (sts m).c.nk = k
    · exact .inl ⟨hk, by rw [h2, hk]⟩
    · rw [if_neg hk] at hc; exact (hc rfl).elim
  · rw [h1, getM_setM] at hc
    by_cases hk : k' = k
    · subst hk; exact .inr ⟨h3, h4, h5⟩
    · rw [if_neg hk] at hc; exact (hc rfl).elim
theorem Way.laid_change (hw : Way P W ops ρ sts rd wr) {m k : Nat} {o : Oper} (ho : ops[m]? = some o) (hm : m < ops.size) (hl : laid sts m k) : ∃ cs ty, (sts (m + 1)).m = (k, cs, ty) :: (sts m).m := by
  obtain ⟨_, _, _, h⟩ := (hw.fct m o ho).step
  obtain ⟨l1, l2⟩ := hl
  rcases h with ⟨h1, h2⟩ | ⟨cs, ty, h1, h2⟩ | ⟨k', cs', h1, h2, h3, h4, h5⟩
  · omega
  · exact ⟨cs, ty, by rw [h1, l1]⟩
  · omega
theorem Way.pres (hw : Way P W ops ρ sts rd wr) : ∀ (j : Nat), j ≤ ops.size → ∀ k x, getM (sts j).m k = some x → (getM (sts 0).m k).isSome = true ∨ ∃ m, m < j ∧ laid sts m k
  | 0, _, k, x, h => .inl (by rw [h]; rfl)
  | j + 1, hj, k, x, h => by
    obtain ⟨o, ho⟩ := hw.get (i := j) (by omega)
    by_cases hc : getM (sts (j + 1)).m k = getM (sts j).m k
    · rw [hc] at h
      rcases hw.pres j (by omega) k x h with h1 | ⟨m, h1, h2⟩
      · exact .inl h1
      · exact .inr ⟨m, by omega, h2⟩
    · obtain ⟨_, _, _, hs⟩ := (hw.fct j o ho).step
      rcases hs with ⟨h1, h2⟩ | ⟨cs, ty, h1, h2⟩ | ⟨k', cs', h1, h2, h3, h4, h5⟩
      · rw [h1] at hc; exact (hc rfl).elim
      · rw [h1, getM_cons] at hc
        by_cases hk : (sts j).c.nk = k
        · exact .inr ⟨j, by omega, hk, by rw [h2, hk]⟩
        · rw [if_neg hk] at hc; exact (hc rfl).elim
      · rw [h1, getM_setM] at h
        by_cases hk : k' = k
        · rw [if_pos hk] at h
          simp only [Option.map_eq_some_iff] at h
          obtain ⟨y, hy, _⟩ := h
          rcases hw.pres j (by omega) k y hy with h1 | ⟨m, h1, h2⟩
          · exact .inl h1
          · exact .inr ⟨m, by omega, h2⟩
        · rw [if_neg hk] at h
          rcases hw.pres j (by omega) k x h with h1 | ⟨m, h1, h2⟩
          · exact .inl h1
          · exact .inr ⟨m, by omega, h2⟩
theorem ids_lt {c : Ctr} : ∀ {l : List At}, l.all (At.wf c) = true → ∀ k ∈ idsOf l, k < c.nk
  | [], _, k, h => by cases h
  | a :: l, hw, k, h => by
    simp only [List.all_cons, Bool.and_eq_true] at hw
    cases a <;> simp only [idsOf, List.mem_cons, List.mem_append] at h <;> first
      | exact ids_lt hw.2 k h
      | (rcases h with rfl | h
         · simpa [At.wf] using hw.1
         · exact ids_lt hw.2 k h)
      | (rcases h with h | h
         · obtain ⟨x, hx, rfl⟩ := List.mem_map.1 h
           have := hw.1
           simp only [At.wf] at this
           simpa using List.all_eq_true.1 this x hx
         · exact ids_lt hw.2 k h)
theorem svIds_lt {c : Ctr} {x : SV} (h : x.wf c = true) : ∀ k ∈ svIds x, k < c.nk := by
  cases x with
  | any => intro k hk; cases hk
  | und => intro k hk; cases hk
  | cv v => exact ids_lt (CV.wf_cells h)
  | tup l =>
    refine ids_lt (c := c) ?_
    refine List.all_eq_true.2 fun a ha => ?_
    obtain ⟨v, hv, hav⟩ := List.mem_flatMap.1 ha
    exact List.all_eq_true.1 (CV.wf_cells (List.all_eq_true.1 h v hv)) a hav
/-- No block that is laid in the region stands in a cell. -/
theorem Way.cells (hw : Way P W ops ρ sts rd wr) : ∀ (j : Nat), j ≤ ops.size → ∀ e ∈ (sts j).m, ∀ k ∈ idsOf e.2.1, ∀ m, m < j → ¬ laid sts m k
  | 0, _, e, he, k, hk, m, hm => by omega
  | j + 1, hj, e, he, k, hk, m, hm => by
    obtain ⟨o, ho⟩ := hw.get (i := j) (by omega)
    have hf := hw.fct j o ho
    have hs := hf.step
    generalize hs' : sts (j + 1) = s' at hf hs he
    cases hf with
    | run s1 _ k1 w f h1 h2 h3 h4 h5 => exact h3 e he k hk m (by omega)
    | skip s1 k1 w p =>
      have hm1 : (s1.putS o.dst .und s1.c).m = (sts j).m := by rw [(putS_c s1 o.dst .und s1.c).2.1, k1.c.2.1]
      have hc1 : (s1.putS o.dst .und s1.c).c = (sts j).c := by rw [(putS_c s1 o.dst .und s1.c).1, k1.c.1]
      rw [hm1] at he
      intro hl
      by_cases hmj : m = j
      · subst hmj
        obtain ⟨l1, l2⟩ := hl
        rw [hs', hc1] at l2
        omega
      · exact hw.cells j (by omega) e he k hk m (by omega) hl

theorem drawOk_spec (h : drawOk ops = true) {i : Nat} {o : Oper} (ho : ops[i]? = some o) :
    (∀ e ∈ o.after, Region.binds .any e = true → e.on < i) ∧ ∀ j p, ops[j]? = some p →
      (∀ d, p.dst = some d → (i = j ∨ o.dst ≠ some d) ∧ (d ∈ o.looksAt ops → (j < i ∧ direct ops i j = true) ∨ (i < j ∧ direct ops j i = true))) ∧ (isStore o = true → isStore p = true → j < i → direct ops i j = true) := by
  have hi : i < ops.size := (Array.getElem?_eq_some_iff.1 ho).1
  have h1 := List.all_eq_true.1 h i (List.mem_range.2 hi)
  simp only [ho, Bool.and_eq_true] at h1
  refine ⟨fun e he hb => ?_, fun j p hp => ?_⟩
  · have := Array.all_eq_true_iff_forall_mem.1 h1.1 e he
    simpa [hb] using this
  · have hj : j < ops.size := (Array.getElem?_eq_some_iff.1 hp).1
    have h2 := List.all_eq_true.1 h1.2 j (List.mem_range.2 hj)
    simp only [hp, Bool.and_eq_true] at h2
    refine ⟨fun d hd => ?_, fun s1 s2 hlt => ?_⟩
    · have h3 := h2.1
      simp only [hd, Bool.and_eq_true, decide_eq_true_eq, Bool.or_eq_true, Bool.not_eq_true'] at h3
      refine ⟨h3.1, fun hm => ?_⟩
      rcases h3.2 with (h4 | h4) | h4
      · rw [List.contains_iff_mem.2 hm] at h4; cases h4
      · exact .inl h4
      · exact .inr h4
    · have h3 := h2.2
      simpa [s1, s2, hlt] using h3

/-- What is so when some operations are done. -/
structure Inv (W : World) (ops : Array Oper) (ρ : Env) (sts : Nat → St) (a0 : Act) (β0 : Nat → Nat) (listed : Array Bool) (a : Act) (w : World) (β : Nat → Nat) : Prop where
  lsize : listed.size = ops.size
  closed : ∀ j oj, ops[j]? = some oj → listed.getD j false = true → ∀ e ∈ oj.after, Region.binds .any e = true → listed.getD e.on false = true
  size : a.tmps.size = (sts 0).n
  dfr : a.defers = []
  below : Below W.heap.size W w
  s2 : ∀ t i o, ops[i]? = some o → o.dst = some t → listed.getD i false = true → getS (sts ops.size).t t ≠ .any → a.tmps[t]? = some ((getS (sts ops.size).t t).den ρ β)
  s3 : ∀ t, (∀ i o, ops[i]? = some o → o.dst = some t → listed.getD i false = false) → a.tmps[t]? = a0.tmps[t]?
  mem : ∀ k i, i ≤ ops.size → (∀ m, m < ops.size → getM (sts (m + 1)).m k ≠ getM (sts m).m k → (m < i ↔ listed.getD m false = true)) →
    ∀ cs t, getM (sts i).m k = some (cs, t) → W.heap.size ≤ β k ∧ w.heap[β k]? = some (.cells (cs.map (At.den ρ β)).toArray t)
  pb : ∀ k, ((getM (sts 0).m k).isSome = true ∨ ∃ m, m < ops.size ∧ laid sts m k ∧ listed.getD m false = true) → β k < w.heap.size
  inj : ∀ k k', ((getM (sts 0).m k).isSome = true ∨ ∃ m, m < ops.size ∧ laid sts m k ∧ listed.getD m false = true) →
    ((getM (sts 0).m k').isSome = true ∨ ∃ m, m < ops.size ∧ laid sts m k' ∧ listed.getD m false = true) → β k = β k' → k = k'
  agree : ∀ k, k < (sts 0).c.nk → β k = β0 k

theorem slot_at (hw : Way P W ops ρ sts rd wr) (hd : drawOk ops = true) {a0 a : Act} {β0 β : Nat → Nat} {w0 w : World} {ρ0 : Env} (hC : Core W ρ0 β0 (sts 0) a0 w0) (hl : Env.like (sts 0).c ρ0 ρ) {listed : Array Bool}
    (inv : Inv W ops ρ sts a0 β0 listed a w β) {i : Nat} {o : Oper} (ho : ops[i]? = some o) (hun : listed.getD i false = false) (hr : ∀ e ∈ o.after, Region.binds .any e = true → listed.getD e.on false = true) {t : Nat} (ht : t ∈ o.looksAt ops) (hn : getS (sts i).t t ≠ .any) :
    a.tmps[t]? = some ((getS (sts i).t t).den ρ β) := by
  have hi : i < ops.size := (Array.getElem?_eq_some_iff.1 ho).1
  obtain ⟨_, hd2⟩ := drawOk_spec hd ho
  by_cases hx : ∃ (j : Nat) (p : Oper), ops[j]? = some p ∧ p.dst = some t
  · obtain ⟨j, p, hp, hpt⟩ := hx
    obtain ⟨_, h2⟩ := (hd2 j p hp).1 t hpt
    rcases h2 ht with ⟨hji, hdir⟩ | ⟨hij, hdir⟩
    rotate_left
    · have huj : listed.getD j false = false := by
        cases hlj : listed.getD j false with
        | false => rfl
        | true =>
          simp only [direct, hp, Array.any_eq_true', Bool.and_eq_true, decide_eq_true_eq] at hdir
          obtain ⟨e, he, hb, rfl⟩ := hdir
          rw [inv.closed j p hp hlj e he hb] at hun
          cases hun
      have hsame : SameS ρ (getS (sts 0).t t) (getS (sts i).t t) := by
        refine hw.same i 0 (by omega) (by omega) fun m h1 h3 q hq hqt => ?_
        have := ((drawOk_spec hd hq).2 j p hp).1 t hpt
        rcases this.1 with h4 | h4
        · omega
        · exact h4 hqt
      rw [inv.s3 t (fun m o' hm he => by
        have := ((drawOk_spec hd hm).2 j p hp).1 t hpt
        rcases this.1 with h4 | h4
        · subst h4; exact huj
        · exact (h4 he).elim), hC.tmps t (hsame.any hn), ← hsame.den, SV.den_like hl inv.agree (hC.wf.t t)]
    have hlj : listed.getD j false = true := by
      simp only [direct, ho, Array.any_eq_true', Bool.and_eq_true, decide_eq_true_eq] at hdir
      obtain ⟨e, he, hb, rfl⟩ := hdir
      exact hr e he hb
    have hsame : SameS ρ (getS (sts i).t t) (getS (sts ops.size).t t) := by
      refine hw.same ops.size i (by omega) (Nat.le_refl _) fun m h1 h3 q hq hqt => ?_
      have := ((drawOk_spec hd hq).2 j p hp).1 t hpt
      rcases this.1 with h4 | h4
      · omega
      · exact h4 hqt
    rw [inv.s2 t j p hp hpt hlj (hsame.any' hn), hsame.den]
  · have hnone : ∀ (m : Nat) (o' : Oper), ops[m]? = some o' → o'.dst ≠ some t := fun m o' hm he => hx ⟨m, o', hm, he⟩
    have hsame : SameS ρ (getS (sts 0).t t) (getS (sts i).t t) := hw.same i 0 (by omega) (by omega) fun m _ _ q hq => hnone m q hq
    rw [inv.s3 t (fun m o' hm he => (hnone m o' hm he).elim), hC.tmps t (hsame.any hn), ← hsame.den, SV.den_like hl inv.agree (hC.wf.t t)]

theorem ops_at (hw : Way P W ops ρ sts rd wr) (hd : drawOk ops = true) {a0 a : Act} {β0 β : Nat → Nat} {w0 w : World} {ρ0 : Env} (hC : Core W ρ0 β0 (sts 0) a0 w0) (hl : Env.like (sts 0).c ρ0 ρ) {listed : Array Bool}
    (inv : Inv W ops ρ sts a0 β0 listed a w β) {i : Nat} {o : Oper} (ho : ops[i]? = some o) (hun : listed.getD i false = false) (hr : ∀ e ∈ o.after, Region.binds .any e = true → listed.getD e.on false = true) {s1 : St} (hk : Knw ρ (sts i) s1) : OpsOk s1 o ρ β a := by
  intro x hx hn
  cases x with
  | tmp t =>
    have hs := hk.same t
    have hn' : getS s1.t t ≠ .any := hn
    have := slot_at hw hd hC hl inv ho hun hr (t := t) (by
      simp only [Oper.looksAt, List.mem_append]
      exact .inl (List.mem_filterMap.2 ⟨.tmp t, Array.mem_toList_iff.2 hx, rfl⟩)) (hs.any hn')
    show a.tmps.getD t undef = _
    rw [Array.getD_eq_getD_getElem?, this, Option.getD_some]
    exact hs.den β
  | const v => exact ((SV.ofValue_den v s1.c ρ β).2 hn).symm
  | global g => exact (hn rfl).elim
  | func f => rfl

theorem wanted_at (hw : Way P W ops ρ sts rd wr) (hd : drawOk ops = true) {a0 a : Act} {β0 β : Nat → Nat} {w0 w : World} {ρ0 : Env} (hC : Core W ρ0 β0 (sts 0) a0 w0) (hl : Env.like (sts 0).c ρ0 ρ) {listed : Array Bool}
    (inv : Inv W ops ρ sts a0 β0 listed a w β) {i : Nat} {o : Oper} (ho : ops[i]? = some o) (hun : listed.getD i false = false) (hr : ∀ e ∈ o.after, Region.binds .any e = true → listed.getD e.on false = true) {b : Bool} (hb : Wants ops ρ (sts i) o b) : Region.wanted o (yielded ops a.tmps) = b := by
  unfold Wants at hb
  cases hg : o.guard with
  | none => rw [hg] at hb; simp only at hb; subst hb; simp [Region.wanted, hg]
  | some jw =>
    obtain ⟨j, want⟩ := jw
    rw [hg] at hb
    obtain ⟨x, hx, hb⟩ := hb
    have hlook : x ∈ o.looksAt ops := by
      simp only [Oper.looksAt, hg, List.mem_append]
      exact .inr (by simp [hx])
    rcases hb with ⟨e, he, hb⟩ | ⟨he, rfl⟩
    · have := slot_at hw hd hC hl inv ho hun hr hlook (by rw [he]; simp)
      rw [he] at this
      have hy := yielded_some (b := e.den ρ) hx this
      simp only [Region.wanted, hg, hy]
      exact hb
    · have := slot_at hw hd hC hl inv ho hun hr hlook (by rw [he]; simp)
      rw [he] at this
      have hy := yielded_none hx this
      simp [Region.wanted, hg, hy]
end
end Vc
