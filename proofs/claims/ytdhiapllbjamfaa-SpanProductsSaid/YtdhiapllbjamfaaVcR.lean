/- Vc, part R: a drawn region, in whatever order: what stays so. No program in sight. -/
import Derived.Test.YtdhiapllbjamfaaVcP
set_option linter.unusedVariables false
set_option linter.unusedSimpArgs false
namespace Vc
open Go Go.RowKit
variable {P : Program} {W : World} {R : Nat → Loop} {Z : List Nat}

def laid (sts : Nat → St) (m k : Nat) : Prop := (sts m).c.nk ≤ k ∧ k < (sts (m + 1)).c.nk
def tch (sts : Nat → St) (cs : Nat → List Nat) (m k : Nat) : Prop := k ∈ cs m ∨ laid sts m k
structure Way (P : Program) (W : World) (ops : Array Oper) (n : Nat) (ρ : Env) (sts : Nat → St) (svs : Nat → SV) (cs : Nat → List Nat) (rd wr : List (Nat × Nat)) : Prop where
  le : n ≤ ops.size
  wf : ∀ i, i ≤ n → (sts i).WF
  fct : ∀ i o, i < n → ops[i]? = some o → Fct P W ops ρ (fun k => ∀ m, m < i → laid sts m k → reach ops 3 i m = true) i rd wr (sts i) o (sts (i + 1)) (svs i) (cs i)
  apart : ∀ k i j, ((k, i) ∈ rd ∨ (k, i) ∈ wr) → (k, j) ∈ wr → i = j ∨ (j < i ∧ direct ops i j = true) ∨ (i < j ∧ direct ops j i = true)
  rows : ∀ i, i ≤ n → ∀ k ce sz t, getE (sts i).m (sts i).o k = some (.row ce sz t) → ∀ m, m < n → ∀ d, d < 4 → laid sts m (k + d) → laid sts m k

theorem ids_lt {c : Ctr} : ∀ {l : List At}, l.all (At.wf c) = true → ∀ k ∈ idsOf l, k < c.nk
  | [], _, k, h => by cases h
  | a :: l, hw, k, h => by
    simp only [List.all_cons, Bool.and_eq_true] at hw
    rw [idsOf_cons] at h
    replace h := List.mem_append.1 h
    rcases h with h | h
    · have hw1 := hw.1
      have caps : ∀ {x : List (Nat × Nat)}, (x.all fun y => decide (y.1 < c.nk)) = true → k ∈ x.map (·.1) → k < c.nk := fun hx hk => by
        obtain ⟨y, hy, rfl⟩ := List.mem_map.1 hk
        simpa using List.all_eq_true.1 hx y hy
      cases a <;> simp only [idsOf, List.mem_cons, List.not_mem_nil, or_false, List.append_nil] at h
      case own j => simp only [At.wf, decide_eq_true_eq] at hw1; omega
      case fn f cp => exact caps hw1 h
      case mfn f fi cp =>
        have hw2 : ((fi.all fun x => decide (x.1 < c.nk)) && cp.all fun x => decide (x.1 < c.nk)) = true := hw1
        simp only [Bool.and_eq_true] at hw2
        rcases List.mem_append.1 h with h | h
        · exact caps hw2.1 h
        · exact caps hw2.2 h
      all_goals (subst h; simp only [At.wf, Bool.and_eq_true, decide_eq_true_eq] at hw1; first | exact hw1 | exact hw1.1)
    · exact ids_lt hw.2 k h
theorem svIds_lt {c : Ctr} {x : SV} (h : x.wf c = true) : ∀ k ∈ svIds x, k < c.nk := by
  cases x with
  | any => intro k hk; cases hk
  | und => intro k hk; cases hk
  | cv v => exact ids_lt (CV.wf_cells h)
  | tup l =>
    refine ids_lt (c := c) ?_
    refine List.all_eq_true.2 fun a ha => ?_
    obtain ⟨v, hv, hav⟩ := List.mem_flatMap.1 ha
    exact List.all_eq_true.1 (CV.wf_cells (List.all_eq_true.1 h v hv)) a hav
theorem valIds_lt {st : St} (h : st.WF) {o : Oper} : ∀ k ∈ valIds st o, k < st.c.nk := by
  intro k hk
  unfold valIds at hk
  split at hk
  · exact svIds_lt (h.ev _) k hk
  · exact svIds_lt (h.ev _) k hk
  · obtain ⟨p, _, hp⟩ := List.mem_flatMap.1 hk
    exact svIds_lt (h.ev _) k hp
  · cases hk
theorem entSelf_k (k : Nat) (e : Ent) : k ∈ entSelf k e := by cases e <;> simp [entSelf]

section
variable {ops : Array Oper} {n : Nat} {ρ : Env} {sts : Nat → St} {svs : Nat → SV} {cs : Nat → List Nat} {rd wr : List (Nat × Nat)}

theorem Way.get (hw : Way P W ops n ρ sts svs cs rd wr) {i : Nat} (hi : i < n) : ∃ o, ops[i]? = some o := ⟨ops[i]'(Nat.lt_of_lt_of_le hi hw.le), Array.getElem?_eq_getElem _⟩
theorem Way.stp (hw : Way P W ops n ρ sts svs cs rd wr) {i : Nat} {o : Oper} (hi : i < n) (ho : ops[i]? = some o) : ∃ s1, Knw ρ (sts i) s1 ∧ Stp s1 o (sts (i + 1)) (svs i) (cs i) := (hw.fct i o hi ho).stp (hw.wf i (by omega))
theorem Way.step (hw : Way P W ops n ρ sts svs cs rd wr) {i : Nat} {o : Oper} (hi : i < n) (ho : ops[i]? = some o) :
    (sts (i + 1)).n = (sts i).n ∧ (sts (i + 1)).r = (sts i).r ∧ (sts (i + 1)).d = (sts i).d ∧ (sts i).c.le (sts (i + 1)).c ∧ (∀ t, o.dst ≠ some t → SameS ρ (getS (sts i).t t) (getS (sts (i + 1)).t t)) ∧
      (∀ t, o.dst = some t → getS (sts (i + 1)).t t = svs i) ∧ (∀ d, o.dst = some d → d < (sts i).n) ∧ (∀ k ∈ cs i, k < (sts i).c.nk) ∧ (∀ k, k < (sts i).c.nk → k ∉ cs i → getE (sts (i + 1)).m (sts (i + 1)).o k = getE (sts i).m (sts i).o k) := by
  obtain ⟨s1, hk, h⟩ := hw.stp hi ho
  obtain ⟨k1, k2, k3, k4, k5, k6⟩ := hk.c
  refine ⟨h.n.trans k3, h.rs.trans k5, h.ds.trans k6, by rw [← k1]; exact h.cle, fun t ht => ?_, fun t ht => by rw [h.slot, if_pos ht], fun d hd => by rw [← k3]; exact h.dst d hd, fun k hk => by rw [← k1]; exact h.lt k hk, fun k hk hc => by rw [h.same k (by rw [k1]; exact hk) hc, k2, k4]⟩
  rw [h.slot, if_neg ht]
  exact hk.same t
theorem Way.nk (hw : Way P W ops n ρ sts svs cs rd wr) : ∀ (j i : Nat), i ≤ j → j ≤ n → (sts i).c.nk ≤ (sts j).c.nk
  | 0, i, h, _ => by obtain rfl : i = 0 := by omega
                     exact Nat.le_refl _
  | j + 1, i, h, hj => by
    by_cases hi : i = j + 1
    · subst hi; exact Nat.le_refl _
    · obtain ⟨o, ho⟩ := hw.get (i := j) (by omega)
      exact Nat.le_trans (hw.nk j i (by omega) (by omega)) (hw.step (by omega) ho).2.2.2.1.k
theorem Way.n0 (hw : Way P W ops n ρ sts svs cs rd wr) : ∀ j, j ≤ n → (sts j).n = (sts 0).n ∧ (sts j).r = (sts 0).r ∧ (sts j).d = (sts 0).d ∧ (sts 0).c.le (sts j).c
  | 0, _ => ⟨rfl, rfl, rfl, Ctr.le_refl _⟩
  | j + 1, hj => by
    obtain ⟨o, ho⟩ := hw.get (i := j) (by omega)
    obtain ⟨h1, h2, h3, h4, _⟩ := hw.step (by omega) ho
    obtain ⟨g1, g2, g3, g4⟩ := hw.n0 j (by omega)
    exact ⟨h1.trans g1, h2.trans g2, h3.trans g3, Ctr.le_trans g4 h4⟩
theorem Way.same (hw : Way P W ops n ρ sts svs cs rd wr) {t : Nat} : ∀ (j i : Nat), i ≤ j → j ≤ n → (∀ m, i ≤ m → m < j → ∀ o, ops[m]? = some o → o.dst ≠ some t) → SameS ρ (getS (sts i).t t) (getS (sts j).t t)
  | 0, i, h, _, _ => by obtain rfl : i = 0 := by omega
                        exact .inl rfl
  | j + 1, i, h, hj, hd => by
    by_cases hi : i = j + 1
    · subst hi; exact .inl rfl
    · obtain ⟨o, ho⟩ := hw.get (i := j) (by omega)
      exact (hw.same j i (by omega) (by omega) (fun m h1 h2 => hd m h1 (by omega))).trans ((hw.step (by omega) ho).2.2.2.2.1 t (hd j (by omega) (by omega) o ho))
/-- What is not touched stays. -/
theorem Way.keep (hw : Way P W ops n ρ sts svs cs rd wr) {m k : Nat} (hm : m < n) (h : ¬ tch sts cs m k) : getE (sts (m + 1)).m (sts (m + 1)).o k = getE (sts m).m (sts m).o k := by
  obtain ⟨o, ho⟩ := hw.get hm
  by_cases hk : k < (sts m).c.nk
  · exact (hw.step hm ho).2.2.2.2.2.2.2.2 k hk fun hc => h (.inl hc)
  · have hk2 : (sts (m + 1)).c.nk ≤ k := by
      rcases Nat.lt_or_ge k (sts (m + 1)).c.nk with h' | h'
      · exact (h (.inr ⟨by omega, h'⟩)).elim
      · exact h'
    rw [(hw.wf (m + 1) (by omega)).beyond hk2, (hw.wf m (by omega)).beyond (by omega)]
theorem Way.chain (hw : Way P W ops n ρ sts svs cs rd wr) {k : Nat} : ∀ (j i : Nat), i ≤ j → j ≤ n → (∀ m, i ≤ m → m < j → ¬ tch sts cs m k) → getE (sts j).m (sts j).o k = getE (sts i).m (sts i).o k
  | 0, i, h, _, _ => by obtain rfl : i = 0 := by omega
                        rfl
  | j + 1, i, h, hj, hd => by
    by_cases hi : i = j + 1
    · subst hi; rfl
    · rw [hw.keep (by omega) (hd j (by omega) (by omega))]
      exact hw.chain j i (by omega) (by omega) (fun m h1 h2 => hd m h1 (by omega))
/-- What is touched is written, or laid. -/
theorem Way.cls (hw : Way P W ops n ρ sts svs cs rd wr) {m k : Nat} (hm : m < n) (h : k ∈ cs m) : (k, m) ∈ wr ∧ k < (sts m).c.nk ∧ ∀ i, i < m → laid sts i k → reach ops 3 m i = true := by
  obtain ⟨o, ho⟩ := hw.get hm
  have hl := (hw.step hm ho).2.2.2.2.2.2.2.1 k h
  have hf := hw.fct m o hm ho
  generalize hC : cs m = C at hf h
  generalize hS : svs m = sv at hf
  generalize hs : sts (m + 1) = s' at hf
  cases hf with
  | skip => cases h
  | run s1 _ _ _ kn w nd f h1 h2 h4 h5 =>
    have hwk := (f.chg k h).1
    exact ⟨h5 k hwk, hl, h1 k (List.mem_append.2 (.inl (List.mem_append.2 (.inr hwk))))⟩
theorem Way.dst (hw : Way P W ops n ρ sts svs cs rd wr) {i : Nat} {o : Oper} (hi : i < n) (ho : ops[i]? = some o) {x : Nat} (hx : o.dst = some x) {k : Nat} (hk : k ∈ svIds (svs i)) {m : Nat} (hm : m < i) (hl : laid sts m k) : reach ops 3 i m = true := by
  have hf := hw.fct i o hi ho
  generalize hC : cs i = C at hf
  generalize hS : svs i = sv at hf hk
  generalize hs : sts (i + 1) = s' at hf
  cases hf with
  | skip => cases hk
  | run s1 _ _ _ kn w nd f h1 h2 h4 h5 => exact h2 x hx k hk m hm hl

theorem drawOk_spec (h : drawOk ops = true) {i : Nat} {o : Oper} (ho : ops[i]? = some o) :
    (∀ e ∈ o.after, Region.binds .any e = true → e.on < i) ∧ ∀ j p, ops[j]? = some p →
      ∀ d, p.dst = some d → (i = j ∨ o.dst ≠ some d) ∧ (d ∈ o.looksAt ops → (j < i ∧ direct ops i j = true) ∨ (i < j ∧ direct ops j i = true)) := by
  have hi : i < ops.size := (Array.getElem?_eq_some_iff.1 ho).1
  have h1 := List.all_eq_true.1 h i (List.mem_range.2 hi)
  simp only [ho, Bool.and_eq_true] at h1
  refine ⟨fun e he hb => ?_, fun j p hp d hd => ?_⟩
  · have := Array.all_eq_true_iff_forall_mem.1 h1.1 e he
    simpa [hb] using this
  · have hj : j < ops.size := (Array.getElem?_eq_some_iff.1 hp).1
    have h2 := List.all_eq_true.1 h1.2 j (List.mem_range.2 hj)
    simp only [hp, hd, Bool.and_eq_true, decide_eq_true_eq, Bool.or_eq_true, Bool.not_eq_true'] at h2
    refine ⟨h2.1, fun hm => ?_⟩
    rcases h2.2 with (h4 | h4) | h4
    · rw [List.contains_iff_mem.2 hm] at h4; cases h4
    · exact .inl h4
    · exact .inr h4

/-- At an object, what is done is what the text does ahead of a place. -/
def cut (n : Nat) (sts : Nat → St) (cs : Nat → List Nat) (listed : Array Bool) (k i : Nat) : Prop := ∀ m, m < n → tch sts cs m k → (m < i ↔ listed.getD m false = true)

/-- What is so when some operations are done. -/
structure Inv (W : World) (R : Nat → Loop) (Z : List Nat) (ops : Array Oper) (n : Nat) (ρ : Env) (sts : Nat → St) (cs : Nat → List Nat) (a0 : Act) (β0 : Nat → Nat) (listed : Array Bool) (a : Act) (w : World) (β : Nat → Nat) : Prop where
  lsize : listed.size = ops.size
  closed : ∀ j oj, ops[j]? = some oj → listed.getD j false = true → ∀ e ∈ oj.after, Region.binds .any e = true → listed.getD e.on false = true
  only : ∀ j, n ≤ j → listed.getD j false = false
  size : a.tmps.size = (sts 0).n
  dfr : a.defers = marksOf β0 (sts 0).d
  below : Below W.heap.size W w
  s2 : ∀ t i o, i < n → ops[i]? = some o → o.dst = some t → listed.getD i false = true → getS (sts n).t t ≠ .any → a.tmps[t]? = some ((getS (sts n).t t).den ρ β)
  s3 : ∀ t, (∀ i o, i < n → ops[i]? = some o → o.dst = some t → listed.getD i false = false) → a.tmps[t]? = a0.tmps[t]?
  mem : ∀ k i, i ≤ n → cut n sts cs listed k i → ∀ e, getE (sts i).m (sts i).o k = some e → Holds W ρ β k e w
  std : ∀ k i, i ≤ n → cut n sts cs listed k i → ∀ e, getE (sts i).m (sts i).o k = some e → ∀ x ∈ entIds e, ∀ m, m < n → laid sts m x → listed.getD m false = true
  inj : ∀ k k' i i', i ≤ n → i' ≤ n → cut n sts cs listed k i → cut n sts cs listed k' i' → ∀ e e' b, getE (sts i).m (sts i).o k = some e → getE (sts i').m (sts i').o k' = some e' → blkE β k e = some b → blkE β k' e' = some b → k = k'
  lps : ∀ k e, getR (sts 0).r k = some e → w.heap[β0 k]? = some (.loop (recAt (R k) e))
  ded : ∀ b ∈ Z ++ (sts 0).d.map β0, w.heap[b]? = some (.deferred (some []))
  agree : ∀ k, k < (sts 0).c.nk → β k = β0 k

theorem slot_at (hw : Way P W ops n ρ sts svs cs rd wr) (hd : drawOk ops = true) {a0 a : Act} {β0 β : Nat → Nat} {w0 w : World} (hC : Core W R Z ρ β0 (sts 0) a0 w0) {listed : Array Bool}
    (inv : Inv W R Z ops n ρ sts cs a0 β0 listed a w β) {i : Nat} {o : Oper} (hi : i < n) (ho : ops[i]? = some o) (hun : listed.getD i false = false) (hr : ∀ e ∈ o.after, Region.binds .any e = true → listed.getD e.on false = true) {t : Nat} (ht : t ∈ o.looksAt ops) (hn : getS (sts i).t t ≠ .any) :
    a.tmps[t]? = some ((getS (sts i).t t).den ρ β) := by
  obtain ⟨_, hd2⟩ := drawOk_spec hd ho
  have early : (∀ m o', m < n → ops[m]? = some o' → o'.dst = some t → listed.getD m false = false) → SameS ρ (getS (sts 0).t t) (getS (sts i).t t) → a.tmps[t]? = some ((getS (sts i).t t).den ρ β) := fun h1 hsame => by
    rw [inv.s3 t h1, hC.tmps t (hsame.any hn), ← hsame.den, SV.den_like (Env.like_refl _ ρ) inv.agree (hC.wf.t t)]
  by_cases hx : ∃ (j : Nat) (p : Oper), ops[j]? = some p ∧ p.dst = some t
  · obtain ⟨j, p, hp, hpt⟩ := hx
    have one : ∀ m q, ops[m]? = some q → q.dst = some t → m = j := fun m q hq hqt => by
      rcases ((drawOk_spec hd hq).2 j p hp t hpt).1 with h4 | h4
      · exact h4
      · exact (h4 hqt).elim
    obtain ⟨_, h2⟩ := hd2 j p hp t hpt
    rcases h2 ht with ⟨hji, hdir⟩ | ⟨hij, hdir⟩
    · have hlj : listed.getD j false = true := by
        simp only [direct, ho, Array.any_eq_true', Bool.and_eq_true, decide_eq_true_eq] at hdir
        obtain ⟨e, he, hb, rfl⟩ := hdir
        exact hr e he hb
      have hsame : SameS ρ (getS (sts i).t t) (getS (sts n).t t) := hw.same n i (by omega) (Nat.le_refl _) fun m h1 h3 q hq hqt => by
        have := one m q hq hqt; omega
      rw [inv.s2 t j p (by omega) hp hpt hlj (hsame.any' hn), hsame.den]
    · have huj : listed.getD j false = false := by
        cases hlj : listed.getD j false with
        | false => rfl
        | true =>
          simp only [direct, hp, Array.any_eq_true', Bool.and_eq_true, decide_eq_true_eq] at hdir
          obtain ⟨e, he, hb, rfl⟩ := hdir
          rw [inv.closed j p hp hlj e he hb] at hun
          cases hun
      refine early (fun m o' _ hm he => by rw [one m o' hm he]; exact huj) (hw.same i 0 (by omega) (by omega) fun m h1 h3 q hq hqt => ?_)
      have := one m q hq hqt; omega
  · have hnone : ∀ (m : Nat) (o' : Oper), ops[m]? = some o' → o'.dst ≠ some t := fun m o' hm he => hx ⟨m, o', hm, he⟩
    exact early (fun m o' _ hm he => (hnone m o' hm he).elim) (hw.same i 0 (by omega) (by omega) fun m _ _ q hq => hnone m q hq)

theorem ops_at (hw : Way P W ops n ρ sts svs cs rd wr) (hd : drawOk ops = true) {a0 a : Act} {β0 β : Nat → Nat} {w0 w : World} (hC : Core W R Z ρ β0 (sts 0) a0 w0) {listed : Array Bool}
    (inv : Inv W R Z ops n ρ sts cs a0 β0 listed a w β) {i : Nat} {o : Oper} (hi : i < n) (ho : ops[i]? = some o) (hun : listed.getD i false = false) (hr : ∀ e ∈ o.after, Region.binds .any e = true → listed.getD e.on false = true) {s1 : St} (hk : Knw ρ (sts i) s1) : OpsOk s1 o ρ β a := by
  intro x hx hn
  cases x with
  | tmp t =>
    have hs := hk.same t
    have hn' : getS s1.t t ≠ .any := hn
    have := slot_at hw hd hC inv hi ho hun hr (t := t) (by
      simp only [Oper.looksAt, List.mem_append]
      exact .inl (List.mem_filterMap.2 ⟨.tmp t, Array.mem_toList_iff.2 hx, rfl⟩)) (hs.any hn')
    show a.tmps.getD t undef = _
    rw [Array.getD_eq_getD_getElem?, this, Option.getD_some]
    exact hs.den β
  | const v => exact ((SV.ofValue_den v s1.c ρ β).2 hn).symm
  | global g => exact (hn rfl).elim
  | func f => rfl

theorem wanted_at (hw : Way P W ops n ρ sts svs cs rd wr) (hd : drawOk ops = true) {a0 a : Act} {β0 β : Nat → Nat} {w0 w : World} (hC : Core W R Z ρ β0 (sts 0) a0 w0) {listed : Array Bool}
    (inv : Inv W R Z ops n ρ sts cs a0 β0 listed a w β) {i : Nat} {o : Oper} (hi : i < n) (ho : ops[i]? = some o) (hun : listed.getD i false = false) (hr : ∀ e ∈ o.after, Region.binds .any e = true → listed.getD e.on false = true) {b : Bool} (hb : Wants ops ρ (sts i) o b) : Region.wanted o (yielded ops a.tmps) = b := by
  unfold Wants at hb
  cases hg : o.guard with
  | none => rw [hg] at hb; simp only at hb; subst hb; simp [Region.wanted, hg]
  | some jw =>
    obtain ⟨j, want⟩ := jw
    rw [hg] at hb
    obtain ⟨x, hx, hb⟩ := hb
    have hlook : x ∈ o.looksAt ops := by
      simp only [Oper.looksAt, hg, List.mem_append]
      exact .inr (by simp [hx])
    rcases hb with ⟨e, he, hb⟩ | ⟨he, rfl⟩
    · have := slot_at hw hd hC inv hi ho hun hr hlook (by rw [he]; simp)
      rw [he] at this
      have hy := yielded_some (b := e.den ρ) hx this
      simp only [Region.wanted, hg, hy]
      exact hb
    · have := slot_at hw hd hC inv hi ho hun hr hlook (by rw [he]; simp)
      rw [he] at this
      have hy := yielded_none hx this
      simp [Region.wanted, hg, hy]

/-- What comes behind an operation is not done. -/
theorem later {a0 a : Act} {β0 β : Nat → Nat} {w : World} {listed : Array Bool} (inv : Inv W R Z ops n ρ sts cs a0 β0 listed a w β) {i m : Nat} (hun : listed.getD i false = false) (hm : m < ops.size) (h : reach ops 3 m i = true) : listed.getD m false = false := by
  cases hlm : listed.getD m false with
  | false => rfl
  | true =>
    have hom : ops[m]? = some ops[m] := Array.getElem?_eq_getElem hm
    rw [reach_listed inv.closed 3 m i _ hom (inv.closed m _ hom hlm) h] at hun
    cases hun
theorem direct_reach {i j : Nat} (h : direct ops i j = true) : reach ops 3 i j = true := by
  simp only [reach]; rw [h]; rfl
theorem direct_listed {i j : Nat} {o : Oper} {listed : Array Bool} (ho : ops[i]? = some o) (hr : ∀ e ∈ o.after, Region.binds .any e = true → listed.getD e.on false = true) (h : direct ops i j = true) : listed.getD j false = true := by
  simp only [direct, ho, Array.any_eq_true', Bool.and_eq_true, decide_eq_true_eq] at h
  obtain ⟨e, he, hb, rfl⟩ := h
  exact hr e he hb

/-- What an operation reads, or writes, is at its place. -/
theorem cut_of (hw : Way P W ops n ρ sts svs cs rd wr) {a0 a : Act} {β0 β : Nat → Nat} {w : World} {listed : Array Bool} (inv : Inv W R Z ops n ρ sts cs a0 β0 listed a w β) {i : Nat} {o : Oper} (hi : i < n) (ho : ops[i]? = some o)
    (hun : listed.getD i false = false) (hr : ∀ e ∈ o.after, Region.binds .any e = true → listed.getD e.on false = true) {k : Nat} (hk : k < (sts i).c.nk) (hrw : (k, i) ∈ rd ∨ (k, i) ∈ wr) (hold : ∀ m, m < i → laid sts m k → reach ops 3 i m = true) : cut n sts cs listed k i := by
  intro m hm ht
  have hms : m < ops.size := Nat.lt_of_lt_of_le hm hw.le
  rcases ht with hc | hl
  · obtain ⟨h1, _, _⟩ := hw.cls hm hc
    rcases hw.apart k i m hrw h1 with rfl | ⟨a1, a2⟩ | ⟨a1, a2⟩
    · exact ⟨fun h => by omega, fun h => by rw [h] at hun; cases hun⟩
    · exact ⟨fun _ => direct_listed ho hr a2, fun _ => a1⟩
    · refine ⟨fun h => by omega, fun h => ?_⟩
      rw [later inv hun hms (direct_reach a2)] at h; cases h
  · refine ⟨fun h => reach_listed inv.closed 3 i m o ho hr (hold m h hl), fun h => ?_⟩
    rcases Nat.lt_or_ge m i with h' | h'
    · exact h'
    · have := hw.nk m i h' (by omega)
      have := hl.1
      omega
end
end Vc
