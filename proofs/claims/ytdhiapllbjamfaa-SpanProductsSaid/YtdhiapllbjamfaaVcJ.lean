/- Vc, part J: what an operation does to what is known: objects, and one general fact; one step of a walk. No program in sight. -/
import Derived.Test.YtdhiapllbjamfaaVcI
import Derived.Laws.CopyOwn
import Derived.RangeFuncRecord
set_option linter.unusedVariables false
set_option linter.unusedSimpArgs false
namespace Vc
open Go Go.RowKit
variable {P : Program} {W : World} {Q : Value → Prop} {QM : World → Value → Prop}

theorem heap_lt {w : World} {b : Nat} {o : Obj} (h : w.heap[b]? = some o) : b < w.heap.size := (Array.getElem?_eq_some_iff.1 h).1
theorem getS_cons (t : List (Nat × SV)) (d i : Nat) (v : SV) : getS ((d, v) :: t) i = if d = i then v else getS t i := rfl
theorem getM_cons (m : Mem) (d i : Nat) (v : List At × TypeId) : getM ((d, v) :: m) i = if d = i then some v else getM m i := rfl
theorem getO_cons (m : OMem) (d i : Nat) (v : CE × Nat × TypeId) : getO ((d, v) :: m) i = if d = i then some v else getO m i := rfl
theorem getO_del : ∀ (o : OMem) (k i : Nat), getO (delO o k) i = if k = i then none else getO o i
  | [], k, i => by simp [delO, getO]
  | (j, v) :: r, k, i => by
    simp only [delO]
    by_cases hj : j = k
    · subst hj
      rw [if_pos rfl, getO_del r j i, getO_cons]
      by_cases hi : j = i
      · rw [if_pos hi, if_pos hi]
      · rw [if_neg hi, if_neg hi, if_neg hi]
    · rw [if_neg hj, getO_cons, getO_cons, getO_del r k i]
      by_cases hi : j = i
      · rw [if_pos hi, if_pos hi, if_neg (fun e => hj (hi.trans e.symm))]
      · rw [if_neg hi, if_neg hi]
theorem getO_dels : ∀ (l : List Nat) (o : OMem) (i : Nat), getO (delOs o l) i = if i ∈ l then none else getO o i
  | [], o, i => by simp [delOs]
  | k :: l, o, i => by
    simp only [delOs, getO_dels l, getO_del, List.mem_cons]
    by_cases h1 : i ∈ l
    · simp [h1]
    · by_cases h2 : k = i
      · simp [h2]
      · have : ¬ i = k := fun e => h2 e.symm
        simp [h1, h2, this]
theorem getO_setO : ∀ (o : OMem) (k i : Nat) (ce : CE), getO (setO o k ce) i = if k = i then (getO o i).map (fun x => (ce, x.2)) else getO o i
  | [], k, i, ce => by simp [setO, getO]
  | (j, v) :: r, k, i, ce => by
    simp only [setO]
    by_cases hj : j = k
    · subst hj
      rw [if_pos rfl]
      simp only [getO_cons]
      by_cases hi : j = i
      · simp [hi]
      · simp [hi]
    · rw [if_neg hj]
      simp only [getO_cons, getO_setO r k i ce]
      by_cases hi : j = i
      · subst hi
        rw [if_pos rfl, if_neg (fun h => hj h.symm), if_pos rfl]
      · simp [hi]
theorem getM_setM : ∀ (m : Mem) (k i : Nat) (cs : List At), getM (setM m k cs) i = if k = i then (getM m i).map (fun x => (cs, x.2)) else getM m i
  | [], k, i, cs => by simp [setM, getM]
  | (j, v) :: r, k, i, cs => by
    simp only [setM]
    by_cases hj : j = k
    · subst hj
      rw [if_pos rfl]
      simp only [getM_cons]
      by_cases hi : j = i
      · simp [hi]
      · simp [hi]
    · rw [if_neg hj]
      simp only [getM_cons, getM_setM r k i cs]
      by_cases hi : j = i
      · subst hi
        rw [if_pos rfl, if_neg (fun h => hj h.symm), if_pos rfl]
      · simp [hi]

theorem heap_setRow_ne (w : World) (g k : Nat) (cs : Array Value) (h : k ≠ g) : (w.setRow g cs).heap[k]? = w.heap[k]? := by
  simp only [World.setRow, Array.getElem?_modify]
  rw [if_neg (by omega)]

theorem run_storeAt {t : TypeId} {g : Bool} {n : Nat} (hz : szAgg P t = some (g, n)) (w : World) (b o : Nat) (v : Value) (cur : Array Value) (ty : TypeId) (hb : w.heap[b]? = some (.cells cur ty)) (hn : v.cells.size = n) (ho : o + n ≤ cur.size)
    (h1 : ∀ x ∈ v.cells.toList, x.oneCell' = true) :
    (Instr.storeAt t (ptr b o) v).run P w = .ok () (w.setRow b (cur.toList.take o ++ v.cells.toList ++ cur.toList.drop (o + n)).toArray) := by
  have hst := run_storeCells_at P b o ty v.cells.toList 0 cur w hb (by simp [hn]; exact ho) h1
  simp only [Array.length_toList, hn, Nat.add_zero] at hst
  simp [Instr.storeAt, ptr, Instr.sureAddr, storeVar, run_size hz, hn, hst]

theorem all_split {c : Ctr} {l : List At} (h : l.all (At.wf c) = true) (n : Nat) : (l.take n).all (At.wf c) = true ∧ (l.drop n).all (At.wf c) = true :=
  ⟨List.all_eq_true.2 fun x hx => List.all_eq_true.1 h x (List.mem_of_mem_take hx), List.all_eq_true.2 fun x hx => List.all_eq_true.1 h x (List.mem_of_mem_drop hx)⟩
theorem CV.wf_cells {c : Ctr} : ∀ {v : CV}, v.wf c = true → v.cells.all (At.wf c) = true
  | .one a, h => by simpa [CV.cells, CV.wf] using h
  | .agg l, h => h

theorem times_map {α β : Type} (f : α → β) (l : List α) : ∀ n, (times l n).map f = times (l.map f) n
  | 0 => rfl
  | n + 1 => by simp [times, times_map f l n]
theorem times_length {α : Type} (l : List α) : ∀ n, (times l n).length = n * l.length
  | 0 => by simp [times]
  | n + 1 => by simp [times, times_length l n, Nat.add_mul, Nat.add_comm]
theorem times_get {α : Type} (l : List α) (hl : 0 < l.length) : ∀ n i, i < n * l.length → (times l n)[i]? = l[i % l.length]?
  | 0, i, h => by omega
  | n + 1, i, h => by
    simp only [times]
    by_cases hi : i < l.length
    · rw [List.getElem?_append_left hi, Nat.mod_eq_of_lt hi]
    · rw [Nat.succ_mul] at h
      rw [List.getElem?_append_right (by omega), times_get l hl n (i - l.length) (by omega)]
      congr 1
      exact (Nat.mod_eq_sub_mod (by omega)).symm
theorem zero_cells (z : Array Value) (n : Nat) (hz : 0 < z.size) : (Array.range (n * z.size)).map (fun i => z[i % z.size]!) = (times z.toList n).toArray := by
  apply Array.ext'
  apply List.ext_getElem?
  intro i
  simp only [Array.toList_map, Array.toList_range, List.getElem?_map, List.getElem?_range']
  by_cases hi : i < n * z.size
  · rw [List.getElem?_range hi, times_get _ (by simpa using hz) n i (by simpa using hi)]
    have : i % z.size < z.size := Nat.mod_lt _ hz
    simp [this]
  · rw [List.getElem?_eq_none (by simp; omega), List.getElem?_eq_none (by simp [times_length]; omega)]
    rfl

theorem getElem?_put {a : Act} {d : Nat} {v : Value} (i : Nat) (hd : d < a.tmps.size) : (a.put (some d) v).tmps[i]? = if d = i then some v else a.tmps[i]? := by
  simp only [Act.put]
  by_cases h : d = i
  · subst h; simp [hd]
  · rw [if_neg h, Array.getElem?_setIfInBounds_ne h]

theorem put_size (a : Act) (dst : Option Tmp) (v : Value) : (a.put dst v).tmps.size = a.tmps.size := by
  cases dst <;> simp [Act.put]
theorem put_dfr (a : Act) (dst : Option Tmp) (v : Value) : (a.put dst v).defers = a.defers := by
  cases dst <;> rfl

/-- The block that an object lies in. -/
def blkE (β : Nat → Nat) (k : Nat) : Ent → Option Nat
  | .fix _ _ => some (β k)
  | .row _ _ _ => if 2 ≤ β (k + 1) then some (β k) else none
def entWf (c : Ctr) (k : Nat) : Ent → Prop
  | .fix cs _ => k < c.nk ∧ cs.all (At.wf c) = true
  | .row ce _ _ => k + 3 < c.nk ∧ ceWf c ce = true
def sgIds : Sg → List Nat
  | .ats l => idsOf l
  | .var _ => []
def entIds : Ent → List Nat
  | .fix cs _ => idsOf cs
  | .row ce _ _ => ce.flatMap sgIds
theorem St.WF.ent {st : St} (h : st.WF) {k : Nat} {e : Ent} (hg : getE st.m st.o k = some e) : entWf st.c k e := by
  unfold getE at hg
  cases hm : getM st.m k with
  | some x =>
    rw [hm] at hg
    simp only [Option.some.injEq] at hg
    subst hg
    exact h.m k x.1 x.2 hm
  | none =>
    rw [hm] at hg
    cases ho : getO st.o k with
    | some x =>
      rw [ho] at hg
      simp only [Option.some.injEq] at hg
      subst hg
      exact h.o k x.1 x.2.1 x.2.2 ho
    | none => rw [ho] at hg; cases hg
theorem entWf_lt {c : Ctr} {k : Nat} : ∀ {e : Ent}, entWf c k e → k < c.nk
  | .fix .., h => h.1
  | .row .., h => by have := h.1; omega
theorem entWf_le {c d : Ctr} (h : c.le d) {k : Nat} : ∀ {e : Ent}, entWf c k e → entWf d k e
  | .fix .., hw => ⟨Nat.lt_of_lt_of_le hw.1 h.k, all_wf_le h hw.2⟩
  | .row .., hw => ⟨Nat.lt_of_lt_of_le hw.1 h.k, ceWf_le h hw.2⟩
/-- Where an object lies. -/
theorem Holds.blk {ρ : Env} {β : Nat → Nat} {k : Nat} {w : World} : ∀ {e : Ent}, Holds W ρ β k e w → ∀ b, blkE β k e = some b → W.heap.size ≤ b ∧ b < w.heap.size ∧ ∃ c t, w.heap[b]? = some (.cells c t (0, 0))
  | .fix cs t, h, b, hb => by
    simp only [blkE, Option.some.injEq] at hb
    subst hb
    exact ⟨h.1, heap_lt h.2, _, _, h.2⟩
  | .row ce sz t, h, b, hb => by
    simp only [blkE] at hb
    split at hb
    · rename_i hc
      simp only [Option.some.injEq] at hb
      subst hb
      rcases h.2.2 with ⟨h1, _⟩ | ⟨_, _, h2, _, _, cur, h3, _⟩
      · omega
      · exact ⟨h2, heap_lt h3, _, _, h3⟩
    · cases hb
/-- What an object holds, in another world and by other names. -/
theorem Holds.keep {ρ ρ' : Env} {β β' : Nat → Nat} {c : Ctr} {k : Nat} {w w' : World} : ∀ {e : Ent}, Holds W ρ β k e w → entWf c k e → Env.like c ρ ρ' → (∀ j, j < c.nk → β' j = β j) →
    (∀ b, blkE β k e = some b → w'.heap[b]? = w.heap[b]?) → Holds W ρ' β' k e w'
  | .fix cs t, h, hw, hl, hb, hh => by
    refine ⟨by rw [hb k hw.1]; exact h.1, ?_⟩
    rw [hb k hw.1, map_den_like hl hb hw.2, hh _ rfl]
    exact h.2
  | .row ce sz t, h, hw, hl, hb, hh => by
    have h1 := hw.1
    simp only [Holds] at h ⊢
    rw [hb k (by omega), hb (k + 1) (by omega), hb (k + 2) (by omega), hb (k + 3) (by omega), ceDen_like hl hb hw.2]
    obtain ⟨a1, a2, a3⟩ := h
    refine ⟨a1, a2, ?_⟩
    rcases a3 with a3 | ⟨b1, b2, b3, b4, b5, cur, b6, b7, b8⟩
    · exact .inl a3
    · exact .inr ⟨b1, b2, b3, b4, b5, cur, by rw [hh (β k) (by simp only [blkE, b1, if_true]), b6], b7, b8⟩
theorem blkE_keep {β β' : Nat → Nat} {c : Ctr} {k : Nat} : ∀ {e : Ent}, entWf c k e → (∀ j, j < c.nk → β' j = β j) → blkE β' k e = blkE β k e
  | .fix .., hw, hb => by simp only [blkE, hb k hw.1]
  | .row .., hw, hb => by have := hw.1; simp only [blkE, hb k (by omega), hb (k + 1) (by omega)]

/-- A loop over a function, as its record says. -/
def recAt (r : Loop) : Option Ex → Loop
  | none => { r with state := .ready, pending := none }
  | some .normal => { r with state := .busy, pending := none }
  | some (.exit id) => { r with state := .done, pending := some (.exit id) }
  | some .ret => { r with state := .done, pending := some .ret }
def marksOf (β : Nat → Nat) (d : List Nat) : List Deferred := d.map fun k => { target := .collected (β k), args := #[] }

/-- A state of the walk is one of the run. -/
structure Core (W : World) (R : Nat → Loop) (Z : List Nat) (ρ : Env) (β : Nat → Nat) (st : St) (a : Act) (w : World) : Prop where
  size : a.tmps.size = st.n
  tmps : ∀ i, getS st.t i ≠ .any → a.tmps[i]? = some ((getS st.t i).den ρ β)
  dfr : a.defers = marksOf β st.d
  below : Below W.heap.size W w
  mem : ∀ k e, getE st.m st.o k = some e → Holds W ρ β k e w
  inj : ∀ k k' e e' b, getE st.m st.o k = some e → getE st.m st.o k' = some e' → blkE β k e = some b → blkE β k' e' = some b → k = k'
  lps : ∀ k e, getR st.r k = some e → W.heap.size ≤ β k ∧ w.heap[β k]? = some (.loop (recAt (R k) e))
  rin : ∀ k k' e e', getR st.r k = some e → getR st.r k' = some e' → β k = β k' → k = k'
  ded : ∀ b ∈ Z ++ st.d.map β, W.heap.size ≤ b ∧ w.heap[b]? = some (.deferred (some []))
  dn : (Z ++ st.d.map β).Nodup
  wf : st.WF
variable {R : Nat → Loop} {Z : List Nat}

theorem Core.eval {ρ : Env} {β : Nat → Nat} {st : St} {a : Act} {w : World} (h : Core W R Z ρ β st a w) : ∀ x : Operand, st.ev x ≠ .any → a.eval x = (st.ev x).den ρ β
  | .tmp t, hn => by
    have := h.tmps t hn
    simp only [Act.eval, St.ev, Array.getD_eq_getD_getElem?, this, Option.getD_some]
  | .const v, hn => ((SV.ofValue_den v st.c ρ β).2 hn).symm
  | .global _, hn => (hn rfl).elim
  | .func _, hn => rfl
theorem Core.ops {ρ : Env} {β : Nat → Nat} {st : St} {a : Act} {w : World} (h : Core W R Z ρ β st a w) (o : Oper) : OpsOk st o ρ β a := fun x _ hn => h.eval x hn
theorem Core.fix {ρ : Env} {β : Nat → Nat} {st : St} {a : Act} {w : World} (h : Core W R Z ρ β st a w) {k : Nat} {cs : List At} {t : TypeId} (hg : getM st.m k = some (cs, t)) :
    W.heap.size ≤ β k ∧ w.heap[β k]? = some (.cells (cs.map (At.den ρ β)).toArray t) := h.mem k _ (getE_m hg)

/-- More variables. -/
theorem Core.like {ρ ρ' : Env} {β : Nat → Nat} {st : St} {a : Act} {w : World} (h : Core W R Z ρ β st a w) (hl : Env.like st.c ρ ρ') : Core W R Z ρ' β st a w where
  size := h.size
  tmps i hn := by
    rw [h.tmps i hn]
    exact congrArg some (SV.den_like hl (fun _ _ => rfl) (h.wf.t i)).symm
  dfr := h.dfr
  below := h.below
  mem k e hg := (h.mem k e hg).keep (h.wf.ent hg) hl (fun _ _ => rfl) (fun _ _ => rfl)
  inj := h.inj
  lps := h.lps
  rin := h.rin
  ded := h.ded
  dn := h.dn
  wf := h.wf
/-- Larger counters. -/
theorem St.WF.grow {st : St} (h : st.WF) {c : Ctr} (hc : st.c.le c) : ({ st with c := c } : St).WF where
  t i := SV.wf_le hc (h.t i)
  m k cs t hg := ⟨Nat.lt_of_lt_of_le (h.m k cs t hg).1 hc.k, all_wf_le hc (h.m k cs t hg).2⟩
  o k ce sz t hg := ⟨Nat.lt_of_lt_of_le (h.o k ce sz t hg).1 hc.k, ceWf_le hc (h.o k ce sz t hg).2⟩
  ap := h.ap
  r k e hg := Nat.lt_of_lt_of_le (h.r k e hg) hc.k
  d k hk := Nat.lt_of_lt_of_le (h.d k hk) hc.k

/-- What has changed. -/
structure Chg (W : World) (s1 s' : St) (ρ : Env) (C : List Nat) (β β' : Nat → Nat) (w w' : World) : Prop where
  os : w'.os = w.os
  tape : w'.tape = w.tape
  output : w'.output = w.output
  size : w.heap.size ≤ w'.heap.size
  frame : ∀ b, b < w.heap.size → (∀ k e, k ∈ C → getE s1.m s1.o k = some e → blkE β k e ≠ some b) → w'.heap[b]? = w.heap[b]?
  off : ∀ k, ¬ (s1.c.nk ≤ k ∧ k < s'.c.nk) → β' k = β k
  new : ∀ k e', (k ∈ C ∨ s1.c.nk ≤ k) → getE s'.m s'.o k = some e' → Holds W ρ β' k e' w' ∧ ∀ b, blkE β' k e' = some b → w.heap.size ≤ b ∨ ∃ j e, j ∈ C ∧ getE s1.m s1.o j = some e ∧ blkE β j e = some b ∧ (j = k ∨ getE s'.m s'.o j = none)
  inj : ∀ k k' e e', (k ∈ C ∨ s1.c.nk ≤ k) → (k' ∈ C ∨ s1.c.nk ≤ k') → getE s'.m s'.o k = some e → getE s'.m s'.o k' = some e' → k = k'

/-- What an operation comes to. -/
structure OFact (P : Program) (W : World) (s1 : St) (o : Oper) (ρ : Env) (s' : St) (sv : SV) (C : List Nat) : Prop where
  n : s'.n = s1.n
  rs : s'.r = s1.r
  ds : s'.d = s1.d
  cle : s1.c.le s'.c
  wf : s'.WF
  slot : ∀ t, getS s'.t t = if o.dst = some t then sv else getS s1.t t
  dst : ∀ d, o.dst = some d → d < s1.n
  chg : ∀ k ∈ C, k ∈ writesOf s1 o ∧ k < s1.c.nk
  same : ∀ k, k < s1.c.nk → k ∉ C → getE s'.m s'.o k = getE s1.m s1.o k
  ids : ∀ k e', (k ∈ C ∨ s1.c.nk ≤ k) → getE s'.m s'.o k = some e' → ∀ x ∈ entIds e', x ∈ valIds s1 o ∨ ∃ j e, j ∈ readsOf s1 o ++ writesOf s1 o ∧ getE s1.m s1.o j = some e ∧ x ∈ entIds e
  sem : ∀ (β : Nat → Nat) (a : Act) (w : World), Below W.heap.size W w → OpsOk s1 o ρ β a → RdOk W s1.m s1.o (readsOf s1 o ++ writesOf s1 o) ρ β w →
    ∀ (next : Act → World → Prop) (Q' : Exit → Act → World → Prop), (∀ β' v w', (sv ≠ .any → v = sv.den ρ β') → Chg W s1 s' ρ C β β' w w' → next (a.put o.dst v) w') → o.wp P a w next Q'

theorem Chg.below {s1 s' : St} {ρ : Env} {C : List Nat} {β β' : Nat → Nat} {w w' : World} (h : Chg W s1 s' ρ C β β' w w') (hB : Below W.heap.size W w) (hC : ∀ k e, k ∈ C → getE s1.m s1.o k = some e → Holds W ρ β k e w) : Below W.heap.size W w' where
  os := h.os.trans hB.os
  tape := h.tape.trans hB.tape
  output := h.output.trans hB.output
  size := Nat.le_trans hB.size h.size
  block b hb := by
    rw [h.frame b (Nat.lt_of_lt_of_le hb hB.size) fun k e hk hg hbk => ?_]
    · exact hB.block b hb
    · have := ((hC k e hk hg).blk b hbk).1
      omega
/-- A block that is no cells is as it was. -/
theorem Chg.other {s1 s' : St} {ρ : Env} {C : List Nat} {β β' : Nat → Nat} {w w' : World} (h : Chg W s1 s' ρ C β β' w w') (hC : ∀ k e, k ∈ C → getE s1.m s1.o k = some e → Holds W ρ β k e w) {b : Nat} {o : Obj} (hb : w.heap[b]? = some o)
    (ho : ∀ c t, o ≠ .cells c t (0, 0)) : w'.heap[b]? = some o := by
  rw [h.frame b (heap_lt hb) fun k e hk hg hbk => ?_]
  · exact hb
  · obtain ⟨_, _, c, t, hc⟩ := (hC k e hk hg).blk b hbk
    rw [hb] at hc
    exact ho c t (by simpa using hc)

/-- ONE STEP. -/
theorem core_step {s1 s' : St} {o : Oper} {ρ : Env} {sv : SV} {C : List Nat} {β : Nat → Nat} {a : Act} {w : World} (hC : Core W R Z ρ β s1 a w) (hF : OFact P W s1 o ρ s' sv C) {next : Act → World → Prop} (Q' : Exit → Act → World → Prop)
    (hn : ∀ β' a' w', (∀ k, k < s1.c.nk → β' k = β k) → Core W R Z ρ β' s' a' w' → next a' w') : o.wp P a w next Q' := by
  refine hF.sem β a w hC.below (hC.ops o) (fun k _ e hg => hC.mem k e hg) next Q' fun β' v w' hv hc => ?_
  have hb : ∀ k, k < s1.c.nk → β' k = β k := fun k hk => hc.off k (by omega)
  have hCm : ∀ k e, k ∈ C → getE s1.m s1.o k = some e → Holds W ρ β k e w := fun k e _ hg => hC.mem k e hg
  have old : ∀ {k e}, ¬ (k ∈ C ∨ s1.c.nk ≤ k) → getE s'.m s'.o k = some e → getE s1.m s1.o k = some e := fun {k e} hk hg => by
    rw [← hF.same k (by omega) (fun h => hk (.inl h))]; exact hg
  have oldb : ∀ {k e}, ¬ (k ∈ C ∨ s1.c.nk ≤ k) → getE s1.m s1.o k = some e → ∀ b, blkE β k e = some b → w'.heap[b]? = w.heap[b]? := fun {k e} hk hg b hbk => by
    have hl := (hC.mem k e hg).blk b hbk
    refine hc.frame b hl.2.1 fun j e' hj hg' hbj => ?_
    have := hC.inj k j e e' b hg hg' hbk hbj
    exact hk (.inl (this ▸ hj))
  have hmap : s1.d.map β' = s1.d.map β := List.map_congr_left fun k hk => hb k (hC.wf.d k hk)
  refine hn β' _ w' hb ⟨by rw [put_size, hC.size, hF.n], fun i hi => ?_, ?_, hc.below hC.below hCm, fun k e hg => ?_, fun k k' e e' b hx hy hbx hby => ?_, fun k e hg => ?_, fun k k' e e' hx hy he => ?_, fun b hbm => ?_, ?_, hF.wf⟩
  · rw [hF.slot] at hi ⊢
    by_cases hd : o.dst = some i
    · rw [if_pos hd] at hi ⊢
      rw [hd, getElem?_put i (by rw [hC.size]; exact hF.dst i hd), if_pos rfl, hv hi]
    · rw [if_neg hd] at hi ⊢
      have h1 : (a.put o.dst v).tmps[i]? = a.tmps[i]? := by
        cases hdd : o.dst with
        | none => rfl
        | some d =>
          rw [getElem?_put i (by rw [hC.size]; exact hF.dst d hdd), if_neg (fun e => hd (by rw [hdd, e]))]
      rw [h1, hC.tmps i hi, SV.den_like (Env.like_refl _ ρ) hb (hC.wf.t i)]
  · rw [put_dfr, hC.dfr, hF.ds]
    simp only [marksOf]
    exact List.map_congr_left fun k hk => by rw [hb k (hC.wf.d k hk)]
  · by_cases hk : k ∈ C ∨ s1.c.nk ≤ k
    · exact (hc.new k e hk hg).1
    · have hg1 := old hk hg
      exact (hC.mem k e hg1).keep (hC.wf.ent hg1) (Env.like_refl _ _) hb (oldb hk hg1)
  · have cross : ∀ {k k' e e' b}, (k ∈ C ∨ s1.c.nk ≤ k) → ¬ (k' ∈ C ∨ s1.c.nk ≤ k') → getE s'.m s'.o k = some e → getE s'.m s'.o k' = some e' → blkE β' k e = some b → blkE β' k' e' = some b → False := by
      intro k k' e e' b h1 h2 hx hy hbx hby
      have hy1 := old h2 hy
      rw [blkE_keep (hC.wf.ent hy1) hb] at hby
      have hl := (hC.mem k' e' hy1).blk b hby
      rcases (hc.new k e h1 hx).2 b hbx with h3 | ⟨j, ej, h3, h4, h5, _⟩
      · omega
      · have := hC.inj j k' ej e' b h4 hy1 h5 hby
        exact h2 (.inl (this ▸ h3))
    by_cases h1 : k ∈ C ∨ s1.c.nk ≤ k <;> by_cases h2 : k' ∈ C ∨ s1.c.nk ≤ k'
    · exact hc.inj k k' e e' h1 h2 hx hy
    · exact (cross h1 h2 hx hy hbx hby).elim
    · exact (cross h2 h1 hy hx hby hbx).elim
    · have hx1 := old h1 hx
      have hy1 := old h2 hy
      rw [blkE_keep (hC.wf.ent hx1) hb] at hbx
      rw [blkE_keep (hC.wf.ent hy1) hb] at hby
      exact hC.inj k k' e e' b hx1 hy1 hbx hby
  · rw [hF.rs] at hg
    rw [hb k (hC.wf.r k e hg)]
    exact ⟨(hC.lps k e hg).1, hc.other hCm (hC.lps k e hg).2 (by simp)⟩
  · rw [hF.rs] at hx hy
    rw [hb k (hC.wf.r k e hx), hb k' (hC.wf.r k' e' hy)] at he
    exact hC.rin k k' e e' hx hy he
  · rw [hF.ds, hmap] at hbm
    exact ⟨(hC.ded b hbm).1, hc.other hCm (hC.ded b hbm).2 (by simp)⟩
  · rw [hF.ds, hmap]
    exact hC.dn
end Vc
