/- Vc, part P: a drawn region, in whatever order. No program in sight. -/
import Derived.Test.YtdhiapllbjamfaaVcN
set_option linter.unusedVariables false
set_option linter.unusedSimpArgs false
namespace Vc
open Go Go.RowKit
variable {P : Program} {W : World} {Q : Value → Prop} {QM : World → Value → Prop}

inductive Knw (ρ : Env) (s : St) : St → Prop
  | refl : Knw ρ s s
  | know (x : Nat) (b : Bool) (e : BE) (h : getS s.t x = .cv (.one (.bool e))) (hb : e.den ρ = b) : Knw ρ s (s.know x b)
def Wants (ops : Array Oper) (ρ : Env) (s : St) (o : Oper) (b : Bool) : Prop :=
  match o.guard with
  | none => b = true
  | some (j, want) => ∃ x, (ops[j]?).bind (·.dst) = some x ∧ ((∃ e, getS s.t x = .cv (.one (.bool e)) ∧ (e.den ρ == want) = b) ∨ (getS s.t x = .und ∧ b = false))

/-- What a step changes, whether it is wanted or not. -/
structure Stp (s1 : St) (o : Oper) (s' : St) (sv : SV) (C : List Nat) : Prop where
  n : s'.n = s1.n
  rs : s'.r = s1.r
  ds : s'.d = s1.d
  cle : s1.c.le s'.c
  wf : s'.WF
  slot : ∀ t, getS s'.t t = if o.dst = some t then sv else getS s1.t t
  dst : ∀ d, o.dst = some d → d < s1.n
  lt : ∀ k ∈ C, k < s1.c.nk
  same : ∀ k, k < s1.c.nk → k ∉ C → getE s'.m s'.o k = getE s1.m s1.o k
theorem OFact.stp {s1 s' : St} {o : Oper} {ρ : Env} {sv : SV} {C : List Nat} (h : OFact P W s1 o ρ s' sv C) : Stp s1 o s' sv C :=
  ⟨h.n, h.rs, h.ds, h.cle, h.wf, h.slot, h.dst, fun k hk => (h.chg k hk).2, h.same⟩
theorem skip_stp {s1 : St} {o : Oper} (hw : s1.WF) (hp : PutOk s1 o.dst .und s1.c) : Stp s1 o (s1.putS o.dst .und s1.c) .und [] := by
  obtain ⟨q1, q2, q3, q4, q5, q6⟩ := putS_c s1 o.dst .und s1.c
  exact ⟨q3, q5, q6, by rw [q1]; exact Ctr.le_refl _, putS_wf hw (Ctr.le_refl _) hp, fun t => getS_putS _ _ _ _ t, fun d hd => (hp d hd).1, fun k hk => (by cases hk), fun k _ _ => by rw [q2, q4]⟩

/-- What an operation of the region comes to, in the order of the text. -/
inductive Fct (P : Program) (W : World) (ops : Array Oper) (ρ : Env) (old : Nat → Prop) (i : Nat) (rd wr : List (Nat × Nat)) (s : St) (o : Oper) : St → SV → List Nat → Prop
  | skip (s1 : St) (k : Knw ρ s s1) (w : Wants ops ρ s o false) (p : PutOk s1 o.dst .und s1.c) : Fct P W ops ρ old i rd wr s o (s1.putS o.dst .und s1.c) .und []
  | run (s1 s' : St) (sv : SV) (C : List Nat) (k : Knw ρ s s1) (w : Wants ops ρ s o true) (nd : ∀ c, o.op ≠ .defer c) (f : OFact P W s1 o ρ s' sv C) (h1 : ∀ k ∈ readsOf s1 o ++ writesOf s1 o ++ valIds s1 o, old k) (h2 : ∀ x, o.dst = some x → ∀ k ∈ svIds sv, old k)
      (h4 : ∀ k ∈ readsOf s1 o, (k, i) ∈ rd) (h5 : ∀ k ∈ writesOf s1 o, (k, i) ∈ wr) : Fct P W ops ρ old i rd wr s o s' sv C

theorem Knw.c {ρ : Env} {s s1 : St} (h : Knw ρ s s1) : s1.c = s.c ∧ s1.m = s.m ∧ s1.n = s.n ∧ s1.o = s.o ∧ s1.r = s.r ∧ s1.d = s.d := by cases h <;> exact ⟨rfl, rfl, rfl, rfl, rfl, rfl⟩
theorem Knw.wf {ρ : Env} {s s1 : St} (h : Knw ρ s s1) (hw : s.WF) : s1.WF := by
  cases h with
  | refl => exact hw
  | know x b e h hb =>
    refine ⟨fun i => ?_, hw.m, hw.o, hw.ap, hw.r, hw.d⟩
    simp only [St.know, getS_cons]
    by_cases hi : x = i
    · rw [if_pos hi]; rfl
    · rw [if_neg hi]; exact hw.t i
theorem Fct.stp {ops : Array Oper} {ρ : Env} {old : Nat → Prop} {i : Nat} {rd wr : List (Nat × Nat)} {s s' : St} {o : Oper} {sv : SV} {C : List Nat} (hw : s.WF) (h : Fct P W ops ρ old i rd wr s o s' sv C) : ∃ s1, Knw ρ s s1 ∧ Stp s1 o s' sv C := by
  cases h with
  | skip s1 k w p => exact ⟨s1, k, skip_stp (k.wf hw) p⟩
  | run s1 _ _ _ k w nd f => exact ⟨s1, k, f.stp⟩

/-- Two values of a slot: the same, or one that is known meanwhile. -/
def SameS (ρ : Env) (x y : SV) : Prop := x = y ∨ ∃ e b, x = .cv (.one (.bool e)) ∧ y = .cv (.one (.bool (.lit b))) ∧ e.den ρ = b
theorem SameS.rfl' (ρ : Env) (x : SV) : SameS ρ x x := .inl rfl
theorem SameS.trans {ρ : Env} {x y z : SV} (h : SameS ρ x y) (h' : SameS ρ y z) : SameS ρ x z := by
  rcases h with rfl | ⟨e, b, rfl, rfl, hb⟩
  · exact h'
  · rcases h' with rfl | ⟨e', b', he, rfl, hb'⟩
    · exact .inr ⟨e, b, rfl, rfl, hb⟩
    · cases he
      exact .inr ⟨e, b', rfl, rfl, hb.trans hb'⟩
theorem SameS.any {ρ : Env} {x y : SV} (h : SameS ρ x y) (hy : y ≠ .any) : x ≠ .any := by
  rcases h with rfl | ⟨e, b, rfl, rfl, hb⟩
  · exact hy
  · simp
theorem SameS.any' {ρ : Env} {x y : SV} (h : SameS ρ x y) (hx : x ≠ .any) : y ≠ .any := by
  rcases h with rfl | ⟨e, b, rfl, rfl, hb⟩
  · exact hx
  · simp
theorem SameS.den {ρ : Env} {x y : SV} (h : SameS ρ x y) (β : Nat → Nat) : x.den ρ β = y.den ρ β := by
  rcases h with rfl | ⟨e, b, rfl, rfl, hb⟩
  · rfl
  · simp only [SV.den, CV.den, At.den, BE.den, hb]
theorem SameS.ids {ρ : Env} {x y : SV} (h : SameS ρ x y) {k : Nat} (hk : k ∈ svIds y) : k ∈ svIds x := by
  rcases h with rfl | ⟨e, b, rfl, rfl, hb⟩
  · exact hk
  · simp [svIds, CV.cells, idsOf] at hk
theorem Knw.same {ρ : Env} {s s1 : St} (h : Knw ρ s s1) (t : Nat) : SameS ρ (getS s.t t) (getS s1.t t) := by
  cases h with
  | refl => exact .inl rfl
  | know x b e hx hb =>
    simp only [St.know, getS_cons]
    by_cases ht : x = t
    · subst ht
      rw [if_pos rfl]
      exact .inr ⟨e, b, hx, rfl, hb⟩
    · rw [if_neg ht]; exact .inl rfl

/-- Den by the blocks that are named alone. -/
theorem idsOf_cons (a : At) (l : List At) : idsOf (a :: l) = idsOf [a] ++ idsOf l := by
  cases a <;> simp [idsOf]
theorem idsOf_app (x y : List At) : idsOf (x ++ y) = idsOf x ++ idsOf y := by
  induction x with
  | nil => rfl
  | cons a x ih => rw [List.cons_append, idsOf_cons, ih, idsOf_cons a x, List.append_assoc]
theorem caps_ids {β β' : Nat → Nat} {l : List (Nat × Nat)} (h : ∀ k ∈ l.map (·.1), β' k = β k) : (l.map fun c => (.pointer (some ⟨β' c.1, c.2, none⟩) : Value)) = l.map fun c => .pointer (some ⟨β c.1, c.2, none⟩) :=
  List.map_congr_left fun c hc => by rw [h c.1 (List.mem_map.2 ⟨c, hc, rfl⟩)]
theorem At.den_ids {ρ : Env} {β β' : Nat → Nat} : ∀ {a : At}, (∀ k ∈ idsOf [a], β' k = β k) → a.den ρ β' = a.den ρ β := by
  intro a h
  cases a
  case own k => show ownV _ _ _ _ = ownV _ _ _ _; rw [h k (by simp [idsOf]), h (k + 1) (by simp [idsOf]), h (k + 2) (by simp [idsOf]), h (k + 3) (by simp [idsOf])]
  case fn f caps =>
    simp only [At.den]
    rw [caps_ids fun k hk => h k (by simp only [idsOf, List.append_nil]; exact hk)]
  case mfn f first caps =>
    simp only [At.den]
    rw [caps_ids (l := first) fun k hk => h k (by simp only [idsOf, List.append_nil]; exact List.mem_append.2 (.inl hk)), caps_ids (l := caps) fun k hk => h k (by simp only [idsOf, List.append_nil]; exact List.mem_append.2 (.inr hk))]
  all_goals first
    | rfl
    | (simp only [At.den]; rw [h _ (by simp [idsOf]; done)])
theorem idsOf_mem {a : At} {k : Nat} : ∀ {l : List At}, a ∈ l → k ∈ idsOf [a] → k ∈ idsOf l
  | b :: l, h, hk => by
    rw [idsOf_cons]
    rcases List.mem_cons.1 h with rfl | h
    · exact List.mem_append.2 (.inl hk)
    · exact List.mem_append.2 (.inr (idsOf_mem h hk))
theorem map_den_ids {ρ : Env} {β β' : Nat → Nat} {l : List At} (h : ∀ k ∈ idsOf l, β' k = β k) : l.map (At.den ρ β') = l.map (At.den ρ β) :=
  List.map_congr_left fun a ha => At.den_ids fun k hk => h k (idsOf_mem ha hk)
theorem SV.den_ids {ρ : Env} {β β' : Nat → Nat} : ∀ {x : SV}, (∀ k ∈ svIds x, β' k = β k) → x.den ρ β' = x.den ρ β
  | .any, _ => rfl
  | .und, _ => rfl
  | .cv (.one a), h => At.den_ids h
  | .cv (.agg l), h => by simp only [SV.den, CV.den]; rw [map_den_ids (l := l) h]
  | .tup l, h => by
    simp only [SV.den]
    congr 2
    apply List.map_congr_left
    intro c hc
    have hm : ∀ k ∈ idsOf c.cells, β' k = β k := fun k hk => h k (by
      simp only [svIds]
      have : ∀ (l1 : List CV), c ∈ l1 → k ∈ idsOf (l1.flatMap CV.cells) := by
        intro l1 h1
        induction l1 with
        | nil => cases h1
        | cons d l1 ih =>
          rw [List.flatMap_cons, idsOf_app]
          rcases List.mem_cons.1 h1 with rfl | h1
          · exact List.mem_append.2 (.inl hk)
          · exact List.mem_append.2 (.inr (ih h1))
      exact this l hc)
    cases c with
    | one a => exact At.den_ids hm
    | agg l => simp only [CV.den]; rw [map_den_ids (l := l) hm]
theorem ceDen_ids {ρ : Env} {β β' : Nat → Nat} : ∀ {l : CE}, (∀ k ∈ l.flatMap sgIds, β' k = β k) → ceDen ρ β' l = ceDen ρ β l
  | [], _ => rfl
  | .ats l :: r, h => by
    simp only [ceDen, Sg.den]
    rw [map_den_ids (l := l) fun k hk => h k (by rw [List.flatMap_cons]; exact List.mem_append.2 (.inl hk)), ceDen_ids (l := r) fun k hk => h k (by rw [List.flatMap_cons]; exact List.mem_append.2 (.inr hk))]
  | .var i :: r, h => by
    simp only [ceDen, Sg.den]
    rw [ceDen_ids (l := r) fun k hk => h k (by rw [List.flatMap_cons]; exact List.mem_append.2 (.inr hk))]
/-- The names of an object itself. -/
def entSelf (k : Nat) : Ent → List Nat
  | .fix .. => [k]
  | .row .. => [k, k + 1, k + 2, k + 3]
theorem Holds.keepI {ρ : Env} {β β' : Nat → Nat} {k : Nat} {w w' : World} : ∀ {e : Ent}, Holds W ρ β k e w → (∀ j ∈ entSelf k e, β' j = β j) → (∀ j ∈ entIds e, β' j = β j) →
    (∀ b, blkE β k e = some b → w'.heap[b]? = w.heap[b]?) → Holds W ρ β' k e w'
  | .fix cs t, h, hs, hi, hh => by
    have h0 : β' k = β k := hs k (by simp [entSelf])
    refine ⟨by rw [h0]; exact h.1, ?_⟩
    rw [h0, map_den_ids hi, hh _ rfl]
    exact h.2
  | .row ce sz t, h, hs, hi, hh => by
    simp only [Holds] at h ⊢
    rw [hs k (by simp [entSelf]), hs (k + 1) (by simp [entSelf]), hs (k + 2) (by simp [entSelf]), hs (k + 3) (by simp [entSelf]), ceDen_ids hi]
    obtain ⟨a1, a2, a3⟩ := h
    refine ⟨a1, a2, ?_⟩
    rcases a3 with a3 | ⟨b1, b2, b3, b4, b5, cur, b6, b7, b8⟩
    · exact .inl a3
    · exact .inr ⟨b1, b2, b3, b4, b5, cur, by rw [hh (β k) (by simp only [blkE, b1, if_true]), b6], b7, b8⟩
theorem blkE_keepI {β β' : Nat → Nat} {k : Nat} : ∀ {e : Ent}, (∀ j ∈ entSelf k e, β' j = β j) → blkE β' k e = blkE β k e
  | .fix .., hb => by simp only [blkE, hb k (by simp [entSelf])]
  | .row .., hb => by simp only [blkE, hb k (by simp [entSelf]), hb (k + 1) (by simp [entSelf])]

theorem reach_listed {ops : Array Oper} {listed : Array Bool} (hcl : ∀ j oj, ops[j]? = some oj → listed.getD j false = true → ∀ e ∈ oj.after, Region.binds .any e = true → listed.getD e.on false = true) :
    ∀ (d i j : Nat) (o : Oper), ops[i]? = some o → (∀ e ∈ o.after, Region.binds .any e = true → listed.getD e.on false = true) → reach ops d i j = true → listed.getD j false = true
  | 0, i, j, o, ho, hi, h => by cases h
  | d + 1, i, j, o, ho, hi, h => by
    simp only [reach, direct, ho, Bool.or_eq_true, Array.any_eq_true'] at h
    rcases h with ⟨e, he, hb⟩ | ⟨e, he, hb⟩
    · simp only [Bool.and_eq_true, decide_eq_true_eq] at hb
      rw [← hb.2]
      exact hi e he hb.1
    · simp only [Bool.and_eq_true] at hb
      cases hon : ops[e.on]? with
      | none =>
        cases d with
        | zero => simp [reach] at hb
        | succ d => simp [reach, direct, hon] at hb
      | some o' => exact reach_listed hcl d e.on j o' hon (fun e' he' hb' => hcl e.on o' hon (hi e he hb.1) e' he' hb') hb.2

/-- How many of the first operations are not done. -/
def unl (listed : Array Bool) : Nat → Nat
  | 0 => 0
  | m + 1 => unl listed m + if listed.getD m false = true then 0 else 1
theorem unl_zero {listed : Array Bool} : ∀ {m : Nat}, unl listed m = 0 → ∀ j, j < m → listed.getD j false = true
  | 0, _, j, hj => by omega
  | m + 1, h, j, hj => by
    simp only [unl] at h
    by_cases hm : listed.getD m false = true
    · rw [if_pos hm] at h
      by_cases hjm : j = m
      · subst hjm; exact hm
      · exact unl_zero (by omega) j (by omega)
    · rw [if_neg hm] at h; omega
theorem unl_pos {listed : Array Bool} : ∀ {m : Nat}, 0 < unl listed m → ∃ j, j < m ∧ listed.getD j false = false ∧ ∀ i, i < j → listed.getD i false = true
  | 0, h => by simp [unl] at h
  | m + 1, h => by
    simp only [unl] at h
    by_cases hp : 0 < unl listed m
    · obtain ⟨j, h1, h2⟩ := unl_pos hp
      exact ⟨j, by omega, h2⟩
    · by_cases hm : listed.getD m false = true
      · rw [if_pos hm] at h; omega
      · exact ⟨m, by omega, by simpa using hm, fun i hi => unl_zero (by omega) i hi⟩
theorem getD_set (listed : Array Bool) (i j : Nat) (hi : i < listed.size) : (listed.setIfInBounds i true).getD j false = if i = j then true else listed.getD j false := by
  simp only [Array.getD_eq_getD_getElem?, Array.getElem?_setIfInBounds]
  by_cases h : i = j
  · subst h; simp [hi]
  · simp [h]
theorem unl_set {listed : Array Bool} {i : Nat} (hi : i < listed.size) (hl : listed.getD i false = false) : ∀ m, unl (listed.setIfInBounds i true) m + (if i < m then 1 else 0) = unl listed m
  | 0 => by simp [unl]
  | m + 1 => by
    have ih := unl_set hi hl m
    simp only [unl, getD_set listed i m hi]
    by_cases him : i = m
    · subst him
      rw [if_pos rfl, hl]
      simp at ih ⊢
      omega
    · rw [if_neg him]
      by_cases h2 : i < m
      · have h3 : i < m + 1 := by omega
        simp only [h2, if_true] at ih
        simp only [h3, if_true]
        omega
      · have h3 : ¬ i < m + 1 := by omega
        simp only [h2, if_false] at ih
        simp only [h3, if_false]
        omega
end Vc
