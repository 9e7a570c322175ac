/- Vc, part M: loops, and code. No program in sight. -/
import Derived.Test.YtdhiapllbjamfaaVcL
set_option linter.unusedVariables false
set_option linter.unusedSimpArgs false
namespace Vc
open Go Go.RowKit
variable {P : Program} {W : World} {Q : Value → Prop} {QM : World → Value → Prop}

theorem freshC_nk (c : Ctr) (k : CK) : (freshC c k).nk = c.nk := by cases k <;> rfl
theorem freshLC_nk : ∀ (ks : List CK) (c : Ctr), (freshLC c ks).nk = c.nk
  | [], _ => rfl
  | k :: l, c => by simp only [freshLC, freshLC_nk l, freshC_nk]

theorem kindsOf_cons {a : At} {l : List At} {k : CK} {ks : List CK} (h : kindsOf (a :: l) = some (k :: ks)) : kindOf a = some k ∧ kindsOf l = some ks := by
  simp only [kindsOf] at h
  split at h
  · rename_i k' r h1 h2
    simp only [Option.some.injEq, List.cons.injEq] at h
    exact ⟨h.1 ▸ h1, h.2 ▸ h2⟩
  · cases h

theorem allA_inst (ρ2 : Env) (β : Nat → Nat) : ∀ (ks : List CK) (c : Ctr) {k : Env → Prop} {ρ : Env} (ys : List At), allA (freshL c ks) k ρ → kindsOf ys = some ks →
    ∃ ρ', k ρ' ∧ Env.like c ρ ρ' ∧ (freshL c ks).map (At.den ρ' β) = ys.map (At.den ρ2 β) ∧ (freshL c ks).map (vl ρ') = ys.map (vl ρ2)
  | [], c, k, ρ, ys, h, hk => by
    cases ys with
    | nil => exact ⟨ρ, h, Env.like_refl _ _, rfl, rfl⟩
    | cons y r =>
      simp only [kindsOf] at hk
      split at hk <;> simp at hk
  | kd :: l, c, k, ρ, ys, h, hk => by
    cases ys with
    | nil => simp [kindsOf] at hk
    | cons y r =>
      obtain ⟨h1, h2⟩ := kindsOf_cons hk
      have fin : ∀ {ρ1 : Env}, allA (freshL (freshC c kd) l) k ρ1 → Env.like c ρ ρ1 → (fresh1 c kd).den ρ1 β = y.den ρ2 β → vl ρ1 (fresh1 c kd) = vl ρ2 y → (∀ ρ', Env.like (freshC c kd) ρ1 ρ' → vl ρ' (fresh1 c kd) = vl ρ1 (fresh1 c kd)) →
          ∃ ρ', k ρ' ∧ Env.like c ρ ρ' ∧ (freshL c (kd :: l)).map (At.den ρ' β) = (y :: r).map (At.den ρ2 β) ∧ (freshL c (kd :: l)).map (vl ρ') = (y :: r).map (vl ρ2) := by
        intro ρ1 ha hl he hv hvl
        obtain ⟨ρ', q1, q2, q3, q4⟩ := allA_inst ρ2 β l _ r ha h2
        refine ⟨ρ', q1, Env.like_trans (freshC_le c kd) hl q2, ?_, ?_⟩
        · simp only [freshL, List.map_cons, q3]
          rw [At.den_like q2 (β := β) (fun _ _ => rfl) (fresh1_wf c kd), he]
        · simp only [freshL, List.map_cons, q4]
          rw [hvl ρ' q2, hv]
      cases kd with
      | int kk =>
        cases y <;> simp only [kindOf, reduceCtorEq, Option.some.injEq, CK.int.injEq] at h1
        rename_i k2 e
        subst h1
        have := h (e.den ρ2)
        refine fin this (like_setI c ρ _) ?_ ?_ ?_
        · simp [fresh1, At.den, IE.den, Env.setI]
        · simp [fresh1, vl, IE.den, Env.setI]
        · intro ρ' hl
          show Vl.i (ρ'.i c.ni) = Vl.i _
          rw [hl.i c.ni (Nat.lt_succ_self _)]
          rfl
      | bool =>
        cases y <;> simp only [kindOf, reduceCtorEq, Option.some.injEq] at h1
        rename_i e
        have := h (e.den ρ2)
        refine fin this (like_setB c ρ _) ?_ ?_ ?_
        · simp [fresh1, At.den, BE.den, Env.setB]
        · simp [fresh1, vl, BE.den, Env.setB]
        · intro ρ' hl
          show Vl.b (ρ'.b c.nb) = Vl.b _
          rw [hl.b c.nb (Nat.lt_succ_self _)]
          rfl
      | oth =>
        cases y <;> simp only [kindOf, reduceCtorEq, Option.some.injEq] at h1
        rename_i e
        have := h (ρ2.v e)
        refine fin this (like_setV c ρ _) ?_ ?_ ?_
        · simp [fresh1, At.den, Env.setV]
        · simp [fresh1, vl, At.den, Env.setV]
        · intro ρ' hl
          show Vl.v (ρ'.v c.nv).1 = Vl.v _
          rw [hl.v c.nv (Nat.lt_succ_self _)]
          rfl

theorem writeS_other {i : Nat} : ∀ (slots : List Nat) (vs : List CV) (l : List At) (t : List (Nat × SV)), i ∉ slots → getS (writeS t slots vs l) i = getS t i
  | [], vs, l, t, _ => by cases vs <;> rfl
  | s :: r, [], l, t, _ => rfl
  | s :: r, v :: vs, l, t, h => by
    simp only [List.mem_cons, not_or] at h
    simp only [writeS]
    rw [writeS_other r vs _ _ h.2, getS_cons, if_neg (fun e => h.1 e.symm)]
theorem killS_get (t : List (Nat × SV)) (i : Nat) : ∀ kill : List Nat, getS (killS t kill) i = .any ∨ getS (killS t kill) i = getS t i
  | [] => .inr rfl
  | s :: r => by
    simp only [killS, getS_cons]
    by_cases h : s = i
    · rw [if_pos h]; exact .inl rfl
    · rw [if_neg h]; exact killS_get t i r

theorem writeS_in {tS : List (Nat × SV)} {ρ' ρ2 : Env} {β : Nat → Nat} {i : Nat} : ∀ (slots : List Nat) (vs vs' : List CV) (l : List At) (t : List (Nat × SV)) (rest : List At), readS tS slots = some vs' → vs'.map CV.shape = vs.map CV.shape →
    l.map (At.den ρ' β) = (vs'.flatMap CV.cells ++ rest).map (At.den ρ2 β) → i ∈ slots → ∃ u v', getS (writeS t slots vs l) i = .cv u ∧ getS tS i = .cv v' ∧ u.den ρ' β = v'.den ρ2 β
  | [], _, _, _, _, _, _, _, _, h => by cases h
  | s :: r, vs, vs', l, t, rest, hr, hs, hl, hi => by
    simp only [readS] at hr
    split at hr
    · rename_i v' vr h1 h2
      simp only [Option.some.injEq] at hr
      subst hr
      cases vs with
      | nil => simp at hs
      | cons v vs =>
        simp only [List.map_cons, List.cons.injEq] at hs
        simp only [writeS]
        have hlen : v'.cells.length = v.cells.length := by
          have h3 := hs.1
          cases v <;> cases v' <;> simp_all [CV.shape, CV.cells]
        have hl2 : (l.drop v.cells.length).map (At.den ρ' β) = (vr.flatMap CV.cells ++ rest).map (At.den ρ2 β) := by
          rw [List.map_drop, hl, ← List.map_drop]
          congr 1
          simp only [List.flatMap_cons, List.append_assoc]
          rw [← hlen, List.drop_left]
        by_cases hir : i ∈ r
        · exact writeS_in r vs vr _ _ rest h2 hs.2 hl2 hir
        · have : i = s := by simpa [hir] using hi
          subst this
          refine ⟨cvLike v l, v', ?_, h1, ?_⟩
          · rw [writeS_other r vs _ _ hir, getS_cons, if_pos rfl]
          · have hl3 : (l.take v.cells.length).map (At.den ρ' β) = v'.cells.map (At.den ρ2 β) := by
              rw [List.map_take, hl, ← List.map_take]
              congr 1
              simp only [List.flatMap_cons, List.append_assoc]
              rw [← hlen, List.take_left]
            have h3 := hs.1
            cases v with
            | one a => cases v' with
              | agg x => simp [CV.shape] at h3
              | one a' =>
                simp only [CV.cells, List.length_cons, List.length_nil, List.map_cons, List.map_nil] at hl3
                cases l with
                | nil => simp at hl3
                | cons b l => simpa [cvLike, CV.den] using hl3
            | agg x => cases v' with
              | one a => simp [CV.shape] at h3
              | agg y =>
                simp only [CV.cells] at hl3
                simp only [cvLike, CV.den, hl3]
    · cases hr

theorem writeM_keep : ∀ (free : List (Nat × Nat)) (m : Mem) (l : List At) {k : Nat} {cs1 : List At} {t : TypeId}, getM (writeM m free l) k = some (cs1, t) →
    ∃ cs0, getM m k = some (cs0, t) ∧ cs0.length = cs1.length ∧ ∀ o, (k, o) ∉ free → cs0[o]? = cs1[o]?
  | [], m, l, k, cs1, t, h => ⟨cs1, by cases l <;> exact h, rfl, fun _ _ => rfl⟩
  | (j, p) :: r, m, [], k, cs1, t, h => ⟨cs1, h, rfl, fun _ _ => rfl⟩
  | (j, p) :: r, m, a :: l, k, cs1, t, h => by
    simp only [writeM] at h
    split at h
    · rename_i cs ty hg
      obtain ⟨cs0, h1, h2, h3⟩ := writeM_keep r _ l h
      rw [getM_setM] at h1
      by_cases hj : j = k
      · subst hj
        rw [if_pos rfl, hg] at h1
        simp only [Option.map_some, Option.some.injEq, Prod.mk.injEq] at h1
        obtain ⟨rfl, rfl⟩ := h1
        refine ⟨cs, hg, by simpa using h2, fun o ho => ?_⟩
        simp only [List.mem_cons, Prod.mk.injEq, not_or] at ho
        rw [← h3 o ho.2, List.getElem?_set_ne (fun e => ho.1 (by simp [e]))]
      · rw [if_neg hj] at h1
        exact ⟨cs0, h1, h2, fun o ho => h3 o (fun hm => ho (List.mem_cons_of_mem _ hm))⟩
    · obtain ⟨cs0, h1, h2, h3⟩ := writeM_keep r _ l h
      exact ⟨cs0, h1, h2, fun o ho => h3 o (fun hm => ho (List.mem_cons_of_mem _ hm))⟩

theorem writeM_in {sM : Mem} {ρ' ρ2 : Env} {β : Nat → Nat} : ∀ (free : List (Nat × Nat)) (m : Mem) (l ms : List At) {k o : Nat} {cs1 : List At} {t : TypeId}, readM sM free = some ms → l.map (At.den ρ' β) = ms.map (At.den ρ2 β) →
    getM (writeM m free l) k = some (cs1, t) → (k, o) ∈ free → o < cs1.length → ∃ f cs y ty, cs1[o]? = some f ∧ getM sM k = some (cs, ty) ∧ cs[o]? = some y ∧ f.den ρ' β = y.den ρ2 β
  | [], _, _, _, _, _, _, _, _, _, _, h, _ => by cases h
  | (j, p) :: r, m, l, ms, k, o, cs1, t, hr, hl, hw, hi, ho => by
    simp only [readM] at hr
    split at hr
    · rename_i cs ty ml hg hr2
      split at hr
      · rename_i y hy
        simp only [Option.some.injEq] at hr
        subst hr
        cases l with
        | nil => simp at hl
        | cons a l =>
          simp only [List.map_cons, List.cons.injEq] at hl
          simp only [writeM] at hw
          by_cases hir : (k, o) ∈ r
          · split at hw
            · exact writeM_in r _ l ml hr2 hl.2 hw hir ho
            · exact writeM_in r _ l ml hr2 hl.2 hw hir ho
          · have hh : k = j ∧ o = p := by simpa [hir] using hi
            obtain ⟨rfl, rfl⟩ := hh
            split at hw
            · rename_i cs' ty' hg'
              obtain ⟨cs0, h1, h2, h3⟩ := writeM_keep r _ l hw
              rw [getM_setM, if_pos rfl, hg'] at h1
              simp only [Option.map_some, Option.some.injEq, Prod.mk.injEq] at h1
              obtain ⟨rfl, rfl⟩ := h1
              refine ⟨a, cs, y, ty, ?_, hg, hy, hl.1⟩
              rw [← h3 o hir]
              have : o < cs'.length := by simpa using (h2 ▸ ho : o < (cs'.set o a).length)
              rw [List.getElem?_set_self this]
            · rename_i hg'
              obtain ⟨cs0, h1, _, _⟩ := writeM_keep r _ l hw
              rw [hg'] at h1
              cases h1
      · cases hr
    · cases hr

theorem cellsSame_get {k : Nat} {free : List (Nat × Nat)} : ∀ (x y : List At) (o : Nat), cellsSame k free o x y = true → y.length = x.length ∧ ∀ j, (k, o + j) ∉ free → y[j]? = x[j]?
  | [], [], o, _ => ⟨rfl, fun _ _ => rfl⟩
  | [], _ :: _, o, h => by simp [cellsSame] at h
  | _ :: _, [], o, h => by simp [cellsSame] at h
  | a :: x, b :: y, o, h => by
    simp only [cellsSame, Bool.and_eq_true, Bool.or_eq_true, List.contains_iff_mem, decide_eq_true_eq] at h
    obtain ⟨h1, h2⟩ := cellsSame_get x y (o + 1) h.2
    refine ⟨by simp [h1], fun j hj => ?_⟩
    cases j with
    | zero =>
      rcases h.1 with h3 | h3
      · exact (hj h3).elim
      · simp [h3]
    | succ j =>
      have := h2 j (by rw [show o + 1 + j = o + (j + 1) by omega]; exact hj)
      simpa using this

theorem getS_mem : ∀ {t : List (Nat × SV)} {i : Nat}, getS t i ≠ .any → ∃ v, (i, v) ∈ t
  | [], _, h => (h rfl).elim
  | (j, v) :: r, i, h => by
    rw [getS_cons] at h
    by_cases hj : j = i
    · exact ⟨v, by simp [hj]⟩
    · rw [if_neg hj] at h
      obtain ⟨u, hu⟩ := getS_mem h
      exact ⟨u, List.mem_cons_of_mem _ hu⟩
theorem getM_mem : ∀ {m : Mem} {k : Nat} {x : List At × TypeId}, getM m k = some x → (k, x) ∈ m
  | [], _, _, h => by cases h
  | (j, v) :: r, k, x, h => by
    rw [getM_cons] at h
    by_cases hj : j = k
    · rw [if_pos hj] at h; cases h; simp [hj]
    · rw [if_neg hj] at h; exact List.mem_cons_of_mem _ (getM_mem h)

theorem sameSt_sound {a b : St} {slots : List Nat} {free : List (Nat × Nat)} (h : sameSt a b slots free = true) :
    b.n = a.n ∧ (∀ i, i ∉ slots → getS a.t i = .any ∨ getS b.t i = getS a.t i) ∧
    ∀ k cs1 t, getM a.m k = some (cs1, t) → ∃ cs, getM b.m k = some (cs, t) ∧ cs.length = cs1.length ∧ ∀ o, (k, o) ∉ free → cs[o]? = cs1[o]? := by
  simp only [sameSt, Bool.and_eq_true, decide_eq_true_eq, List.all_eq_true, Bool.or_eq_true, List.contains_iff_mem] at h
  obtain ⟨⟨h0, h1⟩, h2⟩ := h
  refine ⟨h0, fun i hi => ?_, fun k cs1 t hg => ?_⟩
  · by_cases ha : getS a.t i = .any
    · exact .inl ha
    · obtain ⟨v, hv⟩ := getS_mem ha
      rcases h1 _ hv with (h3 | h3) | h3
      · exact (hi h3).elim
      · exact .inl h3
      · exact .inr h3
  · have := h2 _ (getM_mem hg)
    simp only at this
    split at this
    · rename_i cs t' hb
      simp only [Bool.and_eq_true, decide_eq_true_eq] at this
      obtain ⟨rfl, h3⟩ := this
      obtain ⟨q1, q2⟩ := cellsSame_get _ _ 0 h3
      exact ⟨cs, hb, q1, fun o ho => q2 o (by simpa using ho)⟩
    · cases this

theorem readS_wf {st : St} (h : st.WF) : ∀ (slots : List Nat) {vs : List CV}, readS st.t slots = some vs → vs.all (CV.wf st.c) = true
  | [], vs, hr => by simp only [readS, Option.some.injEq] at hr; subst hr; rfl
  | s :: r, vs, hr => by
    simp only [readS] at hr
    split at hr
    · rename_i v l h1 h2
      simp only [Option.some.injEq] at hr
      subst hr
      have := h.t s
      rw [h1] at this
      simp only [List.all_cons, readS_wf h r h2, Bool.and_true]
      exact this
    · cases hr
theorem writeS_wf {c : Ctr} : ∀ (slots : List Nat) (vs : List CV) (l : List At) (t : List (Nat × SV)), (∀ i, (getS t i).wf c = true) → vs.all (CV.wf c) = true → l.all (At.wf c) = true → ∀ i, (getS (writeS t slots vs l) i).wf c = true
  | [], vs, l, t, h, _, _ => by cases vs <;> exact h
  | s :: r, [], l, t, h, _, _ => h
  | s :: r, v :: vs, l, t, h, hv, hl => by
    simp only [List.all_cons, Bool.and_eq_true] at hv
    simp only [writeS]
    refine writeS_wf r vs _ _ (fun i => ?_) hv.2 (all_split hl _).2
    rw [getS_cons]
    by_cases hi : s = i
    · rw [if_pos hi]
      cases v with
      | one a =>
        simp only [cvLike, SV.wf, CV.wf]
        cases l with
        | nil => exact hv.1
        | cons b l => simp only [List.all_cons, Bool.and_eq_true] at hl; exact hl.1
      | agg x => exact (all_split hl _).1
    · rw [if_neg hi]; exact h i
theorem writeM_wf {c : Ctr} : ∀ (free : List (Nat × Nat)) (m : Mem) (l : List At), (∀ k cs t, getM m k = some (cs, t) → k < c.nk ∧ cs.all (At.wf c) = true) → l.all (At.wf c) = true →
    ∀ k cs t, getM (writeM m free l) k = some (cs, t) → k < c.nk ∧ cs.all (At.wf c) = true
  | [], m, l, h, _ => by cases l <;> exact h
  | (j, p) :: r, m, [], h, _ => h
  | (j, p) :: r, m, a :: l, h, hl => by
    simp only [List.all_cons, Bool.and_eq_true] at hl
    simp only [writeM]
    split
    · rename_i cs ty hg
      refine writeM_wf r _ l (fun k cs' t hk => ?_) hl.2
      rw [getM_setM] at hk
      by_cases hj : j = k
      · subst hj
        rw [if_pos rfl, hg] at hk
        simp only [Option.map_some, Option.some.injEq, Prod.mk.injEq] at hk
        obtain ⟨rfl, rfl⟩ := hk
        have h1 := h j cs ty hg
        refine ⟨h1.1, List.all_eq_true.2 fun x hx => ?_⟩
        rcases List.mem_or_eq_of_mem_set hx with hx | rfl
        · exact List.all_eq_true.1 h1.2 x hx
        · exact hl.1
      · rw [if_neg hj] at hk
        exact h k cs' t hk
    · exact writeM_wf r m l h hl.2

/-- The state at a loop's head, out of the state at the beginning or behind a round. -/
theorem reenter {st s : St} {ρ ρ2 ρ' : Env} {β : Nat → Nat} {a : Act} {w : World} {slots kill : List Nat} {free : List (Nat × Nat)} {vs vs' : List CV} {ms' : List At} {ks : List CK} (hwf : st.WF) (hC : Core W ρ2 β s a w) (hl2 : Env.like st.c ρ ρ2) (hl' : Env.like st.c ρ ρ')
    (hvs : readS st.t slots = some vs) (hr : readS s.t slots = some vs') (hsh : vs'.map CV.shape = vs.map CV.shape) (hrm : readM s.m free = some ms')
    (hden : (freshL st.c ks).map (At.den ρ' β) = (vs'.flatMap CV.cells ++ ms').map (At.den ρ2 β)) (hn : s.n = st.n)
    (hs : ∀ i, i ∉ slots → getS (writeS (killS st.t kill) slots vs (freshL st.c ks)) i = .any ∨ getS s.t i = getS (writeS (killS st.t kill) slots vs (freshL st.c ks)) i)
    (hm : ∀ k cs1 t, getM (writeM st.m free ((freshL st.c ks).drop (vs.flatMap CV.cells).length)) k = some (cs1, t) → ∃ cs, getM s.m k = some (cs, t) ∧ cs.length = cs1.length ∧ ∀ o, (k, o) ∉ free → cs[o]? = cs1[o]?) :
    Core W ρ' β { t := writeS (killS st.t kill) slots vs (freshL st.c ks), n := st.n, m := writeM st.m free ((freshL st.c ks).drop (vs.flatMap CV.cells).length), c := freshLC st.c ks } a w := by
  have hle := freshLC_le ks st.c
  have hkw : ∀ i, (getS (killS st.t kill) i).wf st.c = true := fun i => by
    rcases killS_get st.t i kill with h | h <;> rw [h]
    · rfl
    · exact hwf.t i
  have hd12 : ∀ {x : SV}, x.wf st.c = true → x.den ρ' β = x.den ρ2 β := fun hx => (SV.den_like hl' (fun _ _ => rfl) hx).trans (SV.den_like hl2 (fun _ _ => rfl) hx).symm
  have ha12 : ∀ {x : At}, x.wf st.c = true → x.den ρ' β = x.den ρ2 β := fun hx => (At.den_like hl' (fun _ _ => rfl) hx).trans (At.den_like hl2 (fun _ _ => rfl) hx).symm
  have hlen : (vs'.flatMap CV.cells).length = (vs.flatMap CV.cells).length := by
    have : ∀ (x y : List CV), x.map CV.shape = y.map CV.shape → (x.flatMap CV.cells).length = (y.flatMap CV.cells).length := by
      intro x
      induction x with
      | nil => intro y h; cases y with
        | nil => rfl
        | cons b y => simp at h
      | cons c x ih => intro y h; cases y with
        | nil => simp at h
        | cons b y =>
          simp only [List.map_cons, List.cons.injEq] at h
          simp only [List.flatMap_cons, List.length_append, ih y h.2]
          have : c.cells.length = b.cells.length := by
            have h3 := h.1
            cases c <;> cases b <;> simp_all [CV.shape, CV.cells]
          rw [this]
    exact this _ _ hsh
  have hden2 : ((freshL st.c ks).drop (vs.flatMap CV.cells).length).map (At.den ρ' β) = ms'.map (At.den ρ2 β) := by
    rw [List.map_drop, hden, ← List.map_drop, ← hlen, List.drop_left]
  refine ⟨by rw [hC.size]; exact hn, fun i hni => ?_, hC.dfr, hC.below, fun k cs1 t hg => ?_, fun k k' x y hx hy he => ?_, ⟨?_, ?_⟩⟩
  · by_cases hi : i ∈ slots
    · obtain ⟨u, v', h1, h2, h3⟩ := writeS_in (ρ' := ρ') (ρ2 := ρ2) (β := β) slots vs vs' (freshL st.c ks) (killS st.t kill) ms' hr hsh hden hi
      have := hC.tmps i (by rw [h2]; simp)
      rw [this]
      simp only
      rw [h1, h2]
      exact congrArg some h3.symm
    · rcases hs i hi with h | h
      · exact (hni h).elim
      · have := hC.tmps i (by rw [h]; exact hni)
        rw [this, h]
        refine congrArg some (hd12 ?_).symm
        rw [writeS_other _ _ _ _ hi]
        exact hkw i
  · obtain ⟨cs, q1, q2, q3⟩ := hm k cs1 t hg
    obtain ⟨m1, m2⟩ := hC.mem k cs t q1
    refine ⟨m1, ?_⟩
    rw [m2]
    congr 3
    apply List.ext_getElem?
    intro o
    simp only [List.getElem?_map]
    by_cases ho : o < cs1.length
    · by_cases hf : (k, o) ∈ free
      · obtain ⟨f, cs', y, ty, r1, r2, r3, r4⟩ := writeM_in (ρ' := ρ') (ρ2 := ρ2) (β := β) free st.m _ ms' hrm hden2 hg hf ho
        rw [q1] at r2
        simp only [Option.some.injEq, Prod.mk.injEq] at r2
        obtain ⟨rfl, rfl⟩ := r2
        rw [r1, r3, Option.map_some, Option.map_some, r4]
      · rw [q3 o hf]
        obtain ⟨cs0, p1, p2, p3⟩ := writeM_keep free st.m _ hg
        cases hx : cs1[o]? with
        | none => rfl
        | some x =>
          have hx0 : cs0[o]? = some x := by rw [p3 o hf, hx]
          simp only [Option.map_some]
          exact congrArg some (ha12 (List.all_eq_true.1 (hwf.m k cs0 t p1).2 x (List.mem_of_getElem? hx0))).symm
    · rw [List.getElem?_eq_none (by omega), List.getElem?_eq_none (by omega)]
      rfl
  · obtain ⟨cs, q1, _, _⟩ := hm k x.1 x.2 hx
    obtain ⟨cs', q1', _, _⟩ := hm k' y.1 y.2 hy
    exact hC.inj k k' _ _ q1 q1' he
  · exact writeS_wf slots vs _ _ (fun i => SV.wf_le hle (hkw i)) (List.all_eq_true.2 fun x hx => CV.wf_le hle (List.all_eq_true.1 (readS_wf hwf slots hvs) x hx)) (freshL_wf ks st.c)
  · refine writeM_wf free st.m _ (fun k cs t hk => ?_) (all_split (freshL_wf ks st.c) _).2
    have := hwf.m k cs t hk
    exact ⟨Nat.lt_of_lt_of_le this.1 hle.2.2.2.2, all_wf_le hle this.2⟩
end Vc
