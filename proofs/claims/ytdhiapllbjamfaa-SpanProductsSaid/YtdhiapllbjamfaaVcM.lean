/- Vc, part M: loops. No program in sight. -/
import Derived.Test.YtdhiapllbjamfaaVcL
set_option linter.unusedVariables false
set_option linter.unusedSimpArgs false
namespace Vc
open Go Go.RowKit
variable {P : Program} {W : World} {Q : Value → Prop} {QM : World → Value → Prop} {R : Nat → Loop} {Z : List Nat}

theorem kindsOf_cons {o : OMem} {a : At} {l : List At} {k : CK} {ks : List CK} (h : kindsOf o (a :: l) = some (k :: ks)) : kindOf o a = some k ∧ kindsOf o l = some ks := by
  simp only [kindsOf] at h
  split at h
  · rename_i k' r h1 h2
    simp only [Option.some.injEq, List.cons.injEq] at h
    exact ⟨h.1 ▸ h1, h.2 ▸ h2⟩
  · cases h

theorem freshC_nk (c : Ctr) (k : CK) : c.nk ≤ (freshC c k).nk := (freshC_le c k).k
theorem freshO_get : ∀ (ks : List CK) (c : Ctr) {k : Nat} {x : CE × Nat × TypeId}, getO (freshO c ks) k = some x → c.nk ≤ k ∧ k + 3 < (freshLC c ks).nk ∧ k ∈ ownIds (freshL c ks) ∧ ∃ n, x.1 = [.var n] ∧ n < (freshLC c ks).nl
  | [], c, k, x, h => by cases h
  | kd :: l, c, k, x, h => by
    have plain : getO (freshO (freshC c kd) l) k = some x → c.nk ≤ k ∧ k + 3 < (freshLC c (kd :: l)).nk ∧ k ∈ ownIds (freshL (freshC c kd) l) ∧ ∃ n, x.1 = [.var n] ∧ n < (freshLC c (kd :: l)).nl := fun h => by
      obtain ⟨h1, h2, h3, h4⟩ := freshO_get l _ h
      exact ⟨Nat.le_trans (freshC_nk c kd) h1, h2, h3, h4⟩
    cases kd <;> first
      | (obtain ⟨h1, h2, h3, h4⟩ := plain h; exact ⟨h1, h2, h3, h4⟩)
      | skip
    rename_i sz t
    simp only [freshO, getO_cons] at h
    by_cases hk : c.nk = k
    · rw [if_pos hk] at h
      cases h
      subst hk
      have := (freshLC_le l (freshC c (.own sz t))).k
      have h2 := (freshLC_le l (freshC c (.own sz t))).l
      exact ⟨Nat.le_refl _, by simp only [freshLC, freshC] at this ⊢; omega, by simp [freshL, fresh1, ownIds], c.nl, rfl, by simp only [freshLC, freshC] at h2 ⊢; omega⟩
    · rw [if_neg hk] at h
      obtain ⟨h1, h2, h3, h4⟩ := plain h
      exact ⟨h1, h2, by simp only [freshL, fresh1, ownIds]; exact List.mem_cons_of_mem _ h3, h4⟩

/-- Rows by two names. -/
def RowEq (fo oy : OMem) (ρ' ρ2 : Env) (β' β : Nat → Nat) (k' k : Nat) : Prop :=
  (β' k' = β k ∧ β' (k' + 1) = β (k + 1) ∧ β' (k' + 2) = β (k + 2) ∧ β' (k' + 3) = β (k + 3)) ∧
    ∃ n ce sz t, getO fo k' = some ([.var n], sz, t) ∧ getO oy k = some (ce, sz, t) ∧ ceDen ρ' β' [.var n] = ceDen ρ2 β ce

theorem allA_inst (fo oy : OMem) (ρ2 : Env) (β : Nat → Nat) : ∀ (ks : List CK) (c : Ctr) {k : Env → Prop} {ρ : Env} (βc : Nat → Nat) (ys : List At), (∀ j x, getO (freshO c ks) j = some x → getO fo j = some x) → allA fo (freshL c ks) k ρ → kindsOf oy ys = some ks →
    ∃ ρ' β', k ρ' ∧ Env.like c ρ ρ' ∧ (∀ j, j < c.nk → β' j = βc j) ∧ (freshL c ks).map (At.den ρ' β') = ys.map (At.den ρ2 β) ∧ (freshL c ks).map (vl fo ρ') = ys.map (vl oy ρ2) ∧
      (ownIds (freshL c ks)).length = (ownIds ys).length ∧ (∀ p ∈ (ownIds (freshL c ks)).zip (ownIds ys), RowEq fo oy ρ' ρ2 β' β p.1 p.2) ∧ (∀ j ∈ ownIds (freshL c ks), c.nk ≤ j) ∧ (ownIds (freshL c ks)).Nodup
  | [], c, k, ρ, βc, ys, _, h, hk => by
    cases ys with
    | nil => exact ⟨ρ, βc, h, Env.like_refl _ _, fun _ _ => rfl, rfl, rfl, rfl, fun p hp => (by cases hp), fun j hj => (by cases hj), by simp [ownIds, freshL]⟩
    | cons y r =>
      simp only [kindsOf] at hk
      split at hk <;> simp at hk
  | kd :: l, c, k, ρ, βc, ys, hfo, h, hk => by
    cases ys with
    | nil => simp [kindsOf] at hk
    | cons y r =>
      obtain ⟨h1, h2⟩ := kindsOf_cons hk
      -- a kind that is no row
      have fin : kd.plain = true → ownIds (y :: r) = ownIds r → ∀ {ρ1 : Env}, allA fo (freshL (freshC c kd) l) k ρ1 → Env.like c ρ ρ1 → (fresh1 c kd).den ρ1 b0 = y.den ρ2 β → vl fo ρ1 (fresh1 c kd) = vl oy ρ2 y → (∀ ρ', Env.like (freshC c kd) ρ1 ρ' → vl fo ρ' (fresh1 c kd) = vl fo ρ1 (fresh1 c kd)) →
          ∃ ρ' β', k ρ' ∧ Env.like c ρ ρ' ∧ (∀ j, j < c.nk → β' j = βc j) ∧ (freshL c (kd :: l)).map (At.den ρ' β') = (y :: r).map (At.den ρ2 β) ∧ (freshL c (kd :: l)).map (vl fo ρ') = (y :: r).map (vl oy ρ2) ∧
            (ownIds (freshL c (kd :: l))).length = (ownIds (y :: r)).length ∧ (∀ p ∈ (ownIds (freshL c (kd :: l))).zip (ownIds (y :: r)), RowEq fo oy ρ' ρ2 β' β p.1 p.2) ∧ (∀ j ∈ ownIds (freshL c (kd :: l)), c.nk ≤ j) ∧ (ownIds (freshL c (kd :: l))).Nodup := by
        intro hpl hown ρ1 ha hl he hv hvl
        have hfo' : ∀ j x, getO (freshO (freshC c kd) l) j = some x → getO fo j = some x := fun j x hj => hfo j x (by cases kd <;> first | exact hj | cases hpl)
        have hnk : (freshC c kd).nk = c.nk := by cases kd <;> first | rfl | cases hpl
        obtain ⟨ρ', β', q1, q2, q3, q4, q5, q6, q7, q8, q9⟩ := allA_inst fo oy ρ2 β l _ βc r hfo' ha h2
        have ho : ownIds (freshL c (kd :: l)) = ownIds (freshL (freshC c kd) l) := by cases kd <;> first | rfl | cases hpl
        refine ⟨ρ', β', q1, Env.like_trans (freshC_le c kd) hl q2, fun j hj => q3 j (by omega), ?_, ?_, by rw [ho, hown]; exact q6, by rw [ho, hown]; exact q7, by rw [ho]; exact fun j hj => by have := q8 j hj; omega, by rw [ho]; exact q9⟩
        · simp only [freshL, List.map_cons, q4]
          rw [At.den_flat ρ' β' b0 (fresh1_flat c kd hpl), At.den_like q2 (β := b0) (fun _ _ => rfl) (fresh1_wf c kd), he]
        · simp only [freshL, List.map_cons, q5]
          rw [hvl ρ' q2, hv]
      cases kd with
      | int kk =>
        cases y <;> simp only [kindOf, reduceCtorEq, Option.some.injEq, CK.int.injEq] at h1
        · rename_i k2 e
          subst h1
          refine fin rfl rfl (h (e.den ρ2)) (like_setI c ρ _) ?_ ?_ ?_
          · simp [fresh1, At.den, IE.den, Env.setI]
          · simp [fresh1, vl, IE.den, Env.setI]
          · intro ρ' hl
            show Vl.i (ρ'.i c.ni) = Vl.i _
            rw [hl.i c.ni (Nat.lt_succ_self _)]
            rfl
        · split at h1
          · split at h1 <;> simp at h1
          · cases h1
      | bool =>
        cases y <;> simp only [kindOf, reduceCtorEq, Option.some.injEq] at h1
        · rename_i e
          refine fin rfl rfl (h (e.den ρ2)) (like_setB c ρ _) ?_ ?_ ?_
          · simp [fresh1, At.den, BE.den, Env.setB]
          · simp [fresh1, vl, BE.den, Env.setB]
          · intro ρ' hl
            show Vl.b (ρ'.b c.nb) = Vl.b _
            rw [hl.b c.nb (Nat.lt_succ_self _)]
            rfl
        · split at h1
          · split at h1 <;> simp at h1
          · cases h1
      | oth =>
        cases y <;> simp only [kindOf, reduceCtorEq, Option.some.injEq] at h1
        · rename_i e
          refine fin rfl rfl (h (ρ2.v e)) (like_setV c ρ _) ?_ ?_ ?_
          · simp [fresh1, At.den, Env.setV]
          · simp [fresh1, vl, At.den, Env.setV]
          · intro ρ' hl
            show Vl.v (ρ'.v c.nv).1 = Vl.v _
            rw [hl.v c.nv (Nat.lt_succ_self _)]
            rfl
        · split at h1
          · split at h1 <;> simp at h1
          · cases h1
      | str =>
        have two : ∀ ρ' : Env, Env.like (freshC c .str) ρ ρ' → True := fun _ _ => trivial
        cases y <;> simp only [kindOf, reduceCtorEq, Option.some.injEq] at h1
        · rename_i x
          refine fin rfl rfl (h x) (like_setS c ρ _) ?_ ?_ ?_
          · simp [fresh1, At.den, Env.setS]
          · simp [fresh1, vl, Env.setS]
          · intro ρ' hl
            show Vl.s (ρ'.s c.ns) = Vl.s _
            rw [hl.s c.ns (Nat.lt_succ_self _)]
        · rename_i x
          refine fin rfl rfl (h (ρ2.s x)) (like_setS c ρ _) ?_ ?_ ?_
          · simp [fresh1, At.den, Env.setS]
          · simp [fresh1, vl, Env.setS]
          · intro ρ' hl
            show Vl.s (ρ'.s c.ns) = Vl.s _
            rw [hl.s c.ns (Nat.lt_succ_self _)]
        · split at h1
          · split at h1 <;> simp at h1
          · cases h1
      | sl sz =>
        cases y <;> simp only [kindOf, reduceCtorEq, Option.some.injEq, CK.sl.injEq] at h1
        · rename_i q p s len cap
          subst h1
          have hd : ∀ ρ' : Env, ρ'.b c.nb = ρ2.b q → ρ'.p c.np = ρ2.p p → ρ'.i c.ni = len.den ρ2 → ρ'.i (c.ni + 1) = cap.den ρ2 → ∀ β1, (fresh1 c (.sl s)).den ρ' β1 = (At.qsl q p s len cap).den ρ2 β := fun ρ' e1 e2 e3 e4 β1 => by
            simp only [fresh1, At.den, IE.den, e1, e2, e3, e4]
          have hs := h (ρ2.b q) (ρ2.p p) (len.den ρ2) (cap.den ρ2)
          have g1 : ((((ρ.setB c.nb (ρ2.b q)).setP c.np (ρ2.p p)).setI c.ni (len.den ρ2)).setI (c.ni + 1) (cap.den ρ2)).b c.nb = ρ2.b q := if_pos rfl
          have g2 : ((((ρ.setB c.nb (ρ2.b q)).setP c.np (ρ2.p p)).setI c.ni (len.den ρ2)).setI (c.ni + 1) (cap.den ρ2)).p c.np = ρ2.p p := if_pos rfl
          have g3 : ((((ρ.setB c.nb (ρ2.b q)).setP c.np (ρ2.p p)).setI c.ni (len.den ρ2)).setI (c.ni + 1) (cap.den ρ2)).i c.ni = len.den ρ2 := by
            show (if c.ni = c.ni + 1 then _ else if c.ni = c.ni then _ else _) = _
            rw [if_neg (by omega), if_pos rfl]
          have g4 : ((((ρ.setB c.nb (ρ2.b q)).setP c.np (ρ2.p p)).setI c.ni (len.den ρ2)).setI (c.ni + 1) (cap.den ρ2)).i (c.ni + 1) = cap.den ρ2 := if_pos rfl
          refine fin rfl rfl hs (like_setQ c ρ _ _ _ _) (hd _ g1 g2 g3 g4 b0) ?_ ?_
          · show Vl.v ((fresh1 c (.sl s)).den _ b0) = Vl.v ((At.qsl q p s len cap).den ρ2 b0)
            rw [hd _ g1 g2 g3 g4 b0]
            rfl
          · intro ρ' hl
            show Vl.v ((fresh1 c (.sl s)).den ρ' b0) = Vl.v ((fresh1 c (.sl s)).den _ b0)
            rw [hd ρ' (by rw [hl.b c.nb (Nat.lt_succ_self _), g1]) (by rw [hl.p c.np (Nat.lt_succ_self _), g2]) (by rw [hl.i c.ni (by simp [freshC]), g3]) (by rw [hl.i (c.ni + 1) (by simp [freshC]), g4]) b0, hd _ g1 g2 g3 g4 b0]
        · split at h1
          · split at h1 <;> simp at h1
          · cases h1
      | own sz t =>
        cases y <;> simp only [kindOf, reduceCtorEq, Option.some.injEq] at h1
        rename_i k0
        split at h1
        · rename_i ce sz' t' hg
          split at h1
          · rename_i hfl
            simp only [Option.some.injEq, CK.own.injEq] at h1
            obtain ⟨rfl, rfl⟩ := h1
            have hf := hfo c.nk ([.var c.nl], sz', t') (by simp [freshO, getO_cons])
            have hh : ∀ x : List OV, allA fo (freshL (freshC c (.own sz' t')) l) k (ρ.setL c.nl x) := by
              have := h
              simp only [freshL, fresh1, allA, hf] at this
              exact this
            have hL := hh ((ceDen ρ2 β ce).attach.map fun x => ⟨x.1, ceDen_one ρ2 β ce x.1 x.2⟩)
            have hmap : (((ceDen ρ2 β ce).attach.map fun x => (⟨x.1, ceDen_one ρ2 β ce x.1 x.2⟩ : OV)).map (·.1)) = ceDen ρ2 β ce := by
              rw [List.map_map]; exact List.attach_map_subtype_val _
            have hfo' : ∀ j x, getO (freshO (freshC c (.own sz' t')) l) j = some x → getO fo j = some x := fun j x hj => hfo j x (by
              simp only [freshO, getO_cons]
              have := (freshO_get l _ hj).1
              simp only [freshC] at this
              rw [if_neg (by omega)]
              exact hj)
            let β1 : Nat → Nat := fun j => if j = c.nk then β k0 else if j = c.nk + 1 then β (k0 + 1) else if j = c.nk + 2 then β (k0 + 2) else if j = c.nk + 3 then β (k0 + 3) else βc j
            obtain ⟨ρ', β', q1, q2, q3, q4, q5, q6, q7, q8, q9⟩ := allA_inst fo oy ρ2 β l (freshC c (.own sz' t')) β1 r hfo' hL h2
            have hl1 := like_setL c ρ ((ceDen ρ2 β ce).attach.map fun x => ⟨x.1, ceDen_one ρ2 β ce x.1 x.2⟩)
            have r0 : β' c.nk = β k0 := by rw [q3 _ (by simp [freshC])]; exact if_pos rfl
            have r1 : β' (c.nk + 1) = β (k0 + 1) := by
              rw [q3 _ (by simp [freshC])]
              show (if c.nk + 1 = c.nk then _ else if c.nk + 1 = c.nk + 1 then _ else _) = _
              rw [if_neg (by omega), if_pos rfl]
            have r2 : β' (c.nk + 2) = β (k0 + 2) := by
              rw [q3 _ (by simp [freshC])]
              show (if c.nk + 2 = c.nk then _ else if c.nk + 2 = c.nk + 1 then _ else if c.nk + 2 = c.nk + 2 then _ else _) = _
              rw [if_neg (by omega), if_neg (by omega), if_pos rfl]
            have r3 : β' (c.nk + 3) = β (k0 + 3) := by
              rw [q3 _ (by simp [freshC])]
              show (if c.nk + 3 = c.nk then _ else if c.nk + 3 = c.nk + 1 then _ else if c.nk + 3 = c.nk + 2 then _ else if c.nk + 3 = c.nk + 3 then _ else _) = _
              rw [if_neg (by omega), if_neg (by omega), if_neg (by omega), if_pos rfl]
            have hvar : ρ'.l c.nl = ((ceDen ρ2 β ce).attach.map fun x => (⟨x.1, ceDen_one ρ2 β ce x.1 x.2⟩ : OV)) := by
              rw [q2.l c.nl (by simp [freshC])]
              exact if_pos rfl
            have hce : ∀ βx, ceDen ρ' βx [.var c.nl] = ceDen ρ2 β ce := fun βx => by
              simp only [ceDen, Sg.den, List.append_nil, hvar]
              exact hmap
            refine ⟨ρ', β', q1, Env.like_trans (freshC_le c (.own sz' t')) hl1 q2, fun j hj => ?_, ?_, ?_, ?_, fun p hp => ?_, fun j hj => ?_, ?_⟩
            · rw [q3 j (by simp only [freshC]; omega)]
              show (if j = c.nk then _ else if j = c.nk + 1 then _ else if j = c.nk + 2 then _ else if j = c.nk + 3 then _ else βc j) = βc j
              rw [if_neg (by omega), if_neg (by omega), if_neg (by omega), if_neg (by omega)]
            · simp only [freshL, fresh1, List.map_cons, q4, At.den, r0, r1, r2, r3]
            · simp only [freshL, fresh1, List.map_cons, q5, vl, hf, hg]
              rw [hce b0, ceDen_flat ρ2 β b0 hfl]
            · simp only [freshL, fresh1, ownIds, List.length_cons, q6]
            · simp only [freshL, fresh1, ownIds, List.zip_cons_cons, List.mem_cons] at hp
              rcases hp with rfl | hp
              · exact ⟨⟨r0, r1, r2, r3⟩, c.nl, ce, sz', t', hf, hg, hce β'⟩
              · exact q7 p hp
            · simp only [freshL, fresh1, ownIds, List.mem_cons] at hj
              rcases hj with rfl | hj
              · exact Nat.le_refl _
              · have := q8 j hj
                simp only [freshC] at this
                omega
            · simp only [freshL, fresh1, ownIds, List.nodup_cons]
              refine ⟨fun hm => ?_, q9⟩
              have := q8 _ hm
              simp only [freshC] at this
              omega
          · cases h1
        · cases h1

theorem writeS_other {i : Nat} : ∀ (slots : List Nat) (vs : List CV) (l : List At) (t : List (Nat × SV)), i ∉ slots → getS (writeS t slots vs l) i = getS t i
  | [], vs, l, t, _ => by cases vs <;> rfl
  | s :: r, [], l, t, _ => rfl
  | s :: r, v :: vs, l, t, h => by
    simp only [List.mem_cons, not_or] at h
    simp only [writeS]
    rw [writeS_other r vs _ _ h.2, getS_cons, if_neg (fun e => h.1 e.symm)]
theorem killS_get (t : List (Nat × SV)) (i : Nat) : ∀ kill : List Nat, getS (killS t kill) i = .any ∨ getS (killS t kill) i = getS t i
  | [] => .inr rfl
  | s :: r => by
    simp only [killS, getS_cons]
    by_cases h : s = i
    · rw [if_pos h]; exact .inl rfl
    · rw [if_neg h]; exact killS_get t i r

theorem writeS_in {tS : List (Nat × SV)} {ρ' ρ2 : Env} {β' β : Nat → Nat} {i : Nat} : ∀ (slots : List Nat) (vs vs' : List CV) (l : List At) (t : List (Nat × SV)) (rest : List At), readS tS slots = some vs' → vs'.map CV.shape = vs.map CV.shape →
    l.map (At.den ρ' β') = (vs'.flatMap CV.cells ++ rest).map (At.den ρ2 β) → i ∈ slots → ∃ u v', getS (writeS t slots vs l) i = .cv u ∧ getS tS i = .cv v' ∧ u.den ρ' β' = v'.den ρ2 β
  | [], _, _, _, _, _, _, _, _, h => by cases h
  | s :: r, vs, vs', l, t, rest, hr, hs, hl, hi => by
    simp only [readS] at hr
    split at hr
    · rename_i v' vr h1 h2
      simp only [Option.some.injEq] at hr
      subst hr
      cases vs with
      | nil => simp at hs
      | cons v vs =>
        simp only [List.map_cons, List.cons.injEq] at hs
        simp only [writeS]
        have hlen : v'.cells.length = v.cells.length := by
          have h3 := hs.1
          cases v <;> cases v' <;> simp_all [CV.shape, CV.cells]
        have hl2 : (l.drop v.cells.length).map (At.den ρ' β') = (vr.flatMap CV.cells ++ rest).map (At.den ρ2 β) := by
          rw [List.map_drop, hl, ← List.map_drop]
          congr 1
          simp only [List.flatMap_cons, List.append_assoc]
          rw [← hlen, List.drop_left]
        by_cases hir : i ∈ r
        · exact writeS_in r vs vr _ _ rest h2 hs.2 hl2 hir
        · have : i = s := by simpa [hir] using hi
          subst this
          refine ⟨cvLike v l, v', ?_, h1, ?_⟩
          · rw [writeS_other r vs _ _ hir, getS_cons, if_pos rfl]
          · have hl3 : (l.take v.cells.length).map (At.den ρ' β') = v'.cells.map (At.den ρ2 β) := by
              rw [List.map_take, hl, ← List.map_take]
              congr 1
              simp only [List.flatMap_cons, List.append_assoc]
              rw [← hlen, List.take_left]
            have h3 := hs.1
            cases v with
            | one a => cases v' with
              | agg x => simp [CV.shape] at h3
              | one a' =>
                simp only [CV.cells, List.length_cons, List.length_nil, List.map_cons, List.map_nil] at hl3
                cases l with
                | nil => simp at hl3
                | cons b l => simpa [cvLike, CV.den] using hl3
            | agg x => cases v' with
              | one a => simp [CV.shape] at h3
              | agg y =>
                simp only [CV.cells] at hl3
                simp only [cvLike, CV.den, hl3]
    · cases hr

theorem writeM_keep : ∀ (free : List (Nat × Nat)) (m : Mem) (l : List At) {k : Nat} {cs1 : List At} {t : TypeId}, getM (writeM m free l) k = some (cs1, t) →
    ∃ cs0, getM m k = some (cs0, t) ∧ cs0.length = cs1.length ∧ ∀ o, (k, o) ∉ free → cs0[o]? = cs1[o]?
  | [], m, l, k, cs1, t, h => ⟨cs1, by cases l <;> exact h, rfl, fun _ _ => rfl⟩
  | (j, p) :: r, m, [], k, cs1, t, h => ⟨cs1, h, rfl, fun _ _ => rfl⟩
  | (j, p) :: r, m, a :: l, k, cs1, t, h => by
    simp only [writeM] at h
    split at h
    · rename_i cs ty hg
      obtain ⟨cs0, h1, h2, h3⟩ := writeM_keep r _ l h
      rw [getM_setM] at h1
      by_cases hj : j = k
      · subst hj
        rw [if_pos rfl, hg] at h1
        simp only [Option.map_some, Option.some.injEq, Prod.mk.injEq] at h1
        obtain ⟨rfl, rfl⟩ := h1
        refine ⟨cs, hg, by simpa using h2, fun o ho => ?_⟩
        simp only [List.mem_cons, Prod.mk.injEq, not_or] at ho
        rw [← h3 o ho.2, List.getElem?_set_ne (fun e => ho.1 (by simp [e]))]
      · rw [if_neg hj] at h1
        exact ⟨cs0, h1, h2, fun o ho => h3 o (fun hm => ho (List.mem_cons_of_mem _ hm))⟩
    · obtain ⟨cs0, h1, h2, h3⟩ := writeM_keep r _ l h
      exact ⟨cs0, h1, h2, fun o ho => h3 o (fun hm => ho (List.mem_cons_of_mem _ hm))⟩

theorem writeM_in {sM : Mem} {ρ' ρ2 : Env} {β' β : Nat → Nat} : ∀ (free : List (Nat × Nat)) (m : Mem) (l ms : List At) {k o : Nat} {cs1 : List At} {t : TypeId}, readM sM free = some ms → l.map (At.den ρ' β') = ms.map (At.den ρ2 β) →
    getM (writeM m free l) k = some (cs1, t) → (k, o) ∈ free → o < cs1.length → ∃ f cs y ty, cs1[o]? = some f ∧ getM sM k = some (cs, ty) ∧ cs[o]? = some y ∧ f.den ρ' β' = y.den ρ2 β
  | [], _, _, _, _, _, _, _, _, _, _, h, _ => by cases h
  | (j, p) :: r, m, l, ms, k, o, cs1, t, hr, hl, hw, hi, ho => by
    simp only [readM] at hr
    split at hr
    · rename_i cs ty ml hg hr2
      split at hr
      · rename_i y hy
        simp only [Option.some.injEq] at hr
        subst hr
        cases l with
        | nil => simp at hl
        | cons a l =>
          simp only [List.map_cons, List.cons.injEq] at hl
          simp only [writeM] at hw
          by_cases hir : (k, o) ∈ r
          · split at hw
            · exact writeM_in r _ l ml hr2 hl.2 hw hir ho
            · exact writeM_in r _ l ml hr2 hl.2 hw hir ho
          · have hh : k = j ∧ o = p := by simpa [hir] using hi
            obtain ⟨rfl, rfl⟩ := hh
            split at hw
            · rename_i cs' ty' hg'
              obtain ⟨cs0, h1, h2, h3⟩ := writeM_keep r _ l hw
              rw [getM_setM, if_pos rfl, hg'] at h1
              simp only [Option.map_some, Option.some.injEq, Prod.mk.injEq] at h1
              obtain ⟨rfl, rfl⟩ := h1
              refine ⟨a, cs, y, ty, ?_, hg, hy, hl.1⟩
              rw [← h3 o hir]
              have : o < cs'.length := by simpa using (h2 ▸ ho : o < (cs'.set o a).length)
              rw [List.getElem?_set_self this]
            · rename_i hg'
              obtain ⟨cs0, h1, _, _⟩ := writeM_keep r _ l hw
              rw [hg'] at h1
              cases h1
      · cases hr
    · cases hr

theorem cellsSame_get {k : Nat} {free : List (Nat × Nat)} : ∀ (x y : List At) (o : Nat), cellsSame k free o x y = true → y.length = x.length ∧ ∀ j, (k, o + j) ∉ free → y[j]? = x[j]?
  | [], [], o, _ => ⟨rfl, fun _ _ => rfl⟩
  | [], _ :: _, o, h => by simp [cellsSame] at h
  | _ :: _, [], o, h => by simp [cellsSame] at h
  | a :: x, b :: y, o, h => by
    simp only [cellsSame, Bool.and_eq_true, Bool.or_eq_true, List.contains_iff_mem, decide_eq_true_eq] at h
    obtain ⟨h1, h2⟩ := cellsSame_get x y (o + 1) h.2
    refine ⟨by simp [h1], fun j hj => ?_⟩
    cases j with
    | zero =>
      rcases h.1 with h3 | h3
      · exact (hj h3).elim
      · simp [h3]
    | succ j =>
      have := h2 j (by rw [show o + 1 + j = o + (j + 1) by omega]; exact hj)
      simpa using this

theorem getS_mem : ∀ {t : List (Nat × SV)} {i : Nat}, getS t i ≠ .any → ∃ v, (i, v) ∈ t
  | [], _, h => (h rfl).elim
  | (j, v) :: r, i, h => by
    rw [getS_cons] at h
    by_cases hj : j = i
    · exact ⟨v, by simp [hj]⟩
    · rw [if_neg hj] at h
      obtain ⟨u, hu⟩ := getS_mem h
      exact ⟨u, List.mem_cons_of_mem _ hu⟩
theorem getM_mem : ∀ {m : Mem} {k : Nat} {x : List At × TypeId}, getM m k = some x → (k, x) ∈ m
  | [], _, _, h => by cases h
  | (j, v) :: r, k, x, h => by
    rw [getM_cons] at h
    by_cases hj : j = k
    · rw [if_pos hj] at h; cases h; simp [hj]
    · rw [if_neg hj] at h; exact List.mem_cons_of_mem _ (getM_mem h)

theorem getO_mem : ∀ {m : OMem} {k : Nat} {x : CE × Nat × TypeId}, getO m k = some x → (k, x) ∈ m
  | [], _, _, h => by cases h
  | (j, v) :: r, k, x, h => by
    rw [getO_cons] at h
    by_cases hj : j = k
    · rw [if_pos hj] at h; cases h; simp [hj]
    · rw [if_neg hj] at h; exact List.mem_cons_of_mem _ (getO_mem h)
theorem getO_app : ∀ (x y : OMem) (k : Nat), getO (x ++ y) k = match getO x k with | some v => some v | none => getO y k
  | [], y, k => rfl
  | (j, v) :: r, y, k => by
    simp only [List.cons_append, getO_cons]
    by_cases hj : j = k
    · simp only [if_pos hj]
    · simp only [if_neg hj]; exact getO_app r y k

theorem sameSt_sound {a b : St} {slots : List Nat} {free : List (Nat × Nat)} {own : List Nat} (h : sameSt a b slots free own = true) :
    (b.n = a.n ∧ b.r = a.r ∧ b.d = a.d) ∧ (∀ i, i ∉ slots → getS a.t i = .any ∨ getS b.t i = getS a.t i) ∧
    (∀ k cs1 t, getM a.m k = some (cs1, t) → ∃ cs, getM b.m k = some (cs, t) ∧ cs.length = cs1.length ∧ ∀ o, (k, o) ∉ free → cs[o]? = cs1[o]?) ∧
    ∀ k x, getO a.o k = some x → k ∉ own → getO b.o k = some x := by
  simp only [sameSt, Bool.and_eq_true, decide_eq_true_eq, List.all_eq_true, Bool.or_eq_true, List.contains_iff_mem] at h
  obtain ⟨⟨⟨h0, h3⟩, h1⟩, h2⟩ := h
  refine ⟨h0, fun i hi => ?_, fun k cs1 t hg => ?_, fun k x hg hk => ?_⟩
  · by_cases ha : getS a.t i = .any
    · exact .inl ha
    · obtain ⟨v, hv⟩ := getS_mem ha
      rcases h1 _ hv with (h3 | h3) | h3
      · exact (hi h3).elim
      · exact .inl h3
      · exact .inr h3
  · have := h2 _ (getM_mem hg)
    simp only at this
    split at this
    · rename_i cs t' hb
      simp only [Bool.and_eq_true, decide_eq_true_eq] at this
      obtain ⟨rfl, h3⟩ := this
      obtain ⟨q1, q2⟩ := cellsSame_get _ _ 0 h3
      exact ⟨cs, hb, q1, fun o ho => q2 o (by simpa using ho)⟩
    · cases this
  · rcases h3 _ (getO_mem hg) with h4 | h4
    · exact (hk h4).elim
    · rw [h4]; exact hg

theorem readS_wf {st : St} (h : st.WF) : ∀ (slots : List Nat) {vs : List CV}, readS st.t slots = some vs → vs.all (CV.wf st.c) = true
  | [], vs, hr => by simp only [readS, Option.some.injEq] at hr; subst hr; rfl
  | s :: r, vs, hr => by
    simp only [readS] at hr
    split at hr
    · rename_i v l h1 h2
      simp only [Option.some.injEq] at hr
      subst hr
      have := h.t s
      rw [h1] at this
      simp only [List.all_cons, readS_wf h r h2, Bool.and_true]
      exact this
    · cases hr
theorem writeS_wf {c : Ctr} : ∀ (slots : List Nat) (vs : List CV) (l : List At) (t : List (Nat × SV)), (∀ i, (getS t i).wf c = true) → vs.all (CV.wf c) = true → l.all (At.wf c) = true → ∀ i, (getS (writeS t slots vs l) i).wf c = true
  | [], vs, l, t, h, _, _ => by cases vs <;> exact h
  | s :: r, [], l, t, h, _, _ => h
  | s :: r, v :: vs, l, t, h, hv, hl => by
    simp only [List.all_cons, Bool.and_eq_true] at hv
    simp only [writeS]
    refine writeS_wf r vs _ _ (fun i => ?_) hv.2 (all_split hl _).2
    rw [getS_cons]
    by_cases hi : s = i
    · rw [if_pos hi]
      cases v with
      | one a =>
        simp only [cvLike, SV.wf, CV.wf]
        cases l with
        | nil => exact hv.1
        | cons b l => simp only [List.all_cons, Bool.and_eq_true] at hl; exact hl.1
      | agg x => exact (all_split hl _).1
    · rw [if_neg hi]; exact h i
theorem writeM_wf {c : Ctr} : ∀ (free : List (Nat × Nat)) (m : Mem) (l : List At), (∀ k cs t, getM m k = some (cs, t) → k < c.nk ∧ cs.all (At.wf c) = true) → l.all (At.wf c) = true →
    ∀ k cs t, getM (writeM m free l) k = some (cs, t) → k < c.nk ∧ cs.all (At.wf c) = true
  | [], m, l, h, _ => by cases l <;> exact h
  | (j, p) :: r, m, [], h, _ => h
  | (j, p) :: r, m, a :: l, h, hl => by
    simp only [List.all_cons, Bool.and_eq_true] at hl
    simp only [writeM]
    split
    · rename_i cs ty hg
      refine writeM_wf r _ l (fun k cs' t hk => ?_) hl.2
      rw [getM_setM] at hk
      by_cases hj : j = k
      · subst hj
        rw [if_pos rfl, hg] at hk
        simp only [Option.map_some, Option.some.injEq, Prod.mk.injEq] at hk
        obtain ⟨rfl, rfl⟩ := hk
        have h1 := h j cs ty hg
        refine ⟨h1.1, List.all_eq_true.2 fun x hx => ?_⟩
        rcases List.mem_or_eq_of_mem_set hx with hx | rfl
        · exact List.all_eq_true.1 h1.2 x hx
        · exact hl.1
      · rw [if_neg hj] at hk
        exact h k cs' t hk
    · exact writeM_wf r m l h hl.2

theorem zip_fst {α β : Type} : ∀ (x : List α) (y : List β), x.length = y.length → ∀ a ∈ x, ∃ b, (a, b) ∈ x.zip y
  | [], _, _, a, h => by cases h
  | a0 :: x, [], h, _, _ => by simp at h
  | a0 :: x, b0 :: y, h, a, ha => by
    rcases List.mem_cons.1 ha with rfl | ha
    · exact ⟨b0, by simp⟩
    · obtain ⟨b, hb⟩ := zip_fst x y (by simpa using h) a ha
      exact ⟨b, by simp [hb]⟩
theorem zip_inj {α β : Type} : ∀ (x : List α) (y : List β), y.Nodup → ∀ {a a' : α} {b : β}, (a, b) ∈ x.zip y → (a', b) ∈ x.zip y → a = a'
  | [], _, _, _, _, _, h, _ => by simp at h
  | _ :: _, [], _, _, _, _, h, _ => by simp at h
  | a0 :: x, b0 :: y, hn, a, a', b, h, h' => by
    simp only [List.nodup_cons] at hn
    simp only [List.zip_cons_cons, List.mem_cons, Prod.mk.injEq] at h h'
    rcases h with ⟨rfl, rfl⟩ | h
    · rcases h' with ⟨rfl, _⟩ | h'
      · rfl
      · exact (hn.1 (List.of_mem_zip h').2).elim
    · rcases h' with ⟨rfl, rfl⟩ | h'
      · exact (hn.1 (List.of_mem_zip h).2).elim
      · exact zip_inj x y hn.2 h h'

/-- The state at a loop's head, out of the state at the beginning or behind a round. -/
theorem reenter {st s : St} {ρ ρ2 ρ' : Env} {β β' : Nat → Nat} {a : Act} {w : World} {slots kill : List Nat} {free : List (Nat × Nat)} {vs vs' : List CV} {ms' : List At} {ks : List CK} {own0 : List Nat} (hwf : st.WF) (hC : Core W R Z ρ2 β s a w) (hl2 : Env.like st.c ρ ρ2) (hl' : Env.like st.c ρ ρ')
    (hbb : ∀ j, j < st.c.nk → β' j = β j)
    (hvs : readS st.t slots = some vs) (hr : readS s.t slots = some vs') (hsh : vs'.map CV.shape = vs.map CV.shape) (hrm : readM s.m free = some ms')
    (hden : (freshL st.c ks).map (At.den ρ' β') = (vs'.flatMap CV.cells ++ ms').map (At.den ρ2 β)) (hn : s.n = st.n ∧ s.r = st.r ∧ s.d = st.d)
    (hs : ∀ i, i ∉ slots → getS (writeS (killS st.t kill) slots vs (freshL st.c ks)) i = .any ∨ getS s.t i = getS (writeS (killS st.t kill) slots vs (freshL st.c ks)) i)
    (hm : ∀ k cs1 t, getM (writeM st.m free ((freshL st.c ks).drop (vs.flatMap CV.cells).length)) k = some (cs1, t) → ∃ cs, getM s.m k = some (cs, t) ∧ cs.length = cs1.length ∧ ∀ o, (k, o) ∉ free → cs[o]? = cs1[o]?)
    (hlen : (ownIds (freshL st.c ks)).length = (ownIds (vs'.flatMap CV.cells ++ ms')).length)
    (hrows : ∀ p ∈ (ownIds (freshL st.c ks)).zip (ownIds (vs'.flatMap CV.cells ++ ms')), RowEq (freshO st.c ks) s.o ρ' ρ2 β' β p.1 p.2) (hnd : (ownIds (vs'.flatMap CV.cells ++ ms')).Nodup)
    (hret : ∀ k x, getO (delOs st.o own0) k = some x → getO s.o k = some x) (hsep : ∀ k ∈ ownIds (vs'.flatMap CV.cells ++ ms'), getO (delOs st.o own0) k = none) :
    Core W R Z ρ' β' { t := writeS (killS st.t kill) slots vs (freshL st.c ks), n := st.n, m := writeM st.m free ((freshL st.c ks).drop (vs.flatMap CV.cells).length), c := freshLC st.c ks, o := freshO st.c ks ++ delOs st.o own0, r := st.r, d := st.d } a w := by
  have hle := freshLC_le ks st.c
  have hkw : ∀ i, (getS (killS st.t kill) i).wf st.c = true := fun i => by
    rcases killS_get st.t i kill with h | h <;> rw [h]
    · rfl
    · exact hwf.t i
  have hβ : ∀ j, j < st.c.nk → β' j = β j := hbb
  have hd12 : ∀ {x : SV}, x.wf st.c = true → x.den ρ' β' = x.den ρ2 β := fun hx => (SV.den_like hl' hβ hx).trans (SV.den_like hl2 (fun _ _ => rfl) hx).symm
  have ha12 : ∀ {x : At}, x.wf st.c = true → x.den ρ' β' = x.den ρ2 β := fun hx => (At.den_like hl' hβ hx).trans (At.den_like hl2 (fun _ _ => rfl) hx).symm
  have hlen2 : (vs'.flatMap CV.cells).length = (vs.flatMap CV.cells).length := by
    have : ∀ (x y : List CV), x.map CV.shape = y.map CV.shape → (x.flatMap CV.cells).length = (y.flatMap CV.cells).length := by
      intro x
      induction x with
      | nil => intro y h; cases y with
        | nil => rfl
        | cons b y => simp at h
      | cons c x ih => intro y h; cases y with
        | nil => simp at h
        | cons b y =>
          simp only [List.map_cons, List.cons.injEq] at h
          simp only [List.flatMap_cons, List.length_append, ih y h.2]
          have : c.cells.length = b.cells.length := by
            have h3 := h.1
            cases c <;> cases b <;> simp_all [CV.shape, CV.cells]
          rw [this]
    exact this _ _ hsh
  have hden2 : ((freshL st.c ks).drop (vs.flatMap CV.cells).length).map (At.den ρ' β') = ms'.map (At.den ρ2 β) := by
    rw [List.map_drop, hden, ← List.map_drop, ← hlen2, List.drop_left]
  -- objects of the new state, and those of s that they are
  have hretlt : ∀ {k x}, getO (delOs st.o own0) k = some x → k + 3 < st.c.nk ∧ ceWf st.c x.1 = true ∧ getM st.m k = none := fun {k x} hg => by
    rw [getO_dels] at hg
    split at hg
    · cases hg
    · exact ⟨(hwf.o k x.1 x.2.1 x.2.2 hg).1, (hwf.o k x.1 x.2.1 x.2.2 hg).2, hwf.ap k x hg⟩
  have wfm : ∀ k cs t, getM (writeM st.m free ((freshL st.c ks).drop (vs.flatMap CV.cells).length)) k = some (cs, t) → k < (freshLC st.c ks).nk ∧ cs.all (At.wf (freshLC st.c ks)) = true := by
    refine writeM_wf free st.m _ (fun k cs t hk => ?_) (all_split (freshL_wf ks st.c) _).2
    have := hwf.m k cs t hk
    exact ⟨Nat.lt_of_lt_of_le this.1 hle.k, all_wf_le hle this.2⟩
  have mlt : ∀ {k cs t}, getM (writeM st.m free ((freshL st.c ks).drop (vs.flatMap CV.cells).length)) k = some (cs, t) → k < st.c.nk := fun {k cs t} hg => by
    obtain ⟨cs0, h1, _, _⟩ := writeM_keep free st.m _ hg
    exact (hwf.m k cs0 t h1).1
  have mnone : ∀ {k}, getM st.m k = none → getM (writeM st.m free ((freshL st.c ks).drop (vs.flatMap CV.cells).length)) k = none := fun {k} hk => by
    cases hg : getM (writeM st.m free ((freshL st.c ks).drop (vs.flatMap CV.cells).length)) k with
    | none => rfl
    | some x =>
      obtain ⟨cs0, h1, _, _⟩ := writeM_keep free st.m _ (show _ = some (x.1, x.2) from hg)
      rw [hk] at h1; cases h1
  have mnew : ∀ {k}, st.c.nk ≤ k → getM (writeM st.m free ((freshL st.c ks).drop (vs.flatMap CV.cells).length)) k = none := fun {k} hk => by
    cases hg : getM (writeM st.m free ((freshL st.c ks).drop (vs.flatMap CV.cells).length)) k with
    | none => rfl
    | some x => have := mlt (show _ = some (x.1, x.2) from hg); omega
  -- each object is one of s
  have obj : ∀ k e, getE (writeM st.m free ((freshL st.c ks).drop (vs.flatMap CV.cells).length)) (freshO st.c ks ++ delOs st.o own0) k = some e →
      ∃ j e0, getE s.m s.o j = some e0 ∧ Holds W ρ' β' k e w ∧ blkE β' k e = blkE β j e0 ∧
        ((j = k ∧ k < st.c.nk ∧ ((∃ cs t, getM s.m k = some (cs, t)) ∨ ∃ x, getO (delOs st.o own0) k = some x)) ∨ (st.c.nk ≤ k ∧ (k, j) ∈ (ownIds (freshL st.c ks)).zip (ownIds (vs'.flatMap CV.cells ++ ms')))) := by
    intro k e hg
    unfold getE at hg
    cases hgm : getM (writeM st.m free ((freshL st.c ks).drop (vs.flatMap CV.cells).length)) k with
    | some x =>
      obtain ⟨cs1, t⟩ := x
      rw [hgm] at hg
      simp only [Option.some.injEq] at hg
      subst hg
      obtain ⟨cs, q1, q2, q3⟩ := hm k cs1 t hgm
      have hk := mlt hgm
      obtain ⟨m1, m2⟩ := hC.fix q1
      refine ⟨k, .fix cs t, getE_m q1, ⟨by rw [hβ k hk]; exact m1, ?_⟩, by simp only [blkE, hβ k hk], .inl ⟨rfl, hk, .inl ⟨cs, t, q1⟩⟩⟩
      rw [hβ k hk, m2]
      congr 3
      apply List.ext_getElem?
      intro o
      simp only [List.getElem?_map]
      by_cases ho : o < cs1.length
      · by_cases hf : (k, o) ∈ free
        · obtain ⟨f, cs', y, ty, r1, r2, r3, r4⟩ := writeM_in (ρ' := ρ') (ρ2 := ρ2) (β' := β') (β := β) free st.m _ ms' hrm hden2 hgm hf ho
          rw [q1] at r2
          simp only [Option.some.injEq, Prod.mk.injEq] at r2
          obtain ⟨rfl, rfl⟩ := r2
          rw [r1, r3, Option.map_some, Option.map_some, r4]
        · rw [q3 o hf]
          obtain ⟨cs0, p1, p2, p3⟩ := writeM_keep free st.m _ hgm
          cases hx : cs1[o]? with
          | none => rfl
          | some x =>
            have hx0 : cs0[o]? = some x := by rw [p3 o hf, hx]
            simp only [Option.map_some]
            exact congrArg some (ha12 (List.all_eq_true.1 (hwf.m k cs0 t p1).2 x (List.mem_of_getElem? hx0))).symm
      · rw [List.getElem?_eq_none (by omega), List.getElem?_eq_none (by omega)]
        rfl
    | none =>
      rw [hgm] at hg
      simp only [getO_app] at hg
      cases hgf : getO (freshO st.c ks) k with
      | some x =>
        rw [hgf] at hg
        simp only [Option.some.injEq] at hg
        obtain ⟨h1, h2, h3, n0, h4, h5⟩ := freshO_get ks st.c hgf
        obtain ⟨j, hj⟩ := zip_fst _ _ hlen k h3
        obtain ⟨⟨e0, e1, e2, e3⟩, n, ce, sz, t, p1, p2, p3⟩ := hrows (k, j) hj
        simp only at e0 e1 e2 e3 p1 p2
        rw [hgf] at p1
        simp only [Option.some.injEq] at p1
        subst p1
        subst hg
        have hE := getE_o (hC.wf.ap j _ p2) p2
        have hH := hC.mem j _ hE
        refine ⟨j, _, hE, ?_, by simp only [blkE, e0, e1], .inr ⟨h1, hj⟩⟩
        simp only [Holds] at hH ⊢
        rw [e0, e1, e2, e3, p3]
        exact hH
      | none =>
        rw [hgf] at hg
        simp only at hg
        cases hgr : getO (delOs st.o own0) k with
        | none => rw [hgr] at hg; cases hg
        | some x =>
          rw [hgr] at hg
          simp only [Option.some.injEq] at hg
          subst hg
          obtain ⟨h1, h2, h3⟩ := hretlt hgr
          have h4 := hret k x hgr
          have hE := getE_o (hC.wf.ap k _ h4) h4
          have hH := hC.mem k _ hE
          refine ⟨k, _, hE, ?_, ?_, .inl ⟨rfl, by omega, .inr ⟨x, rfl⟩⟩⟩
          · simp only [Holds] at hH ⊢
            rw [hβ k (by omega), hβ (k + 1) (by omega), hβ (k + 2) (by omega), hβ (k + 3) (by omega), (ceDen_like hl' hβ h2).trans (ceDen_like hl2 (β := β) (fun _ _ => rfl) h2).symm]
            exact hH
          · simp only [blkE, hβ k (by omega : k < st.c.nk), hβ (k + 1) (by omega)]
  have hmapd : st.d.map β' = st.d.map β := List.map_congr_left fun k hk => hβ k (hwf.d k hk)
  refine ⟨by rw [hC.size]; exact hn.1, fun i hni => ?_, ?_, hC.below, fun k e hg => ?_, fun k k' e e' b hx hy hbx hby => ?_, fun k e hg => ?_, fun k k' e e' hx hy he => ?_, ?_, ?_, ⟨?_, wfm, fun k ce sz t hg => ?_, fun k x hg => ?_, ?_, ?_⟩⟩
  · by_cases hi : i ∈ slots
    · obtain ⟨u, v', h1, h2, h3⟩ := writeS_in (ρ' := ρ') (ρ2 := ρ2) (β' := β') (β := β) slots vs vs' (freshL st.c ks) (killS st.t kill) ms' hr hsh hden hi
      have := hC.tmps i (by rw [h2]; simp)
      rw [this]
      simp only
      rw [h1, h2]
      exact congrArg some h3.symm
    · rcases hs i hi with h | h
      · exact (hni h).elim
      · have := hC.tmps i (by rw [h]; exact hni)
        rw [this, h]
        refine congrArg some (hd12 ?_).symm
        rw [writeS_other _ _ _ _ hi]
        exact hkw i
  · rw [hC.dfr, hn.2.2]
    simp only [marksOf]
    exact List.map_congr_left fun k hk => by rw [hβ k (hwf.d k hk)]
  · obtain ⟨j, e0, _, h2, _⟩ := obj k e hg
    exact h2
  · obtain ⟨j, e0, q1, q2, q3, q4⟩ := obj k e hx
    obtain ⟨j', e0', p1, p2, p3, p4⟩ := obj k' e' hy
    rw [q3] at hbx
    rw [p3] at hby
    have hj : j = j' := hC.inj j j' e0 e0' b q1 p1 hbx hby
    subst hj
    rcases q4 with ⟨r1, r2, r3⟩ | ⟨r1, r2⟩ <;> rcases p4 with ⟨t1, t2, t3⟩ | ⟨t1, t2⟩
    · exact r1.symm.trans t1
    · exfalso
      have hmem := (List.of_mem_zip t2).2
      rcases r3 with ⟨cs, t, r3⟩ | ⟨x, r3⟩
      · obtain ⟨_, n, ce, sz, t, u1, u2, u3⟩ := hrows _ t2
        simp only at u2
        have := hC.wf.ap j _ u2
        rw [r1] at this
        rw [this] at r3; cases r3
      · have := hsep j hmem
        rw [r1, r3] at this; cases this
    · exfalso
      have hmem := (List.of_mem_zip r2).2
      rcases t3 with ⟨cs, t, t3⟩ | ⟨x, t3⟩
      · obtain ⟨_, n, ce, sz, t, u1, u2, u3⟩ := hrows _ r2
        simp only at u2
        have := hC.wf.ap j _ u2
        rw [t1] at this
        rw [this] at t3; cases t3
      · have := hsep j hmem
        rw [t1, t3] at this; cases this
    · exact zip_inj _ _ hnd r2 t2
  · rw [hβ k (hwf.r k e hg)]
    exact hC.lps k e (by rw [hn.2.1]; exact hg)
  · rw [hβ k (hwf.r k e hx), hβ k' (hwf.r k' e' hy)] at he
    exact hC.rin k k' e e' (by rw [hn.2.1]; exact hx) (by rw [hn.2.1]; exact hy) he
  · have := hC.ded
    rw [hn.2.2] at this
    rw [hmapd]
    exact this
  · have := hC.dn
    rw [hn.2.2] at this
    rw [hmapd]
    exact this
  · exact writeS_wf slots vs _ _ (fun i => SV.wf_le hle (hkw i)) (List.all_eq_true.2 fun x hx => CV.wf_le hle (List.all_eq_true.1 (readS_wf hwf slots hvs) x hx)) (freshL_wf ks st.c)
  · simp only [getO_app] at hg
    cases hgf : getO (freshO st.c ks) k with
    | some x =>
      rw [hgf] at hg
      simp only [Option.some.injEq] at hg
      obtain ⟨h1, h2, h3, n0, h4, h5⟩ := freshO_get ks st.c hgf
      subst hg
      simp only at h4
      subst h4
      exact ⟨h2, by simp [ceWf, Sg.wf, h5]⟩
    | none =>
      rw [hgf] at hg
      obtain ⟨h1, h2, h3⟩ := hretlt hg
      exact ⟨Nat.lt_of_lt_of_le h1 hle.k, ceWf_le hle h2⟩
  · simp only [getO_app] at hg
    cases hgf : getO (freshO st.c ks) k with
    | some y => exact mnew (freshO_get ks st.c hgf).1
    | none =>
      rw [hgf] at hg
      exact mnone (hretlt hg).2.2
  · exact fun k e hg => Nat.lt_of_lt_of_le (hwf.r k e hg) hle.k
  · exact fun k hk => Nat.lt_of_lt_of_le (hwf.d k hk) hle.k
end Vc
