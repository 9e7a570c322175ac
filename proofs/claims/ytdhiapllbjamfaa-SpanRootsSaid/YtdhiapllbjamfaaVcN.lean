/- Vc, part N: code is walked soundly. No program in sight. -/
import Derived.Test.YtdhiapllbjamfaaVcM
import Derived.LoopN
set_option linter.unusedVariables false
set_option linter.unusedSimpArgs false
namespace Vc
open Go Go.RowKit
variable {W : World} {Q : Value → Prop} {QM : World → Value → Prop}

theorem NxtE.st {st st' : St} {ρ : Env} {β : Nat → Nat} {K : Ex → St → Env → Prop} {Q' : Exit → Act → World → Prop} (h : NxtE W st ρ β K Q') (he : st'.c = st.c) : NxtE W st' ρ β K Q' :=
  h.far (by rw [he]; exact Ctr.le_refl _) (Env.like_refl _ _) (fun _ _ => rfl)

theorem exec_sound {G : Cfg} (hG : G.Ok) (hD : DrawOk G W Q QM) : ∀ (n : Nat) (c : Code) (st : St) (K : Ex → St → Env → Prop) (ρ : Env), exec (PA G.P W Q QM) G n c st K ρ →
    ∀ (β : Nat → Nat) (a : Act) (w : World), Core W ρ β st a w → ∀ Q' : Exit → Act → World → Prop, NxtE W st ρ β K Q' → c.wp G.P Q' a w
  | 0, c, st, K, ρ, h, _, _, _, _, _, _ => h.elim
  | n + 1, c, st, K, ρ, h, β, a, w, hC, Q', hn => by
    have ih := exec_sound hG hD n
    have here : ∀ (e : Ex), K e st ρ → Q' e.to a w := fun e hk => hn e st ρ β a w hk (Ctr.le_refl _) (Env.like_refl _ _) (fun _ _ => rfl) hC
    unfold exec at h
    cases c with
    | skip => exact wp_skip (here .normal h)
    | label l => exact wp_label (here .normal h)
    | ret => exact wp_ret (here .ret h)
    | exit id => exact wp_exit (here (.exit id) h)
    | region id ops draw =>
      have nx : Nxt W st ρ β (K .normal) (Q' .normal) := fun s ρ2 β2 a2 w2 hk h1 h2 h3 hC2 => hn .normal s ρ2 β2 a2 w2 hk h1 h2 h3 hC2
      cases draw with
      | true =>
        exact hD id ops st _ ρ h β a w hC _ Q' (fun _ _ q => q) nx
      | false =>
        refine wp_region_list (execL_sound (stepO_sound hG ?_) ops.toList st ρ h β a w hC _ (fun _ _ q => q) nx)
        intro f args s K' ρ1 hi hw β1 a1 w1 hC1 next' hn'
        generalize hf : G.P.funcs[f]? = u at hi
        cases u with
        | none => exact hi.elim
        | some fn =>
          simp only at hi
          generalize hb : fn.body = u at hi
          cases u with
          | none => exact hi.elim
          | some b =>
            refine calls_of_wp hf hb ?_
            have hC2 := core_enter (W := W) (ρ := ρ1) (β := β1) (args := args) (n := fn.ntmps) (m := s.m) (c := s.c) (w := w1) hw hC1.below hC1.mem hC1.inj hC1.wf.m
            refine ih b _ _ ρ1 hi β1 _ w1 hC2 _ ?_
            intro e s' ρ' β' a' w' hk h1 h2 h3 hC3
            have fin : (match resOf G.P s' fn.results.toList with
                | some l => K' (resV l) { t := s.t, n := s.n, m := s'.m, c := s'.c }
                | none => (PA G.P W Q QM).fail "inline: results") ρ' → a'.defers = [] ∧ ∃ v, (results fn a'.tmps).run G.P w' = .ok v w' ∧ ∃ v', Ending.returned v = .returned v' ∧ next' v' w' := by
              intro hk
              generalize hr : resOf G.P s' fn.results.toList = u at hk
              cases u with
              | none => exact hk.elim
              | some l =>
                obtain ⟨q1, q2⟩ := results_sound hC3 hr
                refine ⟨hC3.dfr, _, q1, _, rfl, ?_⟩
                refine hn' (resV l) _ ρ' β' w' hk q2 (resV_any l) h1 h2 h3 ⟨hC1.size, fun i hi => ?_, hC1.dfr, hC3.below, hC3.mem, hC3.inj, ⟨fun i => SV.wf_le h1 (hC1.wf.t i), hC3.wf.m⟩⟩
                rw [hC1.tmps i hi]
                exact congrArg some (SV.den_like h2 h3 (hC1.wf.t i)).symm
            cases e with
            | normal => exact fin hk
            | ret => exact fin hk
            | exit id => exact hk.elim
    | seq x y =>
      refine wp_seq (ih x st _ ρ h β a w hC _ ?_)
      intro e s ρ2 β2 a2 w2 hk h1 h2 h3 hC2
      cases e with
      | normal => exact ih y s K ρ2 hk β2 a2 w2 hC2 Q' (hn.far h1 h2 h3)
      | exit id => exact hn (.exit id) s ρ2 β2 a2 w2 hk h1 h2 h3 hC2
      | ret => exact hn .ret s ρ2 β2 a2 w2 hk h1 h2 h3 hC2
    | cond o x y =>
      cases o with
      | tmp d =>
        simp only at h
        generalize hg : getS st.t d = sv at h
        split at h
        · rename_i e
          split at h
          · rename_i hd
            have he : a.eval (.tmp d) = .bool (e.den ρ) := by
              have := hC.eval (.tmp d) (by show getS st.t d ≠ _; rw [hg]; simp)
              rw [this]
              show (getS st.t d).den ρ β = _
              rw [hg]; rfl
            rcases doFork_sound h with ⟨hb, h⟩ | ⟨hb, h⟩
            · refine wp_cond_true (by rw [he, hb]) (ih x _ K ρ h β a w (hC.know hg hb) Q' (hn.st rfl))
            · refine wp_cond_false (by rw [he, hb]) (ih y _ K ρ h β a w (hC.know hg hb) Q' (hn.st rfl))
          · exact h.elim
        · exact h.elim
      | const v =>
        cases v with
        | bool t =>
          cases t with
          | true => exact wp_cond_true rfl (ih x st K ρ h β a w hC Q' hn)
          | false => exact wp_cond_false rfl (ih y st K ρ h β a w hC Q' hn)
        | _ => exact h.elim
      | _ => exact h.elim
    | block id b =>
      refine wp_block (ih b st _ ρ h β a w hC _ ?_)
      intro e s ρ2 β2 a2 w2 hk h1 h2 h3 hC2
      cases e with
      | normal => exact hn .normal s ρ2 β2 a2 w2 hk h1 h2 h3 hC2
      | ret => exact hn .ret s ρ2 β2 a2 w2 hk h1 h2 h3 hC2
      | exit i =>
        simp only at hk
        simp only [Ex.to, Exit.inBlock]
        by_cases hi : i = id
        · rw [if_pos hi] at hk ⊢
          exact hn .normal s ρ2 β2 a2 w2 hk h1 h2 h3 hC2
        · rw [if_neg hi] at hk ⊢
          exact hn (.exit i) s ρ2 β2 a2 w2 hk h1 h2 h3 hC2
    | scope b =>
      refine wp_scope_straight (ih b st _ ρ h β a w hC _ ?_)
      intro e s ρ2 β2 a2 w2 hk h1 h2 h3 hC2
      have := hn e s ρ2 β2 a2 w2 hk h1 h2 h3 hC2
      cases e <;> exact this
    | loop b =>
      have plain : unroll (PA G.P W Q QM) (exec (PA G.P W Q QM) G n b) K n st ρ → (Code.loop b).wp G.P Q' a w := by
        intro h
        refine wp_loop_rounds n ?_
        have key : ∀ (m : Nat) (st : St) (ρ : Env) (β : Nat → Nat) (a : Act) (w : World), unroll (PA G.P W Q QM) (exec (PA G.P W Q QM) G n b) K m st ρ → Core W ρ β st a w → NxtE W st ρ β K Q' → Code.rounds G.P b Q' m a w := by
          intro m
          induction m with
          | zero => intro st ρ β a w h _ _; exact h.elim
          | succ m ihm =>
            intro st ρ β a w h hC hn
            refine ih b st _ ρ h β a w hC _ ?_
            intro e s ρ2 β2 a2 w2 hk h1 h2 h3 hC2
            cases e with
            | normal => exact ihm s ρ2 β2 a2 w2 hk hC2 (hn.far h1 h2 h3)
            | exit id => exact hn (.exit id) s ρ2 β2 a2 w2 hk h1 h2 h3 hC2
            | ret => exact hn .ret s ρ2 β2 a2 w2 hk h1 h2 h3 hC2
        exact key n st ρ β a w h hC hn
      simp only at h
      generalize hh : G.loops.lookup (keyOf b) = hint at h
      split at h
      · rename_i cells slots kill
        generalize hca : cellsAt st cells = u1 at h
        generalize hvs : readS st.t slots = u2 at h
        split at h
        · rename_i free vs
          generalize hms : readM st.m free = u3 at h
          split at h
          · exact h.elim
          · rename_i ms
            generalize hks : kindsOf (vs.flatMap CV.cells ++ ms) = u4 at h
            split at h
            · exact h.elim
            · rename_i ks
              obtain ⟨Inv, μ, h0, hall⟩ := h
              have hnk : ({ t := writeS (killS st.t kill) slots vs (freshL st.c ks), n := st.n, m := writeM st.m free ((freshL st.c ks).drop (vs.flatMap CV.cells).length), c := freshLC st.c ks } : St).c.nk = st.c.nk := freshLC_nk ks st.c
              refine wp_loop_ghost (fun k a w => ∃ ρh βh, Inv ((freshL st.c ks).map (vl ρh)) ∧ μ ((freshL st.c ks).map (vl ρh)) = k ∧ Env.like st.c ρ ρh ∧ (∀ j, j < st.c.nk → βh j = β j) ∧
                Core W ρh βh { t := writeS (killS st.t kill) slots vs (freshL st.c ks), n := st.n, m := writeM st.m free ((freshL st.c ks).drop (vs.flatMap CV.cells).length), c := freshLC st.c ks } a w ∧
                exec (PA G.P W Q QM) G n b { t := writeS (killS st.t kill) slots vs (freshL st.c ks), n := st.n, m := writeM st.m free ((freshL st.c ks).drop (vs.flatMap CV.cells).length), c := freshLC st.c ks } (fun e s => match e with
                  | .normal => match readS s.t slots, readM s.m free with
                    | some vs', some ms' =>
                      if sameSt { t := writeS (killS st.t kill) slots vs (freshL st.c ks), n := st.n, m := writeM st.m free ((freshL st.c ks).drop (vs.flatMap CV.cells).length), c := freshLC st.c ks } s slots free = true ∧ vs'.map CV.shape = vs.map CV.shape ∧ kindsOf (vs'.flatMap CV.cells ++ ms') = some ks then
                        (fun ρ'' => Inv ((vs'.flatMap CV.cells ++ ms').map (vl ρ'')) ∧ μ ((vs'.flatMap CV.cells ++ ms').map (vl ρ'')) < μ ((freshL st.c ks).map (vl ρh)))
                      else (PA G.P W Q QM).fail "loop: not the same"
                    | _, _ => (PA G.P W Q QM).fail "loop: values"
                  | e => K e s) ρh) (μ ((vs.flatMap CV.cells ++ ms).map (vl ρ))) ?_ ?_
              · obtain ⟨ρh, q1, q2, q3, q4⟩ := allA_inst ρ β ks st.c _ hall hks
                refine ⟨ρh, β, by rw [q4]; exact h0, by rw [q4], q2, fun _ _ => rfl, ?_, q1 (by rw [q4]; exact h0)⟩
                refine reenter hC.wf hC (Env.like_refl _ _) q2 hvs hvs rfl hms q3 rfl (fun i hi => ?_) (fun k cs1 t hg => ?_)
                · rw [writeS_other _ _ _ _ hi]
                  rcases killS_get st.t i kill with h | h
                  · exact .inl h
                  · exact .inr h.symm
                · obtain ⟨cs0, p1, p2, p3⟩ := writeM_keep free st.m _ hg
                  exact ⟨cs0, p1, p2, p3⟩
              · intro k a1 w1 hI
                obtain ⟨ρh, βh, hinv, hmu, hlh, hbh, hCh, hex⟩ := hI
                refine ih b _ _ ρh hex βh a1 w1 hCh _ ?_
                intro e s ρ2 β2 a2 w2 hk h1 h2 h3 hC2
                have hle := freshLC_le ks st.c
                have l2 : Env.like st.c ρ ρ2 := Env.like_trans hle hlh h2
                have b2 : ∀ j, j < st.c.nk → β2 j = β j := fun j hj => (h3 j (by rw [hnk]; exact hj)).trans (hbh j hj)
                cases e with
                | exit id => exact hn (.exit id) s ρ2 β2 a2 w2 hk (Ctr.le_trans hle h1) l2 b2 hC2
                | ret => exact hn .ret s ρ2 β2 a2 w2 hk (Ctr.le_trans hle h1) l2 b2 hC2
                | normal =>
                  simp only at hk
                  generalize hv' : readS s.t slots = u5 at hk
                  generalize hm' : readM s.m free = u6 at hk
                  split at hk
                  · rename_i vs' ms'
                    split at hk
                    · rename_i hcond
                      obtain ⟨c1, c2, c3⟩ := hcond
                      obtain ⟨hi2, hlt⟩ := hk
                      obtain ⟨s1, s2, s3⟩ := sameSt_sound c1
                      obtain ⟨ρn, q1, q2, q3, q4⟩ := allA_inst ρ2 β2 ks st.c _ hall c3
                      refine ⟨μ ((vs'.flatMap CV.cells ++ ms').map (vl ρ2)), hmu ▸ hlt, ρn, β2, by rw [q4]; exact hi2, by rw [q4], q2, b2, ?_, q1 (by rw [q4]; exact hi2)⟩
                      exact reenter hC.wf hC2 l2 q2 hvs hv' c2 hm' q3 s1 s2 s3
                    · exact hk.elim
                  · exact hk.elim
        · exact h.elim
      · exact plain h
    | _ => exact h.elim
end Vc
