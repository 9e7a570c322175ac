/- Vc, part K: lists of operations are sound. No program in sight. -/
import Derived.Test.YtdhiapllbjamfaaVcJ
set_option linter.unusedVariables false
set_option linter.unusedSimpArgs false
namespace Vc
open Go Go.RowKit
variable {P : Program} {W : World} {Q : Value → Prop} {QM : World → Value → Prop}

theorem Nxt.far {st st' : St} {ρ ρ' : Env} {β β' : Nat → Nat} {K : St → Env → Prop} {next : Act → World → Prop} (h : Nxt W st ρ β K next) (hc : st.c.le st'.c) (hl : Env.like st.c ρ ρ') (hb : ∀ k, k < st.c.nk → β' k = β k) : Nxt W st' ρ' β' K next :=
  fun s ρ2 β2 a w hk h1 h2 h3 hC => h s ρ2 β2 a w hk (Ctr.le_trans hc h1) (Env.like_trans hc hl h2) (fun k hk => (h3 k (Nat.lt_of_lt_of_le hk hc.2.2.2.2)).trans (hb k hk)) hC

theorem Core.know {ρ : Env} {β : Nat → Nat} {st : St} {a : Act} {w : World} {d : Nat} {e : BE} {b : Bool} (h : Core W ρ β st a w) (hg : getS st.t d = .cv (.one (.bool e))) (hb : e.den ρ = b) : Core W ρ β (st.know d b) a w where
  size := h.size
  tmps i hn := by
    simp only [St.know, getS_cons] at hn ⊢
    by_cases hi : d = i
    · rw [if_pos hi, ← hi, h.tmps d (by rw [hg]; simp), hg]
      simp only [SV.den, CV.den, At.den, BE.den, hb]
    · rw [if_neg hi] at hn ⊢
      exact h.tmps i hn
  dfr := h.dfr
  below := h.below
  mem := h.mem
  inj := h.inj
  wf := ⟨fun i => by
    simp only [St.know, getS_cons]
    by_cases hi : d = i
    · rw [if_pos hi]; rfl
    · rw [if_neg hi]; exact h.wf.t i, h.wf.m⟩

theorem yielded_some {ops : Array Oper} {tmps : Array Value} {j d : Nat} {b : Bool} (hd : (ops[j]?).bind (·.dst) = some d) (ht : tmps[d]? = some (.bool b)) : yielded ops tmps j = some b := by
  simp [yielded, hd, ht]
theorem yielded_none {ops : Array Oper} {tmps : Array Value} {j d : Nat} (hd : (ops[j]?).bind (·.dst) = some d) (ht : tmps[d]? = some undef) : yielded ops tmps j = none := by
  simp [yielded, hd, ht, undef]

/-- One operation that is wanted is walked soundly. -/
def StepOk (P : Program) (W : World) (step : St → Oper → (St → Env → Prop) → Env → Prop) : Prop :=
  ∀ st o K ρ, step st o K ρ → ∀ β a w, Core W ρ β st a w → ∀ (next : Act → World → Prop) (Q' : Exit → Act → World → Prop), Nxt W st ρ β K next → o.wp P a w next Q'

theorem execL_sound {step : St → Oper → (St → Env → Prop) → Env → Prop} (hs : StepOk P W step) {ops : Array Oper} {Q' : Exit → Act → World → Prop} {K : St → Env → Prop} :
    ∀ (l : List Oper) (st : St) (ρ : Env), execL (PA P W Q QM) step ops l st K ρ → ∀ β a w, Core W ρ β st a w → ∀ (next : Act → World → Prop), (∀ a w, next a w → Q' .normal a w) → Nxt W st ρ β K next → wpList P ops Q' l a w
  | [], st, ρ, h, β, a, w, hC, next, hq, hn => hq _ _ (hn st ρ β a w h (Ctr.le_refl _) (Env.like_refl _ _) (fun _ _ => rfl) hC)
  | o :: r, st, ρ, h, β, a, w, hC, next, hq, hn => by
    have IH : ∀ st' : St, st.c.le st'.c → st'.c = st.c → Nxt W st' ρ β (fun s => execL (PA P W Q QM) step ops r s K) (wpList P ops Q' r) := by
      intro st' hle he s ρ2 β2 a2 w2 hk h1 h2 h3 hC2
      rw [he] at h1 h2 h3
      exact execL_sound hs r s ρ2 hk β2 a2 w2 hC2 next hq (hn.far h1 h2 h3)
    simp only [wpList]
    unfold execL at h
    cases hgd : o.guard with
    | none =>
      simp only [hgd] at h
      rw [if_pos (by simp [Region.wanted, hgd])]
      exact .inl (hs st o _ ρ h β a w hC _ Q' (IH st (Ctr.le_refl _) rfl))
    | some jw =>
      obtain ⟨j, want⟩ := jw
      simp only [hgd] at h
      generalize hd : (ops[j]?).bind (·.dst) = u at h
      cases u with
      | none => exact h.elim
      | some d =>
        simp only at h
        split at h
        · rename_i hlt
          generalize hg : getS st.t d = sv at h
          split at h
          · rename_i e
            have ht : a.tmps[d]? = some (.bool (e.den ρ)) := by
              have := hC.tmps d (by rw [hg]; simp)
              rw [hg] at this
              exact this
            have hy := yielded_some (b := e.den ρ) hd ht
            have put : ∀ (b : Bool), e.den ρ = b → (St.put (PA P W Q QM) (st.know d b) o.dst .und st.c fun s => execL (PA P W Q QM) step ops r s K) ρ → wpList P ops Q' r (a.put o.dst undef) w := fun b hb hp =>
              put_sound (st := st.know d b) (st0 := st) (ρ0 := ρ) hp (hC.know hg hb) (Ctr.le_refl _) (Env.like_refl _ _) (fun _ _ => rfl) (fun _ => rfl) (IH st (Ctr.le_refl _) rfl)
            have go : ∀ (b : Bool), e.den ρ = b → step (st.know d b) o (fun s => execL (PA P W Q QM) step ops r s K) ρ → o.wp P a w (wpList P ops Q' r) Q' := fun b hb hp =>
              hs (st.know d b) o _ ρ hp β a w (hC.know hg hb) _ Q' (IH (st.know d b) (Ctr.le_refl _) rfl)
            rcases doFork_sound h with ⟨hb, h⟩ | ⟨hb, h⟩
            · cases want with
              | true =>
                simp only [if_true] at h
                rw [if_pos (by simp [Region.wanted, hgd, hy, hb])]
                exact .inl (go true hb h)
              | false =>
                simp only [Bool.false_eq_true, if_false] at h
                rw [if_neg (by simp [Region.wanted, hgd, hy, hb])]
                exact put true hb h
            · cases want with
              | true =>
                simp only [if_true] at h
                rw [if_neg (by simp [Region.wanted, hgd, hy, hb])]
                exact put false hb h
              | false =>
                simp only [Bool.false_eq_true, if_false] at h
                rw [if_pos (by simp [Region.wanted, hgd, hy, hb])]
                exact .inl (go false hb h)
          · have ht : a.tmps[d]? = some undef := by
              have := hC.tmps d (by rw [hg]; simp)
              rw [hg] at this
              exact this
            have hy := yielded_none hd ht
            rw [if_neg (by simp [Region.wanted, hgd, hy])]
            exact put_sound (st0 := st) (ρ0 := ρ) h hC (Ctr.le_refl _) (Env.like_refl _ _) (fun _ _ => rfl) (fun _ => rfl) (IH st (Ctr.le_refl _) rfl)
          · exact h.elim
        · exact h.elim
end Vc
