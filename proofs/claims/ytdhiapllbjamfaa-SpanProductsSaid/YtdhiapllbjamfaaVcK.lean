/- Vc, part K: one operation, and lists of operations, are walked soundly. No program in sight. -/
import Derived.Test.YtdhiapllbjamfaaVcY
import Derived.CallsIn
import Derived.TacticsIn
set_option linter.unusedVariables false
set_option linter.unusedSimpArgs false
namespace Vc
open Go Go.RowKit
variable {P : Program} {W : World} {Q : Value → Prop} {QM : World → Value → Prop} {R : Nat → Loop} {Z : List Nat}

/-- The fences under which code is walked: wide, but for the round. -/
def Fr (r : Option Nat) : Fence := { Fence.wide with round := r }
theorem fr_fn (r : Option Nat) (f : FuncId) : (Fr r).fn f := trivial
theorem fr_depth {r : Option Nat} {n : Nat} : (Fr r).depth.isSome = true → 1 ≤ n := fun h => by cases h
theorem callsFr {r : Option Nat} {n : Nat} {f : FuncId} {args : Array Value} {w : World} {T : Ending → World → Prop} : CallsIn (Fr r) n P f args w T ↔ Calls P f args w T := callsIn_wide (n := n)
theorem rowsFr {r : Option Nat} {n : Nat} {row : String} {args : Array Value} {w : World} {T : Value → World → Prop} (h : Rows P row args w T) : RowsIn (Fr r) n P row args w T := by
  intro c cs _
  obtain ⟨v, w', h1, h2⟩ := h c cs
  exact ⟨v, w', h1, (StepsIn.of_steps h2).mono fun m _ => fenced_wide P m⟩
theorem wpIn_of_wp {o : Oper} {a : Act} {w : World} {next : Act → World → Prop} {Q' : Exit → Act → World → Prop} (r : Option Nat) (n : Nat) (hd : ∀ c, o.op ≠ .defer c) (h : o.wp P a w next Q') : o.wpIn (Fr r) n P a w next Q' := by
  refine ⟨fun f _ => fr_fn r f, ?_⟩
  rw [Oper.semAt_eq _ _ _ hd]
  unfold Oper.wp at h
  generalize (execOp a.eval o).run P w = x at h ⊢
  cases x with
  | ok nx w' =>
    cases nx <;> simp only [Oper.upon] at h <;> first
      | exact h
      | exact ⟨fr_depth, callsFr.2 h⟩
      | exact ⟨fr_depth, rowsFr h⟩
      | exact h.elim
  | halt x w' => cases x <;> simp only [Oper.upon] at h <;> first | exact h | exact h.elim

/-- What follows holds in each state that the walk may come to. -/
def Nxt (W : World) (R : Nat → Loop) (Z : List Nat) (st : St) (ρ : Env) (β : Nat → Nat) (K : St → Env → Prop) (next : Act → World → Prop) : Prop :=
  ∀ st' ρ' β' a' w', K st' ρ' → st.c.le st'.c → Env.like st.c ρ ρ' → (∀ k, k < st.c.nk → β' k = β k) → Core W R Z ρ' β' st' a' w' → next a' w'
theorem Nxt.far {st st' : St} {ρ ρ' : Env} {β β' : Nat → Nat} {K : St → Env → Prop} {next : Act → World → Prop} (h : Nxt W R Z st ρ β K next) (hc : st.c.le st'.c) (hl : Env.like st.c ρ ρ') (hb : ∀ k, k < st.c.nk → β' k = β k) : Nxt W R Z st' ρ' β' K next :=
  fun s ρ2 β2 a w hk h1 h2 h3 hC => h s ρ2 β2 a w hk (Ctr.le_trans hc h1) (Env.like_trans hc hl h2) (fun k hk => (h3 k (Nat.lt_of_lt_of_le hk hc.k)).trans (hb k hk)) hC
theorem rsv_step {st : St} {o : Oper} {K : St → Env → Prop} {ρ : Env} (h : Rsv P W st o K ρ) {β : Nat → Nat} {a : Act} {w : World} (hC : Core W R Z ρ β st a w) {next : Act → World → Prop} (hn : Nxt W R Z st ρ β K next) (Q' : Exit → Act → World → Prop) : o.wp P a w next Q' := by
  obtain ⟨s', ρ', sv, C, h1, h2, h3, h4⟩ := h
  exact core_step (hC.like h3) (h4 ρ' (Env.like_refl _ _)) Q' fun β' a' w' hb hC' => hn s' ρ' β' a' w' h1 h2 h3 hb hC'
theorem put_sound {st st0 : St} {dst : Option Tmp} {v : SV} {c : Ctr} {K : St → Env → Prop} {ρ ρ0 : Env} {next : Act → World → Prop} (h : St.put (PA P W Q QM) st dst v c K ρ) {β : Nat → Nat} {a : Act} {w : World} {val : Value}
    (hC : Core W R Z ρ β st a w) (hsc : st.c.le c) {β0 : Nat → Nat} (h0 : st0.c.le c) (hl : Env.like st0.c ρ0 ρ) (hβ : ∀ k, k < st0.c.nk → β k = β0 k) (hv : v ≠ .any → val = v.den ρ β) (hn : Nxt W R Z st0 ρ0 β0 K next) : next (a.put dst val) w := by
  obtain ⟨h1, h2⟩ := put_resolve h
  obtain ⟨q1, q2, q3, q4, q5, q6⟩ := putS_c st dst v c
  refine hn _ ρ β _ w h1 (by rw [q1]; exact h0) hl hβ ⟨by rw [put_size, hC.size, q3], fun i hi => ?_, by rw [put_dfr, hC.dfr, q6], hC.below, by rw [q2, q4]; exact hC.mem, by rw [q2, q4]; exact hC.inj, by rw [q5]; exact hC.lps, by rw [q5]; exact hC.rin, by rw [q6]; exact hC.ded, by rw [q6]; exact hC.dn, putS_wf hC.wf hsc h2⟩
  rw [getS_putS] at hi ⊢
  by_cases hd : dst = some i
  · rw [if_pos hd] at hi ⊢
    rw [hd, getElem?_put i (by rw [hC.size]; exact (h2 i hd).1), if_pos rfl, hv hi]
  · rw [if_neg hd] at hi ⊢
    have h3 : (a.put dst val).tmps[i]? = a.tmps[i]? := by
      cases hdd : dst with
      | none => rfl
      | some d => rw [getElem?_put i (by rw [hC.size]; exact (h2 d hdd).1), if_neg (fun e => hd (by rw [hdd, e]))]
    rw [h3]
    exact hC.tmps i hi

theorem Core.know {ρ : Env} {β : Nat → Nat} {st : St} {a : Act} {w : World} {d : Nat} {e : BE} {b : Bool} (h : Core W R Z ρ β st a w) (hg : getS st.t d = .cv (.one (.bool e))) (hb : e.den ρ = b) : Core W R Z ρ β (st.know d b) a w where
  size := h.size
  tmps i hn := by
    simp only [St.know, getS_cons] at hn ⊢
    by_cases hi : d = i
    · rw [if_pos hi, ← hi, h.tmps d (by rw [hg]; simp), hg]
      simp only [SV.den, CV.den, At.den, BE.den, hb]
    · rw [if_neg hi] at hn ⊢
      exact h.tmps i hn
  dfr := h.dfr
  below := h.below
  mem := h.mem
  inj := h.inj
  lps := h.lps
  rin := h.rin
  ded := h.ded
  dn := h.dn
  wf := ⟨fun i => by
    simp only [St.know, getS_cons]
    by_cases hi : d = i
    · rw [if_pos hi]; rfl
    · rw [if_neg hi]; exact h.wf.t i, h.wf.m, h.wf.o, h.wf.ap, h.wf.r, h.wf.d⟩

theorem yielded_some {ops : Array Oper} {tmps : Array Value} {j d : Nat} {b : Bool} (hd : (ops[j]?).bind (·.dst) = some d) (ht : tmps[d]? = some (.bool b)) : yielded ops tmps j = some b := by
  simp [yielded, hd, ht]
theorem yielded_none {ops : Array Oper} {tmps : Array Value} {j d : Nat} (hd : (ops[j]?).bind (·.dst) = some d) (ht : tmps[d]? = some undef) : yielded ops tmps j = none := by
  simp [yielded, hd, ht, undef]

/-- One operation that is wanted is walked soundly. -/
def StepOk (P : Program) (W : World) (R : Nat → Loop) (Z : List Nat) (r : Option Nat) (n : Nat) (c0 : Ctr) (ρ0 : Env) (β0 : Nat → Nat) (step : St → Oper → (St → Env → Prop) → Env → Prop) : Prop :=
  ∀ st o K ρ, step st o K ρ → c0.le st.c → Env.like c0 ρ0 ρ → ∀ β a w, (∀ k, k < c0.nk → β k = β0 k) → Core W R Z ρ β st a w → ∀ (next : Act → World → Prop) (Q' : Exit → Act → World → Prop), Nxt W R Z st ρ β K next → o.wpIn (Fr r) n P a w next Q'

theorem execL_sound {r : Option Nat} {n : Nat} {c0 : Ctr} {ρ0 : Env} {β0 : Nat → Nat} {step : St → Oper → (St → Env → Prop) → Env → Prop} (hs : StepOk P W R Z r n c0 ρ0 β0 step) {ops : Array Oper} {Q' : Exit → Act → World → Prop} {K : St → Env → Prop} :
    ∀ (l : List Oper) (st : St) (ρ : Env), execL (PA P W Q QM) step ops l st K ρ → c0.le st.c → Env.like c0 ρ0 ρ → ∀ β a w, (∀ k, k < c0.nk → β k = β0 k) → Core W R Z ρ β st a w →
      ∀ (next : Act → World → Prop), (∀ a w, next a w → Q' .normal a w) → Nxt W R Z st ρ β K next → wpListIn (Fr r) n P ops Q' l a w
  | [], st, ρ, h, _, _, β, a, w, _, hC, next, hq, hn => hq _ _ (hn st ρ β a w h (Ctr.le_refl _) (Env.like_refl _ _) (fun _ _ => rfl) hC)
  | o :: l, st, ρ, h, hc0, hl0, β, a, w, hb0, hC, next, hq, hn => by
    have IH : ∀ st' : St, st'.c = st.c → Nxt W R Z st' ρ β (fun s => execL (PA P W Q QM) step ops l s K) (wpListIn (Fr r) n P ops Q' l) := by
      intro st' he s ρ2 β2 a2 w2 hk h1 h2 h3 hC2
      rw [he] at h1 h2 h3
      exact execL_sound hs l s ρ2 hk (Ctr.le_trans hc0 h1) (Env.like_trans hc0 hl0 h2) β2 a2 w2 (fun k hk => (h3 k (Nat.lt_of_lt_of_le hk hc0.k)).trans (hb0 k hk)) hC2 next hq (hn.far h1 h2 h3)
    have abt : ∀ f, o.about P w a.eval = some f → (Fr r).fn f := fun f _ => fr_fn r f
    simp only [wpListIn]
    unfold execL at h
    cases hgd : o.guard with
    | none =>
      simp only [hgd] at h
      rw [if_pos (by simp [Region.wanted, hgd])]
      exact hs st o _ ρ h hc0 hl0 β a w hb0 hC _ Q' (IH st rfl)
    | some jw =>
      obtain ⟨j, want⟩ := jw
      simp only [hgd] at h
      generalize hd : (ops[j]?).bind (·.dst) = u at h
      cases u with
      | none => exact h.elim
      | some d =>
        simp only at h
        split at h
        · rename_i hlt
          generalize hg : getS st.t d = sv at h
          split at h
          · rename_i e
            have ht : a.tmps[d]? = some (.bool (e.den ρ)) := by
              have := hC.tmps d (by rw [hg]; simp)
              rw [hg] at this
              exact this
            have hy := yielded_some (b := e.den ρ) hd ht
            have put : ∀ (b : Bool), e.den ρ = b → (St.put (PA P W Q QM) (st.know d b) o.dst .und st.c fun s => execL (PA P W Q QM) step ops l s K) ρ → wpListIn (Fr r) n P ops Q' l (a.put o.dst undef) w := fun b hb hp =>
              put_sound (st := st.know d b) (st0 := st) (ρ0 := ρ) hp (hC.know hg hb) (Ctr.le_refl _) (Ctr.le_refl _) (Env.like_refl _ _) (fun _ _ => rfl) (fun _ => rfl) (IH st rfl)
            have go : ∀ (b : Bool), e.den ρ = b → step (st.know d b) o (fun s => execL (PA P W Q QM) step ops l s K) ρ → o.wpIn (Fr r) n P a w (wpListIn (Fr r) n P ops Q' l) Q' := fun b hb hp =>
              hs (st.know d b) o _ ρ hp hc0 hl0 β a w hb0 (hC.know hg hb) _ Q' (IH (st.know d b) rfl)
            rcases doFork_sound h with ⟨hb, h⟩ | ⟨hb, h⟩
            · cases want with
              | true =>
                simp only [if_true] at h
                rw [if_pos (by simp [Region.wanted, hgd, hy, hb])]
                exact go true hb h
              | false =>
                simp only [Bool.false_eq_true, if_false] at h
                rw [if_neg (by simp [Region.wanted, hgd, hy, hb])]
                exact ⟨abt, put true hb h⟩
            · cases want with
              | true =>
                simp only [if_true] at h
                rw [if_neg (by simp [Region.wanted, hgd, hy, hb])]
                exact ⟨abt, put false hb h⟩
              | false =>
                simp only [Bool.false_eq_true, if_false] at h
                rw [if_pos (by simp [Region.wanted, hgd, hy, hb])]
                exact go false hb h
          · have ht : a.tmps[d]? = some undef := by
              have := hC.tmps d (by rw [hg]; simp)
              rw [hg] at this
              exact this
            have hy := yielded_none hd ht
            rw [if_neg (by simp [Region.wanted, hgd, hy])]
            exact ⟨abt, put_sound (st0 := st) (ρ0 := ρ) h hC (Ctr.le_refl _) (Ctr.le_refl _) (Env.like_refl _ _) (fun _ _ => rfl) (fun _ => rfl) (IH st rfl)⟩
          · exact h.elim
        · exact h.elim

/-- A function's body, walked from its entry, is a call. -/
def InlOk (G : Cfg) (W : World) (R : Nat → Loop) (Z : List Nat) (c0 : Ctr) (ρ0 : Env) (β0 : Nat → Nat) (inl : Inl (Env → Prop)) : Prop :=
  ∀ f args s (K' : SV → St → Env → Prop) ρ, inl f args s K' ρ → args.all (SV.wf s.c) = true → c0.le s.c → Env.like c0 ρ0 ρ → ∀ β a w, (∀ k, k < c0.nk → β k = β0 k) → Core W R Z ρ β s a w → ∀ next' : Value → World → Prop,
    (∀ v s' ρ' β' w', K' v s' ρ' → v.wf s'.c = true → v ≠ .any → s.c.le s'.c → Env.like s.c ρ ρ' → (∀ k, k < s.c.nk → β' k = β k) → Core W R Z ρ' β' s' a w' → next' (v.den ρ' β') w') →
    Calls G.P f (args.map (SV.den ρ β)).toArray w fun e w' => ∃ v, e = .returned v ∧ next' v w'
/-- A call of yield is a round. -/
def YlOk (P : Program) (W : World) (R : Nat → Loop) (c0 : Ctr) (ρ0 : Env) (β0 : Nat → Nat) (yl : Yl (Env → Prop)) : Prop :=
  ∀ k args s (K' : SV → St → Env → Prop) ρ, yl k args s K' ρ → args.all (SV.wf s.c) = true → c0.le s.c → Env.like c0 ρ0 ρ → ∀ R' : Nat → Loop, (∀ k, k < c0.nk → R' k = R k) → ∀ Z β a w, (∀ k, k < c0.nk → β k = β0 k) → Core W R' Z ρ β s a w →
    ∀ (r : Option Nat) (n : Nat) (next' : Value → World → Prop),
    (∀ v s' ρ' β' w', K' v s' ρ' → v.wf s'.c = true → v ≠ .any → s.c.le s'.c → Env.like s.c ρ ρ' → (∀ k, k < s.c.nk → β' k = β k) → Core W R' Z ρ' β' s' a w' → next' (v.den ρ' β') w') →
    ∃ l fn tmps assign body, (Instr.yield (β k) (args.map (SV.den ρ β)).toArray).run P w = .ok (.round l fn tmps assign body) w ∧ RoundIn (Fr r) n P l fn tmps assign body w fun e w' => ∃ v, e = .returned v ∧ next' v w'
theorem YlOk.far {c0 c1 : Ctr} {ρ0 ρ1 : Env} {β0 β1 : Nat → Nat} {R1 : Nat → Loop} {yl : Yl (Env → Prop)} (h : YlOk P W R c0 ρ0 β0 yl) (hc : c0.le c1) (hl : Env.like c0 ρ0 ρ1) (hb : ∀ k, k < c0.nk → β1 k = β0 k) (hR : ∀ k, k < c0.nk → R1 k = R k) : YlOk P W R1 c1 ρ1 β1 yl :=
  fun k args s K' ρ hy hw h1 h2 R' h3 Z β a w h4 => h k args s K' ρ hy hw (Ctr.le_trans hc h1) (Env.like_trans hc hl h2) R' (fun k hk => (h3 k (Nat.lt_of_lt_of_le hk hc.k)).trans (hR k hk)) Z β a w (fun k hk => (h4 k (Nat.lt_of_lt_of_le hk hc.k)).trans (hb k hk))

theorem opm_defer {G : Cfg} {st : St} {o : Oper} {K : St → Env → Prop} {ρ : Env} (h : opm (PA G.P W Q QM) G st o K ρ) : ∀ c, o.op ≠ .defer c := by
  intro c he
  unfold opm at h
  simp only [he] at h
  unfold opv at h
  simp only [he] at h
  exact h
theorem opa_defer {G : Cfg} {st : St} {o : Oper} {K : St → Env → Prop} {ρ : Env} (h : opa (PA G.P W Q QM) G st o K ρ) : ∀ c, o.op ≠ .defer c := by
  intro c he
  unfold opa at h
  simp only [he] at h
  exact h
theorem opw_defer {G : Cfg} {st : St} {o : Oper} {K : St → Env → Prop} {ρ : Env} (h : opw (PA G.P W Q QM) G st o K ρ) : ∀ c, o.op ≠ .defer c := by
  intro c he
  unfold opw at h
  simp only [he] at h
  exact h

theorem stepO_sound {G : Cfg} (hG : G.Ok) {r : Option Nat} {n : Nat} {c0 : Ctr} {ρ0 : Env} {β0 : Nat → Nat} {inl : Inl (Env → Prop)} {yl : Yl (Env → Prop)} (hI : InlOk G W R Z c0 ρ0 β0 inl) (hY : YlOk G.P W R c0 ρ0 β0 yl) :
    StepOk G.P W R Z r n c0 ρ0 β0 (stepO (PA G.P W Q QM) G inl yl) := by
  intro st o K ρ h hc0 hl0 β a w hb0 hC next Q' hn
  have memo : opm (PA G.P W Q QM) G st o K ρ → o.wpIn (Fr r) n G.P a w next Q' := fun h => wpIn_of_wp r n (opm_defer h) (rsv_step (opm_resolve hG hC.wf h) hC hn Q')
  have rowo : opw (PA G.P W Q QM) G st o K ρ → o.wpIn (Fr r) n G.P a w next Q' := fun h => wpIn_of_wp r n (opw_defer h) (rsv_step (opw_resolve hC.wf h) hC hn Q')
  have appo : opa (PA G.P W Q QM) G st o K ρ → o.wpIn (Fr r) n G.P a w next Q' := fun h => wpIn_of_wp r n (opa_defer h) (rsv_step (opa_resolve hC.wf h) hC hn Q')
  obtain ⟨dst, op, type, pos, after, guard⟩ := o
  unfold stepO at h
  cases op <;> first | exact memo h | skip
  case makeSlice t l cp => exact rowo h
  case buildSlice t len parts =>
    simp only at h
    split at h
    · exact rowo h
    · exact memo h
  case slice t x lo hi mx =>
    cases mx with
    | none => exact memo h
    | some m => exact rowo h
  case store t x y =>
    simp only at h
    generalize hx : st.ev x = sx at h
    split at h
    · exact rowo h
    · exact memo h
  case call cl =>
    obtain ⟨callee, args, argTypes⟩ := cl
    cases callee <;> first | exact memo h | skip
    case builtin b =>
      cases b <;> first | exact memo h | skip
      exact appo h
    case value g =>
      have inlined : ∀ (f : FuncId) (first caps : List (Nat × Nat)) (all : List SV), all = first.map locSV ++ (args.toList.map st.ev ++ caps.map locSV) → st.ev g ≠ .any → (st.ev g).wf st.c = true →
          (∀ x ∈ first, x.1 < st.c.nk) → (∀ x ∈ caps, x.1 < st.c.nk) →
          ((st.ev g).den ρ β = .func (.func f) (first.map fun c => .pointer (some ⟨β c.1, c.2, none⟩)).toArray (caps.map fun c => .pointer (some ⟨β c.1, c.2, none⟩)).toArray) →
          G.inl.contains f = true → ¬ (args.toList.map st.ev).any svAny = true → inl f all st (fun v s => St.put (PA G.P W Q QM) s dst v s.c K) ρ → (⟨dst, .call ⟨.value g, args, argTypes⟩, type, pos, after, guard⟩ : Oper).wpIn (Fr r) n G.P a w next Q' := by
        intro f first caps all hall hgany _ hfw hcw hgden hf hany h
        have eg := hC.eval g hgany
        rw [hgden] at eg
        have ea : (args.map a.eval).toList = (args.toList.map st.ev).map (SV.den ρ β) := by
          rw [Array.toList_map]
          exact args_eval _ fun x hx => hC.eval x (by
            intro he
            exact hany (List.any_eq_true.2 ⟨_, List.mem_map.2 ⟨x, hx, rfl⟩, by rw [he]; rfl⟩))
        have ec : (first.map fun c => (.pointer (some ⟨β c.1, c.2, none⟩) : Value)).toArray ++ args.map a.eval ++ (caps.map fun c => (.pointer (some ⟨β c.1, c.2, none⟩) : Value)).toArray = (all.map (SV.den ρ β)).toArray := by
          apply Array.ext'
          rw [Array.toList_append, Array.toList_append, ea, hall]
          simp [SV.den, CV.den, At.den, locSV, Function.comp_def]
        have hx : (execOp a.eval ⟨dst, .call ⟨.value g, args, argTypes⟩, type, pos, after, guard⟩).run G.P w = (callFunc f (all.map (SV.den ρ β)).toArray).run G.P w := by
          simp only [execOp, resolve, eg, Deferred.ofValue, Sem.run_bind, Sem.run_pure, Result.andThen_ok, invoke]
          rw [← ec]
        have locw : ∀ {l : List (Nat × Nat)}, (∀ x ∈ l, x.1 < st.c.nk) → ∀ x ∈ l.map locSV, x.wf st.c = true := fun hl x hx => by
          obtain ⟨y, hy, rfl⟩ := List.mem_map.1 hx
          exact decide_eq_true (hl y hy)
        have hw : all.all (SV.wf st.c) = true := by
          rw [hall]
          refine List.all_eq_true.2 fun x hx => ?_
          rcases List.mem_append.1 hx with hx | hx
          · exact locw hfw x hx
          · rcases List.mem_append.1 hx with hx | hx
            · obtain ⟨y, _, rfl⟩ := List.mem_map.1 hx
              exact hC.wf.ev y
            · exact locw hcw x hx
        refine wpIn_of_wp r n (by simp) ?_
        unfold Oper.wp
        rw [hx, hG.inl f hf, Oper.upon_enter]
        refine (hI f _ st _ ρ h hw hc0 hl0 β a w hb0 hC (fun v w' => next (a.put dst v) w') ?_).mono fun e w' he => by
          obtain ⟨v, rfl, hv⟩ := he
          exact hv
        intro v s' ρ' β' w' hk hwv hva hle hl hb hC'
        exact put_sound (st := s') (st0 := st) (ρ0 := ρ) hk hC' (Ctr.le_refl _) hle hl hb (fun _ => rfl) hn
      simp only at h
      have hwg := hC.wf.ev g
      generalize hg : st.ev g = sg at h
      split at h
      · rename_i f caps
        split at h
        · rename_i hf
          split at h
          · exact h.elim
          · rename_i hany
            rw [hg] at hwg
            exact inlined f [] caps _ (by simp) (by rw [hg]; simp) (by rw [hg]; exact hwg) (by simp) (fun x hx => by simpa using List.all_eq_true.1 hwg x hx) (by rw [hg]; rfl) hf hany h
        · exact memo h
      · rename_i f first caps
        split at h
        · rename_i hf
          split at h
          · exact h.elim
          · rename_i hany
            rw [hg] at hwg
            have hwg2 : ((first.all fun x => decide (x.1 < st.c.nk)) && caps.all fun x => decide (x.1 < st.c.nk)) = true := hwg
            simp only [Bool.and_eq_true] at hwg2
            exact inlined f first caps _ rfl (by rw [hg]; simp) (by rw [hg]; exact hwg) (fun x hx => by simpa using List.all_eq_true.1 hwg2.1 x hx) (fun x hx => by simpa using List.all_eq_true.1 hwg2.2 x hx) (by rw [hg]; rfl) hf hany h
        · exact memo h
      · rename_i k
        split at h
        · exact h.elim
        · rename_i hany
          have eg := hC.eval g (by rw [hg]; simp)
          rw [hg] at eg
          have ea : args.map a.eval = ((args.toList.map st.ev).map (SV.den ρ β)).toArray := by
            apply Array.ext'
            rw [Array.toList_map]
            exact args_eval _ fun x hx => hC.eval x (by
              intro he
              exact hany (List.any_eq_true.2 ⟨_, List.mem_map.2 ⟨x, hx, rfl⟩, by rw [he]; rfl⟩))
          have hw : (args.toList.map st.ev).all (SV.wf st.c) = true := List.all_eq_true.2 fun x hx => by
            obtain ⟨y, _, rfl⟩ := List.mem_map.1 hx
            exact hC.wf.ev y
          obtain ⟨l, fn, tmps, assign, body, hy, hR⟩ := hY k _ st _ ρ h hw hc0 hl0 R (fun _ _ => rfl) Z β a w hb0 hC r (n - 1) (fun v w' => next (a.put dst v) w') (fun v s' ρ' β' w' hk hwv hva hle hl hb hC' =>
            put_sound (st := s') (st0 := st) (ρ0 := ρ) hk hC' (Ctr.le_refl _) hle hl hb (fun _ => rfl) hn)
          refine ⟨fun f _ => fr_fn r f, ?_⟩
          rw [Oper.semAt_eq _ _ _ (by simp)]
          have hx : (execOp a.eval ⟨dst, .call ⟨.value g, args, argTypes⟩, type, pos, after, guard⟩).run G.P w = .ok (.round l fn tmps assign body) w := by
            simp only [execOp, resolve, eg, SV.den, CV.den, At.den, Deferred.ofValue, Sem.run_bind, Sem.run_pure, Result.andThen_ok, invoke, ea]
            simpa using hy
          rw [hx, Oper.uponIn_round]
          refine ⟨fr_depth, hR.mono fun e w' he => ?_⟩
          obtain ⟨v, rfl, hv⟩ := he
          exact hv
      · exact h.elim
end Vc
