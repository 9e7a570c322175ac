/- Vc, part L: code is walked soundly. No program in sight. -/
import Derived.Test.YtdhiapllbjamfaaVcK
set_option linter.unusedVariables false
set_option linter.unusedSimpArgs false
namespace Vc
open Go Go.RowKit
variable {P : Program} {W : World} {Q : Value → Prop} {QM : World → Value → Prop}

theorem run_loadVar_of {t : TypeId} {cs : List At} {off : Nat} {v : CV} (h : partOf P t cs off = some v) (ρ : Env) (β : Nat → Nat) (w : World) (b : Nat) (ty : TypeId) (hb : w.heap[b]? = some (.cells (cs.map (At.den ρ β)).toArray ty)) :
    (loadVar t ⟨b, off, none⟩).run P w = .ok (v.den ρ β) w := by
  unfold partOf at h
  generalize hz : szAgg P t = u at h
  split at h
  · rename_i n
    split at h
    · rename_i hl
      simp only [Option.some.injEq] at h
      subst h
      have := run_load_agg hz w b off (((cs.drop off).take n).map (At.den ρ β)) (by simp; omega) (fun j v hj => by
        rw [cell_of_heap hb]
        simp only [List.getElem?_map, Option.map_eq_some_iff] at hj
        obtain ⟨a, ha, rfl⟩ := hj
        have hj2 : j < n := by
          rcases Nat.lt_or_ge j n with h' | h'
          · exact h'
          · rw [List.getElem?_eq_none (by simp; omega)] at ha; cases ha
        rw [List.getElem?_take_of_lt hj2, List.getElem?_drop] at ha
        simp [ha])
      exact this
    · cases h
  · rename_i n
    simp only [Option.map_eq_some_iff] at h
    obtain ⟨a, ha, rfl⟩ := h
    have := run_load_one hz w b off (a.den ρ β) (by rw [cell_of_heap hb]; simp [ha])
    exact this
  · cases h

theorem partOf_wf {t : TypeId} {cs : List At} {off : Nat} {v : CV} {c : Ctr} (h : partOf P t cs off = some v) (hw : cs.all (At.wf c) = true) : v.wf c = true := by
  unfold partOf at h
  generalize szAgg P t = u at h
  split at h
  · split at h
    · simp only [Option.some.injEq] at h
      subst h
      exact (all_split (all_split hw off).2 _).1
    · cases h
  · simp only [Option.map_eq_some_iff] at h
    obtain ⟨a, ha, rfl⟩ := h
    exact List.all_eq_true.1 hw a (List.mem_of_getElem? ha)
  · cases h

def resOne (tmps : Array Value) : ResultVar → Sem Value
  | .tmp t => pure (tmps.getD t undef)
  | .cell a t => do loadVar t (← asAddr (tmps.getD a undef))

theorem resOf_sound {ρ : Env} {β : Nat → Nat} {st : St} {a : Act} {w : World} (hC : Core W ρ β st a w) : ∀ (l : List ResultVar) {cs : List CV}, resOf P st l = some cs →
    (l.mapM (resOne a.tmps)).run P w = .ok (cs.map (CV.den ρ β)) w ∧ cs.all (CV.wf st.c) = true
  | [], cs, h => by simp only [resOf, Option.some.injEq] at h; subst h; simp
  | .tmp t :: r, cs, h => by
    simp only [resOf] at h
    split at h
    · rename_i v l h1 h2
      simp only [Option.some.injEq] at h
      subst h
      obtain ⟨q1, q2⟩ := resOf_sound hC r h2
      have e := hC.tmps t (by rw [h1]; simp)
      have wv := hC.wf.t t
      rw [h1] at e wv
      simp only [List.mapM_cons, resOne, Sem.run_bind, Sem.run_pure, Result.andThen_ok, q1, Array.getD_eq_getD_getElem?, e, Option.getD_some, SV.den, List.map_cons, true_and]
      simp only [List.all_cons, q2, Bool.and_true]
      exact wv
    · cases h
  | .cell x t :: r, cs, h => by
    simp only [resOf] at h
    split at h
    · rename_i k off l h1 h2
      split at h
      · rename_i c ty h3
        split at h
        · rename_i v h4
          simp only [Option.some.injEq] at h
          subst h
          obtain ⟨q1, q2⟩ := resOf_sound hC r h2
          have e := hC.tmps x (by rw [h1]; simp)
          rw [h1] at e
          obtain ⟨m1, m2⟩ := hC.mem k c ty h3
          have hl := run_loadVar_of h4 ρ β w (β k) ty m2
          have e2 : a.tmps.getD x undef = .pointer (some ⟨β k, off, none⟩) := by
            simp only [Array.getD_eq_getD_getElem?, e, Option.getD_some, SV.den, CV.den, At.den]
          simp only [List.mapM_cons, resOne, Sem.run_bind, Sem.run_pure, Result.andThen_ok, e2, asAddr, hl, q1, List.map_cons, true_and]
          simp only [List.all_cons, q2, Bool.and_true]
          exact partOf_wf h4 (hC.wf.m k c ty h3).2
        · cases h
      · cases h
    · cases h

theorem results_sound {fn : Func} {ρ : Env} {β : Nat → Nat} {st : St} {a : Act} {w : World} (hC : Core W ρ β st a w) {cs : List CV} (h : resOf P st fn.results.toList = some cs) :
    (results fn a.tmps).run P w = .ok ((resV cs).den ρ β) w ∧ (resV cs).wf st.c = true := by
  obtain ⟨q1, q2⟩ := resOf_sound hC _ h
  refine ⟨?_, resV_wf q2⟩
  have hf : (results fn a.tmps) = (do let vs ← fn.results.mapM (resOne a.tmps); pure (if h : vs.size = 1 then vs[0] else .tuple vs)) := by
    unfold results
    congr 1
  rw [hf, Array.mapM_eq_mapM_toList]
  simp only [Sem.run_bind, Sem.run_map, q1, Result.andThen_ok, Sem.run_pure]
  unfold resV
  match cs with
  | [] => simp [SV.den]
  | [c] => simp [SV.den]
  | c :: d :: r => simp [SV.den]

theorem getS_zip : ∀ (args : List SV) (n i : Nat), getS ((List.range' n args.length).zip args) i = if n ≤ i then (args[i - n]?).getD .any else .any
  | [], n, i => by simp [getS]
  | v :: r, n, i => by
    simp only [List.length_cons, List.range'_succ, List.zip_cons_cons, getS_cons]
    by_cases h : n = i
    · subst h; simp
    · rw [if_neg h, getS_zip r (n + 1) i]
      by_cases h2 : n ≤ i
      · rw [if_pos (by omega), if_pos h2]
        rw [show i - n = (i - (n + 1)) + 1 by omega]
        simp
      · rw [if_neg (by omega), if_neg h2]
theorem getS_args (args : List SV) (i : Nat) : getS ((List.range args.length).zip args) i = (args[i]?).getD .any := by
  have := getS_zip args 0 i
  rw [List.range_eq_range']
  simpa using this

/-- The state at a function's entry. -/
theorem core_enter {ρ : Env} {β : Nat → Nat} {args : List SV} {n : Nat} {m : Mem} {c : Ctr} {w : World} (hw : args.all (SV.wf c) = true) (hB : Below W.heap.size W w)
    (hm : ∀ k cs t, getM m k = some (cs, t) → W.heap.size ≤ β k ∧ w.heap[β k]? = some (.cells (cs.map (At.den ρ β)).toArray t))
    (hi : ∀ k k' x y, getM m k = some x → getM m k' = some y → β k = β k' → k = k')
    (hwm : ∀ k cs t, getM m k = some (cs, t) → k < c.nk ∧ cs.all (At.wf c) = true) :
    Core W ρ β { t := (List.range args.length).zip args, n := args.length + (n - args.length), m := m, c := c }
      { tmps := (args.map (SV.den ρ β)).toArray ++ Array.replicate (n - (args.map (SV.den ρ β)).toArray.size) undef, defers := [] } w where
  size := by simp
  tmps i hn := by
    simp only [getS_args] at hn ⊢
    cases hi : args[i]? with
    | none => rw [hi] at hn; exact (hn rfl).elim
    | some v =>
      have hlt : i < args.length := (List.getElem?_eq_some_iff.1 hi).1
      rw [Array.getElem?_append_left (by simpa using hlt)]
      simp [hi]
  dfr := rfl
  below := hB
  mem := hm
  inj := hi
  wf := ⟨fun i => by
    simp only [getS_args]
    cases hi : args[i]? with
    | none => rfl
    | some v => exact List.all_eq_true.1 hw v (List.mem_of_getElem? hi), hwm⟩

def Ex.to : Ex → Exit
  | .normal => .normal
  | .exit id => .exit id
  | .ret => .ret

def NxtE (W : World) (st : St) (ρ : Env) (β : Nat → Nat) (K : Ex → St → Env → Prop) (Q' : Exit → Act → World → Prop) : Prop :=
  ∀ e st' ρ' β' a' w', K e st' ρ' → st.c.le st'.c → Env.like st.c ρ ρ' → (∀ k, k < st.c.nk → β' k = β k) → Core W ρ' β' st' a' w' → Q' e.to a' w'
theorem NxtE.far {st st' : St} {ρ ρ' : Env} {β β' : Nat → Nat} {K : Ex → St → Env → Prop} {Q' : Exit → Act → World → Prop} (h : NxtE W st ρ β K Q') (hc : st.c.le st'.c) (hl : Env.like st.c ρ ρ') (hb : ∀ k, k < st.c.nk → β' k = β k) : NxtE W st' ρ' β' K Q' :=
  fun e s ρ2 β2 a w hk h1 h2 h3 hC => h e s ρ2 β2 a w hk (Ctr.le_trans hc h1) (Env.like_trans hc hl h2) (fun k hk => (h3 k (Nat.lt_of_lt_of_le hk hc.2.2.2.2)).trans (hb k hk)) hC

/-- A function's body, walked from its entry, is a call. -/
def InlOk (G : Cfg) (W : World) (inl : Inl (Env → Prop)) : Prop :=
  ∀ f args s (K' : SV → St → Env → Prop) ρ, inl f args s K' ρ → args.all (SV.wf s.c) = true → ∀ β a w, Core W ρ β s a w → ∀ next' : Value → World → Prop,
    (∀ v s' ρ' β' w', K' v s' ρ' → v.wf s'.c = true → v ≠ .any → s.c.le s'.c → Env.like s.c ρ ρ' → (∀ k, k < s.c.nk → β' k = β k) → Core W ρ' β' s' a w' → next' (v.den ρ' β') w') →
    Calls G.P f (args.map (SV.den ρ β)).toArray w fun e w' => ∃ v, e = .returned v ∧ next' v w'

theorem stepO_sound {G : Cfg} (hG : G.Ok) {inl : Inl (Env → Prop)} (hI : InlOk G W inl) : StepOk G.P W (stepO (PA G.P W Q QM) G inl) := by
  intro st o K ρ h β a w hC next Q' hn
  obtain ⟨dst, op, type, pos, after, guard⟩ := o
  unfold stepO at h
  cases op
  case call cl =>
    obtain ⟨callee, args, argTypes⟩ := cl
    cases callee
    case value g =>
      simp only at h
      generalize hg : st.ev g = sg at h
      split at h
      · rename_i f caps
        split at h
        · rename_i hf
          split at h
          · exact h.elim
          · rename_i hany
            have eg := hC.eval g (by rw [hg]; simp)
            rw [hg] at eg
            have ea : (args.map a.eval).toList = (args.toList.map st.ev).map (SV.den ρ β) := by
              rw [Array.toList_map]
              exact args_eval _ fun x hx => hC.eval x (by
                intro he
                exact hany (List.any_eq_true.2 ⟨_, List.mem_map.2 ⟨x, hx, rfl⟩, by rw [he]; rfl⟩))
            have ec : args.map a.eval ++ (caps.map fun c => (.pointer (some ⟨β c.1, c.2, none⟩) : Value)).toArray =
                (((args.toList.map st.ev) ++ caps.map fun x => SV.cv (.one (.loc x.1 x.2))).map (SV.den ρ β)).toArray := by
              apply Array.ext'
              rw [Array.toList_append, ea]
              simp [SV.den, CV.den, At.den, Function.comp_def]
            have hx : (execOp a.eval ⟨dst, .call ⟨.value g, args, argTypes⟩, type, pos, after, guard⟩).run G.P w =
                (callFunc f (((args.toList.map st.ev) ++ caps.map fun x => SV.cv (.one (.loc x.1 x.2))).map (SV.den ρ β)).toArray).run G.P w := by
              simp only [execOp, resolve, eg, SV.den, CV.den, At.den, Deferred.ofValue, Sem.run_bind, Sem.run_pure, Result.andThen_ok, invoke]
              rw [← ec]
              simp
            have hw : ((args.toList.map st.ev) ++ caps.map fun x => SV.cv (.one (.loc x.1 x.2))).all (SV.wf st.c) = true := by
              rw [List.all_append, Bool.and_eq_true]
              refine ⟨List.all_eq_true.2 fun x hx => ?_, List.all_eq_true.2 fun x hx => ?_⟩
              · obtain ⟨y, _, rfl⟩ := List.mem_map.1 hx
                exact hC.wf.ev y
              · obtain ⟨y, hy, rfl⟩ := List.mem_map.1 hx
                have := hC.wf.ev g
                rw [hg] at this
                exact List.all_eq_true.1 this y hy
            unfold Oper.wp
            rw [hx, hG.inl f hf, Oper.upon_enter]
            refine (hI f _ st _ ρ h hw β a w hC (fun v w' => next (a.put dst v) w') ?_).mono fun e w' he => by
              obtain ⟨v, rfl, hv⟩ := he
              exact hv
            intro v s' ρ' β' w' hk hwv hva hle hl hb hC'
            exact put_sound (st := s') (st0 := st) (ρ0 := ρ) hk hC' hle hl hb (fun _ => rfl) hn
        · exact opm_sound hG h hC hn Q'
      · exact h.elim
    all_goals exact opm_sound hG h hC hn Q'
  all_goals exact opm_sound hG h hC hn Q'

/-- Regions whose order is left open. -/
def DrawOk (G : Cfg) (W : World) (Q : Value → Prop) (QM : World → Value → Prop) : Prop :=
  ∀ id ops st (K : St → Env → Prop) ρ, drawnX (PA G.P W Q QM) G ops st K ρ → ∀ β a w, Core W ρ β st a w → ∀ (next : Act → World → Prop) (Q' : Exit → Act → World → Prop), (∀ a w, next a w → Q' .normal a w) → Nxt W st ρ β K next →
    (Code.region id ops true).wp G.P Q' a w
end Vc
