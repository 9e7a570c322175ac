/- Vc, part L: functions are entered and left soundly. No program in sight. -/
import Derived.Test.YtdhiapllbjamfaaVcK
import Derived.RangeFuncLeaves
import Derived.RangeFuncNested
set_option linter.unusedVariables false
set_option linter.unusedSimpArgs false
namespace Vc
open Go Go.RowKit
variable {P : Program} {W : World} {Q : Value → Prop} {QM : World → Value → Prop} {R : Nat → Loop} {Z : List Nat}

theorem run_loadVar_of {t : TypeId} {cs : List At} {off : Nat} {v : CV} (h : partOf P t cs off = some v) (ρ : Env) (β : Nat → Nat) (w : World) (b : Nat) (ty : TypeId) (hb : w.heap[b]? = some (.cells (cs.map (At.den ρ β)).toArray ty)) :
    (loadVar t ⟨b, off, none⟩).run P w = .ok (v.den ρ β) w := by
  unfold partOf at h
  generalize hz : szAgg P t = u at h
  split at h
  · rename_i n
    split at h
    · rename_i hl
      simp only [Option.some.injEq] at h
      subst h
      have := run_load_agg hz w b off (((cs.drop off).take n).map (At.den ρ β)) (by simp; omega) (fun j v hj => by
        rw [cell_of_heap hb]
        simp only [List.getElem?_map, Option.map_eq_some_iff] at hj
        obtain ⟨a, ha, rfl⟩ := hj
        have hj2 : j < n := by
          rcases Nat.lt_or_ge j n with h' | h'
          · exact h'
          · rw [List.getElem?_eq_none (by simp; omega)] at ha; cases ha
        rw [List.getElem?_take_of_lt hj2, List.getElem?_drop] at ha
        simp [ha])
      exact this
    · cases h
  · rename_i n
    simp only [Option.map_eq_some_iff] at h
    obtain ⟨a, ha, rfl⟩ := h
    have := run_load_one hz w b off (a.den ρ β) (by rw [cell_of_heap hb]; simp [ha])
    exact this
  · cases h

theorem partOf_wf {t : TypeId} {cs : List At} {off : Nat} {v : CV} {c : Ctr} (h : partOf P t cs off = some v) (hw : cs.all (At.wf c) = true) : v.wf c = true := by
  unfold partOf at h
  generalize szAgg P t = u at h
  split at h
  · split at h
    · simp only [Option.some.injEq] at h
      subst h
      exact (all_split (all_split hw off).2 _).1
    · cases h
  · simp only [Option.map_eq_some_iff] at h
    obtain ⟨a, ha, rfl⟩ := h
    exact List.all_eq_true.1 hw a (List.mem_of_getElem? ha)
  · cases h

def resOne (tmps : Array Value) : ResultVar → Sem Value
  | .tmp t => pure (tmps.getD t undef)
  | .cell a t => do loadVar t (← asAddr (tmps.getD a undef))

theorem resOf_sound {ρ : Env} {β : Nat → Nat} {st : St} {a : Act} {w : World} (hC : Core W R Z ρ β st a w) : ∀ (l : List ResultVar) {cs : List CV}, resOf P st l = some cs →
    (l.mapM (resOne a.tmps)).run P w = .ok (cs.map (CV.den ρ β)) w ∧ cs.all (CV.wf st.c) = true
  | [], cs, h => by simp only [resOf, Option.some.injEq] at h; subst h; simp
  | .tmp t :: r, cs, h => by
    simp only [resOf] at h
    split at h
    · rename_i v l h1 h2
      simp only [Option.some.injEq] at h
      subst h
      obtain ⟨q1, q2⟩ := resOf_sound hC r h2
      have e := hC.tmps t (by rw [h1]; simp)
      have wv := hC.wf.t t
      rw [h1] at e wv
      simp only [List.mapM_cons, resOne, Sem.run_bind, Sem.run_pure, Result.andThen_ok, q1, Array.getD_eq_getD_getElem?, e, Option.getD_some, SV.den, List.map_cons, true_and]
      simp only [List.all_cons, q2, Bool.and_true]
      exact wv
    · cases h
  | .cell x t :: r, cs, h => by
    simp only [resOf] at h
    split at h
    · rename_i k off l h1 h2
      split at h
      · rename_i c ty h3
        split at h
        · rename_i v h4
          simp only [Option.some.injEq] at h
          subst h
          obtain ⟨q1, q2⟩ := resOf_sound hC r h2
          have e := hC.tmps x (by rw [h1]; simp)
          rw [h1] at e
          obtain ⟨m1, m2⟩ := hC.fix h3
          have hl := run_loadVar_of h4 ρ β w (β k) ty m2
          have e2 : a.tmps.getD x undef = .pointer (some ⟨β k, off, none⟩) := by
            simp only [Array.getD_eq_getD_getElem?, e, Option.getD_some, SV.den, CV.den, At.den]
          simp only [List.mapM_cons, resOne, Sem.run_bind, Sem.run_pure, Result.andThen_ok, e2, asAddr, hl, q1, List.map_cons, true_and]
          simp only [List.all_cons, q2, Bool.and_true]
          exact partOf_wf h4 (hC.wf.m k c ty h3).2
        · cases h
      · cases h
    · cases h

theorem results_sound {fn : Func} {ρ : Env} {β : Nat → Nat} {st : St} {a : Act} {w : World} (hC : Core W R Z ρ β st a w) {cs : List CV} (h : resOf P st fn.results.toList = some cs) :
    (results fn a.tmps).run P w = .ok ((resV cs).den ρ β) w ∧ (resV cs).wf st.c = true := by
  obtain ⟨q1, q2⟩ := resOf_sound hC _ h
  refine ⟨?_, resV_wf q2⟩
  have hf : (results fn a.tmps) = (do let vs ← fn.results.mapM (resOne a.tmps); pure (if h : vs.size = 1 then vs[0] else .tuple vs)) := by
    unfold results
    congr 1
  rw [hf, Array.mapM_eq_mapM_toList]
  simp only [Sem.run_bind, Sem.run_map, q1, Result.andThen_ok, Sem.run_pure]
  unfold resV
  match cs with
  | [] => simp [SV.den]
  | [c] => simp [SV.den]
  | c :: d :: r => simp [SV.den]

theorem getS_zip : ∀ (args : List SV) (n i : Nat), getS ((List.range' n args.length).zip args) i = if n ≤ i then (args[i - n]?).getD .any else .any
  | [], n, i => by simp [getS]
  | v :: r, n, i => by
    simp only [List.length_cons, List.range'_succ, List.zip_cons_cons, getS_cons]
    by_cases h : n = i
    · subst h; simp
    · rw [if_neg h, getS_zip r (n + 1) i]
      by_cases h2 : n ≤ i
      · rw [if_pos (by omega), if_pos h2]
        rw [show i - n = (i - (n + 1)) + 1 by omega]
        simp
      · rw [if_neg (by omega), if_neg h2]
theorem getS_args (args : List SV) (i : Nat) : getS ((List.range args.length).zip args) i = (args[i]?).getD .any := by
  have := getS_zip args 0 i
  rw [List.range_eq_range']
  simpa using this

/-- The state at a function's entry. -/
theorem core_enter {ρ : Env} {β : Nat → Nat} {args : List SV} {n : Nat} {st : St} {a : Act} {w : World} (hC : Core W R Z ρ β st a w) (hw : args.all (SV.wf st.c) = true) :
    Core W R (Z ++ st.d.map β) ρ β { t := (List.range args.length).zip args, n := args.length + (n - args.length), m := st.m, c := st.c, o := st.o, r := st.r, d := [] }
      { tmps := (args.map (SV.den ρ β)).toArray ++ Array.replicate (n - (args.map (SV.den ρ β)).toArray.size) undef, defers := [] } w where
  size := by simp
  tmps i hn := by
    simp only [getS_args] at hn ⊢
    cases hi : args[i]? with
    | none => rw [hi] at hn; exact (hn rfl).elim
    | some v =>
      have hlt : i < args.length := (List.getElem?_eq_some_iff.1 hi).1
      rw [Array.getElem?_append_left (by simpa using hlt)]
      simp [hi]
  dfr := rfl
  below := hC.below
  mem := hC.mem
  inj := hC.inj
  lps := hC.lps
  rin := hC.rin
  ded b hb := hC.ded b (by simpa using hb)
  dn := by simpa using hC.dn
  wf := ⟨fun i => by
    simp only [getS_args]
    cases hi : args[i]? with
    | none => rfl
    | some v => exact List.all_eq_true.1 hw v (List.mem_of_getElem? hi), hC.wf.m, hC.wf.o, hC.wf.ap, hC.wf.r, fun k hk => by cases hk⟩
/-- No frame yet. -/
theorem core_first {ρ : Env} {β : Nat → Nat} {args : List SV} {n : Nat} {c : Ctr} {w : World} (hw : args.all (SV.wf c) = true) (hB : Below W.heap.size W w) :
    Core W R [] ρ β { t := (List.range args.length).zip args, n := args.length + (n - args.length), m := [], c := c }
      { tmps := (args.map (SV.den ρ β)).toArray ++ Array.replicate (n - (args.map (SV.den ρ β)).toArray.size) undef, defers := [] } w where
  size := by simp
  tmps i hn := by
    simp only [getS_args] at hn ⊢
    cases hi : args[i]? with
    | none => rw [hi] at hn; exact (hn rfl).elim
    | some v =>
      have hlt : i < args.length := (List.getElem?_eq_some_iff.1 hi).1
      rw [Array.getElem?_append_left (by simpa using hlt)]
      simp [hi]
  dfr := rfl
  below := hB
  mem k e h := by cases h
  inj k k' e e' b h := by cases h
  lps k e h := by cases h
  rin k k' e e' h := by cases h
  ded b hb := by cases hb
  dn := by simp
  wf := ⟨fun i => by
    simp only [getS_args]
    cases hi : args[i]? with
    | none => rfl
    | some v => exact List.all_eq_true.1 hw v (List.mem_of_getElem? hi), fun k cs t h => (by cases h), fun k ce sz t h => (by cases h), fun k x h => (by cases h), fun k e h => (by cases h), fun k hk => (by cases hk)⟩

def Ex.to : Ex → Exit
  | .normal => .normal
  | .exit id => .exit id
  | .ret => .ret

def NxtE (W : World) (R : Nat → Loop) (Z : List Nat) (st : St) (ρ : Env) (β : Nat → Nat) (K : Ex → St → Env → Prop) (Q' : Exit → Act → World → Prop) : Prop :=
  ∀ e st' ρ' β' a' w', K e st' ρ' → st.c.le st'.c → Env.like st.c ρ ρ' → (∀ k, k < st.c.nk → β' k = β k) → Core W R Z ρ' β' st' a' w' → Q' e.to a' w'
theorem NxtE.far {st st' : St} {ρ ρ' : Env} {β β' : Nat → Nat} {K : Ex → St → Env → Prop} {Q' : Exit → Act → World → Prop} (h : NxtE W R Z st ρ β K Q') (hc : st.c.le st'.c) (hl : Env.like st.c ρ ρ') (hb : ∀ k, k < st.c.nk → β' k = β k) : NxtE W R Z st' ρ' β' K Q' :=
  fun e s ρ2 β2 a w hk h1 h2 h3 hC => h e s ρ2 β2 a w hk (Ctr.le_trans hc h1) (Env.like_trans hc hl h2) (fun k hk => (h3 k (Nat.lt_of_lt_of_le hk hc.k)).trans (hb k hk)) hC
theorem NxtE.st {st st' : St} {ρ : Env} {β : Nat → Nat} {K : Ex → St → Env → Prop} {Q' : Exit → Act → World → Prop} (h : NxtE W R Z st ρ β K Q') (he : st'.c = st.c) : NxtE W R Z st' ρ β K Q' :=
  h.far (by rw [he]; exact Ctr.le_refl _) (Env.like_refl _ _) (fun _ _ => rfl)

/-- The blocks for the rounds' deferred calls are shut. -/
structure Shut (D : List Nat) (w w' : World) : Prop where
  os : w'.os = w.os
  tape : w'.tape = w.tape
  output : w'.output = w.output
  size : w'.heap.size = w.heap.size
  block : ∀ k, k ∉ D → w'.heap[k]? = w.heap[k]?
theorem leaves_marks {r : Option Nat} {n : Nat} {fn : Func} {tmps : Array Value} {T : Ending → World → Prop} : ∀ (D : List Nat) (w : World), (∀ b ∈ D, w.heap[b]? = some (.deferred (some []))) → D.Nodup →
    (∀ w', Shut D w w' → ∃ v, (results fn tmps).run P w' = .ok v w' ∧ T (.returned v) w') → LeavesInM (Fr r) n P fn tmps T (D.map fun b => { target := .collected b, args := #[] }) .returning w
  | [], w, _, _, h => h w ⟨rfl, rfl, rfl, rfl, fun _ _ => rfl⟩
  | b :: D, w, hd, hn, h => by
    have hb := hd b (by simp)
    simp only [List.nodup_cons] at hn
    refine ⟨by simp, .inl ⟨b, _, rfl, run_takeDeferred hb, leaves_marks D _ (fun b' hb' => ?_) hn.2 fun w' hs => h w' ?_⟩⟩
    · rw [World.putObj_heap_other (fun e => hn.1 (by rw [← e]; exact hb'))]
      exact hd b' (by simp [hb'])
    · refine ⟨hs.os, hs.tape, hs.output, by rw [hs.size]; simp, fun k hk => ?_⟩
      simp only [List.mem_cons, not_or] at hk
      rw [hs.block k hk.2, World.putObj_heap_other hk.1]
theorem Holds.shut {ρ : Env} {β : Nat → Nat} {k : Nat} {w w' : World} {D : List Nat} {e : Ent} {c : Ctr} (h : Holds W ρ β k e w) (hw : entWf c k e) (hD : ∀ b ∈ D, w.heap[b]? = some (.deferred (some []))) (hs : Shut D w w') : Holds W ρ β k e w' := by
  refine h.keep hw (Env.like_refl _ _) (fun _ _ => rfl) fun b hb => hs.block b fun hm => ?_
  obtain ⟨_, _, c, t, hc⟩ := h.blk b hb
  rw [hD b hm] at hc
  cases hc
theorem Core.shut {ρ : Env} {β : Nat → Nat} {st : St} {a : Act} {w w' : World} (hC : Core W R Z ρ β st a w) (hs : Shut (st.d.map β) w w') : Core W R Z ρ β { st with d := [] } { a with defers := [] } w' := by
  have hD : ∀ b ∈ st.d.map β, w.heap[b]? = some (.deferred (some [])) := fun b hb => (hC.ded b (List.mem_append.2 (.inr hb))).2
  have hdn := List.nodup_append.1 hC.dn
  refine ⟨hC.size, hC.tmps, rfl, ⟨hs.os.trans hC.below.os, hs.tape.trans hC.below.tape, hs.output.trans hC.below.output, by rw [hs.size]; exact hC.below.size, fun k hk => ?_⟩, fun k e hg => (hC.mem k e hg).shut (hC.wf.ent hg) hD hs, hC.inj, fun k e hg => ⟨(hC.lps k e hg).1, ?_⟩, hC.rin, fun b hb => ?_, ?_,
    ⟨hC.wf.t, hC.wf.m, hC.wf.o, hC.wf.ap, hC.wf.r, fun k hk => by cases hk⟩⟩
  · rw [hs.block k fun hm => ?_]
    · exact hC.below.block k hk
    · have := (hC.ded k (List.mem_append.2 (.inr hm))).1
      omega
  · rw [hs.block _ fun hm => ?_]
    · exact (hC.lps k e hg).2
    · have h1 := hD _ hm
      rw [(hC.lps k e hg).2] at h1
      cases h1
  · simp only [List.map_nil, List.append_nil] at hb
    refine ⟨(hC.ded b (List.mem_append.2 (.inl hb))).1, ?_⟩
    rw [hs.block b fun hm => hdn.2.2 b hb b hm rfl]
    exact (hC.ded b (List.mem_append.2 (.inl hb))).2
  · simpa using hdn.1
/-- Back in the frame that called. -/
theorem core_back {ρ ρ' : Env} {β β' : Nat → Nat} {st s' : St} {a a' : Act} {w w' : World} (hC : Core W R Z ρ β st a w) (hC' : Core W R (Z ++ st.d.map β) ρ' β' { s' with d := [] } a' w') (hle : st.c.le s'.c) (hl : Env.like st.c ρ ρ') (hb : ∀ k, k < st.c.nk → β' k = β k) :
    Core W R Z ρ' β' { t := st.t, n := st.n, m := s'.m, c := s'.c, o := s'.o, r := s'.r, d := st.d } a w' := by
  have hmap : st.d.map β' = st.d.map β := List.map_congr_left fun k hk => hb k (hC.wf.d k hk)
  refine ⟨hC.size, fun i hi => ?_, ?_, hC'.below, hC'.mem, hC'.inj, hC'.lps, hC'.rin, fun b hbm => ?_, ?_, ⟨fun i => SV.wf_le hle (hC.wf.t i), hC'.wf.m, hC'.wf.o, hC'.wf.ap, hC'.wf.r, fun k hk => Nat.lt_of_lt_of_le (hC.wf.d k hk) hle.k⟩⟩
  · rw [hC.tmps i hi]
    exact congrArg some (SV.den_like hl hb (hC.wf.t i)).symm
  · rw [hC.dfr]
    simp only [marksOf]
    exact List.map_congr_left fun k hk => by rw [hb k (hC.wf.d k hk)]
  · rw [hmap] at hbm
    exact hC'.ded b (by simpa using hbm)
  · rw [hmap]
    simpa using hC'.dn

/-- A FUNCTION, OUT OF ITS BODY's WALK. -/
theorem calls_body {f : FuncId} {fn : Func} {b : Code} {args : Array Value} {w : World} {T : Ending → World → Prop} {n : Nat} (hf : P.funcs[f]? = some fn) (hb : fn.body = some b)
    (h : b.wpIn (Fr none) n P (bodyPostM (Fr none) n P fn T) { tmps := args ++ Array.replicate (fn.ntmps - args.size) undef, defers := [] } w) : Calls P f args w T :=
  callsFr.1 (callsIn_of_wp_marks (F := Fr none) hf hb (fr_fn none f) h rfl)
/-- The end of a body. -/
theorem body_end {r : Option Nat} {n : Nat} {fn : Func} {ρ : Env} {β : Nat → Nat} {s : St} {a : Act} {w : World} {T : Ending → World → Prop} (hC : Core W R Z ρ β s a w) {l : List CV} (hr : resOf P s fn.results.toList = some l)
    (h : ∀ w', Core W R Z ρ β { s with d := [] } { a with defers := [] } w' → (resV l).wf s.c = true → T (.returned ((resV l).den ρ β)) w') : LeavesInM (Fr r) n P fn a.tmps T a.defers .returning w := by
  rw [hC.dfr]
  have hd : marksOf β s.d = (s.d.map β).map fun b => { target := .collected b, args := #[] } := by simp [marksOf]
  rw [hd]
  refine leaves_marks _ w (fun b hb => (hC.ded b (List.mem_append.2 (.inr hb))).2) (List.nodup_append.1 hC.dn).2.1 fun w' hs => ?_
  have hC' := hC.shut hs
  have hr' : resOf P { s with d := [] } fn.results.toList = some l := by
    rw [← hr]
    have : ∀ (x : List ResultVar), resOf P { s with d := [] } x = resOf P s x := by
      intro x
      induction x with
      | nil => rfl
      | cons y x ih => cases y <;> simp only [resOf, ih]
    exact this _
  obtain ⟨q1, q2⟩ := results_sound hC' hr'
  exact ⟨_, q1, h w' hC' q2⟩
end Vc
