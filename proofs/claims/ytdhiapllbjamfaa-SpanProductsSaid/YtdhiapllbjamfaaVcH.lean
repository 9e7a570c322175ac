/- Vc, part H: loads and calls are sound; each operation that computes a value is. No program in sight. -/
import Derived.Test.YtdhiapllbjamfaaVcG
set_option linter.unusedVariables false
set_option linter.unusedSimpArgs false
namespace Vc
open Go Go.RowKit
variable {P : Program} {W : World} {Q : Value → Prop} {QM : World → Value → Prop}

theorem At.den_flat (ρ : Env) (β β' : Nat → Nat) : ∀ {a : At}, a.flat = true → a.den ρ β = a.den ρ β' := by
  intro a h
  cases a <;> first
    | rfl
    | (simp [At.flat] at h; done)
    | (simp only [At.flat, List.isEmpty_iff] at h; subst h; rfl)
theorem map_den_flat (ρ : Env) (β β' : Nat → Nat) {l : List At} (h : l.all At.flat = true) : l.map (At.den ρ β) = l.map (At.den ρ β') :=
  List.map_congr_left fun x hx => At.den_flat ρ β β' (List.all_eq_true.1 h x hx)
theorem Sg.den_flat (ρ : Env) (β β' : Nat → Nat) : ∀ {s : Sg}, s.flat = true → s.den ρ β = s.den ρ β'
  | .ats l, h => map_den_flat ρ β β' h
  | .var i, _ => rfl
theorem ceDen_flat (ρ : Env) (β β' : Nat → Nat) : ∀ {l : CE}, ceFlat l = true → ceDen ρ β l = ceDen ρ β' l
  | [], _ => rfl
  | s :: r, h => by
    simp only [ceFlat, List.all_cons, Bool.and_eq_true] at h
    simp only [ceDen, Sg.den_flat ρ β β' h.1, ceDen_flat ρ β β' (l := r) h.2]
theorem CV.den_flat (ρ : Env) (β β' : Nat → Nat) : ∀ {c : CV}, c.flat = true → c.den ρ β = c.den ρ β'
  | .one a, h => At.den_flat ρ β β' h
  | .agg l, h => by simp only [CV.den]; rw [map_den_flat ρ β β' h]
theorem SV.den_flat (ρ : Env) (β β' : Nat → Nat) : ∀ {c : SV}, svFlat c = true → c.den ρ β = c.den ρ β'
  | .any, _ => rfl
  | .und, _ => rfl
  | .cv c, h => CV.den_flat ρ β β' h
  | .tup l, h => by
    simp only [SV.den]
    rw [List.map_congr_left fun x hx => CV.den_flat ρ β β' (List.all_eq_true.1 h x hx)]

theorem cell_of_heap {w : World} {b : Nat} {C : Array Value} {t : TypeId} (h : w.heap[b]? = some (.cells C t)) (o : Nat) : w.cell? ⟨b, o, none⟩ = C[o]? := by
  simp [World.cell?, h]

theorem run_load_agg {t : TypeId} {n : Nat} (hz : szAgg P t = some (true, n)) (w : World) (b o : Nat) (cs : List Value) (hn : cs.length = n) (h : ∀ j v, cs[j]? = some v → w.cell? ⟨b, o + j, none⟩ = some v) :
    (Instr.loadAt t (ptr b o)).run P w = .ok (.agg cs.toArray) w := by
  subst hn
  have := run_loadCells_list (P := P) w ⟨b, o, none⟩ cs (fun j v hj => by rw [addr_add]; exact h j v hj)
  simp only [Instr.loadAt, ptr, Instr.sureAddr, Sem.run_bind, Sem.run_pure, Result.andThen_ok, loadVar, run_isAgg hz, if_true, run_size hz, this]
theorem run_load_one {t : TypeId} {n : Nat} (hz : szAgg P t = some (false, n)) (w : World) (b o : Nat) (v : Value) (h : w.cell? ⟨b, o, none⟩ = some v) :
    (Instr.loadAt t (ptr b o)).run P w = .ok v w := by
  simp [Instr.loadAt, ptr, Instr.sureAddr, loadVar, run_isAgg hz, h]

theorem doLoads_sound {p : Nat} {ix : IE} {sz : Nat} : ∀ (ks : List CK) (off : Nat) (c : Ctr) {K : List At → Ctr → Env → Prop} {ρ : Env}, ks.all CK.plain = true → p < c.np → ix.wf c = true →
    doLoads (PA P W Q QM) p ix sz off ks c K ρ → ∃ l c' ρ', K l c' ρ' ∧ c.le c' ∧ Env.like c ρ ρ' ∧ l.length = ks.length ∧
      ∀ ρ'', Env.like c' ρ' ρ'' → ∀ β j a, l[j]? = some a → W.cell? ⟨(ρ''.p p).1, (ρ''.p p).2 + (ix.den ρ'').toNat * sz + (off + j), none⟩ = some (a.den ρ'' β)
  | [], off, c, K, ρ, _, _, _, h => ⟨[], c, ρ, h, Ctr.le_refl _, Env.like_refl _ _, rfl, fun _ _ _ j a hj => by simp at hj⟩
  | k :: ks, off, c, K, ρ, hpl, hp, hi, h => by
    simp only [List.all_cons, Bool.and_eq_true] at hpl
    obtain ⟨ρ1, l1, h1, h2⟩ := exA_fresh [k] c h
    have hle := freshC_le c k
    obtain ⟨l, c', ρ', q1, q2, q3, q4, q5⟩ := doLoads_sound ks (off + 1) (freshC c k) hpl.2 (Nat.lt_of_lt_of_le hp hle.p) (IE.wf_le hle hi) h2
    refine ⟨fresh1 c k :: l, c', ρ', q1, Ctr.le_trans hle q2, Env.like_trans hle l1 q3, by simp [q4], fun ρ'' hl β j a hj => ?_⟩
    cases j with
    | zero =>
      simp only [List.getElem?_cons_zero, Option.some.injEq] at hj
      subst hj
      have l2 : Env.like (freshC c k) ρ1 ρ'' := Env.like_trans q2 q3 hl
      have l3 : Env.like c ρ ρ'' := Env.like_trans hle l1 l2
      rw [l3.p p hp, IE.den_like l3 hi, At.den_flat ρ'' β b0 (fresh1_flat c k hpl.1), At.den_like l2 (β := b0) (fun _ _ => rfl) (fresh1_wf c k)]
      exact h1
    | succ j =>
      have := q5 ρ'' hl β j a (by simpa using hj)
      rw [show off + (j + 1) = off + 1 + j by omega]
      exact this

theorem row_cell {lo b code n base : Nat} {xs : List Value} {sz : Nat} {t : TypeId} {w : World} (h : RowOk lo b code n base xs sz t w) {i : Nat} {v : Value} (hi : xs[i]? = some v) : w.cell? ⟨b, i, none⟩ = some v := by
  have hl : i < xs.length := (List.getElem?_eq_some_iff.1 hi).1
  have hn : 0 < n := by
    rcases Nat.eq_zero_or_pos n with h0 | h0
    · rw [h.1, h0] at hl; omega
    · exact h0
  obtain ⟨_, _, cur, h1, h2⟩ := row_real h hn
  rw [cell_of_heap h1]
  rw [← h2, List.getElem?_take] at hi
  split at hi
  · simpa using hi
  · cases hi

theorem doRds_sound {ce : CE} {ix : IE} {sz : Nat} : ∀ (ks : List CK) (off : Nat) (c : Ctr) {K : List At → Ctr → Env → Prop} {ρ : Env}, ks.all CK.plain = true → ceFlat ce = true → ceWf c ce = true → ix.wf c = true →
    doRds (PA P W Q QM) ce ix sz off ks c K ρ → ∃ l c' ρ', K l c' ρ' ∧ c.le c' ∧ Env.like c ρ ρ' ∧ l.length = ks.length ∧
      ∀ ρ'', Env.like c' ρ' ρ'' → ∀ β j a, l[j]? = some a → (ceDen ρ'' β ce)[(ix.den ρ'').toNat * sz + (off + j)]? = some (a.den ρ'' β)
  | [], off, c, K, ρ, _, _, _, _, h => ⟨[], c, ρ, h, Ctr.le_refl _, Env.like_refl _ _, rfl, fun _ _ _ j a hj => by simp at hj⟩
  | k :: ks, off, c, K, ρ, hpl, hf, hp, hi, h => by
    simp only [List.all_cons, Bool.and_eq_true] at hpl
    obtain ⟨ρ1, l1, h1, h2⟩ := exA_fresh [k] c h
    have hle := freshC_le c k
    obtain ⟨l, c', ρ', q1, q2, q3, q4, q5⟩ := doRds_sound ks (off + 1) (freshC c k) hpl.2 hf (ceWf_le hle hp) (IE.wf_le hle hi) h2
    refine ⟨fresh1 c k :: l, c', ρ', q1, Ctr.le_trans hle q2, Env.like_trans hle l1 q3, by simp [q4], fun ρ'' hl β j a hj => ?_⟩
    cases j with
    | zero =>
      simp only [List.getElem?_cons_zero, Option.some.injEq] at hj
      subst hj
      have l2 : Env.like (freshC c k) ρ1 ρ'' := Env.like_trans q2 q3 hl
      have l3 : Env.like c ρ ρ'' := Env.like_trans hle l1 l2
      rw [ceDen_flat ρ'' β b0 hf, ceDen_like l3 (β := b0) (fun _ _ => rfl) hp, IE.den_like l3 hi, At.den_flat ρ'' β b0 (fresh1_flat c k hpl.1), At.den_like l2 (β := b0) (fun _ _ => rfl) (fresh1_wf c k)]
      exact h1
    | succ j =>
      have := q5 ρ'' hl β j a (by simpa using hj)
      rw [show off + (j + 1) = off + 1 + j by omega]
      exact this

theorem knownAt_some {ce : CE} {ix : IE} {sz off : Nat} {cs : List At} {p : Nat} (h : knownAt ce ix sz off = some (cs, p)) : (∀ ρ, (ix.den ρ).toNat * sz + off = p) ∧ ∀ ρ β, ceDen ρ β ce = cs.map (At.den ρ β) := by
  unfold knownAt at h
  split at h
  · rename_i j cs' h1
    simp only [Option.some.injEq, Prod.mk.injEq] at h
    obtain ⟨rfl, rfl⟩ := h
    exact ⟨fun _ => rfl, fun ρ β => ceAts_den ρ β h1⟩
  · cases h

theorem doLoad_sound {m : Mem} {o : OMem} (hap : Apart m o) {c : Ctr} {t : TypeId} {x : SV} {K : SV → Ctr → Env → Prop} {ρ : Env} (h : doLoad (PA P W Q QM) P m o c t x K ρ) :
    Res c ρ K fun sv ρ'' => x ≠ .any ∧ sv ≠ .any ∧ ∀ β w, Below W.heap.size W w → RdOk W m o (blksOf (svCells x)) ρ'' β w → (Instr.loadAt t (x.den ρ'' β)).run P w = .ok (sv.den ρ'' β) w := by
  unfold doLoad at h
  generalize hz : szAgg P t = u1 at h
  split at h
  · exact h.elim
  · rename_i g n
    split at h
    · rename_i k ix sz off
      generalize hgo : getO o k = u2 at h
      split at h
      · exact h.elim
      · rename_i ce s0 ty
        generalize hkn : knownAt ce ix sz off = u3 at h
        split at h
        · rename_i cs p
          obtain ⟨e1, e2⟩ := knownAt_some hkn
          have cell : ∀ (ρ'' : Env) (β : Nat → Nat) (w : World), RdOk W m o (blksOf (svCells (.cv (.one (.oloc k ix sz off))))) ρ'' β w → ∀ (j : Nat) (a : At), cs[j]? = some a → w.cell? ⟨β k, j, none⟩ = some (a.den ρ'' β) := by
            intro ρ'' β w hr j a hj
            have hrow := hr k (by simp [svCells, CV.cells, blksOf]) _ (getE_o (hap k _ hgo) hgo)
            exact row_cell hrow (by rw [e2]; simp [hj])
          split at h
          · rename_i hg
            subst hg
            split at h
            · rename_i hb
              refine Res.pure h fun ρ'' _ => ⟨by simp, by simp, fun β w hB hr => ?_⟩
              have := run_load_agg hz w (β k) p (((cs.drop p).take n).map (At.den ρ'' β)) (by simp; omega) (fun j v hj => by
                simp only [List.getElem?_map, Option.map_eq_some_iff] at hj
                obtain ⟨a, ha, rfl⟩ := hj
                have hj2 : j < n := by
                  rcases Nat.lt_or_ge j n with h' | h'
                  · exact h'
                  · rw [List.getElem?_eq_none (by simp; omega)] at ha; cases ha
                rw [List.getElem?_take_of_lt hj2, List.getElem?_drop] at ha
                exact cell ρ'' β w hr _ a ha)
              show (Instr.loadAt t (ptr (β k) ((ix.den ρ'').toNat * sz + off))).run P w = _
              rw [e1]
              exact this
            · exact h.elim
          · rename_i hg
            have hg' : g = false := by simpa using hg
            subst hg'
            generalize hc : cs[p]? = u4 at h
            split at h
            · rename_i a
              refine Res.pure h fun ρ'' _ => ⟨by simp, by simp, fun β w hB hr => ?_⟩
              show (Instr.loadAt t (ptr (β k) ((ix.den ρ'').toNat * sz + off))).run P w = _
              rw [e1]
              exact run_load_one hz w (β k) p (a.den ρ'' β) (cell ρ'' β w hr p a hc)
            · exact h.elim
        · generalize hk : cks P 30 t = u4 at h
          split at h
          · exact h.elim
          · rename_i ks
            by_cases hc : ks.length = (if g = true then n else 1) ∧ ks.all CK.plain = true ∧ ceFlat ce = true ∧ ceWf c ce = true ∧ ix.wf c = true
            · rw [if_pos hc] at h
              obtain ⟨hl, hpl, hf, hp, hi⟩ := hc
              obtain ⟨l, c', ρ', q1, q2, q3, q4, q5⟩ := doRds_sound ks off c hpl hf hp hi h
              refine ⟨_, c', ρ', q1, q2, q3, fun ρ'' hlk => ⟨by simp, by simp, fun β w hB hr => ?_⟩⟩
              have key : ∀ j v, (l.map (At.den ρ'' β))[j]? = some v → w.cell? ⟨β k, (ix.den ρ'').toNat * sz + off + j, none⟩ = some v := by
                intro j v hj
                simp only [List.getElem?_map, Option.map_eq_some_iff] at hj
                obtain ⟨a, ha, rfl⟩ := hj
                have hrow := hr k (by simp [svCells, CV.cells, blksOf]) _ (getE_o (hap k _ hgo) hgo)
                rw [Nat.add_assoc]
                exact row_cell hrow (q5 ρ'' hlk β j a ha)
              cases g with
              | true =>
                have := run_load_agg hz w _ _ (l.map (At.den ρ'' β)) (by simpa [q4] using hl) key
                cases l <;> exact this
              | false =>
                simp only [Bool.false_eq_true, if_false] at hl
                rw [hl] at q4
                match l, q4 with
                | [a], _ => exact run_load_one hz w _ _ (a.den ρ'' β) (by simpa using key 0 _ rfl)
            · rw [if_neg hc] at h
              exact h.elim
    · rename_i k off
      generalize hm : getM m k = u2 at h
      split at h
      · exact h.elim
      · rename_i cs ty
        split at h
        · rename_i hg
          subst hg
          split at h
          · rename_i hb
            refine Res.pure h fun ρ'' _ => ⟨by simp, by simp, fun β w hB hr => ?_⟩
            obtain ⟨_, hh⟩ := hr k (by simp [svCells, CV.cells, blksOf]) _ (getE_m hm)
            have := run_load_agg hz w (β k) off (((cs.drop off).take n).map (At.den ρ'' β)) (by simp; omega) (fun j v hj => by
              rw [cell_of_heap hh]
              simp only [List.getElem?_map, Option.map_eq_some_iff] at hj
              obtain ⟨a, ha, rfl⟩ := hj
              have hj2 : j < n := by
                rcases Nat.lt_or_ge j n with h' | h'
                · exact h'
                · rw [List.getElem?_eq_none (by simp; omega)] at ha; cases ha
              rw [List.getElem?_take_of_lt hj2, List.getElem?_drop] at ha
              simp [ha])
            exact this
          · exact h.elim
        · rename_i hg
          have hg' : g = false := by simpa using hg
          subst hg'
          generalize hc : cs[off]? = u3 at h
          split at h
          · rename_i a
            refine Res.pure h fun ρ'' _ => ⟨by simp, by simp, fun β w hB hr => ?_⟩
            obtain ⟨_, hh⟩ := hr k (by simp [svCells, CV.cells, blksOf]) _ (getE_m hm)
            exact run_load_one hz w (β k) off (a.den ρ'' β) (by rw [cell_of_heap hh]; simp [hc])
          · exact h.elim
    · rename_i p ix sz off
      generalize hk : cks P 30 t = u2 at h
      split at h
      · exact h.elim
      · rename_i ks
        by_cases hc : ks.length = (if g = true then n else 1) ∧ ks.all CK.plain = true ∧ p < c.np ∧ ix.wf c = true
        · rw [if_pos hc] at h
          obtain ⟨hl, hpl, hp, hi⟩ := hc
          obtain ⟨l, c', ρ', q1, q2, q3, q4, q5⟩ := doLoads_sound ks off c hpl hp hi h
          refine ⟨_, c', ρ', q1, q2, q3, fun ρ'' hlk => ⟨by simp, by simp, fun β w hB hr => ?_⟩⟩
          have key : ∀ j v, (l.map (At.den ρ'' β))[j]? = some v → w.cell? ⟨(ρ''.p p).1, (ρ''.p p).2 + (ix.den ρ'').toNat * sz + off + j, none⟩ = some v := by
            intro j v hj
            simp only [List.getElem?_map, Option.map_eq_some_iff] at hj
            obtain ⟨a, ha, rfl⟩ := hj
            have h1 := q5 ρ'' hlk β j a ha
            rw [← Nat.add_assoc] at h1
            rw [hB.cell (World.block_lt_of_cell? _ _ h1)]
            exact h1
          cases g with
          | true =>
            have := run_load_agg hz w _ _ (l.map (At.den ρ'' β)) (by simpa [q4] using hl) key
            cases l <;> exact this
          | false =>
            simp only [Bool.false_eq_true, if_false] at hl
            rw [hl] at q4
            match l, q4 with
            | [a], _ => exact run_load_one hz w _ _ (a.den ρ'' β) (by simpa using key 0 _ rfl)
        · rw [if_neg hc] at h
          exact h.elim
    · exact h.elim

theorem namedO_sound {m : Mem} {o : OMem} (hap : Apart m o) {c : Ctr} {ρ ρ'' : Env} {β : Nat → Nat} {w : World} (hl : Env.like c ρ ρ'') (hw : ∀ k ce sz t, getO o k = some (ce, sz, t) → ceWf c ce = true) :
    ∀ (ats : List At), RdOk W m o (blksOf ats) ρ'' β w → OwnH W ρ β (namedO o ats) w := by
  intro ats
  induction ats with
  | nil => exact fun _ => trivial
  | cons a r ih =>
    intro h
    have skip : ∀ {k}, blksOf (a :: r) = k :: blksOf r → OwnH W ρ β (namedO o r) w := fun he => ih fun j hj => h j (by rw [he]; exact List.mem_cons_of_mem _ hj)
    cases a <;> first
      | exact ih h
      | exact skip rfl
      | skip
    rename_i k
    simp only [namedO]
    have hr : RdOk W m o (blksOf r) ρ'' β w := fun j hj => h j (by simp [blksOf, hj])
    cases hg : getO o k with
    | none => exact ih hr
    | some v =>
      obtain ⟨ce, sz, t⟩ := v
      have := h k (by simp [blksOf]) _ (getE_o (hap k _ hg) hg)
      refine ⟨?_, ih hr⟩
      rw [← ceDen_like hl (β := β) (fun _ _ => rfl) (hw k ce sz t hg)]
      exact this
theorem namedM_sound {m : Mem} {o : OMem} (hap : Apart m o) {c : Ctr} {ρ ρ'' : Env} {β : Nat → Nat} {w : World} (hl : Env.like c ρ ρ'') (hw : ∀ k cs t, getM m k = some (cs, t) → cs.all (At.wf c) = true)
    (hwo : ∀ k ce sz t, getO o k = some (ce, sz, t) → ceWf c ce = true) :
    ∀ (ats : List At), RdOk W m o (blksOf ats) ρ'' β w → MemH W ρ β (namedM m ats) (namedO o ats) w := by
  have main : ∀ (ats : List At) (o' : OMem), OwnH W ρ β o' w → RdOk W m o (blksOf ats) ρ'' β w → MemH W ρ β (namedM m ats) o' w := by
    intro ats o' ho'
    induction ats with
    | nil => exact fun _ => ho'
    | cons a r ih =>
      intro h
      have step : ∀ k, (∀ j ∈ k :: blksOf r, ∀ e, getE m o j = some e → Holds W ρ'' β j e w) →
          MemH W ρ β (match getM m k with | some v => (k, v) :: namedM m r | none => namedM m r) o' w := by
        intro k hk
        have hr : RdOk W m o (blksOf r) ρ'' β w := fun j hj => hk j (by simp [hj])
        cases hg : getM m k with
        | none => exact ih hr
        | some v =>
          obtain ⟨cs, t⟩ := v
          obtain ⟨h1, h2⟩ := hk k (by simp) _ (getE_m hg)
          rw [map_den_like hl (β := β) (fun _ _ => rfl) (hw k cs t hg)] at h2
          exact ⟨⟨h1, h2⟩, ih hr⟩
      have skip : ∀ {k}, blksOf (a :: r) = k :: blksOf r → MemH W ρ β (namedM m r) o' w := fun he => ih fun j hj => h j (by rw [he]; exact List.mem_cons_of_mem _ hj)
      cases a <;> first
        | exact step _ h
        | exact ih h
        | exact skip rfl
  exact fun ats h => main ats _ (namedO_sound hap hl hwo ats h) h
theorem plain_take : ∀ (ss : List (Bool × List CK)), (∀ p ∈ ss, p.2.all CK.plain = true) → (shapeK ss).all CK.plain = true
  | [], _ => rfl
  | (g, ks) :: r, h => by
    simp only [shapeK, List.all_append, Bool.and_eq_true]
    exact ⟨h (g, ks) (by simp), plain_take r fun p hp => h p (by simp [hp])⟩
theorem shapes_plain : ∀ (l : List TypeId) {ss : List (Bool × List CK)}, shapes P l = some ss → (shapeK ss).all CK.plain = true
  | [], ss, h => by simp only [shapes, Option.some.injEq] at h; subst h; rfl
  | t :: l, ss, h => by
    simp only [shapes] at h
    split at h
    · split at h
      · rename_i ks r _ _ h3 hc
        simp only [Option.some.injEq] at h
        subst h
        simp only [shapeK, List.all_append, Bool.and_eq_true]
        exact ⟨hc.2, shapes_plain l h3⟩
      · cases h
    · cases h

theorem shapeV_flat : ∀ (ss : List (Bool × List CK)) (l : List At), l.all At.flat = true → (shapeV ss l).all CV.flat = true
  | [], _, _ => rfl
  | (g, ks) :: r, l, h => by
    have h1 : (l.take ks.length).all At.flat = true := List.all_eq_true.2 fun x hx => List.all_eq_true.1 h x (List.mem_of_mem_take hx)
    have h2 : (l.drop ks.length).all At.flat = true := List.all_eq_true.2 fun x hx => List.all_eq_true.1 h x (List.mem_of_mem_drop hx)
    simp only [shapeV, List.all_cons, shapeV_flat r _ h2, Bool.and_true]
    unfold cvOf
    split
    · rename_i a ha
      rw [ha] at h1
      simpa [CV.flat] using h1
    · exact h1
theorem shapeV_wf (c : Ctr) : ∀ (ss : List (Bool × List CK)) (l : List At), l.all (At.wf c) = true → (shapeV ss l).all (CV.wf c) = true
  | [], _, _ => rfl
  | (g, ks) :: r, l, h => by
    have h1 : (l.take ks.length).all (At.wf c) = true := List.all_eq_true.2 fun x hx => List.all_eq_true.1 h x (List.mem_of_mem_take hx)
    have h2 : (l.drop ks.length).all (At.wf c) = true := List.all_eq_true.2 fun x hx => List.all_eq_true.1 h x (List.mem_of_mem_drop hx)
    simp only [shapeV, List.all_cons, shapeV_wf c r _ h2, Bool.and_true]
    unfold cvOf
    split
    · rename_i a ha
      rw [ha] at h1
      simpa [CV.wf] using h1
    · exact h1
theorem resV_flat {cs : List CV} (h : cs.all CV.flat = true) : svFlat (resV cs) = true := by
  unfold resV
  split
  · simpa [svFlat] using h
  · exact h
theorem resV_wf {c : Ctr} {cs : List CV} (h : cs.all (CV.wf c) = true) : (resV cs).wf c = true := by
  unfold resV
  split
  · simpa [SV.wf] using h
  · exact h
theorem resV_any (cs : List CV) : resV cs ≠ .any := by
  unfold resV
  split <;> simp

/-- What the lists of functions are good for. -/
structure Cfg.Ok (G : Cfg) : Prop where
  calls : ∀ f, G.calls.contains f = true → ∀ args w, (callFunc f args).run G.P w = .ok (.enter f args) w
  inl : ∀ f, G.inl.contains f = true → ∀ args w, (callFunc f args).run G.P w = .ok (.enter f args) w

/-- A function's call from values. -/
def CallV (G : Cfg) (W : World) (m : Mem) (o : OMem) (f : FuncId) (args : List SV) (sv : SV) (ρ : Env) : Prop :=
  sv ≠ .any ∧ (∀ x ∈ args, x ≠ .any) ∧ ∀ β w, Below W.heap.size W w → RdOk W m o (blksOf (args.flatMap svCells)) ρ β w →
    ((callFunc f (args.map (SV.den ρ β)).toArray).run G.P w = .ok (.value (sv.den ρ β)) w ∨
     ((callFunc f (args.map (SV.den ρ β)).toArray).run G.P w = .ok (.enter f (args.map (SV.den ρ β)).toArray) w ∧ Calls G.P f (args.map (SV.den ρ β)).toArray w (Ret (sv.den ρ β) w)))

theorem doCall_sound {G : Cfg} (hG : G.Ok) {m : Mem} {o : OMem} (hap : Apart m o) {c : Ctr} {f : FuncId} {args : List SV} {K : SV → Ctr → Env → Prop} {ρ : Env} (hw : ∀ k cs t, getM m k = some (cs, t) → cs.all (At.wf c) = true) (hwo : ∀ k ce sz t, getO o k = some (ce, sz, t) → ceWf c ce = true)
    (h : doCall (PA G.P W Q QM) G m o c f args K ρ) : Res c ρ K (CallV G W m o f args) := by
  unfold doCall at h
  generalize hf : G.P.funcs[f]? = u1 at h
  split at h
  · exact h.elim
  · rename_i fn
    generalize hs : shapes G.P fn.resultTypes.toList = u2 at h
    split at h
    · exact h.elim
    · rename_i ss
      split at h
      · exact h.elim
      · rename_i ha
        simp only [not_or, Decidable.not_not] at ha
        obtain ⟨ha1, ha2⟩ := ha
        have hany : ∀ x ∈ args, x ≠ .any := by
          intro x hx he
          subst he
          exact ha1 (List.any_eq_true.2 ⟨_, hx, rfl⟩)
        have hflat : svFlat (resV (shapeV ss (freshL c (shapeK ss)))) = true := resV_flat (shapeV_flat _ _ (freshL_flat _ _ (shapes_plain _ hs)))
        have hwf : (resV (shapeV ss (freshL c (shapeK ss)))).wf (freshLC c (shapeK ss)) = true := resV_wf (shapeV_wf _ _ _ (freshL_wf _ _))
        have hle := freshLC_le (shapeK ss) c
        have hargs : ∀ {ρ1 ρ'' : Env} (β : Nat → Nat), Env.like c ρ1 ρ'' → args.map (SV.den ρ'' β) = args.map (SV.den ρ1 β) := fun β hl =>
          List.map_congr_left fun x hx => SV.den_like hl (fun _ _ => rfl) (List.all_eq_true.1 ha2 x hx)
        have hfl : ∀ (ρ1 : Env) (β : Nat → Nat), args.all svFlat = true → args.map (SV.den ρ1 β) = args.map (SV.den ρ1 b0) := fun ρ1 β hl =>
          List.map_congr_left fun x hx => SV.den_flat ρ1 β b0 (List.all_eq_true.1 hl x hx)
        split at h
        · obtain ⟨ρ1, l1, ⟨h1, h2⟩, h3⟩ := exA_fresh _ c h
          refine ⟨_, _, ρ1, h3, hle, l1, fun ρ'' hl => ⟨resV_any _, hany, fun β w hB hr => .inl ?_⟩⟩
          have l3 : Env.like c ρ ρ'' := Env.like_trans hle l1 hl
          rw [hargs β l3, hfl ρ β h1, SV.den_flat ρ'' β b0 hflat, SV.den_like hl (β := b0) (fun _ _ => rfl) hwf]
          exact h2 w
        · split at h
          · rename_i hc
            obtain ⟨ρ1, l1, h1, h3⟩ := exA_fresh _ c h
            refine ⟨_, _, ρ1, h3, hle, l1, fun ρ'' hl => ⟨resV_any _, hany, fun β w hB hr => .inr ⟨hG.calls f hc _ w, ?_⟩⟩⟩
            have l3 : Env.like c ρ ρ'' := Env.like_trans hle l1 hl
            rw [SV.den_flat ρ'' β b0 hflat, SV.den_like hl (β := b0) (fun _ _ => rfl) hwf]
            split at h1
            · rename_i hfa
              rw [hargs β l3, hfl ρ β hfa]
              exact h1 w hB
            · rw [hargs β l3]
              exact h1 β w hB (namedM_sound hap l3 hw hwo _ hr)
          · exact h.elim
end Vc
