/- Vc, part Q: operations on memory, and on rows, resolved. No program in sight. -/
import Derived.Test.YtdhiapllbjamfaaVcO
set_option linter.unusedVariables false
set_option linter.unusedSimpArgs false
namespace Vc
open Go Go.RowKit
variable {P : Program} {W : World} {Q : Value → Prop} {QM : World → Value → Prop}

theorem idsOf_append : ∀ (x y : List At), idsOf (x ++ y) = idsOf x ++ idsOf y
  | [], _ => rfl
  | a :: x, y => by
    have := idsOf_append x y
    cases a <;> simp [idsOf, this]
theorem idsOf_take {x : Nat} (l : List At) (n : Nat) (h : x ∈ idsOf (l.take n)) : x ∈ idsOf l := by
  have := idsOf_append (l.take n) (l.drop n)
  rw [List.take_append_drop] at this
  rw [this]; exact List.mem_append.2 (.inl h)
theorem idsOf_drop {x : Nat} (l : List At) (n : Nat) (h : x ∈ idsOf (l.drop n)) : x ∈ idsOf l := by
  have := idsOf_append (l.take n) (l.drop n)
  rw [List.take_append_drop] at this
  rw [this]; exact List.mem_append.2 (.inr h)
theorem ofValue_ids {v : Value} {a : At} (h : At.ofValue v = some a) : idsOf [a] = [] := by
  unfold At.ofValue at h
  split at h <;> first
    | (cases h; rfl)
    | (split at h
       · cases h; rfl
       · cases h)
    | cases h
theorem atsOf_ids : ∀ {l : List Value} {r : List At}, atsOf l = some r → idsOf r = []
  | [], r, h => by simp only [atsOf, Option.some.injEq] at h; subst h; rfl
  | v :: l, r, h => by
    simp only [atsOf] at h
    split at h
    · rename_i a r' h1 h2
      simp only [Option.some.injEq] at h
      subst h
      rw [show a :: r' = [a] ++ r' from rfl, idsOf_append, ofValue_ids h1, atsOf_ids h2]
      rfl
    · cases h
theorem zeroA_ids {t : TypeId} {z : CV} (h : zeroA P t = some z) : idsOf z.cells = [] := by
  unfold zeroA at h
  cases hi : P.info? t with
  | none => simp [hi] at h
  | some i =>
    simp only [hi] at h
    cases hz : i.zero with
    | none => simp [hz] at h
    | some v =>
      simp only [hz] at h
      generalize hs : SV.ofValue v = sv at h
      cases sv with
      | cv x =>
        simp only [Option.some.injEq] at h
        subst h
        unfold SV.ofValue at hs
        split at hs
        · split at hs
          · rename_i l hl
            cases hs
            exact atsOf_ids hl
          · cases hs
        · split at hs
          · rename_i a ha
            cases hs
            exact ofValue_ids ha
          · cases hs
      | _ => simp at h
theorem times_ids (l : List At) (h : idsOf l = []) : ∀ n, idsOf (times l n) = []
  | 0 => rfl
  | n + 1 => by simp only [times, idsOf_append, h, times_ids l h n, List.nil_append]
theorem fillA_ids {place : Nat → Option (Nat × Nat)} {x : Nat} : ∀ (parts : List (Nat × SV)) (cells : List At) {cs : List At}, fillA place cells parts = some cs → x ∈ idsOf cs → x ∈ idsOf cells ∨ x ∈ parts.flatMap fun p => svIds p.2
  | [], cells, cs, h, hx => by simp only [fillA, Option.some.injEq] at h; subst h; exact .inl hx
  | (i, .any) :: r, _, _, h, _ => by simp [fillA] at h
  | (i, .und) :: r, _, _, h, _ => by simp [fillA] at h
  | (i, .tup l) :: r, _, _, h, _ => by simp [fillA] at h
  | (i, .cv v) :: r, cells, cs, h, hx => by
    simp only [fillA] at h
    split at h
    · rename_i off size _
      split at h
      · rcases fillA_ids r _ h hx with h1 | h1
        · rw [idsOf_append, idsOf_append] at h1
          rcases List.mem_append.1 h1 with h2 | h2
          · rcases List.mem_append.1 h2 with h3 | h3
            · exact .inl (idsOf_take _ _ h3)
            · exact .inr (List.mem_flatMap.2 ⟨_, List.mem_cons_self, h3⟩)
          · exact .inl (idsOf_drop _ _ h2)
        · obtain ⟨p, hp, hp2⟩ := List.mem_flatMap.1 h1
          exact .inr (List.mem_flatMap.2 ⟨p, List.mem_cons_of_mem _ hp, hp2⟩)
      · cases h
    · cases h

theorem build_run {st : St} {o : Oper} {t el : TypeId} {len : Nat} {parts : Array (Nat × Operand)} (ho : o.op = .buildSlice t len parts) (hu : P.underlying t = some (.slice el)) {g : Bool} {s : Nat} {z : CV} (hz : szAgg P el = some (g, s)) (hzz : zeroA P el = some z)
    (hc : z.cells.length = s ∧ 0 < s ∧ 0 < len ∧ len * s ≤ 4096) {cs : List At} (hf : fillA (fun i => some (i * s, s)) (times z.cells len) (parts.toList.map fun p => (p.1, st.ev p.2)) = some cs) {ρ'' : Env} {β : Nat → Nat} {a : Act} {w : World} (hops : OpsOk st o ρ'' β a) :
    (execOp a.eval o).run P w = .ok (.value (.slice (some ⟨w.heap.size, 0, none⟩) len len)) (w.alloc (.cells (cs.map (At.den ρ'' β)).toArray el)) := by
  obtain ⟨c1, c2, c3, c4⟩ := hc
  have q1 := (zeroA_sound hzz ρ'' β w st.c).1
  have q3 := fill_sound ρ'' β _ _ hf
  have hany := fillA_any _ _ hf
  have e1 : (parts.map fun x => (x.1, a.eval x.2)).toList = (parts.toList.map fun p => (p.1, st.ev p.2)).map fun p => (p.1, p.2.den ρ'' β) := by
    rw [List.map_map, Array.toList_map]
    apply List.map_congr_left
    intro p hp
    have := hops p.2 (by rw [ho]; simp only [Op.operands]; exact mem_arr (by simpa using ⟨p.1, Array.mem_toList_iff.1 hp⟩)) (hany (p.1, st.ev p.2) (List.mem_map.2 ⟨p, hp, rfl⟩))
    simp [this]
  have hzs : (z.den ρ'' β).cells.size = s := by rw [CV.cells_den]; simpa using c1
  have q4 := zero_cells (z.den ρ'' β).cells len (by rw [hzs]; exact c2)
  rw [hzs] at q4
  have n1 : ¬ (len * s > 2 ^ 24) := by omega
  have n2 : ¬ (len * s = 0) := by
    have := Nat.mul_pos c3 c2; omega
  simp only [execOp, ho, Instr.buildSlice, Sem.run_bind, run_underlying hu, Result.andThen_ok, run_size hz, n1, n2, if_false, q1, Sem.run_pure, e1, hzs, q4]
  rw [show times (z.den ρ'' β).cells.toList len = (times z.cells len).map (At.den ρ'' β) by rw [times_map, CV.cells_den], q3]
  simp [newRow]
theorem opm_resolve {G : Cfg} (hG : G.Ok) {st : St} {o : Oper} {K : St → Env → Prop} {ρ : Env} (wf : st.WF) (h : opm (PA G.P W Q QM) G st o K ρ) : Rsv G.P W st o K ρ := by
  have new : ∀ {cs : List At} {t : TypeId} {v : Nat → At} (vd : Nat → Value), St.new (PA G.P W Q QM) st o.dst cs t v K ρ → (∀ x ∈ idsOf cs, x ∈ valIds st o) → (∀ (ρ'' : Env) (β : Nat → Nat), (v st.c.nk).den ρ'' β = vd (β st.c.nk)) →
      (∀ ρ'', Env.like st.c ρ ρ'' → ∀ (β : Nat → Nat) (a : Act) (w : World), OpsOk st o ρ'' β a → (execOp a.eval o).run G.P w = .ok (.value (vd w.heap.size)) (w.alloc (.cells (cs.map (At.den ρ'' β)).toArray t))) →
      Rsv G.P W st o K ρ := by
    intro cs t v vd h hids hv hr
    unfold St.new at h
    by_cases hw : cs.all (At.wf st.c) = true
    · rw [if_pos hw] at h
      obtain ⟨h1, h2⟩ := put_resolve h
      have hc := (putS_c { st with m := (st.c.nk, cs, t) :: st.m } o.dst (.cv (.one (v st.c.nk))) { st.c with nk := st.c.nk + 1 }).1
      have hle := Ctr.le_nk st.c 1
      refine ⟨_, ρ, .cv (.one (v st.c.nk)), [], h1, by rw [hc]; exact hle, Env.like_refl _ _, fun ρ'' hl => ?_⟩
      rw [hc] at hl
      have hl2 : Env.like st.c ρ ρ'' := ⟨hl.i, hl.b, hl.v, hl.p, hl.s, hl.l⟩
      exact new_fact wf hw hids (hv ρ'') (hr ρ'' hl2) h2
    · rw [if_neg hw] at h; exact h.elim
  unfold opm at h
  generalize ho : o.op = op at h
  cases op
  case alloc t =>
    simp only at h
    generalize hz : zeroA G.P t = u at h
    split at h
    · rename_i z
      refine new (fun B => .pointer (some ⟨B, 0, none⟩)) h (by rw [zeroA_ids hz]; intro x hx; cases hx) (fun _ _ => rfl) fun ρ'' hl β a w hops => ?_
      have q1 := (zeroA_sound hz ρ'' β w st.c).1
      simp [execOp, ho, Instr.alloc, q1, newVar, newRow, CV.cells_den]
    · exact h.elim
  case box t x =>
    simp only at h
    generalize hx : st.ev x = sx at h
    split at h
    · rename_i v
      refine new (fun B => .pointer (some ⟨B, 0, none⟩)) h (fun y hy => by simp only [valIds, ho, hx]; exact hy) (fun _ _ => rfl) fun ρ'' hl β a w hops => ?_
      have e1 := hops x (by rw [ho]; simp [Op.operands]) (by rw [hx]; simp)
      rw [hx] at e1
      simp [execOp, ho, e1, Instr.box, newVar, newRow, SV.den, CV.cells_den]
    · exact h.elim
  case store t x y =>
    simp only at h
    generalize hz : szAgg G.P t = u1 at h
    generalize hx : st.ev x = sx at h
    generalize hy' : st.ev y = sy at h
    split at h
    · rename_i g n k off v
      generalize hm : getM st.m k = u2 at h
      split at h
      · rename_i cs ty
        split at h
        · rename_i hc
          obtain ⟨hc1, hc2, hc3⟩ := hc
          obtain ⟨h1, h2⟩ := put_resolve h
          have hc := (putS_c { st with m := setM st.m k (cs.take off ++ v.cells ++ cs.drop (off + n)) } o.dst .any st.c).1
          refine ⟨_, ρ, .any, [k], h1, by rw [hc]; exact Ctr.le_refl _, Env.like_refl _ _, fun ρ'' hl => ?_⟩
          refine sto_fact wf hm (by simp [writesOf, ho, hx, svCells, CV.cells, blksOf]) ?_ (fun y hy => ?_) (fun β a w hops m2 => ?_) h2
          · have := (wf.m k cs ty hm).2
            simp only [List.all_append, (all_split this off).1, (all_split this (off + n)).2, CV.wf_cells hc3, Bool.and_self]
          · rw [idsOf_append, idsOf_append] at hy
            rcases List.mem_append.1 hy with hy | hy
            · rcases List.mem_append.1 hy with hy | hy
              · exact .inr (idsOf_take _ _ hy)
              · simp only [valIds, ho, hy']; exact .inl hy
            · exact .inr (idsOf_drop _ _ hy)
          · have e1 := hops x (by rw [ho]; simp [Op.operands]) (by rw [hx]; simp)
            have e2 := hops y (by rw [ho]; simp [Op.operands]) (by rw [hy']; simp)
            rw [hx] at e1
            rw [hy'] at e2
            have hs := run_storeAt (g := g) hz w (β k) off (v.den ρ'' β) _ ty m2 (by rw [CV.cells_den]; simpa using hc1) (by simpa using hc2) (by
              rw [CV.cells_den]
              intro z hz'
              simp only [List.mem_map] at hz'
              obtain ⟨q, _, rfl⟩ := hz'
              exact At.den_one ρ'' β q)
            rw [CV.cells_den] at hs
            simp only [← map_take_drop] at hs
            have e1' : a.eval x = ptr (β k) off := e1
            have e2' : a.eval y = v.den ρ'' β := e2
            simp only [execOp, ho, e1', e2', Sem.run_bind, hs, Result.andThen_ok, Sem.run_pure]
        · exact h.elim
      · exact h.elim
    · exact h.elim
  case buildSlice t len parts =>
    simp only at h
    generalize hu : G.P.underlying t = u1 at h
    split at h
    · rename_i el
      generalize hz : szAgg G.P el = u2 at h
      generalize hzz : zeroA G.P el = u3 at h
      split at h
      · rename_i g s z
        split at h
        · rename_i hc
          obtain ⟨c1, c2, c3, c4⟩ := hc
          generalize hf : fillA (fun i => some (i * s, s)) (times z.cells len) (parts.toList.map fun p => (p.1, st.ev p.2)) = u4 at h
          split at h
          · rename_i cs
            refine new (fun B => .slice (some ⟨B, 0, none⟩) len len) h (fun y hy => ?_) (fun _ _ => rfl) fun ρ'' hl β a w hops => ?_
            · rcases fillA_ids _ _ hf hy with h1 | h1
              · rw [times_ids _ (zeroA_ids hzz)] at h1; cases h1
              · simp only [valIds, ho]
                simpa [List.flatMap_map] using h1
            exact build_run ho hu hz hzz ⟨c1, c2, c3, c4⟩ hf hops
          · exact h.elim
        · exact h.elim
      · exact h.elim
    · exact h.elim
  all_goals
    obtain ⟨sv, c', ρ', h1, h2, h3, h4⟩ := opv_sound hG wf h
    by_cases hk : c'.nk = st.c.nk
    · rw [if_pos hk] at h1
      obtain ⟨q1, q2⟩ := put_resolve h1
      have hc := (putS_c st o.dst sv c').1
      refine ⟨_, ρ', sv, [], q1, by rw [hc]; exact h2, h3, fun ρ'' hl => ?_⟩
      rw [hc] at hl
      exact val_fact wf (h4 ρ'' hl) h2 q2
    · rw [if_neg hk] at h1; exact h1.elim
end Vc
