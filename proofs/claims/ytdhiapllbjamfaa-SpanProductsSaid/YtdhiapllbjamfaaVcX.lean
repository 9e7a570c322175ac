/- Vc, part X: operations on rows, resolved. No program in sight. -/
import Derived.Test.YtdhiapllbjamfaaVcV
set_option linter.unusedVariables false
set_option linter.unusedSimpArgs false
namespace Vc
open Go Go.RowKit
variable {P : Program} {W : World} {Q : Value → Prop} {QM : World → Value → Prop}

theorem getE_row {m : Mem} {o : OMem} {nk : Nat} {ce : CE} {sz : Nat} {el : TypeId} {eat : List Nat} (hm : getM m nk = none) (k : Nat) :
    getE m ((nk, ce, sz, el) :: delOs o eat) k = if nk = k then some (.row ce sz el) else match getM m k with
      | some (cs, t) => some (.fix cs t)
      | none => if k ∈ eat then none else getE m o k := by
  unfold getE
  rw [getO_cons, getO_dels]
  by_cases h : nk = k
  · subst h; rw [if_pos rfl, if_pos rfl, hm]
  · rw [if_neg h, if_neg h]
    cases hg : getM m k with
    | some x => rfl
    | none =>
      by_cases he : k ∈ eat
      · rw [if_pos he, if_pos he]
      · rw [if_neg he, if_neg he]

theorem row_fact {st : St} {o : Oper} {ρ : Env} {eat : List Nat} {ce : CE} {sz : Nat} {el : TypeId} {c : Ctr} (wf : st.WF) (hle : st.c.le c) (hnk : c.nk = st.c.nk) (hce : ceWf c ce = true) (heat : ∀ k ∈ eat, k ∈ writesOf st o ∧ (getO st.o k).isSome = true)
    (hids : ∀ x ∈ entIds (.row ce sz el), x ∈ valIds st o ∨ ∃ j e, j ∈ readsOf st o ++ writesOf st o ∧ getE st.m st.o j = some e ∧ x ∈ entIds e)
    (hrun : ∀ (β : Nat → Nat) (a : Act) (w : World), Below W.heap.size W w → OpsOk st o ρ β a → RdOk W st.m st.o (readsOf st o ++ writesOf st o) ρ β w →
      ∃ b code n base w', (execOp a.eval o).run P w = .ok (.value (ownV b code n base)) w' ∧ RowOk W.heap.size b code n base (ceDen ρ β ce) sz el w' ∧ (w'.os = w.os ∧ w'.tape = w.tape ∧ w'.output = w.output ∧ w.heap.size ≤ w'.heap.size) ∧
        (∀ x, x < w.heap.size → (∀ k e, k ∈ eat → getE st.m st.o k = some e → blkE β k e ≠ some x) → w'.heap[x]? = w.heap[x]?) ∧ (2 ≤ code → w.heap.size ≤ b ∨ ∃ j e, j ∈ eat ∧ getE st.m st.o j = some e ∧ blkE β j e = some b))
    (hp : PutOk { st with o := (c.nk, ce, sz, el) :: delOs st.o eat } o.dst (.cv (.one (.own c.nk))) { c with nk := c.nk + 4 }) :
    OFact P W st o ρ ({ st with o := (c.nk, ce, sz, el) :: delOs st.o eat }.putS o.dst (.cv (.one (.own c.nk))) { c with nk := c.nk + 4 }) (.cv (.one (.own c.nk))) eat := by
  obtain ⟨q1, q2, q3, q4, q5, q6⟩ := putS_c { st with o := (c.nk, ce, sz, el) :: delOs st.o eat } o.dst (.cv (.one (.own c.nk))) { c with nk := c.nk + 4 }
  have hle2 : st.c.le { c with nk := c.nk + 4 } := Ctr.le_trans hle (Ctr.le_nk c 4)
  have hmn : getM st.m c.nk = none := by
    have := wf.beyond (k := c.nk) (by omega)
    unfold getE at this
    cases hg : getM st.m c.nk with
    | none => rfl
    | some x => rw [hg] at this; cases this
  have hm : ∀ k, getE ({ st with o := (c.nk, ce, sz, el) :: delOs st.o eat }.putS o.dst (.cv (.one (.own c.nk))) { c with nk := c.nk + 4 }).m ({ st with o := (c.nk, ce, sz, el) :: delOs st.o eat }.putS o.dst (.cv (.one (.own c.nk))) { c with nk := c.nk + 4 }).o k =
      if c.nk = k then some (.row ce sz el) else match getM st.m k with
      | some (cs, t) => some (.fix cs t)
      | none => if k ∈ eat then none else getE st.m st.o k := fun k => by rw [q2, q4]; exact getE_row hmn k
  have heatm : ∀ k ∈ eat, getM st.m k = none := fun k hk => by
    obtain ⟨x, hx⟩ := Option.isSome_iff_exists.1 (heat k hk).2
    exact wf.ap k x hx
  have hsame : ∀ k, k < st.c.nk → k ∉ eat → getE ({ st with o := (c.nk, ce, sz, el) :: delOs st.o eat }.putS o.dst (.cv (.one (.own c.nk))) { c with nk := c.nk + 4 }).m ({ st with o := (c.nk, ce, sz, el) :: delOs st.o eat }.putS o.dst (.cv (.one (.own c.nk))) { c with nk := c.nk + 4 }).o k = getE st.m st.o k := fun k hk he => by
    rw [hm, if_neg (by omega)]
    cases hg : getM st.m k with
    | some x => exact (getE_m hg).symm
    | none => simp only [if_neg he]
  -- what is new or changed
  have one : ∀ {k e}, (k ∈ eat ∨ st.c.nk ≤ k) → getE ({ st with o := (c.nk, ce, sz, el) :: delOs st.o eat }.putS o.dst (.cv (.one (.own c.nk))) { c with nk := c.nk + 4 }).m ({ st with o := (c.nk, ce, sz, el) :: delOs st.o eat }.putS o.dst (.cv (.one (.own c.nk))) { c with nk := c.nk + 4 }).o k = some e → k = c.nk ∧ e = .row ce sz el := by
    intro k e hk hg
    rw [hm] at hg
    by_cases hkk : c.nk = k
    · rw [if_pos hkk] at hg; cases hg; exact ⟨hkk.symm, rfl⟩
    · rw [if_neg hkk] at hg
      rcases hk with hk | hk
      · rw [heatm k hk] at hg
        simp only [if_pos hk] at hg
        cases hg
      · have := wf.beyond hk
        unfold getE at this
        cases hgm : getM st.m k with
        | some x => rw [hgm] at this; cases this
        | none =>
          rw [hgm] at hg
          simp only at hg
          split at hg
          · cases hg
          · rw [wf.beyond hk] at hg; cases hg
  refine ⟨q3, q5, q6, by rw [q1]; exact hle2, ?_, fun t' => getS_putS _ o.dst _ _ t', fun d hd => (hp d hd).1, fun k hk => ⟨(heat k hk).1, ?_⟩, hsame, fun k e' hk hg x hx => ?_, fun β a w hB ho hr next Q' hn => ?_⟩
  · have g := wf.grow hle2
    refine ⟨fun i => ?_, by rw [q2, q1]; exact g.m, fun k ce' sz' t' hg => ?_, fun k x hk => ?_, by rw [q5, q1]; exact g.r, by rw [q6, q1]; exact g.d⟩
    · rw [getS_putS, q1]
      by_cases hd : o.dst = some i
      · rw [if_pos hd]; exact (hp i hd).2
      · rw [if_neg hd]; exact g.t i
    · rw [q4, getO_cons] at hg
      rw [q1]
      by_cases hk : c.nk = k
      · rw [if_pos hk] at hg
        cases hg
        exact ⟨by simp only; omega, ceWf_le (Ctr.le_nk c 4) hce⟩
      · rw [if_neg hk, getO_dels] at hg
        split at hg
        · cases hg
        · exact g.o k ce' sz' t' hg
    · rw [q4, getO_cons] at hk
      rw [q2]
      by_cases hkk : c.nk = k
      · rw [← hkk]; exact hmn
      · rw [if_neg hkk, getO_dels] at hk
        split at hk
        · cases hk
        · exact wf.ap k x hk
  · obtain ⟨x, hx⟩ := Option.isSome_iff_exists.1 (heat k hk).2
    have := (wf.o k x.1 x.2.1 x.2.2 hx).1
    omega
  · obtain ⟨rfl, rfl⟩ := one hk hg
    exact hids x hx
  · obtain ⟨b, code, n, base, w', r1, r2, ⟨r3, r4, r5, r6⟩, r7, r8⟩ := hrun β a w hB ho hr
    unfold Oper.wp
    rw [r1, Oper.upon_value]
    let β' : Nat → Nat := fun k => if k = c.nk then b else if k = c.nk + 1 then code else if k = c.nk + 2 then n else if k = c.nk + 3 then base else β k
    have b0' : β' c.nk = b := if_pos rfl
    have b1' : β' (c.nk + 1) = code := by show (if c.nk + 1 = c.nk then b else if c.nk + 1 = c.nk + 1 then code else _) = code; rw [if_neg (by omega), if_pos rfl]
    have b2' : β' (c.nk + 2) = n := by
      show (if c.nk + 2 = c.nk then b else if c.nk + 2 = c.nk + 1 then code else if c.nk + 2 = c.nk + 2 then n else _) = n
      rw [if_neg (by omega), if_neg (by omega), if_pos rfl]
    have b3' : β' (c.nk + 3) = base := by
      show (if c.nk + 3 = c.nk then b else if c.nk + 3 = c.nk + 1 then code else if c.nk + 3 = c.nk + 2 then n else if c.nk + 3 = c.nk + 3 then base else _) = base
      rw [if_neg (by omega), if_neg (by omega), if_neg (by omega), if_pos rfl]
    have hoff : ∀ k, ¬ (c.nk ≤ k ∧ k < c.nk + 4) → β' k = β k := fun k hk => by
      show (if k = c.nk then b else if k = c.nk + 1 then code else if k = c.nk + 2 then n else if k = c.nk + 3 then base else β k) = β k
      rw [if_neg (by omega), if_neg (by omega), if_neg (by omega), if_neg (by omega)]
    refine hn β' _ _ (fun _ => ?_) ⟨r3, r4, r5, r6, fun x hx hnx => r7 x hx hnx, fun k hk => hoff k (by rw [q1] at hk; simp only at hk; omega), fun k e' hk hg => ?_, fun k k' e e' hk hk' hg hg' => ?_⟩
    · show _ = ownV (β' c.nk) (β' (c.nk + 1)) (β' (c.nk + 2)) (β' (c.nk + 3))
      rw [b0', b1', b2', b3']
    · obtain ⟨rfl, rfl⟩ := one hk hg
      refine ⟨?_, fun x hx => ?_⟩
      · simp only [Holds]
        rw [b0', b1', b2', b3', ceDen_like (Env.like_refl c ρ) (fun k hk => hoff k (by omega)) hce]
        exact r2
      · simp only [blkE, b0', b1'] at hx
        split at hx
        · rename_i h2
          simp only [Option.some.injEq] at hx
          subst hx
          rcases r8 h2 with h | ⟨j, e, h3, h4, h5⟩
          · exact .inl h
          · refine .inr ⟨j, e, h3, h4, h5, .inr ?_⟩
            rw [hm, if_neg (by have := entWf_lt (wf.ent h4); omega), heatm j h3]
            simp only [if_pos h3]
        · cases hx
    · rw [(one hk hg).1, (one hk' hg').1]

theorem sgIds_app : ∀ (x y : CE) {i : Nat}, i ∈ (ceApp x y).flatMap sgIds → i ∈ x.flatMap sgIds ∨ i ∈ y.flatMap sgIds
  | [], y, i, h => .inr h
  | [.ats l], [], i, h => .inl h
  | [.ats l], .ats l' :: y, i, h => by
    simp only [ceApp, List.flatMap_cons, sgIds, idsOf_append, List.mem_append, List.flatMap_nil, List.append_nil] at h ⊢
    rcases h with (h | h) | h
    · exact .inl h
    · exact .inr (.inl h)
    · exact .inr (.inr h)
  | [.ats l], .var j :: y, i, h => by
    simp only [ceApp, List.flatMap_cons, List.mem_append, List.flatMap_nil, List.append_nil] at h ⊢
    exact h
  | [.var j], y, i, h => by
    simp only [ceApp, List.flatMap_cons, List.mem_append, List.flatMap_nil, List.append_nil] at h ⊢
    exact h
  | .ats l :: t :: r, y, i, h => by
    simp only [ceApp] at h
    rw [List.flatMap_cons] at h ⊢
    rcases List.mem_append.1 h with h | h
    · exact .inl (List.mem_append.2 (.inl h))
    · rcases sgIds_app (t :: r) y h with h | h
      · exact .inl (List.mem_append.2 (.inr h))
      · exact .inr h
  | .var j :: t :: r, y, i, h => by
    simp only [ceApp] at h
    rw [List.flatMap_cons] at h ⊢
    rcases List.mem_append.1 h with h | h
    · exact .inl (List.mem_append.2 (.inl h))
    · rcases sgIds_app (t :: r) y h with h | h
      · exact .inl (List.mem_append.2 (.inr h))
      · exact .inr h

theorem zeroA_val {t : TypeId} {z : CV} (h : zeroA P t = some z) : ∃ i v, P.info? t = some i ∧ i.zero = some v ∧ ∀ ρ β, z.den ρ β = v := by
  unfold zeroA at h
  cases hi : P.info? t with
  | none => simp [hi] at h
  | some i =>
    simp only [hi] at h
    cases hz : i.zero with
    | none => simp [hz] at h
    | some v =>
      simp only [hz] at h
      have h2 := fun ρ β => (SV.ofValue_den v ⟨0, 0, 0, 0, 0, 0, 0⟩ ρ β).2
      generalize hs : SV.ofValue v = sv at h h2
      cases sv with
      | cv x =>
        simp only [Option.some.injEq] at h
        subst h
        exact ⟨i, v, rfl, hz, fun ρ β => h2 ρ β (by simp)⟩
      | _ => simp at h
/-- What is appended, as the run has it. -/
def Src (W : World) (st : St) (sz : Nat) (y : SV) (add : CE) (c : Ctr) (ρ : Env) : Prop :=
  ∀ (ρ'' : Env) (β : Nat → Nat) (w : World), Env.like c ρ ρ'' → Below W.heap.size W w → RdOk W st.m st.o (blksOf (svCells y)) ρ'' β w →
    ∃ m, ((y.den ρ'' β = .slice none 0 0 ∧ m = 0) ∨ ∃ a k, y.den ρ'' β = .slice (some a) m k ∧ ∀ j u, (ceDen ρ'' β add)[j]? = some u → w.cell? (a.add j) = some u) ∧ (ceDen ρ'' β add).length = m * sz
theorem addOf_sound {st : St} {sz : Nat} {eat : List Nat} {y : SV} {K : CE → Ctr → Env → Prop} {ρ : Env} (wf : st.WF) (hy : y.wf st.c = true) (h : addOf (PA P W Q QM) st sz eat y K ρ) :
    ∃ add c' ρ', K add c' ρ' ∧ st.c.le c' ∧ c'.nk = st.c.nk ∧ Env.like st.c ρ ρ' ∧ ceWf c' add = true ∧ y ≠ .any ∧ Src W st sz y add c' ρ' ∧
      ∀ x ∈ add.flatMap sgIds, ∃ j e, j ∈ blksOf (svCells y) ∧ getE st.m st.o j = some e ∧ x ∈ entIds e := by
  unfold addOf at h
  split at h
  · exact ⟨[], _, ρ, h, Ctr.le_refl _, rfl, Env.like_refl _ _, rfl, by simp, fun ρ'' β w _ _ _ => ⟨0, .inl ⟨rfl, rfl⟩, by simp [ceDen]⟩, fun x hx => by cases hx⟩
  · rename_i k off len cap
    generalize hg : getM st.m k = u at h
    split at h
    · rename_i cs t
      split at h
      · rename_i hb
        refine ⟨_, _, ρ, h, Ctr.le_refl _, rfl, Env.like_refl _ _, ?_, by simp, fun ρ'' β w _ _ hr => ⟨len, .inr ⟨⟨β k, off, none⟩, cap, rfl, fun j u hj => ?_⟩, ?_⟩, fun x hx => ?_⟩
        · simp only [ceWf, List.all_cons, List.all_nil, Bool.and_true, Sg.wf]
          exact (all_split (all_split (wf.m k cs t hg).2 off).2 _).1
        · obtain ⟨_, hh⟩ := hr k (by simp [svCells, CV.cells, blksOf]) _ (getE_m hg)
          simp only [ceDen, Sg.den, List.append_nil, List.getElem?_map, Option.map_eq_some_iff] at hj
          obtain ⟨a, ha, rfl⟩ := hj
          have hj2 : j < len * sz := by
            rcases Nat.lt_or_ge j (len * sz) with h' | h'
            · exact h'
            · rw [List.getElem?_eq_none (by simp; omega)] at ha; cases ha
          rw [List.getElem?_take_of_lt hj2, List.getElem?_drop] at ha
          rw [addr_add, cell_of_heap hh]
          simp [ha]
        · simp only [ceDen, Sg.den, List.append_nil, List.length_map, List.length_take, List.length_drop]
          omega
        · simp only [List.flatMap_cons, sgIds, List.flatMap_nil, List.append_nil] at hx
          exact ⟨k, _, by simp [svCells, CV.cells, blksOf], getE_m hg, idsOf_drop _ _ (idsOf_take _ _ hx)⟩
      · exact h.elim
    · exact h.elim
  · rename_i k
    generalize hg : getO st.o k = u at h
    split at h
    · rename_i ce s t
      split at h
      · rename_i hc
        obtain ⟨rfl, hne⟩ := hc
        refine ⟨ce, _, ρ, h, Ctr.le_refl _, rfl, Env.like_refl _ _, (wf.o k ce s t hg).2, by simp, fun ρ'' β w _ _ hr => ?_, fun x hx => ⟨k, _, by simp [svCells, CV.cells, blksOf], getE_o (wf.ap k _ hg) hg, hx⟩⟩
        have hrow := hr k (by simp [svCells, CV.cells, blksOf]) _ (getE_o (wf.ap k _ hg) hg)
        refine ⟨β (k + 2), ?_, hrow.1⟩
        show (ownV (β k) (β (k + 1)) (β (k + 2)) (β (k + 3)) = _ ∧ _) ∨ ∃ a k', ownV (β k) (β (k + 1)) (β (k + 2)) (β (k + 3)) = _ ∧ _
        unfold ownV
        by_cases h0 : β (k + 1) = 0
        · rw [if_pos h0]
          refine .inl ⟨rfl, ?_⟩
          rcases hrow.2.2 with ⟨_, h1⟩ | ⟨h1, _⟩
          · exact h1
          · omega
        · rw [if_neg h0]
          refine .inr ⟨_, _, rfl, fun j u hj => ?_⟩
          have h1 := row_cell hrow hj
          rcases hrow.2.2 with ⟨_, h2⟩ | ⟨_, h2, _⟩
          · have : (ceDen ρ'' β ce).length = 0 := by rw [hrow.1, h2]; omega
            have := (List.getElem?_eq_some_iff.1 hj).1
            omega
          · rw [addr_add, h2, Nat.zero_add]; exact h1
      · exact h.elim
    · exact h.elim
  · rename_i x _ _ _
    have ext : ∀ (s : Nat), (∀ ρ'' β β', x.den ρ'' β = x.den ρ'' β') → blksOf [x] = [] → x.wf st.c = true → (PA P W Q QM).ecp st.c.nl x sz (K [.var st.c.nl] { st.c with nl := st.c.nl + 1 }) ρ →
        ∃ add c' ρ', K add c' ρ' ∧ st.c.le c' ∧ c'.nk = st.c.nk ∧ Env.like st.c ρ ρ' ∧ ceWf c' add = true ∧ (SV.cv (.one x)) ≠ .any ∧ Src W st sz (.cv (.one x)) add c' ρ' ∧
          ∀ i ∈ add.flatMap sgIds, ∃ j e, j ∈ blksOf (svCells (.cv (.one x))) ∧ getE st.m st.o j = some e ∧ i ∈ entIds e := by
      intro s hfl hbl hwx h
      obtain ⟨L, h1, h2⟩ := h
      have hle := Ctr.le_nl st.c 1
      refine ⟨_, _, _, h2, hle, rfl, like_setL st.c ρ L, by simp [ceWf, Sg.wf], by simp, fun ρ'' β w hl hB hr => ?_, fun i hi => by simp [sgIds] at hi⟩
      have e1 : ρ''.l st.c.nl = L := by
        rw [hl.l st.c.nl (Nat.lt_succ_self _)]
        exact if_pos rfl
      have e2 : ceDen ρ'' β [.var st.c.nl] = L.map (·.1) := by simp only [ceDen, Sg.den, List.append_nil, e1]
      have e3 : x.den ρ'' β = x.den ρ b0 := by
        rw [At.den_like (Env.like_trans hle (like_setL st.c ρ L) hl) (β := β) (fun _ _ => rfl) hwx]
        exact hfl ρ β b0
      rw [e2]
      rcases h1 with ⟨h3, h4⟩ | ⟨b, o, len, cap, h3, h4, h5⟩
      · exact ⟨0, .inl ⟨e3.trans h3, rfl⟩, by rw [h4]; simp⟩
      · refine ⟨len, .inr ⟨_, _, e3.trans h3, fun j u hj => ?_⟩, h4⟩
        have := h5 j u hj
        rw [addr_add, hB.cell (World.block_lt_of_cell? _ _ this)]
        exact this
    split at h
    · rename_i p ix s len cap
      split at h
      · rename_i hc
        exact ext 0 (fun _ _ _ => rfl) rfl hc.2 h
      · exact h.elim
    · rename_i q p s len cap
      split at h
      · rename_i hc
        exact ext 0 (fun _ _ _ => rfl) rfl hc.2 h
      · exact h.elim
    · exact h.elim
  · exact h.elim

theorem rowOf_some {o : OMem} {sz : Nat} {el : TypeId} {x : SV} {ce : CE} {eat : List Nat} (h : rowOf o sz el x = some (ce, eat)) :
    (x = .cv (.one .nils) ∧ ce = [] ∧ eat = []) ∨ ∃ k, x = .cv (.one (.own k)) ∧ getO o k = some (ce, sz, el) ∧ eat = [k] := by
  unfold rowOf at h
  split at h
  · simp only [Option.some.injEq, Prod.mk.injEq] at h
    exact .inl ⟨rfl, h.1.symm, h.2.symm⟩
  · rename_i k
    split at h
    · rename_i ce' s t hg
      split at h
      · rename_i hc
        obtain ⟨rfl, rfl⟩ := hc
        simp only [Option.some.injEq, Prod.mk.injEq] at h
        obtain ⟨rfl, rfl⟩ := h
        exact .inr ⟨k, rfl, hg, rfl⟩
      · cases h
    · cases h
  · cases h

theorem opa_resolve {G : Cfg} {st : St} {o : Oper} {K : St → Env → Prop} {ρ : Env} (wf : st.WF) (h : opa (PA G.P W Q QM) G st o K ρ) : Rsv G.P W st o K ρ := by
  unfold opa at h
  obtain ⟨dst, op, type, pos, after, guard⟩ := o
  cases op <;> first | exact h.elim | skip
  rename_i cl
  obtain ⟨callee, args, argTypes⟩ := cl
  cases callee <;> first | exact h.elim | skip
  rename_i bi
  cases bi <;> first | exact h.elim | skip
  simp only at h
  generalize ha : args.toList = al at h
  generalize ht : argTypes.toList = tl at h
  split at h
  rotate_left
  · exact h.elim
  rename_i x y t t'
  have ea : args = #[x, y] := by apply Array.ext'; rw [ha]
  have et : argTypes = #[t, t'] := by apply Array.ext'; rw [ht]
  subst ea et
  generalize hu : G.P.underlying t = u at h
  split at h
  rotate_left
  · exact h.elim
  rename_i el
  generalize hi : G.P.info? el = u2 at h
  generalize hzz : zeroA G.P el = u3 at h
  split at h
  rotate_left
  · exact h.elim
  rename_i i z
  split at h
  rotate_left
  · exact h.elim
  rename_i hc
  obtain ⟨rfl, c1, c2, c3⟩ := hc
  generalize hro : rowOf st.o i.size el (st.ev x) = u4 at h
  split at h
  rotate_left
  · exact h.elim
  rename_i ce eat
  obtain ⟨add, ca, ρa, h, a1, a2, a3, a4, a5, a6, a7⟩ := addOf_sound wf (wf.ev y) h
  obtain ⟨nl, cb, ρb, h, b1, b2, b3, b4, b5⟩ := doOLen_sound h
  obtain ⟨hbd, h⟩ := doChk_sound h
  have hle := Ctr.le_trans a1 b1
  have hlk := Env.like_trans a1 a3 b3
  unfold St.newO at h
  split at h
  rotate_left
  · exact h.elim
  rename_i hwce
  obtain ⟨h1, h2⟩ := put_resolve h
  have hcc := (putS_c { st with o := (cb.nk, ceApp ce add, i.size, el) :: delOs st.o eat } dst (.cv (.one (.own cb.nk))) { cb with nk := cb.nk + 4 }).1
  refine ⟨_, ρb, .cv (.one (.own cb.nk)), eat, h1, by rw [hcc]; exact Ctr.le_trans hle (Ctr.le_nk cb 4), hlk, fun ρ'' hl => ?_⟩
  rw [hcc] at hl
  have hlb : Env.like cb ρb ρ'' := ⟨hl.i, hl.b, hl.v, hl.p, hl.s, hl.l⟩
  have hrw : ∀ k, k ∈ blksOf (svCells (st.ev x)) ∨ k ∈ blksOf (svCells (st.ev y)) → k ∈ readsOf st ⟨dst, .call ⟨.builtin .append, #[x, y], #[t', t']⟩, type, pos, after, guard⟩ := fun k hk => by
    have app : ∀ (l1 l2 : List At), blksOf (l1 ++ l2) = blksOf l1 ++ blksOf l2 := by
      intro l1 l2
      induction l1 with
      | nil => rfl
      | cons a l1 ih => cases a <;> simp [blksOf, ih]
    simp only [readsOf, List.map_cons, List.map_nil, List.flatMap_cons, List.flatMap_nil, List.append_nil, app]
    exact List.mem_append.2 hk
  have hro' := rowOf_some hro
  have heat : ∀ k ∈ eat, k ∈ writesOf st ⟨dst, .call ⟨.builtin .append, #[x, y], #[t', t']⟩, type, pos, after, guard⟩ ∧ (getO st.o k).isSome = true := fun k hk => by
    rcases hro' with ⟨_, _, rfl⟩ | ⟨k0, hx, hg, rfl⟩
    · cases hk
    · simp only [List.mem_singleton] at hk
      subst hk
      exact ⟨by simp [writesOf, hx, svCells, CV.cells, blksOf], by rw [hg]; rfl⟩
  refine row_fact wf hle (b2.trans a2) hwce heat (fun v hv => .inr ?_) (fun β a w hB hops hrd => ?_) h2
  · simp only [entIds] at hv
    rcases sgIds_app ce add hv with hv | hv
    · rcases hro' with ⟨_, rfl, _⟩ | ⟨k0, hx, hg, rfl⟩
      · cases hv
      · exact ⟨k0, _, List.mem_append.2 (.inr (heat k0 (by simp)).1), getE_o (wf.ap k0 _ hg) hg, hv⟩
    · obtain ⟨j, e, j1, j2, j3⟩ := a7 v hv
      exact ⟨j, e, List.mem_append.2 (.inl (hrw j (.inr j1))), j2, j3⟩
  · -- the run
    have hz : ∃ z0, i.zero = some z0 ∧ z0.cells.size = i.size := by
      obtain ⟨i', v, q1, q2, q3⟩ := zeroA_val hzz
      rw [hi] at q1
      cases q1
      refine ⟨v, q2, ?_⟩
      rw [← q3 ρ'' β, CV.cells_den]
      simpa using c2
    obtain ⟨z0, hz0, hz1⟩ := hz
    have ey := hops y (by simp [Op.operands, Call.operands]) a5
    have ex : a.eval x = (st.ev x).den ρ'' β := hops x (by simp [Op.operands, Call.operands]) (by
      rcases hro' with ⟨hx, _⟩ | ⟨k0, hx, _⟩ <;> rw [hx] <;> simp)
    obtain ⟨m, s1, s2⟩ := a6 ρ'' β w (Env.like_trans b1 b3 hlb) hB (fun k hk e hg => hrd k (List.mem_append.2 (.inl (hrw k (.inr hk)))) e hg)
    have hn := b5 ρ'' β hlb
    have hbd2 : nl.den ρ'' ≤ maxRow := by rw [IE.den_like hlb b4]; exact hbd
    rw [hn, ceDen_app, List.length_append, s2] at hbd2
    have hlo := hB.size
    -- the row
    obtain ⟨b, code, n, base, hv, hrow, hbk⟩ : ∃ b code n base, (st.ev x).den ρ'' β = ownV b code n base ∧ RowOk W.heap.size b code n base (ceDen ρ'' β ce) i.size el w ∧
        (2 ≤ code → ∃ j e, j ∈ eat ∧ getE st.m st.o j = some e ∧ blkE β j e = some b) := by
      rcases hro' with ⟨hx, rfl, rfl⟩ | ⟨k0, hx, hg, rfl⟩
      · exact ⟨0, 0, 0, 0, by rw [hx]; rfl, ⟨by simp [ceDen], c1, .inl ⟨by omega, rfl⟩⟩, fun h => by omega⟩
      · have hE := getE_o (wf.ap k0 _ hg) hg
        have := hrd k0 (List.mem_append.2 (.inr (heat k0 (by simp)).1)) _ hE
        exact ⟨β k0, β (k0 + 1), β (k0 + 2), β (k0 + 3), by rw [hx]; rfl, this, fun h => ⟨k0, _, by simp, hE, by simp only [blkE, h, if_true]⟩⟩
    have hnm : n + m ≤ 1073741824 := by
      rw [hrow.1, ← Nat.add_mul, Nat.mul_div_cancel _ c1] at hbd2
      simp only [maxRow] at hbd2
      omega
    obtain ⟨b', code', base', w', p1, p2, p3, p4, p5⟩ := append_row (P := G.P) (t := t') (ty := type) w hu hi hz0 rfl hz1 hrow ((st.ev y).den ρ'' β) m (ceDen ρ'' β add) s1 s2 (ceDen_one ρ'' β add) (by simp [maxLen]; omega)
      (by
        have h1 : (n + m) * i.bytes ≤ 1073741824 * 131072 := Nat.mul_le_mul hnm c3
        omega) hlo
    refine ⟨b', code', n + m, base', w', ?_, by rw [ceDen_app]; exact p2, p3, fun k hk hnk => p4 k hk fun h2 he => ?_, fun h2 => ?_⟩
    · simp [execOp, resolve, invoke, builtin, ex, ey, hv, p1]
    · obtain ⟨j, e, j1, j2, j3⟩ := hbk h2
      exact hnk j e j1 j2 (by rw [j3, he])
    · rcases p5 h2 with h3 | ⟨h3, rfl⟩
      · exact .inl h3
      · obtain ⟨j, e, j1, j2, j3⟩ := hbk h3
        exact .inr ⟨j, e, j1, j2, j3⟩
end Vc
