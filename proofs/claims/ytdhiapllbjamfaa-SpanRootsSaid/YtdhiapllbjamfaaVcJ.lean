/- Vc, part J: operations on memory, and lists of operations, are sound. No program in sight. -/
import Derived.Test.YtdhiapllbjamfaaVcI
import Derived.Laws.CopyOwn
set_option linter.unusedVariables false
set_option linter.unusedSimpArgs false
namespace Vc
open Go Go.RowKit
variable {P : Program} {W : World} {Q : Value → Prop} {QM : World → Value → Prop}

/-- A state of the walk is one of the run. -/
structure Core (W : World) (ρ : Env) (β : Nat → Nat) (st : St) (a : Act) (w : World) : Prop where
  size : a.tmps.size = st.n
  tmps : ∀ i, getS st.t i ≠ .any → a.tmps[i]? = some ((getS st.t i).den ρ β)
  dfr : a.defers = []
  below : Below W.heap.size W w
  mem : ∀ k cs t, getM st.m k = some (cs, t) → W.heap.size ≤ β k ∧ w.heap[β k]? = some (.cells (cs.map (At.den ρ β)).toArray t)
  inj : ∀ k k' x y, getM st.m k = some x → getM st.m k' = some y → β k = β k' → k = k'
  wf : st.WF

theorem heap_lt {w : World} {b : Nat} {o : Obj} (h : w.heap[b]? = some o) : b < w.heap.size := (Array.getElem?_eq_some_iff.1 h).1

theorem Core.eval {ρ : Env} {β : Nat → Nat} {st : St} {a : Act} {w : World} (h : Core W ρ β st a w) : ∀ x : Operand, st.ev x ≠ .any → a.eval x = (st.ev x).den ρ β
  | .tmp t, hn => by
    have := h.tmps t hn
    simp only [Act.eval, St.ev, Array.getD_eq_getD_getElem?, this, Option.getD_some]
  | .const v, hn => ((SV.ofValue_den v st.c ρ β).2 hn).symm
  | .global _, hn => (hn rfl).elim
  | .func _, hn => rfl
theorem Core.ops {ρ : Env} {β : Nat → Nat} {st : St} {a : Act} {w : World} (h : Core W ρ β st a w) (o : Oper) : OpsOk st o ρ β a := fun x _ hn => h.eval x hn
theorem Core.rd {ρ : Env} {β : Nat → Nat} {st : St} {a : Act} {w : World} (h : Core W ρ β st a w) (l : List Nat) : RdOk W st.m l ρ β w := fun k _ cs t hg => h.mem k cs t hg

theorem getS_cons (t : List (Nat × SV)) (d i : Nat) (v : SV) : getS ((d, v) :: t) i = if d = i then v else getS t i := rfl
theorem getM_cons (m : Mem) (d i : Nat) (v : List At × TypeId) : getM ((d, v) :: m) i = if d = i then some v else getM m i := rfl

/-- More variables, and a world that has grown. -/
theorem Core.grow {ρ ρ' : Env} {β : Nat → Nat} {st : St} {a : Act} {w w' : World} {c : Ctr} (h : Core W ρ β st a w) (hc : st.c.le c) (hl : Env.like st.c ρ ρ') (hb : Below w.heap.size w w') :
    Core W ρ' β { st with c := c } a w' where
  size := h.size
  tmps i hn := by
    have := h.tmps i hn
    rw [this]
    exact congrArg some (SV.den_like hl (fun _ _ => rfl) (h.wf.t i)).symm
  dfr := h.dfr
  below := h.below.trans (hb.mono h.below.size)
  mem k cs t hg := by
    obtain ⟨h1, h2⟩ := h.mem k cs t hg
    refine ⟨h1, ?_⟩
    rw [hb.block _ (heap_lt h2), h2, map_den_like hl (β := β) (fun _ _ => rfl) (h.wf.m k cs t hg).2]
  inj := h.inj
  wf := ⟨fun i => SV.wf_le hc (h.wf.t i), fun k cs t hg => ⟨Nat.lt_of_lt_of_le (h.wf.m k cs t hg).1 hc.2.2.2.2, all_wf_le hc (h.wf.m k cs t hg).2⟩⟩

theorem getElem?_put {a : Act} {d : Nat} {v : Value} (i : Nat) (hd : d < a.tmps.size) : (a.put (some d) v).tmps[i]? = if d = i then some v else a.tmps[i]? := by
  simp only [Act.put]
  by_cases h : d = i
  · subst h; simp [hd]
  · rw [if_neg h, Array.getElem?_setIfInBounds_ne h]

theorem Core.put {ρ : Env} {β : Nat → Nat} {st : St} {a : Act} {w : World} {d : Nat} {v : SV} {val : Value} (h : Core W ρ β st a w) (hd : d < st.n) (hw : v.wf st.c = true) (hv : v ≠ .any → val = v.den ρ β) :
    Core W ρ β { st with t := (d, v) :: st.t } (a.put (some d) val) w where
  size := by simp [Act.put, h.size]
  tmps i hn := by
    have hds : d < a.tmps.size := by rw [h.size]; exact hd
    rw [getElem?_put i hds]
    rw [getS_cons] at hn ⊢
    by_cases hi : d = i
    · rw [if_pos hi] at hn ⊢; rw [if_pos hi, hv hn]
    · rw [if_neg hi] at hn ⊢; rw [if_neg hi]; exact h.tmps i hn
  dfr := h.dfr
  below := h.below
  mem := h.mem
  inj := h.inj
  wf := ⟨fun i => by
    rw [getS_cons]
    by_cases hi : d = i
    · rw [if_pos hi]; exact hw
    · rw [if_neg hi]; exact h.wf.t i, h.wf.m⟩

/-- What follows an operation holds in each state that the walk may come to. -/
def Nxt (W : World) (st : St) (ρ : Env) (β : Nat → Nat) (K : St → Env → Prop) (next : Act → World → Prop) : Prop :=
  ∀ st' ρ' β' a' w', K st' ρ' → st.c.le st'.c → Env.like st.c ρ ρ' → (∀ k, k < st.c.nk → β' k = β k) → Core W ρ' β' st' a' w' → next a' w'

theorem put_sound {st st0 : St} {dst : Option Tmp} {v : SV} {c : Ctr} {K : St → Env → Prop} {ρ ρ0 : Env} {next : Act → World → Prop} (h : St.put (PA P W Q QM) st dst v c K ρ) {β : Nat → Nat} {a : Act} {w : World} {val : Value}
    (hC : Core W ρ β { st with c := c } a w) {β0 : Nat → Nat} (h0 : st0.c.le c) (hl : Env.like st0.c ρ0 ρ) (hβ : ∀ k, k < st0.c.nk → β k = β0 k) (hv : v ≠ .any → val = v.den ρ β) (hn : Nxt W st0 ρ0 β0 K next) : next (a.put dst val) w := by
  unfold St.put at h
  split at h
  · exact hn _ ρ β a w h h0 hl hβ hC
  · rename_i d
    split at h
    · rename_i hd
      exact hn _ ρ β _ w h h0 hl hβ (hC.put (v := v) hd.1 hd.2 hv)
    · exact h.elim

theorem opv_step {G : Cfg} (hG : G.Ok) {st : St} {o : Oper} {K : St → Env → Prop} {ρ : Env} (h : opv (PA G.P W Q QM) G st o (fun v c => if c.nk = st.c.nk then St.put (PA G.P W Q QM) st o.dst v c K else (PA G.P W Q QM).fail "blocks") ρ)
    {β : Nat → Nat} {a : Act} {w : World} (hC : Core W ρ β st a w) {next : Act → World → Prop} (hn : Nxt W st ρ β K next) (Q' : Exit → Act → World → Prop) : o.wp G.P a w next Q' := by
  obtain ⟨sv, c', ρ', h1, h2, h3, h4⟩ := opv_sound hG hC.wf h
  by_cases hk : c'.nk = st.c.nk
  case neg => rw [if_neg hk] at h1; exact h1.elim
  rw [if_pos hk] at h1
  have hC' : Core W ρ' β { st with c := c' } a w := hC.grow h2 h3 (Below.refl _ _)
  refine h4 ρ' (Env.like_refl _ _) β a w hC.below ?_ ?_ next Q' fun v w' hv hb => ?_
  · intro x hx hn'
    exact hC'.ops o x hx hn'
  · exact hC'.rd _
  · have hC2 : Core W ρ' β { st with c := c' } a w' := hC.grow h2 h3 hb
    exact put_sound h1 hC2 h2 h3 (fun _ _ => rfl) hv hn

theorem new_sound {G : Cfg} {st : St} {o : Oper} {cs : List At} {t : TypeId} {v : Nat → At} {K : St → Env → Prop} {ρ : Env} (h : St.new (PA P W Q QM) st o.dst cs t v K ρ)
    {β : Nat → Nat} {a : Act} {w : World} (hC : Core W ρ β st a w) {next : Act → World → Prop} (hn : Nxt W st ρ β K next) (val : Value)
    (hv : ∀ β' : Nat → Nat, β' st.c.nk = w.heap.size → val = (v st.c.nk).den ρ β') : next (a.put o.dst val) (w.alloc (.cells (cs.map (At.den ρ β)).toArray t)) := by
  unfold St.new at h
  split at h
  · rename_i hw
    have hle : st.c.le { st.c with nk := st.c.nk + 1 } := ⟨Nat.le_refl _, Nat.le_refl _, Nat.le_refl _, Nat.le_refl _, Nat.le_succ _⟩
    let β' : Nat → Nat := fun k => if k = st.c.nk then w.heap.size else β k
    have hβ : ∀ k, k < st.c.nk → β' k = β k := fun k hk => if_neg (Nat.ne_of_lt hk)
    have hβ0 : β' st.c.nk = w.heap.size := if_pos rfl
    refine put_sound (st0 := st) (ρ0 := ρ) (β := β') (st := { st with m := (st.c.nk, cs, t) :: st.m }) (c := { st.c with nk := st.c.nk + 1 }) h ?_ hle (Env.like_refl _ _) hβ (fun _ => hv β' hβ0) hn
    refine ⟨hC.size, fun i hn' => ?_, hC.dfr, hC.below.alloc hC.below.size _, fun k cs' t' hg => ?_, fun k k' x y hx hy he => ?_, ⟨fun i => SV.wf_le hle (hC.wf.t i), fun k cs' t' hg => ?_⟩⟩
    · rw [hC.tmps i hn', SV.den_like (Env.like_refl _ ρ) hβ (hC.wf.t i)]
    · simp only [getM_cons] at hg
      by_cases hk : st.c.nk = k
      · subst hk
        rw [if_pos rfl] at hg
        cases hg
        rw [hβ0]
        refine ⟨hC.below.size, ?_⟩
        rw [map_den_like (Env.like_refl _ ρ) hβ hw]
        show (w.heap.push _)[w.heap.size]? = _
        simp
      · rw [if_neg hk] at hg
        obtain ⟨h1, h2⟩ := hC.mem k cs' t' hg
        have hw' := hC.wf.m k cs' t' hg
        rw [hβ k hw'.1]
        refine ⟨h1, ?_⟩
        rw [Below.heap_alloc _ _ _ (heap_lt h2), h2, map_den_like (Env.like_refl _ ρ) hβ hw'.2]
    · simp only [getM_cons] at hx hy
      by_cases hk : st.c.nk = k
      · by_cases hk' : st.c.nk = k'
        · omega
        · rw [if_neg hk'] at hy
          obtain ⟨h1, h2⟩ := hC.mem k' _ _ hy
          rw [← hk, hβ0, hβ k' (hC.wf.m k' _ _ hy).1] at he
          have := heap_lt h2
          omega
      · rw [if_neg hk] at hx
        obtain ⟨h1, h2⟩ := hC.mem k _ _ hx
        by_cases hk' : st.c.nk = k'
        · rw [← hk', hβ0, hβ k (hC.wf.m k _ _ hx).1] at he
          have := heap_lt h2
          omega
        · rw [if_neg hk'] at hy
          rw [hβ k (hC.wf.m k _ _ hx).1, hβ k' (hC.wf.m k' _ _ hy).1] at he
          exact hC.inj k k' _ _ hx hy he
    · simp only [getM_cons] at hg
      by_cases hk : st.c.nk = k
      · subst hk
        rw [if_pos rfl] at hg
        cases hg
        exact ⟨Nat.lt_succ_self _, all_wf_le hle hw⟩
      · rw [if_neg hk] at hg
        have hw' := hC.wf.m k cs' t' hg
        exact ⟨Nat.lt_succ_of_lt hw'.1, all_wf_le hle hw'.2⟩
  · exact h.elim

theorem getM_setM : ∀ (m : Mem) (k i : Nat) (cs : List At), getM (setM m k cs) i = if k = i then (getM m i).map (fun x => (cs, x.2)) else getM m i
  | [], k, i, cs => by simp [setM, getM]
  | (j, v) :: r, k, i, cs => by
    simp only [setM]
    by_cases hj : j = k
    · subst hj
      rw [if_pos rfl]
      simp only [getM_cons]
      by_cases hi : j = i
      · simp [hi]
      · simp [hi]
    · rw [if_neg hj]
      simp only [getM_cons, getM_setM r k i cs]
      by_cases hi : j = i
      · subst hi
        rw [if_pos rfl, if_neg (fun h => hj h.symm), if_pos rfl]
      · simp [hi]

theorem heap_setRow_ne (w : World) (g k : Nat) (cs : Array Value) (h : k ≠ g) : (w.setRow g cs).heap[k]? = w.heap[k]? := by
  simp only [World.setRow, Array.getElem?_modify]
  rw [if_neg (by omega)]

theorem Core.store {ρ : Env} {β : Nat → Nat} {st : St} {a : Act} {w : World} {k : Nat} {cs cs' : List At} {t : TypeId} (h : Core W ρ β st a w) (hk : getM st.m k = some (cs, t)) (hw : cs'.all (At.wf st.c) = true) :
    Core W ρ β { st with m := setM st.m k cs' } a (w.setRow (β k) (cs'.map (At.den ρ β)).toArray) where
  size := h.size
  tmps := h.tmps
  dfr := h.dfr
  below := below_setRow h.below (h.mem k cs t hk).1 _
  mem i x y hg := by
    simp only [getM_setM] at hg
    by_cases hi : k = i
    · subst hi
      rw [if_pos rfl, hk] at hg
      simp only [Option.map_some, Option.some.injEq, Prod.mk.injEq] at hg
      obtain ⟨rfl, rfl⟩ := hg
      exact ⟨(h.mem k cs t hk).1, setRow_heap w _ _ _ _ _ (h.mem k cs t hk).2⟩
    · rw [if_neg hi] at hg
      obtain ⟨h1, h2⟩ := h.mem i x y hg
      refine ⟨h1, ?_⟩
      rw [heap_setRow_ne _ _ _ _ (fun he => hi (h.inj i k _ _ hg hk he).symm)]
      exact h2
  inj i j x y hx hy he := by
    simp only [getM_setM] at hx hy
    have f : ∀ {n z}, (if k = n then (getM st.m n).map (fun x => (cs', x.2)) else getM st.m n) = some z → ∃ z', getM st.m n = some z' := by
      intro n z hz
      by_cases hn : k = n
      · rw [if_pos hn] at hz
        cases hg : getM st.m n with
        | none => rw [hg] at hz; cases hz
        | some q => exact ⟨q, rfl⟩
      · rw [if_neg hn] at hz; exact ⟨z, hz⟩
    obtain ⟨x', hx'⟩ := f hx
    obtain ⟨y', hy'⟩ := f hy
    exact h.inj i j x' y' hx' hy' he
  wf := ⟨h.wf.t, fun i x y hg => by
    simp only [getM_setM] at hg
    by_cases hi : k = i
    · subst hi
      rw [if_pos rfl, hk] at hg
      simp only [Option.map_some, Option.some.injEq, Prod.mk.injEq] at hg
      obtain ⟨rfl, rfl⟩ := hg
      exact ⟨(h.wf.m k cs t hk).1, hw⟩
    · rw [if_neg hi] at hg
      exact h.wf.m i x y hg⟩

theorem run_storeAt {t : TypeId} {g : Bool} {n : Nat} (hz : szAgg P t = some (g, n)) (w : World) (b o : Nat) (v : Value) (cur : Array Value) (ty : TypeId) (hb : w.heap[b]? = some (.cells cur ty)) (hn : v.cells.size = n) (ho : o + n ≤ cur.size)
    (h1 : ∀ x ∈ v.cells.toList, x.oneCell' = true) :
    (Instr.storeAt t (ptr b o) v).run P w = .ok () (w.setRow b (cur.toList.take o ++ v.cells.toList ++ cur.toList.drop (o + n)).toArray) := by
  have hst := run_storeCells_at P b o ty v.cells.toList 0 cur w hb (by simp [hn]; exact ho) h1
  simp only [Array.length_toList, hn, Nat.add_zero] at hst
  simp [Instr.storeAt, ptr, Instr.sureAddr, storeVar, run_size hz, hn, hst]

theorem all_split {c : Ctr} {l : List At} (h : l.all (At.wf c) = true) (n : Nat) : (l.take n).all (At.wf c) = true ∧ (l.drop n).all (At.wf c) = true :=
  ⟨List.all_eq_true.2 fun x hx => List.all_eq_true.1 h x (List.mem_of_mem_take hx), List.all_eq_true.2 fun x hx => List.all_eq_true.1 h x (List.mem_of_mem_drop hx)⟩
theorem CV.wf_cells {c : Ctr} : ∀ {v : CV}, v.wf c = true → v.cells.all (At.wf c) = true
  | .one a, h => by simpa [CV.cells, CV.wf] using h
  | .agg l, h => h

theorem times_map {α β : Type} (f : α → β) (l : List α) : ∀ n, (times l n).map f = times (l.map f) n
  | 0 => rfl
  | n + 1 => by simp [times, times_map f l n]
theorem times_length {α : Type} (l : List α) : ∀ n, (times l n).length = n * l.length
  | 0 => by simp [times]
  | n + 1 => by simp [times, times_length l n, Nat.add_mul, Nat.add_comm]
theorem times_get {α : Type} (l : List α) (hl : 0 < l.length) : ∀ n i, i < n * l.length → (times l n)[i]? = l[i % l.length]?
  | 0, i, h => by omega
  | n + 1, i, h => by
    simp only [times]
    by_cases hi : i < l.length
    · rw [List.getElem?_append_left hi, Nat.mod_eq_of_lt hi]
    · rw [Nat.succ_mul] at h
      rw [List.getElem?_append_right (by omega), times_get l hl n (i - l.length) (by omega)]
      congr 1
      exact (Nat.mod_eq_sub_mod (by omega)).symm
theorem zero_cells (z : Array Value) (n : Nat) (hz : 0 < z.size) : (Array.range (n * z.size)).map (fun i => z[i % z.size]!) = (times z.toList n).toArray := by
  apply Array.ext'
  apply List.ext_getElem?
  intro i
  simp only [Array.toList_map, Array.toList_range, List.getElem?_map, List.getElem?_range']
  by_cases hi : i < n * z.size
  · rw [List.getElem?_range hi, times_get _ (by simpa using hz) n i (by simpa using hi)]
    have : i % z.size < z.size := Nat.mod_lt _ hz
    simp [this]
  · rw [List.getElem?_eq_none (by simp; omega), List.getElem?_eq_none (by simp [times_length]; omega)]
    rfl

theorem opm_sound {G : Cfg} (hG : G.Ok) {st : St} {o : Oper} {K : St → Env → Prop} {ρ : Env} (h : opm (PA G.P W Q QM) G st o K ρ)
    {β : Nat → Nat} {a : Act} {w : World} (hC : Core W ρ β st a w) {next : Act → World → Prop} (hn : Nxt W st ρ β K next) (Q' : Exit → Act → World → Prop) : o.wp G.P a w next Q' := by
  unfold opm at h
  generalize ho : o.op = op at h
  cases op
  case alloc t =>
    simp only at h
    generalize hz : zeroA G.P t = u at h
    split at h
    · rename_i z
      have q1 := (zeroA_sound hz ρ β w st.c).1
      have := new_sound (G := G) h hC hn (.pointer (some ⟨w.heap.size, 0, none⟩)) (fun β' hb => by simp [At.den, hb])
      unfold Oper.wp
      rw [show (execOp a.eval o).run G.P w = .ok (.value (.pointer (some ⟨w.heap.size, 0, none⟩))) (w.alloc (.cells (z.cells.map (At.den ρ β)).toArray t)) by
        simp [execOp, ho, Instr.alloc, q1, newVar, newRow, CV.cells_den]]
      exact this
    · exact h.elim
  case box t x =>
    simp only at h
    generalize hx : st.ev x = sx at h
    split at h
    · rename_i v
      have e1 := hC.eval x (by rw [hx]; simp)
      rw [hx] at e1
      have := new_sound (G := G) h hC hn (.pointer (some ⟨w.heap.size, 0, none⟩)) (fun β' hb => by simp [At.den, hb])
      unfold Oper.wp
      rw [show (execOp a.eval o).run G.P w = .ok (.value (.pointer (some ⟨w.heap.size, 0, none⟩))) (w.alloc (.cells (v.cells.map (At.den ρ β)).toArray t)) by
        simp [execOp, ho, e1, Instr.box, newVar, newRow, SV.den, CV.cells_den]]
      exact this
    · exact h.elim
  case store t x y =>
    simp only at h
    generalize hz : szAgg G.P t = u1 at h
    generalize hx : st.ev x = sx at h
    generalize hy : st.ev y = sy at h
    split at h
    · rename_i g n k off v
      generalize hm : getM st.m k = u2 at h
      split at h
      · rename_i cs ty
        split at h
        · rename_i hc
          obtain ⟨hc1, hc2, hc3⟩ := hc
          have e1 := hC.eval x (by rw [hx]; simp)
          have e2 := hC.eval y (by rw [hy]; simp)
          rw [hx] at e1
          rw [hy] at e2
          obtain ⟨m1, m2⟩ := hC.mem k cs ty hm
          have hs := run_storeAt (g := g) hz w (β k) off (v.den ρ β) _ ty m2 (by rw [CV.cells_den]; simpa using hc1) (by simpa using hc2) (by
            rw [CV.cells_den]
            intro z hz'
            simp only [List.mem_map] at hz'
            obtain ⟨q, _, rfl⟩ := hz'
            exact At.den_one ρ β q)
          rw [CV.cells_den] at hs
          simp only [← map_take_drop] at hs
          have hCs := hC.store (cs' := cs.take off ++ v.cells ++ cs.drop (off + n)) hm (by
            have := (hC.wf.m k cs ty hm).2
            simp only [List.all_append, (all_split this off).1, (all_split this (off + n)).2, CV.wf_cells hc3, Bool.and_self])
          unfold Oper.wp
          rw [show (execOp a.eval o).run G.P w = .ok .skip (w.setRow (β k) ((cs.take off ++ v.cells ++ cs.drop (off + n)).map (At.den ρ β)).toArray) by
            have e1' : a.eval x = ptr (β k) off := e1
            have e2' : a.eval y = v.den ρ β := e2
            simp only [execOp, ho, e1', e2', Sem.run_bind, hs, Result.andThen_ok, Sem.run_pure]]
          exact put_sound h hCs (Ctr.le_refl _) (Env.like_refl _ _) (fun _ _ => rfl) (fun hn' => (hn' rfl).elim) hn
        · exact h.elim
      · exact h.elim
    · exact h.elim
  case buildSlice t len parts =>
    simp only at h
    generalize hu : G.P.underlying t = u1 at h
    split at h
    · rename_i el
      generalize hz : szAgg G.P el = u2 at h
      generalize hzz : zeroA G.P el = u3 at h
      split at h
      · rename_i g s z
        split at h
        · rename_i hc
          obtain ⟨c1, c2, c3, c4⟩ := hc
          generalize hf : fillA (fun i => some (i * s, s)) (times z.cells len) (parts.toList.map fun p => (p.1, st.ev p.2)) = u4 at h
          split at h
          · rename_i cs
            have q1 := (zeroA_sound hzz ρ β w st.c).1
            have q3 := fill_sound ρ β _ _ hf
            have hany := fillA_any _ _ hf
            have e1 : (parts.map fun x => (x.1, a.eval x.2)).toList = (parts.toList.map fun p => (p.1, st.ev p.2)).map fun p => (p.1, p.2.den ρ β) := by
              rw [List.map_map, Array.toList_map]
              apply List.map_congr_left
              intro p hp
              have := hC.eval p.2 (hany (p.1, st.ev p.2) (List.mem_map.2 ⟨p, hp, rfl⟩))
              simp [this]
            have hzs : (z.den ρ β).cells.size = s := by rw [CV.cells_den]; simpa using c1
            have q4 := zero_cells (z.den ρ β).cells len (by rw [hzs]; exact c2)
            rw [hzs] at q4
            have := new_sound (G := G) h hC hn (.slice (some ⟨w.heap.size, 0, none⟩) len len) (fun β' hb => by simp [At.den, hb])
            unfold Oper.wp
            rw [show (execOp a.eval o).run G.P w = .ok (.value (.slice (some ⟨w.heap.size, 0, none⟩) len len)) (w.alloc (.cells (cs.map (At.den ρ β)).toArray el)) by
              have n1 : ¬ (len * s > 2 ^ 24) := by omega
              have n2 : ¬ (len * s = 0) := by
                have := Nat.mul_pos c3 c2; omega
              simp only [execOp, ho, Instr.buildSlice, Sem.run_bind, run_underlying hu, Result.andThen_ok, run_size hz, n1, n2, if_false, q1, Sem.run_pure, e1, hzs, q4]
              rw [show times (z.den ρ β).cells.toList len = (times z.cells len).map (At.den ρ β) by rw [times_map, CV.cells_den], q3]
              simp [newRow]]
            exact this
          · exact h.elim
        · exact h.elim
      · exact h.elim
    · exact h.elim
  all_goals exact opv_step hG h hC hn Q'
end Vc
