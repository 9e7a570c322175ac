/- Vc, part N: code is walked soundly. No program in sight. -/
import Derived.Test.YtdhiapllbjamfaaVcM
import Derived.LoopNIn
import Derived.Sort.LoopGhostIn
import Derived.RangeFuncIn
set_option linter.unusedVariables false
set_option linter.unusedSimpArgs false
namespace Vc
open Go Go.RowKit
variable {W : World} {Q : Value → Prop} {QM : World → Value → Prop}

theorem getR_cons (r : List (Nat × Option Ex)) (j i : Nat) (v : Option Ex) : getR ((j, v) :: r) i = if j = i then some v else getR r i := rfl
theorem getR_setR : ∀ (r : List (Nat × Option Ex)) (k i : Nat) (e : Option Ex), getR (setR r k e) i = if k = i then (getR r i).map (fun _ => e) else getR r i
  | [], k, i, e => by simp [setR, getR]
  | (j, v) :: r, k, i, e => by
    simp only [setR]
    by_cases hj : j = k
    · subst hj
      rw [if_pos rfl, getR_cons, getR_cons]
      by_cases hi : j = i
      · simp [hi]
      · rw [if_neg hi, if_neg hi, if_neg hi, getR_setR r j i e, if_neg hi]
    · rw [if_neg hj, getR_cons, getR_cons, getR_setR r k i e]
      by_cases hi : j = i
      · rw [if_pos hi, if_pos hi, if_neg (fun h => hj (hi.trans h.symm))]
      · rw [if_neg hi, if_neg hi]
theorem getR_delR : ∀ (r : List (Nat × Option Ex)) (k i : Nat), getR (delR r k) i = if k = i then none else getR r i
  | [], k, i => by simp [delR, getR]
  | (j, v) :: r, k, i => by
    simp only [delR]
    by_cases hj : j = k
    · subst hj
      rw [if_pos rfl, getR_delR r j i, getR_cons]
      by_cases hi : j = i
      · rw [if_pos hi, if_pos hi]
      · rw [if_neg hi, if_neg hi, if_neg hi]
    · rw [if_neg hj, getR_cons, getR_cons, getR_delR r k i]
      by_cases hi : j = i
      · rw [if_pos hi, if_pos hi, if_neg (fun h => hj (hi.trans h.symm))]
      · rw [if_neg hi, if_neg hi]

section
variable {R : Nat → Loop} {Z : List Nat}
/-- Marks left aside. -/
theorem Core.drop {ρ : Env} {β : Nat → Nat} {st : St} {a : Act} {w : World} (hC : Core W R Z ρ β st a w) : Core W R Z ρ β { st with d := [] } { a with defers := [] } w :=
  ⟨hC.size, hC.tmps, rfl, hC.below, hC.mem, hC.inj, hC.lps, hC.rin, fun b hb => hC.ded b (List.mem_append.2 (.inl (by simpa using hb))), by simpa using (List.nodup_append.1 hC.dn).1, ⟨hC.wf.t, hC.wf.m, hC.wf.o, hC.wf.ap, hC.wf.r, fun k hk => by cases hk⟩⟩
/-- A world in which a record has turned. -/
theorem Holds.put {ρ : Env} {β : Nat → Nat} {k : Nat} {w : World} {e : Ent} {c : Ctr} (h : Holds W ρ β k e w) (hw : entWf c k e) {l : Nat} {r : Loop} (hl : w.heap[l]? = some (.loop r)) (o : Obj) : Holds W ρ β k e (w.putObj l o) := by
  refine h.keep hw (Env.like_refl _ _) (fun _ _ => rfl) fun b hb => World.putObj_heap_other fun he => ?_
  obtain ⟨_, _, c, t, hc⟩ := h.blk b hb
  rw [he, hl] at hc
  cases hc
theorem Below.putObj {n : Nat} {w0 w : World} (h : Below n w0 w) {l : Nat} (hl : n ≤ l) (o : Obj) : Below n w0 (w.putObj l o) :=
  ⟨h.os, h.tape, h.output, by simpa using h.size, fun k hk => by rw [World.putObj_heap_other (by omega)]; exact h.block k hk⟩
/-- A record turns. -/
theorem core_setR {ρ : Env} {β : Nat → Nat} {st : St} {a : Act} {w : World} (hC : Core W R Z ρ β st a w) {k : Nat} {e e' : Option Ex} (hg : getR st.r k = some e) :
    Core W R Z ρ β { st with r := setR st.r k e' } a (w.putObj (β k) (.loop (recAt (R k) e'))) := by
  obtain ⟨l1, l2⟩ := hC.lps k e hg
  refine ⟨hC.size, hC.tmps, hC.dfr, Below.putObj hC.below l1 _, fun j x hj => (hC.mem j x hj).put (hC.wf.ent hj) l2 _, hC.inj, fun j x hj => ?_, fun j j' x x' hj hj' he => ?_, fun b hb => ⟨(hC.ded b hb).1, ?_⟩, hC.dn, ⟨hC.wf.t, hC.wf.m, hC.wf.o, hC.wf.ap, fun j x hj => ?_, hC.wf.d⟩⟩
  · rw [getR_setR] at hj
    by_cases hk : k = j
    · subst hk
      rw [if_pos rfl, hg] at hj
      simp only [Option.map_some, Option.some.injEq] at hj
      subst hj
      exact ⟨l1, World.putObj_heap_same (heap_lt l2)⟩
    · rw [if_neg hk] at hj
      refine ⟨(hC.lps j x hj).1, ?_⟩
      rw [World.putObj_heap_other fun he => hk (hC.rin j k x e hj hg he).symm]
      exact (hC.lps j x hj).2
  · have f : ∀ {j x}, getR (setR st.r k e') j = some x → ∃ y, getR st.r j = some y := fun {j x} hj => by
      rw [getR_setR] at hj
      by_cases hk : k = j
      · exact ⟨e, hk ▸ hg⟩
      · rw [if_neg hk] at hj; exact ⟨x, hj⟩
    obtain ⟨y, hy⟩ := f hj
    obtain ⟨y', hy'⟩ := f hj'
    exact hC.rin j j' y y' hy hy' he
  · rw [World.putObj_heap_other fun he => ?_]
    · exact (hC.ded b hb).2
    · have := (hC.ded b hb).2
      rw [he, l2] at this
      cases this
  · rw [getR_setR] at hj
    by_cases hk : k = j
    · exact hk ▸ hC.wf.r k e hg
    · rw [if_neg hk] at hj; exact hC.wf.r j x hj

theorem putSs_get (ρ : Env) (β : Nat → Nat) : ∀ (ps : List Tmp) (args : List SV) (t : List (Nat × SV)) (tmps : Array Value), args.length = ps.length → (∀ p ∈ ps, p < tmps.size) →
    (∀ i, getS t i ≠ .any → tmps[i]? = some ((getS t i).den ρ β)) → ∀ i, getS (putSs t ps args) i ≠ .any →
      ((ps.zip (args.map (SV.den ρ β))).foldl (fun (x : Array Value) (y : Tmp × Value) => x.setIfInBounds y.1 y.2) tmps)[i]? = some ((getS (putSs t ps args) i).den ρ β)
  | [], args, t, tmps, hl, _, h, i, hi => by
    cases args with
    | nil => exact h i hi
    | cons _ _ => simp at hl
  | p :: ps, [], t, tmps, hl, _, _, _, _ => by simp at hl
  | p :: ps, v :: args, t, tmps, hl, hp, h, i, hi => by
    simp only [putSs, List.map_cons, List.zip_cons_cons, List.foldl_cons] at hi ⊢
    refine putSs_get ρ β ps args _ _ (by simpa using hl) (fun q hq => by simpa using hp q (by simp [hq])) (fun j hj => ?_) i hi
    rw [getS_cons] at hj ⊢
    by_cases hpj : p = j
    · subst hpj
      rw [if_pos rfl]
      have := hp p (by simp)
      simp [this]
    · rw [if_neg hpj] at hj ⊢
      rw [Array.getElem?_setIfInBounds_ne hpj]
      exact h j hj
theorem foldl_size : ∀ (l : List (Tmp × Value)) (tmps : Array Value), (l.foldl (fun (x : Array Value) (y : Tmp × Value) => x.setIfInBounds y.1 y.2) tmps).size = tmps.size
  | [], _ => rfl
  | p :: l, tmps => by rw [List.foldl_cons, foldl_size l]; simp
theorem putSs_wf {c : Ctr} : ∀ (ps : List Tmp) (args : List SV) (t : List (Nat × SV)), args.all (SV.wf c) = true → (∀ i, (getS t i).wf c = true) → ∀ i, (getS (putSs t ps args) i).wf c = true
  | [], args, t, _, h, i => by cases args <;> exact h i
  | p :: ps, [], t, _, h, i => h i
  | p :: ps, v :: args, t, ha, h, i => by
    simp only [List.all_cons, Bool.and_eq_true] at ha
    refine putSs_wf ps args _ ha.2 (fun j => ?_) i
    rw [getS_cons]
    by_cases hj : p = j
    · rw [if_pos hj]; exact ha.1
    · rw [if_neg hj]; exact h j
end

/-- The fence of a round's code. -/
def RdRel (rd r : Option Nat) (st : St) (β : Nat → Nat) : Prop :=
  match rd with
  | none => r = none
  | some k => r = some (β k) ∧ k < st.c.nk
theorem RdRel.far {rd r : Option Nat} {st s : St} {β β' : Nat → Nat} (h : RdRel rd r st β) (hc : st.c.le s.c) (hb : ∀ k, k < st.c.nk → β' k = β k) : RdRel rd r s β' := by
  cases rd with
  | none => exact h
  | some k => exact ⟨by rw [hb k h.2]; exact h.1, Nat.lt_of_lt_of_le h.2 hc.k⟩

/-- Regions whose order is left open. -/
def DrawOk (G : Cfg) (W : World) (Q : Value → Prop) (QM : World → Value → Prop) : Prop :=
  ∀ (R : Nat → Loop) (Z : List Nat) (r : Option Nat) (n : Nat) (inl : Inl (Env → Prop)) (yl : Yl (Env → Prop)) id ops st (K : St → Env → Prop) ρ, drawnX (PA G.P W Q QM) G inl yl ops st K ρ → ∀ β a w, Core W R Z ρ β st a w → InlOk G W R Z st.c ρ β inl → YlOk G.P W R st.c ρ β yl →
    ∀ (next : Act → World → Prop) (Q' : Exit → Act → World → Prop), (∀ a w, next a w → Q' .normal a w) → Nxt W R Z st ρ β K next → (Code.region id ops true).wpIn (Fr r) n G.P Q' a w

/-- What is shown of the walk with less fuel. -/
def ExecOk (G : Cfg) (W : World) (Q : Value → Prop) (QM : World → Value → Prop) (n : Nat) : Prop :=
  ∀ (rd : Option Nat) (yl : Yl (Env → Prop)) (c : Code) (st : St) (K : Ex → St → Env → Prop) (ρ : Env), exec (PA G.P W Q QM) G n rd yl c st K ρ →
    ∀ (R : Nat → Loop) (Z : List Nat) (r : Option Nat) (m : Nat) (β : Nat → Nat) (a : Act) (w : World), Core W R Z ρ β st a w → YlOk G.P W R st.c ρ β yl → RdRel rd r st β → ∀ Q' : Exit → Act → World → Prop, NxtE W R Z st ρ β K Q' → c.wpIn (Fr r) m G.P Q' a w

theorem run_enter {P : Program} {R : Nat → Loop} {Z : List Nat} {rd r : Option Nat} {st : St} {ρ : Env} {β : Nat → Nat} {a : Act} {w : World} (hC : Core W R Z ρ β st a w) (hRd : RdRel rd r st β) (hrd : rdRdy st.r rd = true)
    (fn : FuncId) (tmps : Array Value) (ps : Array Tmp) (assign body : Code) :
    ∃ l mark w1 D, (Instr.enterLoop fn tmps ps assign body (Fr r).round).run P w = .ok (l, mark) w1 ∧ w1.heap[l]? = some (.loop { state := .ready, pending := none, fn, tmps, params := ps, assign, body, defers := D }) ∧ (∀ k, k < w.heap.size → w1.heap[k]? = w.heap[k]?) ∧
      w.heap.size ≤ l ∧ w1.os = w.os ∧ w1.tape = w.tape ∧ w1.output = w.output ∧ w.heap.size ≤ w1.heap.size ∧
      (rd.isSome = true → mark = []) ∧ (rd.isSome = false → mark = [{ target := .collected w.heap.size, args := #[] }] ∧ w1.heap[w.heap.size]? = some (.deferred (some []))) := by
  cases rd with
  | none =>
    have hr : r = none := hRd
    subst hr
    refine ⟨_, _, _, w.heap.size, run_enterLoop_outer fn tmps ps assign body, ?_⟩
    refine ⟨?_, fun k hk => ?_, by simp, rfl, rfl, rfl, by simp; omega, (fun h => nomatch h), fun (_ : false = false) => And.intro rfl ?_⟩
    · have := World.alloc_heap_new (w.alloc (.deferred (some []))) (.loop { state := .ready, pending := none, fn, tmps, params := ps, assign, body, defers := w.heap.size })
      rwa [World.size_alloc] at this
    · rw [Below.heap_alloc _ _ _ (by simp; omega), Below.heap_alloc _ _ _ hk]
    · rw [Below.heap_alloc _ _ _ (by simp)]
      exact World.alloc_heap_new w _
  | some k =>
    obtain ⟨hr, hk⟩ := hRd
    subst hr
    obtain ⟨e, he⟩ := Option.isSome_iff_exists.1 hrd
    have hl := (hC.lps k e he).2
    refine ⟨_, _, _, _, run_enterLoop_inner hl fn tmps ps assign body, World.alloc_heap_new w _, fun j hj => Below.heap_alloc _ _ _ hj, Nat.le_refl _, rfl, rfl, rfl, by simp, fun _ => rfl, fun h => (by cases h)⟩

theorem recAt_ready {r : Loop} (h1 : r.state = .ready) (h2 : r.pending = none) : recAt r none = r := by
  cases r; simp only at h1 h2; subst h1 h2; rfl

theorem range_sound {G : Cfg} (hG : G.Ok) {n : Nat} (ih : ExecOk G W Q QM n) {rd : Option Nat} {yl : Yl (Env → Prop)} {g : Operand} {ps : Array Tmp} {assign body : Code} {st : St} {K : Ex → St → Env → Prop} {ρ : Env}
    (h : exec (PA G.P W Q QM) G (n + 1) rd yl (.rangeFunc g ps assign body) st K ρ) {R : Nat → Loop} {Z : List Nat} {r : Option Nat} {m : Nat} {β : Nat → Nat} {a : Act} {w : World} (hC : Core W R Z ρ β st a w) (hY : YlOk G.P W R st.c ρ β yl) (hRd : RdRel rd r st β)
    {Q' : Exit → Act → World → Prop} (hn : NxtE W R Z st ρ β K Q') : (Code.rangeFunc g ps assign body).wpIn (Fr r) m G.P Q' a w := by
  unfold exec at h
  cases g with
  | tmp g =>
    simp only at h
    generalize hg : getS st.t g = sv at h
    split at h
    rotate_left
    · exact h.elim
    rename_i f caps
    by_cases hcond : (G.inl.contains f = true ∧ g < st.n ∧ rdRdy st.r rd = true)
    rotate_left
    · rw [if_neg hcond] at h
      exact h.elim
    rw [if_pos hcond] at h
    obtain ⟨hf, hgn, hrdr⟩ := hcond
    generalize hfn : G.P.funcs[f]? = u at h
    cases u with
    | none => exact h.elim
    | some fn =>
    simp only at h
    generalize hb : fn.body = u at h
    cases u with
    | none => exact h.elim
    | some b =>
    simp only at h
    have hwg : (SV.cv (.one (.fn f caps))).wf st.c = true := by rw [← hg]; exact hC.wf.t g
    have hcaps : ∀ x ∈ caps, x.1 < st.c.nk := fun x hx => by simpa using List.all_eq_true.1 hwg x hx
    have eg : a.eval (.tmp g) = .func (.func f) #[] (caps.map fun c => .pointer (some ⟨β c.1, c.2, none⟩)).toArray := by
      have := hC.eval (.tmp g) (by show getS st.t g ≠ _; rw [hg]; simp)
      rw [this]
      show (getS st.t g).den ρ β = _
      rw [hg]; rfl
    refine wpIn_rangeFunc fun fnid _ => ?_
    obtain ⟨l, mark, w1, D, hent, hrec, hold, hll, ho1, ho2, ho3, hsz, hm1, hm2⟩ := run_enter (P := G.P) hC hRd hrdr fnid a.tmps ps assign body
    generalize hrr : ({ state := .ready, pending := none, fn := fnid, tmps := a.tmps, params := ps, assign := assign, body := body, defers := D } : Loop) = rec at hrec
    have hrec0 : recAt rec none = rec := by rw [← hrr]; rfl
    have hrtmps : rec.tmps = a.tmps ∧ rec.params = ps ∧ rec.assign = assign ∧ rec.body = body := by rw [← hrr]; exact ⟨rfl, rfl, rfl, rfl⟩
    let kr := st.c.nk
    let β1 : Nat → Nat := fun k => if k = st.c.nk then l else if k = st.c.nk + 1 then w.heap.size else β k
    have hβ1 : ∀ k, k < st.c.nk → β1 k = β k := fun k hk => by
      show (if k = st.c.nk then l else if k = st.c.nk + 1 then w.heap.size else β k) = β k
      rw [if_neg (by omega), if_neg (by omega)]
    have hβk : β1 st.c.nk = l := if_pos rfl
    have hβd : β1 (st.c.nk + 1) = w.heap.size := by
      show (if st.c.nk + 1 = st.c.nk then l else if st.c.nk + 1 = st.c.nk + 1 then w.heap.size else _) = _
      rw [if_neg (by omega), if_pos rfl]
    let R1 : Nat → Loop := fun k => if k = st.c.nk then rec else R k
    have hR1 : ∀ k, k < st.c.nk → R1 k = R k := fun k hk => if_neg (by omega)
    have hR1k : R1 st.c.nk = rec := if_pos rfl
    have hlec : st.c.le { st.c with nk := st.c.nk + 2 } := Ctr.le_nk st.c 2
    -- the iterator's frame
    let args : List SV := SV.cv (.one (.yld st.c.nk)) :: caps.map locSV
    have hargw : args.all (SV.wf { st.c with nk := st.c.nk + 2 }) = true := by
      refine List.all_eq_true.2 fun x hx => ?_
      rcases List.mem_cons.1 hx with rfl | hx
      · show decide (st.c.nk < st.c.nk + 2) = true
        simp
      · obtain ⟨y, hy, rfl⟩ := List.mem_map.1 hx
        have := hcaps y hy
        show decide (y.1 < st.c.nk + 2) = true
        simp; omega
    have hargs : (args.map (SV.den ρ β1)).toArray = #[.func (.yield l) #[] #[]] ++ (caps.map fun c => (.pointer (some ⟨β c.1, c.2, none⟩) : Value)).toArray := by
      apply Array.ext'
      simp only [args, List.map_cons, Array.toList_append]
      show Value.func (.yield (β1 st.c.nk)) #[] #[] :: _ = _
      rw [hβk]
      simp only [List.map_map, List.cons_append, List.nil_append, List.cons.injEq, true_and]
      apply List.map_congr_left
      intro x hx
      show Value.pointer (some ⟨β1 x.1, x.2, none⟩) = _
      rw [hβ1 x.1 (hcaps x hx)]
    have hB1 : Below W.heap.size W w1 := ⟨ho1.trans hC.below.os, ho2.trans hC.below.tape, ho3.trans hC.below.output, Nat.le_trans hC.below.size hsz, fun k hk => by
      rw [hold k (Nat.lt_of_lt_of_le hk hC.below.size)]; exact hC.below.block k hk⟩
    have hmapd : st.d.map β1 = st.d.map β := List.map_congr_left fun k hk => hβ1 k (hC.wf.d k hk)
    have hsmall : ∀ k ∈ Z ++ st.d.map β, k < w.heap.size := fun k hk => heap_lt (hC.ded k hk).2
    have holdH : ∀ {k e}, getE st.m st.o k = some e → Holds W ρ β1 k e w1 := fun {k e} hk =>
      (hC.mem k e hk).keep (hC.wf.ent hk) (Env.like_refl _ _) hβ1 fun b hb => hold b ((hC.mem k e hk).blk b hb).2.1
    -- what is so of the frame, whatever slots it has, whatever marks
    have base : Core W R1 (Z ++ st.d.map β ++ (if rd.isSome = true then [] else [w.heap.size])) ρ β1 { t := (List.range args.length).zip args, n := args.length + (fn.ntmps - args.length), m := st.m, c := { st.c with nk := st.c.nk + 2 }, o := st.o, r := (st.c.nk, none) :: st.r, d := [] }
        { tmps := (args.map (SV.den ρ β1)).toArray ++ Array.replicate (fn.ntmps - (args.map (SV.den ρ β1)).toArray.size) undef, defers := [] } w1 := by
      have g := hC.wf.grow hlec
      refine ⟨by simp, fun i hi => ?_, rfl, hB1, fun k e hk => holdH hk, fun k k' e e' b' hx hy hbx hby => ?_, fun k e hk => ?_, fun k k' e e' hx hy he => ?_, fun b' hb' => ?_, ?_, ⟨fun i => ?_, g.m, g.o, g.ap, fun k e hk => ?_, fun k hk => by cases hk⟩⟩
      · simp only [getS_args] at hi ⊢
        cases hi2 : args[i]? with
        | none => rw [hi2] at hi; exact (hi rfl).elim
        | some v =>
          have hlt : i < args.length := (List.getElem?_eq_some_iff.1 hi2).1
          rw [Array.getElem?_append_left (by simpa using hlt)]
          simp [hi2]
      · rw [blkE_keep (hC.wf.ent hx) hβ1] at hbx
        rw [blkE_keep (hC.wf.ent hy) hβ1] at hby
        exact hC.inj k k' e e' b' hx hy hbx hby
      · rw [getR_cons] at hk
        by_cases hkk : st.c.nk = k
        · rw [if_pos hkk] at hk
          cases hk
          subst hkk
          rw [hβk, hR1k, hrec0]
          exact ⟨Nat.le_trans hC.below.size hll, hrec⟩
        · rw [if_neg hkk] at hk
          have hlt := hC.wf.r k e hk
          rw [hβ1 k hlt, hR1 k hlt, hold _ (heap_lt (hC.lps k e hk).2)]
          exact hC.lps k e hk
      · rw [getR_cons] at hx hy
        by_cases h1 : st.c.nk = k <;> by_cases h2 : st.c.nk = k'
        · omega
        · rw [if_neg h2] at hy
          rw [← h1, hβk, hβ1 k' (hC.wf.r k' e' hy)] at he
          have := heap_lt (hC.lps k' e' hy).2
          omega
        · rw [if_neg h1] at hx
          rw [← h2, hβk, hβ1 k (hC.wf.r k e hx)] at he
          have := heap_lt (hC.lps k e hx).2
          omega
        · rw [if_neg h1] at hx
          rw [if_neg h2] at hy
          rw [hβ1 k (hC.wf.r k e hx), hβ1 k' (hC.wf.r k' e' hy)] at he
          exact hC.rin k k' e e' hx hy he
      · simp only [List.map_nil, List.append_nil] at hb'
        rcases List.mem_append.1 hb' with hb' | hb'
        · exact ⟨(hC.ded b' hb').1, by rw [hold b' (hsmall b' hb')]; exact (hC.ded b' hb').2⟩
        · cases hrd : rd.isSome with
          | true => rw [hrd] at hb'; simp at hb'
          | false =>
            rw [hrd] at hb'
            simp at hb'
            subst hb'
            exact ⟨hC.below.size, (hm2 hrd).2⟩
      · simp only [List.map_nil, List.append_nil]
        refine List.nodup_append.2 ⟨hC.dn, by split <;> simp, fun x hx y hy => ?_⟩
        have := hsmall x hx
        split at hy
        · cases hy
        · simp at hy; omega
      · simp only [getS_args]
        cases hi2 : args[i]? with
        | none => rfl
        | some v => exact List.all_eq_true.1 hargw v (List.mem_of_getElem? hi2)
      · rw [getR_cons] at hk
        by_cases hkk : st.c.nk = k
        · simp only; omega
        · rw [if_neg hkk] at hk
          have := hC.wf.r k e hk
          simp only; omega
    -- what a pending jump becomes
    have post : ∀ (s' : St) (ρ' : Env) (β' : Nat → Nat) (a' : Act) (w' : World), Core W R1 (Z ++ st.d.map β ++ (if rd.isSome = true then [] else [w.heap.size])) ρ' β' { s' with d := [] } a' w' → ({ st.c with nk := st.c.nk + 2 } : Ctr).le s'.c → Env.like { st.c with nk := st.c.nk + 2 } ρ ρ' → (∀ k, k < st.c.nk + 2 → β' k = β1 k) →
        (match getR s'.r st.c.nk with
          | some none => K .normal { t := st.t, n := st.n, m := s'.m, c := s'.c, o := s'.o, r := delR s'.r st.c.nk, d := if rd.isSome = true then st.d else (st.c.nk + 1) :: st.d }
          | some (some .normal) => (PA G.P W Q QM).fail "range: busy"
          | some (some e) => K e { t := st.t, n := st.n, m := s'.m, c := s'.c, o := s'.o, r := delR s'.r st.c.nk, d := if rd.isSome = true then st.d else (st.c.nk + 1) :: st.d }
          | none => (PA G.P W Q QM).fail "range: record") ρ' → ∃ jump w4, (Instr.endLoop l).run G.P w' = .ok jump w4 ∧ (match jump with | none => Q' .normal { a with defers := mark ++ a.defers } w4 | some c => c.wpIn (Fr r) m G.P Q' { a with defers := mark ++ a.defers } w4) := by
      intro s' ρ' β' a' w' hC' hle' hl' hb' hk
      have b1 : ∀ k, k < st.c.nk → β' k = β k := fun k hk => (hb' k (by omega)).trans (hβ1 k hk)
      have b2 : β' st.c.nk = l := (hb' _ (by omega)).trans hβk
      have b3 : β' (st.c.nk + 1) = w.heap.size := (hb' _ (by omega)).trans hβd
      have hlk : Env.like st.c ρ ρ' := ⟨hl'.i, hl'.b, hl'.v, hl'.p, hl'.s, hl'.l⟩
      have hle2 : st.c.le s'.c := Ctr.le_trans hlec hle'
      -- the state behind
      have back : ∀ (e : Option Ex) (o : Obj), getR s'.r st.c.nk = some e → Core W R Z ρ' β' { t := st.t, n := st.n, m := s'.m, c := s'.c, o := s'.o, r := delR s'.r st.c.nk, d := if rd.isSome = true then st.d else (st.c.nk + 1) :: st.d } { a with defers := mark ++ a.defers } (w'.putObj l o) := by
        intro e o hge
        obtain ⟨l1, l2⟩ := hC'.lps st.c.nk e hge
        rw [b2] at l1 l2
        have hmd : st.d.map β' = st.d.map β := List.map_congr_left fun k hk => b1 k (hC.wf.d k hk)
        have hd2 : (if rd.isSome = true then st.d else (st.c.nk + 1) :: st.d).map β' = (if rd.isSome = true then [] else [w.heap.size]) ++ st.d.map β := by
          split
          · simpa using hmd
          · simp only [List.map_cons, b3, hmd, List.singleton_append]
        refine ⟨hC.size, fun i hi => ?_, ?_, Below.putObj hC'.below l1 _, fun k e hg => (hC'.mem k e hg).put (hC'.wf.ent hg) l2 _, hC'.inj, fun k x hg => ?_, fun k k' x x' hg hg' he => ?_, fun b hb => ?_, ?_,
          ⟨fun i => SV.wf_le hle2 (hC.wf.t i), hC'.wf.m, hC'.wf.o, hC'.wf.ap, fun k x hg => ?_, fun k hk => ?_⟩⟩
        · rw [show ({ a with defers := mark ++ a.defers } : Act).tmps = a.tmps from rfl, hC.tmps i hi]
          exact congrArg some (SV.den_like hlk b1 (hC.wf.t i)).symm
        · show mark ++ a.defers = _
          rw [hC.dfr]
          have hmk : marksOf β st.d = marksOf β' st.d := by
            simp only [marksOf]
            exact List.map_congr_left fun k hk => by rw [b1 k (hC.wf.d k hk)]
          cases hrd : rd.isSome with
          | true => rw [hm1 hrd, hmk]; rfl
          | false => rw [(hm2 hrd).1, hmk]; simp [marksOf, b3]
        · rw [getR_delR] at hg
          split at hg
          · cases hg
          · rename_i hkk
            have hlps := hC'.lps k x hg
            refine ⟨hlps.1, ?_⟩
            have hne : β' k ≠ l := fun he => hkk (hC'.rin st.c.nk k e x hge hg (by rw [b2, he]))
            rw [World.putObj_heap_other hne, hlps.2]
            have : R1 k = R k := if_neg (fun he => hkk he.symm)
            rw [this]
        · rw [getR_delR] at hg hg'
          split at hg
          · cases hg
          · split at hg'
            · cases hg'
            · exact hC'.rin k k' x x' hg hg' he
        · rw [hd2] at hb
          have hmem : b ∈ Z ++ st.d.map β ++ (if rd.isSome = true then [] else [w.heap.size]) := by
            simp only [List.mem_append] at hb ⊢
            rcases hb with hb | hb | hb
            · exact .inl (.inl hb)
            · exact .inr hb
            · exact .inl (.inr hb)
          have := hC'.ded b (by simpa using hmem)
          refine ⟨this.1, ?_⟩
          rw [World.putObj_heap_other fun he => ?_]
          · exact this.2
          · have h2 := this.2
            rw [he, l2] at h2
            cases h2
        · rw [hd2]
          have := hC'.dn
          simp only [List.map_nil, List.append_nil] at this
          obtain ⟨n1, n2, n3⟩ := List.nodup_append.1 this
          obtain ⟨n4, n5, n6⟩ := List.nodup_append.1 n1
          refine List.nodup_append.2 ⟨n4, List.nodup_append.2 ⟨n2, n5, fun x hx y hy he => n3 y (List.mem_append.2 (.inr hy)) x hx he.symm⟩, fun x hx y hy => ?_⟩
          rcases List.mem_append.1 hy with hy | hy
          · exact n3 x (List.mem_append.2 (.inl hx)) y hy
          · exact n6 x hx y hy
        · rw [getR_delR] at hg
          split at hg
          · cases hg
          · exact hC'.wf.r k x hg
        · have hs2 : st.c.nk + 2 ≤ s'.c.nk := hle'.k
          split at hk
          · have := hC.wf.d k hk
            simp only; omega
          · rcases List.mem_cons.1 hk with rfl | hk
            · simp only; omega
            · have := hC.wf.d k hk
              simp only; omega
      have ends : ∀ (x : Option Ex), getR s'.r st.c.nk = some x → w'.heap[l]? = some (.loop (recAt rec x)) := fun x hx => by
        have := (hC'.lps st.c.nk x hx).2
        rw [b2, hR1k] at this
        exact this
      generalize hgr : getR s'.r st.c.nk = gr at hk
      cases gr with
      | none => exact hk.elim
      | some x =>
        have hh := ends x hgr
        cases x with
        | none =>
          refine ⟨none, _, (run_endLoop (P := G.P) hh (by simp [recAt])).trans rfl, ?_⟩
          exact hn .normal _ ρ' β' _ _ hk hle2 hlk b1 (back none _ hgr)
        | some e =>
          cases e with
          | normal => exact hk.elim
          | exit id =>
            refine ⟨some (.exit id), _, (run_endLoop (P := G.P) hh (by simp [recAt])).trans rfl, ?_⟩
            exact wpIn_exit (hn (.exit id) _ ρ' β' _ _ hk hle2 hlk b1 (back _ _ hgr))
          | ret =>
            refine ⟨some .ret, _, (run_endLoop (P := G.P) hh (by simp [recAt])).trans rfl, ?_⟩
            exact wpIn_ret (hn .ret _ ρ' β' _ _ hk hle2 hlk b1 (back _ _ hgr))
    -- the call of the iterator
    refine ⟨l, mark, w1, { target := .fn (.func f) (caps.map fun c => (.pointer (some ⟨β c.1, c.2, none⟩) : Value)).toArray, args := #[.func (.yield l) #[] #[]] }, w1, f, (args.map (SV.den ρ β1)).toArray, w1, hent, ?_, fun f' _ => fr_fn r f', ?_, fr_depth, callsFr.2 (calls_body (n := 0) hfn hb ?_)⟩
    · simp only [resolve, rangeCall, eg]
      simp [Deferred.ofValue, Act.eval]
    · simp only [invoke]
      rw [hargs]
      exact hG.inl f hf _ w1
    refine ih none _ b _ _ ρ h R1 _ none 0 β1 _ w1 base ?_ rfl _ ?_
    rotate_left
    · -- it ends
      intro e s' ρ' β' a' w' hk h1 h2 h3 hC'
      have fin : (match resOf G.P s' fn.results.toList with
          | some _ => match getR s'.r st.c.nk with
            | some none => K .normal { t := st.t, n := st.n, m := s'.m, c := s'.c, o := s'.o, r := delR s'.r st.c.nk, d := if rd.isSome = true then st.d else (st.c.nk + 1) :: st.d }
            | some (some .normal) => (PA G.P W Q QM).fail "range: busy"
            | some (some e) => K e { t := st.t, n := st.n, m := s'.m, c := s'.c, o := s'.o, r := delR s'.r st.c.nk, d := if rd.isSome = true then st.d else (st.c.nk + 1) :: st.d }
            | none => (PA G.P W Q QM).fail "range: record"
          | none => (PA G.P W Q QM).fail "range: results") ρ' → LeavesInM (Fr none) 0 G.P fn a'.tmps (rangePost (Fr r) m G.P l Q' { a with defers := mark ++ a.defers }) a'.defers .returning w' := by
        intro hk
        generalize hr : resOf G.P s' fn.results.toList = u at hk
        cases u with
        | none => exact hk.elim
        | some vs => exact body_end hC' hr fun w3 hC4 _ => post s' ρ' β' _ w3 hC4 h1 h2 h3 hk
      cases e with
      | normal => exact fin hk
      | ret => exact fin hk
      | exit id => exact hk.elim
    · -- a round
      intro k args2 s K' ρ2 hy hw2 hc2 hl2 R' hR' Z' β2 a2 w2 hb2 hC2 r2 n2 next' hn'
      have hcc : st.c.le s.c := Ctr.le_trans hlec hc2
      have hlk : Env.like st.c ρ ρ2 := ⟨hl2.i, hl2.b, hl2.v, hl2.p, hl2.s, hl2.l⟩
      have hbk : ∀ k, k < st.c.nk → β2 k = β k := fun k hk => (hb2 k (by simp only; omega)).trans (hβ1 k hk)
      have hRk : ∀ k, k < st.c.nk → R' k = R k := fun k hk => (hR' k (by simp only; omega)).trans (hR1 k hk)
      have hYf : YlOk G.P W R' s.c ρ2 β2 yl := hY.far hcc hlk hbk hRk
      split at hy
      rotate_left
      · exact hYf k args2 s K' ρ2 hy hw2 (Ctr.le_refl _) (Env.like_refl _ _) R' (fun _ _ => rfl) Z' β2 a2 w2 (fun _ _ => rfl) hC2 r2 n2 next' hn'
      rename_i hkk
      subst hkk
      split at hy
      rotate_left
      · exact hy.elim
      rename_i hcond2
      obtain ⟨hready, hasz, hpsn⟩ := hcond2
      have hl2' : β2 st.c.nk = l := (hb2 _ (by simp only; omega)).trans hβk
      have hRr : R' st.c.nk = rec := (hR' _ (by simp only; omega)).trans hR1k
      have hh : w2.heap[l]? = some (.loop rec) := by
        have := (hC2.lps _ _ hready).2
        rw [hl2', hRr, hrec0] at this
        exact this
      have hyr := run_yield (P := G.P) (args := (args2.map (SV.den ρ2 β2)).toArray) hh (by rw [hrtmps.2.1]; simpa using hasz)
      rw [hrtmps.1, hrtmps.2.1, hrtmps.2.2.1, hrtmps.2.2.2] at hyr
      refine ⟨l, rec.fn, _, assign, body, by rw [hl2']; exact hyr, roundIn_of_wpIn (fr_fn r2 _) ?_⟩
      -- the frame of the round
      have hfr : Core W R' (Z' ++ s.d.map β2) ρ2 β2 { t := putSs st.t ps.toList args2, n := st.n, m := s.m, c := s.c, o := s.o, r := s.r, d := [] }
          { tmps := (ps.zip (args2.map (SV.den ρ2 β2)).toArray).foldl (fun (tmps : Array Value) (x : Tmp × Value) => tmps.setIfInBounds x.1 x.2) a.tmps, defers := [] } w2 := by
        have hz : (ps.zip (args2.map (SV.den ρ2 β2)).toArray).foldl (fun (tmps : Array Value) (x : Tmp × Value) => tmps.setIfInBounds x.1 x.2) a.tmps = (ps.toList.zip (args2.map (SV.den ρ2 β2))).foldl (fun (x : Array Value) (y : Tmp × Value) => x.setIfInBounds y.1 y.2) a.tmps := by
          rw [← Array.foldl_toList, Array.toList_zip]
        rw [hz]
        refine ⟨by simp only [foldl_size]; exact hC.size, fun i hi => ?_, rfl, hC2.below, hC2.mem, hC2.inj, hC2.lps, hC2.rin, fun b hb => hC2.ded b (by simpa using hb), by simpa using hC2.dn, ⟨fun i => ?_, hC2.wf.m, hC2.wf.o, hC2.wf.ap, hC2.wf.r, fun k hk => by cases hk⟩⟩
        · refine putSs_get ρ2 β2 ps.toList args2 st.t a.tmps (by simpa using hasz) (fun p hp => ?_) (fun j hj => ?_) i hi
          · rw [hC.size]
            have := Array.all_eq_true_iff_forall_mem.1 hpsn p (Array.mem_toList_iff.1 hp)
            simpa using this
          · rw [hC.tmps j hj]
            exact congrArg some (SV.den_like hlk hbk (hC.wf.t j)).symm
        · exact putSs_wf ps.toList args2 st.t hw2 (fun j => SV.wf_le hcc (hC.wf.t j)) i
      refine ih (some st.c.nk) yl assign _ _ ρ2 hy R' (Z' ++ s.d.map β2) (some l) n2 β2 _ w2 hfr hYf ⟨by rw [hl2'], by have := hc2.k; simp only at this ⊢; omega⟩ _ ?_
      intro e s1 ρ3 β3 a3 w3 hk h1 h2 h3 hC3
      cases e with
      | exit id => exact hk.elim
      | ret => exact hk.elim
      | normal =>
        simp only at hk
        split at hk
        rotate_left
        · exact hk.elim
        rename_i hready3
        have hkr : st.c.nk < s.c.nk := by have := hc2.k; simp only at this; omega
        have hl3 : β3 st.c.nk = l := (h3 _ hkr).trans hl2'
        have hh3 : w3.heap[l]? = some (.loop rec) := by
          have := (hC3.lps _ _ hready3).2
          rw [hl3, hRr, hrec0] at this
          exact this
        refine ⟨_, run_beginRound (P := G.P) hh3 (by rw [← hrr]), ?_⟩
        have hC4 := core_setR (e' := some .normal) hC3 hready3
        rw [hl3, hRr] at hC4
        have hrb : recAt rec (some .normal) = { rec with state := .busy } := by rw [← hrr]; rfl
        rw [hrb] at hC4
        refine ih (some st.c.nk) yl body _ _ ρ3 hk R' (Z' ++ s.d.map β2) (some l) n2 β3 _ _ hC4 (hYf.far h1 h2 h3 (fun _ _ => rfl)) ⟨by rw [hl3], Nat.lt_of_lt_of_le hkr h1.k⟩ _ ?_
        intro e s2 ρ4 β4 a4 w4 hk4 g1 g2 g3 hC5
        have q1 : s.c.le s2.c := Ctr.le_trans h1 g1
        have q2 : Env.like s.c ρ2 ρ4 := Env.like_trans h1 h2 g2
        have q3 : ∀ k, k < s.c.nk → β4 k = β2 k := fun k hk => (g3 k (Nat.lt_of_lt_of_le hk h1.k)).trans (h3 k hk)
        split at hk4
        rotate_left
        · exact hk4.elim
        rename_i hbusy
        have hl4 : β4 st.c.nk = l := (q3 _ hkr).trans hl2'
        have hh4 : w4.heap[l]? = some (.loop (recAt rec (some .normal))) := by
          have := (hC5.lps _ _ hbusy).2
          rw [hl4, hRr] at this
          exact this
        -- the calling frame again
        have again : ∀ (x : Option Ex), Core W R' Z' ρ4 β4 { t := s.t, n := s.n, m := s2.m, c := s2.c, o := s2.o, r := setR s2.r st.c.nk x, d := s.d } a2 (w4.putObj l (.loop (recAt rec x))) := by
          intro x
          have hC6 := core_setR (e' := x) hC5.drop hbusy
          rw [hl4, hRr] at hC6
          exact core_back hC2 (s' := { s2 with r := setR s2.r st.c.nk x }) hC6 q1 q2 q3
        have endr : ∀ (jump : Option Code), (Instr.endRound l jump).run G.P w4 = .ok (.bool jump.isNone) (w4.putObj l (.loop { rec with state := if jump.isNone then .ready else .done, pending := jump })) := fun jump => by
          have := run_endRound (P := G.P) jump hh4
          rw [this]
          simp only [recAt]
        cases e with
        | normal =>
          refine ⟨_, _, endr none, _, rfl, ?_⟩
          have := hn' (.cv (.one (.bool (.lit true)))) _ ρ4 β4 _ hk4 rfl (by simp) q1 q2 q3 (again none)
          rw [← hrr] at this ⊢
          exact this
        | ret =>
          refine ⟨_, _, endr (some .ret), _, rfl, ?_⟩
          have := hn' (.cv (.one (.bool (.lit false)))) _ ρ4 β4 _ hk4 rfl (by simp) q1 q2 q3 (again (some .ret))
          rw [← hrr] at this ⊢
          exact this
        | exit id =>
          refine ⟨_, _, endr (some (.exit id)), _, rfl, ?_⟩
          have := hn' (.cv (.one (.bool (.lit false)))) _ ρ4 β4 _ hk4 rfl (by simp) q1 q2 q3 (again (some (.exit id)))
          rw [← hrr] at this ⊢
          exact this
  | _ => exact h.elim

theorem exec_sound {G : Cfg} (hG : G.Ok) (hD : DrawOk G W Q QM) : ∀ (n : Nat) (rd : Option Nat) (yl : Yl (Env → Prop)) (c : Code) (st : St) (K : Ex → St → Env → Prop) (ρ : Env), exec (PA G.P W Q QM) G n rd yl c st K ρ →
    ∀ (R : Nat → Loop) (Z : List Nat) (r : Option Nat) (m : Nat) (β : Nat → Nat) (a : Act) (w : World), Core W R Z ρ β st a w → YlOk G.P W R st.c ρ β yl → RdRel rd r st β → ∀ Q' : Exit → Act → World → Prop, NxtE W R Z st ρ β K Q' → c.wpIn (Fr r) m G.P Q' a w
  | 0, rd, yl, c, st, K, ρ, h, _, _, _, _, _, _, _, _, _, _, _, _ => h.elim
  | n + 1, rd, yl, c, st, K, ρ, h, R, Z, r, m, β, a, w, hC, hY, hRd, Q', hn => by
    have ih := exec_sound hG hD n
    have here : ∀ (e : Ex), K e st ρ → Q' e.to a w := fun e hk => hn e st ρ β a w hk (Ctr.le_refl _) (Env.like_refl _ _) (fun _ _ => rfl) hC
    unfold exec at h
    cases c with
    | skip => exact wpIn_skip (here .normal h)
    | label l => exact wpIn_label (here .normal h)
    | ret => exact wpIn_ret (here .ret h)
    | exit id => exact wpIn_exit (here (.exit id) h)
    | region id ops draw =>
      have nx : Nxt W R Z st ρ β (K .normal) (Q' .normal) := fun s ρ2 β2 a2 w2 hk h1 h2 h3 hC2 => hn .normal s ρ2 β2 a2 w2 hk h1 h2 h3 hC2
      have hI : InlOk G W R Z st.c ρ β (fun f args s K' => match G.P.funcs[f]? with
          | none => (PA G.P W Q QM).fail "inline: no such function"
          | some fn => match fn.body with
            | none => (PA G.P W Q QM).fail "inline: no body"
            | some b =>
              exec (PA G.P W Q QM) G n none yl b { t := (List.range args.length).zip args, n := args.length + (fn.ntmps - args.length), m := s.m, c := s.c, o := s.o, r := s.r, d := [] } fun e s' =>
                match e with
                | .exit _ => (PA G.P W Q QM).fail "inline: exit"
                | _ => match resOf G.P s' fn.results.toList with
                  | some l => K' (resV l) { t := s.t, n := s.n, m := s'.m, c := s'.c, o := s'.o, r := s'.r, d := s.d }
                  | none => (PA G.P W Q QM).fail "inline: results") := by
        intro f args s K' ρ1 hi hw hc0 hl0 β1 a1 w1 hb1 hC1 next' hn'
        generalize hf : G.P.funcs[f]? = u at hi
        cases u with
        | none => exact hi.elim
        | some fn =>
          simp only at hi
          generalize hb : fn.body = u at hi
          cases u with
          | none => exact hi.elim
          | some b =>
            refine calls_body (n := 0) hf hb ?_
            refine ih none yl b _ _ ρ1 hi R (Z ++ s.d.map β1) none 0 β1 _ w1 (core_enter (n := fn.ntmps) hC1 hw) (hY.far hc0 hl0 hb1 (fun _ _ => rfl)) rfl _ ?_
            intro e s' ρ' β' a' w' hk h1 h2 h3 hC3
            have fin : (match resOf G.P s' fn.results.toList with
                | some l => K' (resV l) { t := s.t, n := s.n, m := s'.m, c := s'.c, o := s'.o, r := s'.r, d := s.d }
                | none => (PA G.P W Q QM).fail "inline: results") ρ' → LeavesInM (Fr none) 0 G.P fn a'.tmps (fun e w' => ∃ v, e = .returned v ∧ next' v w') a'.defers .returning w' := by
              intro hk
              generalize hr : resOf G.P s' fn.results.toList = u at hk
              cases u with
              | none => exact hk.elim
              | some l =>
                refine body_end hC3 hr fun w3 hC4 hwl => ⟨_, rfl, ?_⟩
                exact hn' (resV l) _ ρ' β' w3 hk hwl (resV_any l) h1 h2 h3 (core_back hC1 hC4 h1 h2 h3)
            cases e with
            | normal => exact fin hk
            | ret => exact fin hk
            | exit id => exact hk.elim
      cases draw with
      | true => exact hD R Z r m _ yl id ops st _ ρ h β a w hC hI hY _ Q' (fun _ _ q => q) nx
      | false => exact wpIn_region_list (execL_sound (stepO_sound hG hI hY) ops.toList st ρ h (Ctr.le_refl _) (Env.like_refl _ _) β a w (fun _ _ => rfl) hC _ (fun _ _ q => q) nx)
    | seq x y =>
      refine wpIn_seq (ih rd yl x st _ ρ h R Z r m β a w hC hY hRd _ ?_)
      intro e s ρ2 β2 a2 w2 hk h1 h2 h3 hC2
      cases e with
      | normal => exact ih rd yl y s K ρ2 hk R Z r m β2 a2 w2 hC2 (hY.far h1 h2 h3 (fun _ _ => rfl)) (hRd.far h1 h3) Q' (hn.far h1 h2 h3)
      | exit id => exact hn (.exit id) s ρ2 β2 a2 w2 hk h1 h2 h3 hC2
      | ret => exact hn .ret s ρ2 β2 a2 w2 hk h1 h2 h3 hC2
    | cond o x y =>
      cases o with
      | tmp d =>
        simp only at h
        generalize hg : getS st.t d = sv at h
        split at h
        · rename_i e
          split at h
          · rename_i hd
            have he : a.eval (.tmp d) = .bool (e.den ρ) := by
              have := hC.eval (.tmp d) (by show getS st.t d ≠ _; rw [hg]; simp)
              rw [this]
              show (getS st.t d).den ρ β = _
              rw [hg]; rfl
            rcases doFork_sound h with ⟨hb, h⟩ | ⟨hb, h⟩
            · exact wpIn_cond_true (by rw [he, hb]) (ih rd yl x _ K ρ h R Z r m β a w (hC.know hg hb) hY hRd Q' (hn.st rfl))
            · exact wpIn_cond_false (by rw [he, hb]) (ih rd yl y _ K ρ h R Z r m β a w (hC.know hg hb) hY hRd Q' (hn.st rfl))
          · exact h.elim
        · exact h.elim
      | const v =>
        cases v with
        | bool t =>
          cases t with
          | true => exact wpIn_cond_true rfl (ih rd yl x st K ρ h R Z r m β a w hC hY hRd Q' hn)
          | false => exact wpIn_cond_false rfl (ih rd yl y st K ρ h R Z r m β a w hC hY hRd Q' hn)
        | _ => exact h.elim
      | _ => exact h.elim
    | block id b =>
      refine wpIn_block (ih rd yl b st _ ρ h R Z r m β a w hC hY hRd _ ?_)
      intro e s ρ2 β2 a2 w2 hk h1 h2 h3 hC2
      cases e with
      | normal => exact hn .normal s ρ2 β2 a2 w2 hk h1 h2 h3 hC2
      | ret => exact hn .ret s ρ2 β2 a2 w2 hk h1 h2 h3 hC2
      | exit i =>
        simp only at hk
        simp only [Ex.to, Exit.inBlock]
        by_cases hi : i = id
        · rw [if_pos hi] at hk ⊢
          exact hn .normal s ρ2 β2 a2 w2 hk h1 h2 h3 hC2
        · rw [if_neg hi] at hk ⊢
          exact hn (.exit i) s ρ2 β2 a2 w2 hk h1 h2 h3 hC2
    | scope b =>
      simp only at h
      split at h
      · rename_i hrd
        subst hrd
        have hr : r = none := hRd
        subst hr
        refine wpIn_wide.2 (wp_scope_straight (wpIn_wide (n := m).1 (ih none yl b st _ ρ h R Z none m β a w hC hY rfl _ ?_)))
        intro e s ρ2 β2 a2 w2 hk h1 h2 h3 hC2
        have := hn e s ρ2 β2 a2 w2 hk h1 h2 h3 hC2
        cases e <;> exact this
      · exact h.elim
    | loop b =>
      have plain : unroll (PA G.P W Q QM) (exec (PA G.P W Q QM) G n rd yl b) K n st ρ → (Code.loop b).wpIn (Fr r) m G.P Q' a w := by
        intro h
        refine wpIn_loop_rounds n ?_
        have key : ∀ (j : Nat) (st : St) (ρ : Env) (β : Nat → Nat) (a : Act) (w : World), unroll (PA G.P W Q QM) (exec (PA G.P W Q QM) G n rd yl b) K j st ρ → Core W R Z ρ β st a w → YlOk G.P W R st.c ρ β yl → RdRel rd r st β → NxtE W R Z st ρ β K Q' → Code.roundsIn (Fr r) m G.P b Q' j a w := by
          intro j
          induction j with
          | zero => intro st ρ β a w h _ _ _ _; exact h.elim
          | succ j ihj =>
            intro st ρ β a w h hC hY hRd hn
            refine ih rd yl b st _ ρ h R Z r m β a w hC hY hRd _ ?_
            intro e s ρ2 β2 a2 w2 hk h1 h2 h3 hC2
            cases e with
            | normal => exact ihj s ρ2 β2 a2 w2 hk hC2 (hY.far h1 h2 h3 (fun _ _ => rfl)) (hRd.far h1 h3) (hn.far h1 h2 h3)
            | exit id => exact hn (.exit id) s ρ2 β2 a2 w2 hk h1 h2 h3 hC2
            | ret => exact hn .ret s ρ2 β2 a2 w2 hk h1 h2 h3 hC2
        exact key n st ρ β a w h hC hY hRd hn
      simp only at h
      generalize hh : (G.loops.lookup (keyOf b)).bind LH.parts = hint at h
      split at h
      · rename_i blks cells slots kill
        generalize hca : cellsAt st cells = u1 at h
        generalize hvs : readS st.t slots = u2 at h
        split at h
        · rename_i fc vs
          generalize hfree : blks ++ fc = free at h
          generalize hms : readM st.m free = u3 at h
          split at h
          · exact h.elim
          · rename_i ms
            generalize hks : kindsOf st.o (vs.flatMap CV.cells ++ ms) = u4 at h
            split at h
            · exact h.elim
            · rename_i ks
              split at h
              rotate_left
              · exact h.elim
              rename_i hnd0
              obtain ⟨Inv, μ, h0, hall⟩ := h
              have hle := freshLC_le ks st.c
              have hfoid : ∀ {k}, getO (delOs st.o (ownIds (vs.flatMap CV.cells ++ ms))) k ≠ none → k < st.c.nk := fun {k} hk => by
                rw [getO_dels] at hk
                split at hk
                · exact (hk rfl).elim
                · cases hg : getO st.o k with
                  | none => exact (hk hg).elim
                  | some x => have := (hC.wf.o k x.1 x.2.1 x.2.2 hg).1; omega
              refine wpIn_loop_ghost (fun k a w => ∃ ρh βh, Inv ((freshL st.c ks).map (vl (freshO st.c ks) ρh)) ∧ μ ((freshL st.c ks).map (vl (freshO st.c ks) ρh)) = k ∧ Env.like st.c ρ ρh ∧ (∀ j, j < st.c.nk → βh j = β j) ∧
                Core W R Z ρh βh { t := writeS (killS st.t kill) slots vs (freshL st.c ks), n := st.n, m := writeM st.m free ((freshL st.c ks).drop (vs.flatMap CV.cells).length), c := freshLC st.c ks, o := freshO st.c ks ++ delOs st.o (ownIds (vs.flatMap CV.cells ++ ms)), r := st.r, d := st.d } a w ∧
                exec (PA G.P W Q QM) G n rd yl b { t := writeS (killS st.t kill) slots vs (freshL st.c ks), n := st.n, m := writeM st.m free ((freshL st.c ks).drop (vs.flatMap CV.cells).length), c := freshLC st.c ks, o := freshO st.c ks ++ delOs st.o (ownIds (vs.flatMap CV.cells ++ ms)), r := st.r, d := st.d } (fun e s => match e with
                  | .normal => match readS s.t slots, readM s.m free with
                    | some vs', some ms' =>
                      if sameSt { t := writeS (killS st.t kill) slots vs (freshL st.c ks), n := st.n, m := writeM st.m free ((freshL st.c ks).drop (vs.flatMap CV.cells).length), c := freshLC st.c ks, o := freshO st.c ks ++ delOs st.o (ownIds (vs.flatMap CV.cells ++ ms)), r := st.r, d := st.d } s slots free ((freshO st.c ks).map (·.1)) = true ∧ vs'.map CV.shape = vs.map CV.shape ∧ kindsOf s.o (vs'.flatMap CV.cells ++ ms') = some ks ∧ (ownIds (vs'.flatMap CV.cells ++ ms')).Nodup ∧
                          (ownIds (vs'.flatMap CV.cells ++ ms')).all (fun k => (freshO st.c ks).any (fun x => x.1 == k) || (delOs st.o (ownIds (vs.flatMap CV.cells ++ ms))).all fun x => x.1 != k) = true then
                        (fun ρ'' => Inv ((vs'.flatMap CV.cells ++ ms').map (vl s.o ρ'')) ∧ μ ((vs'.flatMap CV.cells ++ ms').map (vl s.o ρ'')) < μ ((freshL st.c ks).map (vl (freshO st.c ks) ρh)))
                      else (PA G.P W Q QM).fail "loop: not the same"
                    | _, _ => (PA G.P W Q QM).fail "loop: values"
                  | e => K e s) ρh) (μ ((vs.flatMap CV.cells ++ ms).map (vl st.o ρ))) ?_ ?_
              · obtain ⟨ρh, βh, q1, q2, q3, q4, q5, q6, q7, q8, q9⟩ := allA_inst (freshO st.c ks) st.o ρ β ks st.c β _ (fun _ _ h => h) hall hks
                refine ⟨ρh, βh, by rw [q5]; exact h0, by rw [q5], q2, q3, ?_, q1 (by rw [q5]; exact h0)⟩
                refine reenter hC.wf hC (Env.like_refl _ _) q2 q3 hvs hvs rfl hms q4 ⟨rfl, rfl, rfl⟩ (fun i hi => ?_) (fun k cs1 t hg => ?_) q6 q7 hnd0 (fun k x hx => ?_) (fun k hk => ?_)
                · rw [writeS_other _ _ _ _ hi]
                  rcases killS_get st.t i kill with h | h
                  · exact .inl h
                  · exact .inr h.symm
                · obtain ⟨cs0, p1, p2, p3⟩ := writeM_keep free st.m _ hg
                  exact ⟨cs0, p1, p2, p3⟩
                · rw [getO_dels] at hx
                  split at hx
                  · cases hx
                  · exact hx
                · rw [getO_dels, if_pos hk]
              · intro k a1 w1 hI
                obtain ⟨ρh, βh, hinv, hmu, hlh, hbh, hCh, hex⟩ := hI
                refine ih rd yl b _ _ ρh hex R Z r m βh a1 w1 hCh (hY.far hle hlh hbh (fun _ _ => rfl)) (hRd.far hle hbh) _ ?_
                intro e s ρ2 β2 a2 w2 hk h1 h2 h3 hC2
                have l2 : Env.like st.c ρ ρ2 := Env.like_trans hle hlh h2
                have b2 : ∀ j, j < st.c.nk → β2 j = β j := fun j hj => (h3 j (Nat.lt_of_lt_of_le hj hle.k)).trans (hbh j hj)
                cases e with
                | exit id => exact hn (.exit id) s ρ2 β2 a2 w2 hk (Ctr.le_trans hle h1) l2 b2 hC2
                | ret => exact hn .ret s ρ2 β2 a2 w2 hk (Ctr.le_trans hle h1) l2 b2 hC2
                | normal =>
                  simp only at hk
                  generalize hv' : readS s.t slots = u5 at hk
                  generalize hm' : readM s.m free = u6 at hk
                  split at hk
                  · rename_i vs' ms'
                    split at hk
                    · rename_i hcond
                      obtain ⟨c1, c2, c3, c4, c5⟩ := hcond
                      obtain ⟨hi2, hlt⟩ := hk
                      obtain ⟨s1, s2, s3, s4⟩ := sameSt_sound c1
                      obtain ⟨ρn, βn, q1, q2, q3, q4, q5, q6, q7, q8, q9⟩ := allA_inst (freshO st.c ks) s.o ρ2 β2 ks st.c β2 _ (fun _ _ h => h) hall c3
                      refine ⟨μ ((vs'.flatMap CV.cells ++ ms').map (vl s.o ρ2)), hmu ▸ hlt, ρn, βn, by rw [q5]; exact hi2, by rw [q5], q2, fun j hj => (q3 j hj).trans (b2 j hj), ?_, q1 (by rw [q5]; exact hi2)⟩
                      refine reenter hC.wf hC2 l2 q2 q3 hvs hv' c2 hm' q4 s1 s2 s3 q6 q7 c4 (fun k x hx => ?_) (fun k hk => ?_)
                      · have hlt2 := hfoid (k := k) (by rw [hx]; simp)
                        refine s4 k x ?_ fun hmem => ?_
                        · simp only [getO_app]
                          cases hg : getO (freshO st.c ks) k with
                          | none => exact hx
                          | some y => have := (freshO_get ks st.c hg).1; omega
                        · obtain ⟨y, hy, rfl⟩ := List.mem_map.1 hmem
                          have : ∀ (l : List CK) (c : Ctr), (∀ y ∈ freshO c l, c.nk ≤ y.1) := by
                            intro l
                            induction l with
                            | nil => intro c y hy; cases hy
                            | cons kd l ih =>
                              intro c y hy
                              have tl : y ∈ freshO (freshC c kd) l → c.nk ≤ y.1 := fun hy => Nat.le_trans (freshC_nk c kd) (ih _ y hy)
                              cases kd <;> first
                                | exact tl hy
                                | skip
                              simp only [freshO, List.mem_cons] at hy
                              rcases hy with rfl | hy
                              · exact Nat.le_refl _
                              · exact tl hy
                          have := this ks st.c y hy
                          omega
                      · have := List.all_eq_true.1 c5 k hk
                        simp only [Bool.or_eq_true, List.any_eq_true, beq_iff_eq, List.all_eq_true, bne_iff_ne, ne_eq] at this
                        rcases this with ⟨y, hy, he⟩ | h
                        · cases hg : getO (delOs st.o (ownIds (vs.flatMap CV.cells ++ ms))) k with
                          | none => rfl
                          | some x =>
                            have h5 := hfoid (k := k) (by rw [hg]; simp)
                            have : ∀ (l : List CK) (c : Ctr), (∀ y ∈ freshO c l, c.nk ≤ y.1) := by
                              intro l
                              induction l with
                              | nil => intro c y hy; cases hy
                              | cons kd l ih =>
                                intro c y hy
                                have tl : y ∈ freshO (freshC c kd) l → c.nk ≤ y.1 := fun hy => Nat.le_trans (freshC_nk c kd) (ih _ y hy)
                                cases kd <;> first
                                  | exact tl hy
                                  | skip
                                simp only [freshO, List.mem_cons] at hy
                                rcases hy with rfl | hy
                                · exact Nat.le_refl _
                                · exact tl hy
                            have := this ks st.c y hy
                            omega
                        · cases hg : getO (delOs st.o (ownIds (vs.flatMap CV.cells ++ ms))) k with
                          | none => rfl
                          | some x => exact (h _ (getO_mem hg) rfl).elim
                    · exact hk.elim
                  · exact hk.elim
        · exact h.elim
      · exact plain h
    | rangeFunc g ps assign body => exact range_sound hG ih (show exec (PA G.P W Q QM) G (n + 1) rd yl (.rangeFunc g ps assign body) st K ρ by unfold exec; exact h) hC hY hRd hn
    | _ => exact h.elim
end Vc
