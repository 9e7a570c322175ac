/- Vc, part G: addresses, parts, loads and calls are sound; each operation that computes a value is. No program in sight. -/
import Derived.Test.YtdhiapllbjamfaaVcF
import Derived.Laws.CopyRow
import Derived.Laws.Cells
set_option linter.unusedVariables false
set_option linter.unusedSimpArgs false
namespace Vc
open Go Go.RowKit
variable {P : Program} {W : World} {Q : Value → Prop} {QM : World → Value → Prop}

theorem addr_add (b o m : Nat) : (⟨b, o, none⟩ : Addr).add m = ⟨b, o + m, none⟩ := by
  unfold Addr.add; split <;> simp_all
theorem run_idx_arr {t el : TypeId} {n : Nat} {g : Bool} {s : Nat} (h1 : P.underlying t = some (.array n el)) (hz : szAgg P el = some (g, s)) (b o : Nat) (k : IntKind) (i : Int) (h0 : 0 ≤ i) (hn : i < n) (w : World) :
    (Instr.indexAt t (ptr b o) (.int k i)).run P w = .ok (ptr b (o + i.toNat * s)) w := by
  simp [Instr.indexAt, asIntOf, run_underlying h1, Instr.sureAddr, ptr, h0, hn, run_size hz, addr_add]
theorem run_idx_sl {t el : TypeId} {n m : Nat} {g : Bool} {s : Nat} (h1 : P.underlying t = some (.slice el)) (hz : szAgg P el = some (g, s)) (b o : Nat) (k : IntKind) (i : Int) (h0 : 0 ≤ i) (hn : i < n) (w : World) :
    (Instr.indexAt t (.slice (some ⟨b, o, none⟩) n m) (.int k i)).run P w = .ok (ptr b (o + i.toNat * s)) w := by
  simp [Instr.indexAt, asIntOf, run_underlying h1, ptr, h0, hn, run_size hz, addr_add]

theorem doIE_sound {c : Ctr} {p : IP} {K : IE → Ctr → Env → Prop} {ρ : Env} (h : doIE (PA P W Q QM) c p K ρ) :
    ∃ e c' ρ', K e c' ρ' ∧ c.le c' ∧ c'.nk = c.nk ∧ Env.like c ρ ρ' ∧ e.wf c' = true ∧ ∀ ρ'', Env.like c' ρ' ρ'' → e.den ρ'' = p.den ρ'' := by
  unfold doIE at h
  split at h
  · rename_i hl
    exact ⟨_, c, ρ, h, Ctr.le_refl _, rfl, Env.like_refl _ _, rfl, fun ρ'' _ => (IP.den_lits (ρ := Env.zero) (ρ' := ρ'') hl)⟩
  · split at h
    · rename_i hw
      have h1 := h (p.den ρ) rfl
      have hle : c.le { c with ni := c.ni + 1 } := Ctr.le_ni c 1
      refine ⟨_, _, _, h1, hle, rfl, like_setI c ρ _, by simp [IE.wf], fun ρ'' hl => ?_⟩
      have e1 : ρ''.i c.ni = p.den ρ := by
        rw [hl.i c.ni (Nat.lt_succ_self _)]
        exact if_pos rfl
      simp only [IE.den, e1]
      rw [IP.den_like (Env.like_trans hle (like_setI c ρ _) hl) hw]
    · exact h.elim
theorem doSum_sound {c : Ctr} {op : IE → IE → IP} {a b : IE} {K : IE → Ctr → Env → Prop} {ρ : Env} (h : doSum (PA P W Q QM) c op a b K ρ) :
    ∃ e c' ρ', K e c' ρ' ∧ c.le c' ∧ c'.nk = c.nk ∧ Env.like c ρ ρ' ∧ e.wf c' = true ∧ ∀ ρ'', Env.like c' ρ' ρ'' → e.den ρ'' = (op a b).den ρ'' := doIE_sound h

/-- What is known of the objects that are read. -/
inductive Ent where
  | fix (cs : List At) (t : TypeId)
  | row (ce : CE) (sz : Nat) (t : TypeId)
def getE (m : Mem) (o : OMem) (k : Nat) : Option Ent :=
  match getM m k with
  | some (cs, t) => some (.fix cs t)
  | none => match getO o k with
    | some (ce, sz, t) => some (.row ce sz t)
    | none => none
def Holds (W : World) (ρ : Env) (β : Nat → Nat) (k : Nat) : Ent → World → Prop
  | .fix cs t, w => W.heap.size ≤ β k ∧ w.heap[β k]? = some (.cells (cs.map (At.den ρ β)).toArray t)
  | .row ce sz t, w => RowOk W.heap.size (β k) (β (k + 1)) (β (k + 2)) (β (k + 3)) (ceDen ρ β ce) sz t w
def RdOk (W : World) (m : Mem) (o : OMem) (l : List Nat) (ρ : Env) (β : Nat → Nat) (w : World) : Prop :=
  ∀ k ∈ l, ∀ e, getE m o k = some e → Holds W ρ β k e w
theorem getE_m {m : Mem} {o : OMem} {k : Nat} {cs : List At} {t : TypeId} (h : getM m k = some (cs, t)) : getE m o k = some (.fix cs t) := by
  simp [getE, h]
theorem getE_o {m : Mem} {o : OMem} {k : Nat} {ce : CE} {sz : Nat} {t : TypeId} (hm : getM m k = none) (h : getO o k = some (ce, sz, t)) : getE m o k = some (.row ce sz t) := by
  simp [getE, hm, h]
/-- No id is a block and a row. -/
def Apart (m : Mem) (o : OMem) : Prop := ∀ k x, getO o k = some x → getM m k = none

theorem row_len {lo b code n base : Nat} {xs : List Value} {sz : Nat} {t : TypeId} {w : World} (h : RowOk lo b code n base xs sz t w) : xs.length / sz = n := by
  rw [h.1]; exact Nat.mul_div_cancel _ h.2.1
theorem row_real {lo b code n base : Nat} {xs : List Value} {sz : Nat} {t : TypeId} {w : World} (h : RowOk lo b code n base xs sz t w) (hn : 0 < n) :
    2 ≤ code ∧ base = 0 ∧ ∃ cur, w.heap[b]? = some (.cells cur t (0, 0)) ∧ cur.toList.take (n * sz) = xs := by
  rcases h.2.2 with ⟨_, h0⟩ | ⟨h1, h2, _, _, _, cur, h3, _, h4⟩
  · omega
  · exact ⟨h1, h2, cur, h3, h4⟩
theorem olen_den (ρ : Env) (β : Nat → Nat) (ce : CE) (sz : Nat) : (IP.olen (ceNum ce) (ceVars ce) sz).den ρ = (((ceDen ρ β ce).length / sz : Nat) : Int) := by
  rw [ceDen_length]; rfl
/-- How long a row is, as the walk knows it. -/
theorem doOLen_sound {c : Ctr} {ce : CE} {sz : Nat} {K : IE → Ctr → Env → Prop} {ρ : Env} (h : doOLen (PA P W Q QM) c ce sz K ρ) :
    ∃ e c' ρ', K e c' ρ' ∧ c.le c' ∧ c'.nk = c.nk ∧ Env.like c ρ ρ' ∧ e.wf c' = true ∧ ∀ ρ'' β, Env.like c' ρ' ρ'' → e.den ρ'' = (((ceDen ρ'' β ce).length / sz : Nat) : Int) := by
  obtain ⟨e, c', ρ', h1, h2, h3, h4, h5, h6⟩ := doIE_sound h
  exact ⟨e, c', ρ', h1, h2, h3, h4, h5, fun ρ'' β hl => by rw [h6 ρ'' hl, olen_den ρ'' β]⟩

theorem doIndexAddr_sound {c : Ctr} {t : TypeId} {x i : SV} {K : SV → Ctr → Env → Prop} {ρ : Env} {m : Mem} {o : OMem} (hap : Apart m o) (hx : x.wf c = true) (hi : i.wf c = true) (h : doIndexAddr (PA P W Q QM) P o c t x i K ρ) :
    Res c ρ K fun sv ρ'' => sv ≠ .any ∧ (x ≠ .any ∧ i ≠ .any) ∧ ∀ β w, RdOk W m o (blksOf (svCells x)) ρ'' β w → (Instr.indexAt t (x.den ρ'' β) (i.den ρ'' β)).run P w = .ok (sv.den ρ'' β) w := by
  unfold doIndexAddr at h
  split at h
  · rename_i ki e
    have we : e.wf c = true := hi
    generalize h1 : P.underlying t = u1 at h
    split at h
    · rename_i el k
      generalize hz : szAgg P el = u2 at h
      generalize hgo : getO o k = u3 at h
      split at h
      · rename_i g s ce sz ty
        split at h
        · rename_i hs
          obtain ⟨rfl, hs0⟩ := hs
          obtain ⟨n, c1, ρ1, r1, r2, r3, r4, r5, r6⟩ := doOLen_sound h
          obtain ⟨q1, ha⟩ := doChk_sound r1
          obtain ⟨q2, hk⟩ := doChk_sound ha
          refine ⟨_, c1, ρ1, hk, r2, r4, fun ρ'' hl => ⟨by simp, by simp, fun β w hrd => ?_⟩⟩
          have hl0 := Env.like_trans r2 r4 hl
          have hrow := hrd k (by simp [svCells, CV.cells, blksOf]) _ (getE_o (hap k _ hgo) hgo)
          have e1 : 0 ≤ e.den ρ'' := by rw [IE.den_like hl (IE.wf_le r2 we)]; exact q1
          have e2 : e.den ρ'' < n.den ρ'' := by rw [IE.den_like hl (IE.wf_le r2 we), IE.den_like hl r5]; exact q2
          have e3 := r6 ρ'' β hl
          rw [row_len hrow] at e3
          obtain ⟨p1, p2, _⟩ := row_real hrow (by omega)
          have := run_idx_sl (P := P) (n := β (k + 2)) (m := β (k + 1) - 1) h1 hz (β k) 0 ki (e.den ρ'') e1 (by omega) w
          have e4 : ¬ β (k + 1) = 0 := by omega
          simpa [SV.den, CV.den, At.den, ownV, e4, p2, ptr] using this
        · exact h.elim
      · exact h.elim
    · rename_i el q p sz len cap
      have wx : (decide (q < c.nb) && decide (p < c.np) && len.wf c && cap.wf c) = true := hx
      simp only [Bool.and_eq_true, decide_eq_true_eq] at wx
      generalize hz : szAgg P el = u2 at h
      split at h
      · rename_i g s
        split at h
        · rename_i hs
          subst hs
          obtain ⟨q0, h⟩ := doChk_sound h
          obtain ⟨q1, ha⟩ := doChk_sound h
          clear h
          obtain ⟨q2, h⟩ := doChk_sound ha
          clear ha
          refine Res.pure h fun ρ'' hl => ⟨by simp, by simp, fun β w hrd => ?_⟩
          have p0 : ¬ ρ''.b q = true := by rw [hl.b q wx.1.1.1]; exact q0
          have p1 : 0 ≤ e.den ρ'' := by rw [IE.den_like hl we]; exact q1
          have p2 : e.den ρ'' < len.den ρ'' := by rw [IE.den_like hl we, IE.den_like hl wx.1.2]; exact q2
          have := run_idx_sl (P := P) (n := (len.den ρ'').toNat) (m := (cap.den ρ'').toNat) h1 hz (ρ''.p p).1 (ρ''.p p).2 ki (e.den ρ'') p1 (by omega) w
          simpa [SV.den, CV.den, At.den, ptr, p0] using this
        · exact h.elim
      · exact h.elim
    · rename_i n el k ix sz off
      generalize hz : szAgg P el = u2 at h
      split at h
      · rename_i g s
        split at h
        · rename_i j
          split at h
          · rename_i hj
            refine Res.pure h fun ρ'' _ => ⟨by simp, by simp, fun β w hrd => ?_⟩
            have := run_idx_arr h1 hz (β k) ((ix.den ρ'').toNat * sz + off) ki j hj.1 (by have := hj.1; have := hj.2; omega) w
            simpa [SV.den, CV.den, At.den, ptr, den_lit, Nat.add_assoc] using this
          · exact h.elim
        · obtain ⟨q1, h⟩ := doChk_sound h
          obtain ⟨q2, h⟩ := doChk_sound h
          obtain ⟨m', hm, he, h⟩ := doCases_sound q1 q2 n (Nat.le_refl _) (by rw [Nat.sub_self]; exact q1) h
          refine Res.pure h fun ρ'' hl => ⟨by simp, by simp, fun β w hrd => ?_⟩
          have he' : e.den ρ'' = (m' : Int) := by rw [IE.den_like hl we]; exact he
          have := run_idx_arr h1 hz (β k) ((ix.den ρ'').toNat * sz + off) ki (e.den ρ'') (by rw [he']; omega) (by rw [he']; omega) w
          rw [he'] at this
          simp only [SV.den, CV.den, At.den, he']
          simpa [ptr, Nat.add_assoc] using this
      · exact h.elim
    · rename_i n el k off
      generalize hz : szAgg P el = u2 at h
      split at h
      · rename_i g s
        split at h
        · rename_i j
          split at h
          · rename_i hj
            refine Res.pure h fun ρ'' _ => ⟨by simp, by simp, fun β w hrd => ?_⟩
            exact run_idx_arr h1 hz _ _ _ _ hj.1 (by have := hj.1; have := hj.2; omega) w
          · exact h.elim
        · obtain ⟨q1, h⟩ := doChk_sound h
          obtain ⟨q2, h⟩ := doChk_sound h
          obtain ⟨m, hm, he, h⟩ := doCases_sound q1 q2 n (Nat.le_refl _) (by rw [Nat.sub_self]; exact q1) h
          refine Res.pure h fun ρ'' hl => ⟨by simp, by simp, fun β w hrd => ?_⟩
          have he' : e.den ρ'' = (m : Int) := by rw [IE.den_like hl we]; exact he
          have := run_idx_arr h1 hz (β k) off ki (e.den ρ'') (by rw [he']; omega) (by rw [he']; omega) w
          rw [he'] at this
          simp only [SV.den, CV.den, At.den, he']
          simpa [ptr] using this
      · exact h.elim
    · rename_i n el p ix sz off
      generalize hz : szAgg P el = u2 at h
      split at h
      · rename_i g s
        split at h
        · rename_i j
          split at h
          · rename_i hj
            refine Res.pure h fun ρ'' _ => ⟨by simp, by simp, fun β w hrd => ?_⟩
            have := run_idx_arr h1 hz (ρ''.p p).1 ((ρ''.p p).2 + (ix.den ρ'').toNat * sz + off) ki j hj.1 (by have := hj.1; have := hj.2; omega) w
            simpa [SV.den, CV.den, At.den, ptr, den_lit, Nat.add_assoc] using this
          · exact h.elim
        · obtain ⟨q1, h⟩ := doChk_sound h
          obtain ⟨q2, h⟩ := doChk_sound h
          obtain ⟨m, hm, he, h⟩ := doCases_sound q1 q2 n (Nat.le_refl _) (by rw [Nat.sub_self]; exact q1) h
          refine Res.pure h fun ρ'' hl => ⟨by simp, by simp, fun β w hrd => ?_⟩
          have he' : e.den ρ'' = (m : Int) := by rw [IE.den_like hl we]; exact he
          have := run_idx_arr h1 hz (ρ''.p p).1 ((ρ''.p p).2 + (ix.den ρ'').toNat * sz + off) ki (e.den ρ'') (by rw [he']; omega) (by rw [he']; omega) w
          rw [he'] at this
          simp only [SV.den, CV.den, At.den, he']
          simpa [ptr, Nat.add_assoc] using this
      · exact h.elim
    · rename_i el k off len cap
      generalize hz : szAgg P el = u2 at h
      split at h
      · rename_i g s
        split at h
        · rename_i j
          split at h
          · rename_i hj
            refine Res.pure h fun ρ'' _ => ⟨by simp, by simp, fun β w hrd => ?_⟩
            exact run_idx_sl h1 hz _ _ _ _ hj.1 (by have := hj.1; have := hj.2; omega) w
          · exact h.elim
        · obtain ⟨q1, h⟩ := doChk_sound h
          obtain ⟨q2, h⟩ := doChk_sound h
          obtain ⟨m, hm, he, h⟩ := doCases_sound q1 q2 len (Nat.le_refl _) (by rw [Nat.sub_self]; exact q1) h
          refine Res.pure h fun ρ'' hl => ⟨by simp, by simp, fun β w hrd => ?_⟩
          have he' : e.den ρ'' = (m : Int) := by rw [IE.den_like hl we]; exact he
          have := run_idx_sl (m := cap) h1 hz (β k) off ki (e.den ρ'') (by rw [he']; omega) (n := len) (by rw [he']; omega) w
          rw [he'] at this
          simp only [SV.den, CV.den, At.den, he']
          simpa [ptr] using this
      · exact h.elim
    · rename_i el p ix sz len cap
      have wx : ((decide (p < c.np) && ix.wf c && len.wf c && cap.wf c)) = true := hx
      simp only [Bool.and_eq_true] at wx
      generalize hz : szAgg P el = u2 at h
      split at h
      · rename_i g s
        split at h
        · rename_i hs
          subst hs
          obtain ⟨q1, ha⟩ := doChk_sound h
          clear h
          obtain ⟨q2, h⟩ := doChk_sound ha
          clear ha
          have tr : ∀ {ρ''}, Env.like c ρ ρ'' → 0 ≤ e.den ρ'' ∧ e.den ρ'' < len.den ρ'' := fun hl => ⟨by rw [IE.den_like hl we]; exact q1, by rw [IE.den_like hl we, IE.den_like hl wx.1.2]; exact q2⟩
          split at h
          · rename_i hix
            subst hix
            refine Res.pure h fun ρ'' hl => ⟨by simp, by simp, fun β w hrd => ?_⟩
            obtain ⟨p1, p2⟩ := tr hl
            have := run_idx_sl (n := (len.den ρ'').toNat) (m := (cap.den ρ'').toNat) h1 hz (ρ''.p p).1 ((ρ''.p p).2 + (IE.den ρ'' (.lit 0)).toNat * s) ki (e.den ρ'') p1 (by omega) w
            simpa [SV.den, CV.den, At.den, ptr, den_lit] using this
          · obtain ⟨q3, h⟩ := doChk_sound h
            obtain ⟨e', c', ρ', r1, r2, r3, r4, r5, r6⟩ := doSum_sound h
            refine ⟨_, c', ρ', r1, r2, r4, fun ρ'' hl => ⟨by simp, by simp, fun β w hrd => ?_⟩⟩
            have hl0 := Env.like_trans r2 r4 hl
            obtain ⟨p1, p2⟩ := tr hl0
            have p3 : 0 ≤ ix.den ρ'' := by rw [IE.den_like hl0 wx.1.1.2]; exact q3
            have := run_idx_sl (n := (len.den ρ'').toNat) (m := (cap.den ρ'').toNat) h1 hz (ρ''.p p).1 ((ρ''.p p).2 + (ix.den ρ'').toNat * s) ki (e.den ρ'') p1 (by omega) w
            have e1 : (e'.den ρ'').toNat = (ix.den ρ'').toNat + (e.den ρ'').toNat := by
              rw [r6 ρ'' hl]; simp only [IP.den]; omega
            simpa [SV.den, CV.den, At.den, ptr, den_lit, e1, Nat.add_mul, Nat.add_assoc] using this
        · exact h.elim
      · exact h.elim
    · exact h.elim
  · exact h.elim

theorem run_index_arr {t el : TypeId} {n : Nat} {g : Bool} {s : Nat} (h1 : P.underlying t = some (.array n el)) (hz : szAgg P el = some (g, s)) (cs : List At) (k : IntKind) (i : Int) (h0 : 0 ≤ i) (hn : i < n) {v : CV}
    (hv : partOf P el cs (i.toNat * s) = some v) (ρ : Env) (β : Nat → Nat) (w : World) :
    (Instr.index t (.agg (cs.map (At.den ρ β)).toArray) (.int k i)).run P w = .ok (v.den ρ β) w := by
  have := run_part_of hv ρ β w
  simp [Instr.index, asIntOf, run_underlying h1, h0, hn, run_size hz]
  simpa using this

theorem bytes_get (l : List UInt8) (i : Nat) (h : i < l.length) : (⟨l.toArray⟩ : ByteArray)[i]? = some (l.getD i 0) := by
  have hs : i < (⟨l.toArray⟩ : ByteArray).size := by show i < l.toArray.size; simpa using h
  rw [getElem?_pos _ i hs]
  congr 1
  show l.toArray[i] = _
  simp [List.getD, h]
theorem doIndex_sound {c : Ctr} {t : TypeId} {x i : SV} {K : SV → Ctr → Env → Prop} {ρ : Env} (hx : x.wf c = true) (hi : i.wf c = true) (h : doIndex (PA P W Q QM) P c t x i K ρ) :
    Res c ρ K fun sv ρ'' => sv ≠ .any ∧ (x ≠ .any ∧ i ≠ .any) ∧ ∀ β w, (Instr.index t (x.den ρ'' β) (i.den ρ'' β)).run P w = .ok (sv.den ρ'' β) w := by
  unfold doIndex at h
  split at h
  · rename_i ki e
    have we : e.wf c = true := hi
    generalize h1 : P.underlying t = u1 at h
    split at h
    · rename_i n el cs
      generalize hz : szAgg P el = u2 at h
      split at h
      · rename_i g s
        split at h
        · rename_i j
          split at h
          · rename_i hj
            generalize hp : partOf P el cs (j.toNat * s) = u3 at h
            split at h
            · rename_i v
              refine Res.pure h fun ρ'' _ => ⟨by simp, by simp, fun β w => ?_⟩
              exact run_index_arr h1 hz cs ki j hj.1 (by have := hj.1; have := hj.2; omega) hp ρ'' β w
            · exact h.elim
          · exact h.elim
        · obtain ⟨q1, h⟩ := doChk_sound h
          obtain ⟨q2, h⟩ := doChk_sound h
          obtain ⟨m, hm, he, h⟩ := doCases_sound q1 q2 n (Nat.le_refl _) (by rw [Nat.sub_self]; exact q1) h
          generalize hp : partOf P el cs (m * s) = u3 at h
          split at h
          · rename_i v
            refine Res.pure h fun ρ'' hl => ⟨by simp, by simp, fun β w => ?_⟩
            have he' : e.den ρ'' = (m : Int) := by rw [IE.den_like hl we]; exact he
            have := run_index_arr h1 hz cs ki (e.den ρ'') (by rw [he']; omega) (by rw [he']; omega) (v := v) (by rw [he']; simpa using hp) ρ'' β w
            exact this
          · exact h.elim
      · exact h.elim
    · rename_i x
      generalize hs : strOf x = u2 at h
      split at h
      · rename_i s
        have wx : x.wf c = true := hx
        have ws : s.wf c = true := by
          cases x <;> simp only [strOf, Option.some.injEq, reduceCtorEq] at hs <;> subst hs <;> exact wx
        obtain ⟨n, c1, ρ1, r1, r2, r3, r4, r5, r6⟩ := doIE_sound h
        obtain ⟨q1, ha⟩ := doChk_sound r1
        obtain ⟨q2, hb⟩ := doChk_sound ha
        obtain ⟨sv, c2, ρ2, k1, k2, k3, k4⟩ := doInt_sound hb
        refine ⟨sv, c2, ρ2, k1, Ctr.le_trans r2 k2, Env.like_trans r2 r4 k3, fun ρ'' hl => ?_⟩
        have hl1 := Env.like_trans k2 k3 hl
        have hl0 := Env.like_trans r2 r4 hl1
        obtain ⟨v1, v2⟩ := k4 ρ'' hl b0
        refine ⟨v2, by simp, fun β w => ?_⟩
        have e1 : 0 ≤ e.den ρ'' := by rw [IE.den_like hl1 (IE.wf_le r2 we)]; exact q1
        have e2 : e.den ρ'' < ((s.den ρ'').length : Int) := by
          have := r6 ρ'' hl1
          simp only [IP.den] at this
          rw [← this, IE.den_like hl1 (IE.wf_le r2 we), IE.den_like hl1 r5]; exact q2
        have v3 := (k4 ρ'' hl β).1
        rw [v3]
        simp only [SV.den, CV.den]
        rw [strOf_den hs ρ'' β]
        simp only [At.den, IP.den]
        have hb : (e.den ρ'').toNat < (s.den ρ'').length := by omega
        have hget := bytes_get (s.den ρ'') (e.den ρ'').toNat hb
        simp [Instr.index, asIntOf, run_underlying h1, e1, hget]
      · exact h.elim
    · exact h.elim
  · exact h.elim

theorem foldl_set : ∀ (v : List Value) (k off : Nat) (cs : List Value), off + k + v.length ≤ cs.length →
    (v.zipIdx k).foldl (fun (a : Array Value) (x : Value × Nat) => a.setIfInBounds (off + x.2) x.1) cs.toArray = (cs.take (off + k) ++ v ++ cs.drop (off + k + v.length)).toArray
  | [], k, off, cs, h => by simp
  | x :: v, k, off, cs, h => by
    simp only [List.zipIdx_cons, List.foldl_cons]
    have hs : cs.toArray.setIfInBounds (off + k) x = (cs.set (off + k) x).toArray := by simp
    rw [hs, foldl_set v (k + 1) off (cs.set (off + k) x) (by simp at h ⊢; omega)]
    congr 1
    have := list_seg_step cs (off + k) x v (by simp at h ⊢; omega)
    simpa [Nat.add_assoc] using this

theorem map_take_drop {α β : Type} (f : α → β) (l : List α) (v : List α) (a b : Nat) : (l.take a ++ v ++ l.drop b).map f = (l.map f).take a ++ v.map f ++ (l.map f).drop b := by
  simp [List.map_take, List.map_drop]

theorem CV.cells_den (ρ : Env) (β : Nat → Nat) (v : CV) : (v.den ρ β).cells = (v.cells.map (At.den ρ β)).toArray := by
  cases v with
  | agg l => rfl
  | one a =>
    have h1 := At.den_one ρ β a
    simp only [CV.den, CV.cells, List.map_cons, List.map_nil]
    cases hd : a.den ρ β <;> first | rfl | (rw [hd] at h1; simp [Value.oneCell'] at h1)

theorem fill_sound {place : Nat → Option (Nat × Nat)} (ρ : Env) (β : Nat → Nat) : ∀ (parts : List (Nat × SV)) (cells : List At) {cs : List At}, fillA place cells parts = some cs →
    Instr.fill place (cells.map (At.den ρ β)).toArray (parts.map fun p => (p.1, p.2.den ρ β)) = some (cs.map (At.den ρ β)).toArray
  | [], cells, cs, h => by simp only [fillA, Option.some.injEq] at h; subst h; rfl
  | (i, .any) :: r, _, _, h => by simp [fillA] at h
  | (i, .und) :: r, _, _, h => by simp [fillA] at h
  | (i, .tup l) :: r, _, _, h => by simp [fillA] at h
  | (i, .cv v) :: r, cells, cs, h => by
    simp only [fillA] at h
    cases hp : place i with
    | none => simp [hp] at h
    | some q =>
      obtain ⟨off, size⟩ := q
      simp only [hp] at h
      split at h
      · rename_i hs
        obtain ⟨h1, h2⟩ := hs
        have ih := fill_sound ρ β r _ h
        have hlen : (v.den ρ β).cells.size = size := by rw [CV.cells_den]; simpa using h1
        simp only [List.map_cons, Instr.fill, hp, SV.den]
        rw [if_neg (by rw [hlen]; simp; omega)]
        rw [CV.cells_den, ← Array.foldl_toList, Array.toList_zipIdx]
        have := foldl_set (v.cells.map (At.den ρ β)) 0 off (cells.map (At.den ρ β)) (by simp; omega)
        simp only [Nat.add_zero, List.length_map, h1] at this
        rw [← map_take_drop] at this
        simp only [] at this ⊢
        rw [this]
        exact ih
      · cases h

theorem zeroA_sound {t : TypeId} {z : CV} (h : zeroA P t = some z) (ρ : Env) (β : Nat → Nat) (w : World) (c : Ctr) : (zeroValue t).run P w = .ok (z.den ρ β) w ∧ z.wf c = true := by
  unfold zeroA at h
  cases hi : P.info? t with
  | none => simp [hi] at h
  | some i =>
    simp only [hi] at h
    cases hz : i.zero with
    | none => simp [hz] at h
    | some v =>
      simp only [hz] at h
      have h2 := SV.ofValue_den v c ρ β
      generalize hs : SV.ofValue v = sv at h h2
      cases sv with
      | cv x =>
        simp only [Option.some.injEq] at h
        subst h
        refine ⟨?_, h2.1⟩
        have h3 := h2.2 (by simp)
        simp only [SV.den] at h3
        simp [zeroValue, typeInfo, hi, hz, h3]
      | _ => simp at h

theorem fieldPlaces_sound : ∀ (fs : List Field) {pl : List (Nat × Nat)} (w : World), fieldPlaces P fs = some pl → (fs.mapM (fun f => do pure (f.offset, ← Go.sizeOf f.type) : Field → Sem (Nat × Nat))).run P w = .ok pl w
  | [], pl, w, h => by simp only [fieldPlaces, Option.some.injEq] at h; subst h; simp
  | f :: l, pl, w, h => by
    simp only [fieldPlaces] at h
    split at h
    · rename_i g n r h1 h2
      simp only [Option.some.injEq] at h
      subst h
      have := fieldPlaces_sound l w h2
      simp only [List.mapM_cons, Sem.run_bind, run_size h1, Result.andThen_ok, Sem.run_pure, this]
    · cases h

theorem doBuild_sound {c : Ctr} {t : TypeId} {parts : List (Nat × SV)} {K : SV → Ctr → Env → Prop} {ρ : Env} (h : doBuild (PA P W Q QM) P c t parts K ρ) :
    Res c ρ K fun sv ρ'' => sv ≠ .any ∧ ∀ β w, (Instr.build t (parts.map fun p => (p.1, p.2.den ρ'' β)).toArray).run P w = .ok (sv.den ρ'' β) w := by
  unfold doBuild at h
  generalize h1 : P.underlying t = u1 at h
  generalize h2 : zeroA P t = u2 at h
  split at h
  · rename_i fs z
    generalize h3 : fieldPlaces P fs.toList = u3 at h
    split at h
    · rename_i pl
      generalize h4 : fillA (fun x => pl[x]?) z.cells parts = u4 at h
      split at h
      · rename_i cs
        refine Res.pure h fun ρ'' _ => ⟨by simp, fun β w => ?_⟩
        have q1 := (zeroA_sound h2 ρ'' β w c).1
        have q2 := fieldPlaces_sound fs.toList w h3
        have q3 := fill_sound ρ'' β parts z.cells h4
        simp only [Instr.build, Sem.run_bind, q1, Result.andThen_ok, run_underlying h1]
        rw [Array.mapM_eq_mapM_toList]
        simp only [Sem.run_map, q2, Result.andThen_ok, CV.cells_den]
        have e : (fun (x : Nat) => (pl.toArray)[x]?) = fun (x : Nat) => pl[x]? := by funext x; simp
        simp only [e, q3]
        rfl
      · exact h.elim
    · exact h.elim
  · rename_i n el z
    generalize h3 : szAgg P el = u3 at h
    split at h
    · rename_i g s
      generalize h4 : fillA (fun i => some (i * s, s)) z.cells parts = u4 at h
      split at h
      · rename_i cs
        refine Res.pure h fun ρ'' _ => ⟨by simp, fun β w => ?_⟩
        have q1 := (zeroA_sound h2 ρ'' β w c).1
        have q3 := fill_sound ρ'' β parts z.cells h4
        simp only [Instr.build, Sem.run_bind, q1, Result.andThen_ok, run_underlying h1, run_size h3, CV.cells_den, q3]
        rfl
      · exact h.elim
    · exact h.elim
  · exact h.elim
end Vc
