/- Vc, part O: what one operation of a drawn region comes to. No program in sight. -/
import Derived.Test.YtdhiapllbjamfaaVcN
set_option linter.unusedVariables false
set_option linter.unusedSimpArgs false
namespace Vc
open Go Go.RowKit
variable {P : Program} {W : World} {Q : Value → Prop} {QM : World → Value → Prop}

def St.putS (st : St) (dst : Option Tmp) (v : SV) (c : Ctr) : St :=
  match dst with
  | none => { st with c := c }
  | some d => { st with t := (d, v) :: st.t, c := c }
def PutOk (st : St) (dst : Option Tmp) (v : SV) (c : Ctr) : Prop := ∀ d, dst = some d → d < st.n ∧ v.wf c = true
theorem put_resolve {st : St} {dst : Option Tmp} {v : SV} {c : Ctr} {K : St → Env → Prop} {ρ : Env} (h : St.put (PA P W Q QM) st dst v c K ρ) : K (st.putS dst v c) ρ ∧ PutOk st dst v c := by
  unfold St.put at h
  cases dst with
  | none => exact ⟨h, fun d hd => by cases hd⟩
  | some d =>
    simp only at h
    by_cases hd : d < st.n ∧ v.wf c = true
    · rw [if_pos hd] at h; exact ⟨h, fun d' he => by cases he; exact hd⟩
    · rw [if_neg hd] at h; exact h.elim

inductive OFact (P : Program) (W : World) (s1 : St) (o : Oper) (ρ : Env) : St → Prop
  | val (sv : SV) (c : Ctr) (h1 : ValOk P W s1 o sv ρ) (h2 : s1.c.le c) (h3 : c.nk = s1.c.nk) (h4 : PutOk s1 o.dst sv c) : OFact P W s1 o ρ (s1.putS o.dst sv c)
  | new (cs : List At) (t : TypeId) (v : At) (vd : Nat → Value) (h1 : cs.all (At.wf s1.c) = true) (h2 : ∀ β : Nat → Nat, v.den ρ β = vd (β s1.c.nk))
      (h3 : ∀ (β : Nat → Nat) (a : Act) (w : World), OpsOk s1 o ρ β a → (execOp a.eval o).run P w = .ok (.value (vd w.heap.size)) (w.alloc (.cells (cs.map (At.den ρ β)).toArray t)))
      (h4 : PutOk { s1 with m := (s1.c.nk, cs, t) :: s1.m } o.dst (.cv (.one v)) { s1.c with nk := s1.c.nk + 1 }) :
      OFact P W s1 o ρ ({ s1 with m := (s1.c.nk, cs, t) :: s1.m }.putS o.dst (.cv (.one v)) { s1.c with nk := s1.c.nk + 1 })
  | sto (k : Nat) (cs cs' : List At) (t : TypeId) (h1 : getM s1.m k = some (cs, t)) (h2 : writesOf s1 o = [k]) (h3 : cs'.all (At.wf s1.c) = true) (h6 : isStore o = true)
      (h4 : ∀ (β : Nat → Nat) (a : Act) (w : World), OpsOk s1 o ρ β a → w.heap[β k]? = some (.cells (cs.map (At.den ρ β)).toArray t) →
        (execOp a.eval o).run P w = .ok .skip (w.setRow (β k) (cs'.map (At.den ρ β)).toArray)) (h5 : PutOk { s1 with m := setM s1.m k cs' } o.dst .any s1.c) :
      OFact P W s1 o ρ ({ s1 with m := setM s1.m k cs' }.putS o.dst .any s1.c)

theorem opm_resolve {G : Cfg} (hG : G.Ok) {st : St} {o : Oper} {K : St → Env → Prop} {ρ : Env} (wf : st.WF) (h : opm (PA G.P W Q QM) G st o K ρ) :
    ∃ s' ρ', K s' ρ' ∧ st.c.le s'.c ∧ Env.like st.c ρ ρ' ∧ ∀ ρ'', Env.like s'.c ρ' ρ'' → OFact G.P W st o ρ'' s' := by
  have new : ∀ {cs : List At} {t : TypeId} {v : Nat → At} (vd : Nat → Value), St.new (PA G.P W Q QM) st o.dst cs t v K ρ → (∀ (ρ'' : Env) (β : Nat → Nat), (v st.c.nk).den ρ'' β = vd (β st.c.nk)) →
      (∀ ρ'', Env.like st.c ρ ρ'' → ∀ (β : Nat → Nat) (a : Act) (w : World), OpsOk st o ρ'' β a → (execOp a.eval o).run G.P w = .ok (.value (vd w.heap.size)) (w.alloc (.cells (cs.map (At.den ρ'' β)).toArray t))) →
      ∃ s' ρ', K s' ρ' ∧ st.c.le s'.c ∧ Env.like st.c ρ ρ' ∧ ∀ ρ'', Env.like s'.c ρ' ρ'' → OFact G.P W st o ρ'' s' := by
    intro cs t v vd h hv hr
    unfold St.new at h
    by_cases hw : cs.all (At.wf st.c) = true
    · rw [if_pos hw] at h
      obtain ⟨h1, h2⟩ := put_resolve h
      have hc : ({ st with m := (st.c.nk, cs, t) :: st.m }.putS o.dst (.cv (.one (v st.c.nk))) { st.c with nk := st.c.nk + 1 }).c = { st.c with nk := st.c.nk + 1 } := by
        unfold St.putS; split <;> rfl
      have hle : st.c.le { st.c with nk := st.c.nk + 1 } := ⟨Nat.le_refl _, Nat.le_refl _, Nat.le_refl _, Nat.le_refl _, Nat.le_succ _⟩
      refine ⟨_, ρ, h1, by rw [hc]; exact hle, Env.like_refl _ _, fun ρ'' hl => ?_⟩
      rw [hc] at hl
      have hl2 : Env.like st.c ρ ρ'' := ⟨hl.i, hl.b, hl.v, hl.p⟩
      exact .new cs t (v st.c.nk) vd hw (hv ρ'') (hr ρ'' hl2) h2
    · rw [if_neg hw] at h; exact h.elim
  unfold opm at h
  generalize ho : o.op = op at h
  cases op
  case alloc t =>
    simp only at h
    generalize hz : zeroA G.P t = u at h
    split at h
    · rename_i z
      refine new (fun B => .pointer (some ⟨B, 0, none⟩)) h (fun _ _ => rfl) fun ρ'' hl β a w hops => ?_
      have q1 := (zeroA_sound hz ρ'' β w st.c).1
      simp [execOp, ho, Instr.alloc, q1, newVar, newRow, CV.cells_den]
    · exact h.elim
  case box t x =>
    simp only at h
    generalize hx : st.ev x = sx at h
    split at h
    · rename_i v
      refine new (fun B => .pointer (some ⟨B, 0, none⟩)) h (fun _ _ => rfl) fun ρ'' hl β a w hops => ?_
      have e1 := hops x (by rw [ho]; simp [Op.operands]) (by rw [hx]; simp)
      rw [hx] at e1
      simp [execOp, ho, e1, Instr.box, newVar, newRow, SV.den, CV.cells_den]
    · exact h.elim
  case store t x y =>
    simp only at h
    generalize hz : szAgg G.P t = u1 at h
    generalize hx : st.ev x = sx at h
    generalize hy : st.ev y = sy at h
    split at h
    · rename_i g n k off v
      generalize hm : getM st.m k = u2 at h
      split at h
      · rename_i cs ty
        split at h
        · rename_i hc
          obtain ⟨hc1, hc2, hc3⟩ := hc
          obtain ⟨h1, h2⟩ := put_resolve h
          have hc : ({ st with m := setM st.m k (cs.take off ++ v.cells ++ cs.drop (off + n)) }.putS o.dst .any st.c).c = st.c := by unfold St.putS; split <;> rfl
          refine ⟨_, ρ, h1, by rw [hc]; exact Ctr.le_refl _, Env.like_refl _ _, fun ρ'' hl => ?_⟩
          refine .sto k cs _ ty hm (by simp [writesOf, ho, hx, svCells, CV.cells, blksOf]) ?_ (by simp [isStore, ho]) (fun β a w hops m2 => ?_) h2
          · have := (wf.m k cs ty hm).2
            simp only [List.all_append, (all_split this off).1, (all_split this (off + n)).2, CV.wf_cells hc3, Bool.and_self]
          · have e1 := hops x (by rw [ho]; simp [Op.operands]) (by rw [hx]; simp)
            have e2 := hops y (by rw [ho]; simp [Op.operands]) (by rw [hy]; simp)
            rw [hx] at e1
            rw [hy] at e2
            have hs := run_storeAt (g := g) hz w (β k) off (v.den ρ'' β) _ ty m2 (by rw [CV.cells_den]; simpa using hc1) (by simpa using hc2) (by
              rw [CV.cells_den]
              intro z hz'
              simp only [List.mem_map] at hz'
              obtain ⟨q, _, rfl⟩ := hz'
              exact At.den_one ρ'' β q)
            rw [CV.cells_den] at hs
            simp only [← map_take_drop] at hs
            have e1' : a.eval x = ptr (β k) off := e1
            have e2' : a.eval y = v.den ρ'' β := e2
            simp only [execOp, ho, e1', e2', Sem.run_bind, hs, Result.andThen_ok, Sem.run_pure]
        · exact h.elim
      · exact h.elim
    · exact h.elim
  case buildSlice t len parts =>
    simp only at h
    generalize hu : G.P.underlying t = u1 at h
    split at h
    · rename_i el
      generalize hz : szAgg G.P el = u2 at h
      generalize hzz : zeroA G.P el = u3 at h
      split at h
      · rename_i g s z
        split at h
        · rename_i hc
          obtain ⟨c1, c2, c3, c4⟩ := hc
          generalize hf : fillA (fun i => some (i * s, s)) (times z.cells len) (parts.toList.map fun p => (p.1, st.ev p.2)) = u4 at h
          split at h
          · rename_i cs
            refine new (fun B => .slice (some ⟨B, 0, none⟩) len len) h (fun _ _ => rfl) fun ρ'' hl β a w hops => ?_
            have q1 := (zeroA_sound hzz ρ'' β w st.c).1
            have q3 := fill_sound ρ'' β _ _ hf
            have hany := fillA_any _ _ hf
            have e1 : (parts.map fun x => (x.1, a.eval x.2)).toList = (parts.toList.map fun p => (p.1, st.ev p.2)).map fun p => (p.1, p.2.den ρ'' β) := by
              rw [List.map_map, Array.toList_map]
              apply List.map_congr_left
              intro p hp
              have := hops p.2 (by rw [ho]; simp only [Op.operands]; exact mem_arr (by simpa using ⟨p.1, Array.mem_toList_iff.1 hp⟩)) (hany (p.1, st.ev p.2) (List.mem_map.2 ⟨p, hp, rfl⟩))
              simp [this]
            have hzs : (z.den ρ'' β).cells.size = s := by rw [CV.cells_den]; simpa using c1
            have q4 := zero_cells (z.den ρ'' β).cells len (by rw [hzs]; exact c2)
            rw [hzs] at q4
            have n1 : ¬ (len * s > 2 ^ 24) := by omega
            have n2 : ¬ (len * s = 0) := by
              have := Nat.mul_pos c3 c2; omega
            simp only [execOp, ho, Instr.buildSlice, Sem.run_bind, run_underlying hu, Result.andThen_ok, run_size hz, n1, n2, if_false, q1, Sem.run_pure, e1, hzs, q4]
            rw [show times (z.den ρ'' β).cells.toList len = (times z.cells len).map (At.den ρ'' β) by rw [times_map, CV.cells_den], q3]
            simp [newRow]
          · exact h.elim
        · exact h.elim
      · exact h.elim
    · exact h.elim
  all_goals
    obtain ⟨sv, c', ρ', h1, h2, h3, h4⟩ := opv_sound hG wf h
    by_cases hk : c'.nk = st.c.nk
    · rw [if_pos hk] at h1
      obtain ⟨q1, q2⟩ := put_resolve h1
      have hc : (st.putS o.dst sv c').c = c' := by unfold St.putS; split <;> rfl
      refine ⟨_, ρ', q1, by rw [hc]; exact h2, h3, fun ρ'' hl => ?_⟩
      rw [hc] at hl
      exact .val sv c' (h4 ρ'' hl) h2 hk q2
    · rw [if_neg hk] at h1; exact h1.elim
end Vc
