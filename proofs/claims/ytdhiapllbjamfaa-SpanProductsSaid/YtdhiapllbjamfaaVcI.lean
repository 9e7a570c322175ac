/- Vc, part I: each operation that computes a value is sound. No program in sight. -/
import Derived.Test.YtdhiapllbjamfaaVcH
set_option linter.unusedVariables false
set_option linter.unusedSimpArgs false
namespace Vc
open Go Go.RowKit
variable {P : Program} {W : World} {Q : Value → Prop} {QM : World → Value → Prop}

structure St.WF (st : St) : Prop where
  t : ∀ i, (getS st.t i).wf st.c = true
  m : ∀ k cs t, getM st.m k = some (cs, t) → k < st.c.nk ∧ cs.all (At.wf st.c) = true
  o : ∀ k ce sz t, getO st.o k = some (ce, sz, t) → k + 3 < st.c.nk ∧ ceWf st.c ce = true
  ap : Apart st.m st.o
  r : ∀ k e, getR st.r k = some e → k < st.c.nk
  d : ∀ k ∈ st.d, k < st.c.nk
theorem St.WF.ev {st : St} (h : st.WF) : ∀ x : Operand, (st.ev x).wf st.c = true
  | .tmp t => h.t t
  | .const v => (SV.ofValue_den v st.c Env.zero b0).1
  | .global _ => rfl
  | .func _ => rfl

def OpsOk (st : St) (o : Oper) (ρ : Env) (β : Nat → Nat) (a : Act) : Prop := ∀ x ∈ o.op.operands, st.ev x ≠ .any → a.eval x = (st.ev x).den ρ β

/-- An operation yields a value, whatever the world, if it holds what is read. -/
def ValOk (P : Program) (W : World) (st : St) (o : Oper) (sv : SV) (ρ : Env) : Prop :=
  ∀ (β : Nat → Nat) (a : Act) (w : World), Below W.heap.size W w → OpsOk st o ρ β a → RdOk W st.m st.o (readsOf st o) ρ β w →
    ∀ (next : Act → World → Prop) (Q' : Exit → Act → World → Prop), (∀ v w', (sv ≠ .any → v = sv.den ρ β) → Below w.heap.size w w' → next (a.put o.dst v) w') → o.wp P a w next Q'

theorem ValOk.run {st : St} {o : Oper} {sv : SV} {ρ : Env} (h : ∀ (β : Nat → Nat) (a : Act) (w : World), Below W.heap.size W w → OpsOk st o ρ β a → RdOk W st.m st.o (readsOf st o) ρ β w →
    ∃ v, (execOp a.eval o).run P w = .ok (.value v) w ∧ (sv ≠ .any → v = sv.den ρ β)) : ValOk P W st o sv ρ := by
  intro β a w hB ho hr next Q' hn
  obtain ⟨v, hv, he⟩ := h β a w hB ho hr
  unfold Oper.wp
  rw [hv, Oper.upon_value]
  exact hn v w he (Below.refl _ _)

theorem fillA_any {place : Nat → Option (Nat × Nat)} : ∀ (parts : List (Nat × SV)) (cells : List At) {cs : List At}, fillA place cells parts = some cs → ∀ p ∈ parts, p.2 ≠ .any
  | [], _, _, _, p, hp => by cases hp
  | (i, .any) :: r, _, _, h, _, _ => by simp [fillA] at h
  | (i, .und) :: r, _, _, h, _, _ => by simp [fillA] at h
  | (i, .tup l) :: r, _, _, h, _, _ => by simp [fillA] at h
  | (i, .cv v) :: r, cells, cs, h, p, hp => by
    simp only [fillA] at h
    split at h
    · split at h
      · rcases List.mem_cons.1 hp with rfl | hp
        · simp
        · exact fillA_any r _ h p hp
      · cases h
    · cases h

theorem doBuild_any {c : Ctr} {t : TypeId} {parts : List (Nat × SV)} {K : SV → Ctr → Env → Prop} {ρ : Env} (h : doBuild (PA P W Q QM) P c t parts K ρ) : ∀ p ∈ parts, p.2 ≠ .any := by
  unfold doBuild at h
  generalize h1 : P.underlying t = u1 at h
  generalize h2 : zeroA P t = u2 at h
  split at h
  · rename_i fs z
    generalize h3 : fieldPlaces P fs.toList = u3 at h
    split at h
    · rename_i pl
      generalize h4 : fillA (fun x => pl[x]?) z.cells parts = u4 at h
      split at h
      · exact fillA_any parts z.cells h4
      · exact h.elim
    · exact h.elim
  · rename_i n el z
    generalize h3 : szAgg P el = u3 at h
    split at h
    · rename_i g s
      generalize h4 : fillA (fun i => some (i * s, s)) z.cells parts = u4 at h
      split at h
      · exact fillA_any parts z.cells h4
      · exact h.elim
    · exact h.elim
  · exact h.elim

theorem locsOf_cons {x : SV} {l : List SV} {r : List (Nat × Nat)} (h : locsOf (x :: l) = some r) : ∃ k o r', x = .cv (.one (.loc k o)) ∧ locsOf l = some r' ∧ r = (k, o) :: r' := by
  unfold locsOf at h
  split at h
  · rename_i he; cases he
  · rename_i k o l' he
    cases he
    simp only [Option.map_eq_some_iff] at h
    obtain ⟨r', h1, rfl⟩ := h
    exact ⟨k, o, r', rfl, h1, rfl⟩
  · cases h
theorem locsOf_sound : ∀ (l : List SV) {r : List (Nat × Nat)}, locsOf l = some r → (∀ x ∈ l, x ≠ .any) ∧ ∀ ρ β, l.map (SV.den ρ β) = r.map fun c => .pointer (some ⟨β c.1, c.2, none⟩)
  | [], r, h => by simp only [locsOf, Option.some.injEq] at h; subst h; exact ⟨by simp, fun _ _ => rfl⟩
  | x :: l, r, h => by
    obtain ⟨k, o, r', rfl, h1, rfl⟩ := locsOf_cons h
    obtain ⟨q1, q2⟩ := locsOf_sound l h1
    exact ⟨by simp; exact q1, fun ρ β => by simp only [List.map_cons, q2]; rfl⟩

theorem doLen_sound {m : Mem} {o : OMem} (hap : Apart m o) {c : Ctr} {t : Option TypeId} {x : SV} {K : SV → Ctr → Env → Prop} {ρ : Env} (hx : x.wf c = true) (h : doLen (PA P W Q QM) P o c t x K ρ) :
    Res c ρ K fun sv ρ'' => sv ≠ .any ∧ ∃ ty, t = some ty ∧ ∀ β w v, RdOk W m o (blksOf (svCells x)) ρ'' β w → (x ≠ .any → v = x.den ρ'' β) → (Builtin.len_ #[ty] ty #[v]).run P w = .ok (sv.den ρ'' β) w := by
  unfold doLen at h
  cases t with
  | none => cases x <;> exact h.elim
  | some ty =>
    simp only [Option.bind_some] at h
    generalize hu : P.underlying ty = u1 at h
    split at h
    · rename_i el k
      generalize hgo : getO o k = u2 at h
      split at h
      · rename_i ce sz ty'
        split at h
        · obtain ⟨n, c1, ρ1, r1, r2, r3, r4, r5, r6⟩ := doOLen_sound h
          refine ⟨_, c1, ρ1, r1, r2, r4, fun ρ'' hl => ⟨by simp, ty, rfl, fun β w v hrd hv => ?_⟩⟩
          rw [hv (by simp)]
          have hrow := hrd k (by simp [svCells, CV.cells, blksOf]) _ (getE_o (hap k _ hgo) hgo)
          have e3 := r6 ρ'' β hl
          rw [row_len hrow] at e3
          have hlen : (SV.cv (.one (.own k))).den ρ'' β = (if β (k + 1) = 0 then .slice none 0 0 else .slice (some ⟨β k, β (k + 3), none⟩) (β (k + 2)) (β (k + 1) - 1) : Value) := rfl
          rw [hlen]
          have hz : β (k + 1) = 0 → β (k + 2) = 0 := fun h0 => by
            rcases hrow.2.2 with ⟨_, h1⟩ | ⟨h1, _⟩
            · exact h1
            · omega
          by_cases h0 : β (k + 1) = 0
          · rw [if_pos h0]
            have := hz h0
            rw [this] at e3
            simp [Builtin.len_, run_underlying hu, SV.den, CV.den, At.den, goInt, e3]
          · rw [if_neg h0]
            simp [Builtin.len_, run_underlying hu, SV.den, CV.den, At.den, goInt, e3]
        · exact h.elim
      · exact h.elim
    · rename_i el q p sz len cap
      have wx : (decide (q < c.nb) && decide (p < c.np) && len.wf c && cap.wf c) = true := hx
      simp only [Bool.and_eq_true, decide_eq_true_eq] at wx
      obtain ⟨q1, h⟩ := doChk_sound h
      obtain ⟨q2, h⟩ := doChk_sound h
      refine Res.pure h fun ρ'' hl => ⟨by simp, ty, rfl, fun β w v hrd hv => ?_⟩
      rw [hv (by simp)]
      have p1 : 0 ≤ len.den ρ'' := by rw [IE.den_like hl wx.1.2]; exact q1
      have p2 : ρ''.b q = true → len.den ρ'' = 0 := by
        rw [IE.den_like hl wx.1.2, hl.b q wx.1.1.1]
        intro hb
        rcases q2 with h' | h'
        · exact (h' hb).elim
        · exact h'
      simp only [SV.den, CV.den, At.den]
      split
      · rename_i hb
        simp [Builtin.len_, run_underlying hu, goInt, p2 hb]
      · have : ((len.den ρ'').toNat : Int) = len.den ρ'' := by omega
        simp [Builtin.len_, run_underlying hu, goInt, this]
    · rename_i i
      obtain ⟨n, c1, ρ1, r1, r2, r3, r4, r5, r6⟩ := doIE_sound h
      refine ⟨_, c1, ρ1, r1, r2, r4, fun ρ'' hl => ⟨by simp, ty, rfl, fun β w v hrd hv => ?_⟩⟩
      rw [hv (by simp)]
      have e := r6 ρ'' hl
      simp only [IP.den, SE.den] at e
      have e2 : (⟨(ρ''.s i).toArray⟩ : ByteArray).size = (ρ''.s i).length := by show (ρ''.s i).toArray.size = _; simp
      simp [Builtin.len_, run_underlying hu, SV.den, CV.den, At.den, goInt, e2, e]
    · refine Res.pure h fun ρ'' _ => ⟨by simp, ty, rfl, fun β w v hrd hv => ?_⟩
      rw [hv (by simp)]
      simp [Builtin.len_, run_underlying hu, SV.den, CV.den, At.den, goInt, den_lit]
    · refine Res.pure h fun ρ'' _ => ⟨by simp, ty, rfl, fun β w v hrd hv => ?_⟩
      rw [hv (by simp)]
      simp [Builtin.len_, run_underlying hu, SV.den, CV.den, At.den, goInt, den_lit]
    · rename_i p ix sz len cap
      obtain ⟨q1, h⟩ := doChk_sound h
      have wx : ((decide (p < c.np) && ix.wf c && len.wf c && cap.wf c)) = true := hx
      simp only [Bool.and_eq_true] at wx
      refine Res.pure h fun ρ'' hl => ⟨by simp, ty, rfl, fun β w v hrd hv => ?_⟩
      rw [hv (by simp)]
      have q2 : 0 ≤ len.den ρ'' := by rw [IE.den_like hl wx.1.2]; exact q1
      simp [Builtin.len_, run_underlying hu, SV.den, CV.den, At.den, goInt, den_lit, q2]
      omega
    · rename_i l
      refine Res.pure h fun ρ'' _ => ⟨by simp, ty, rfl, fun β w v hrd hv => ?_⟩
      rw [hv (by simp)]
      have e : (⟨l.toArray⟩ : ByteArray).size = l.length := by show l.toArray.size = _; simp
      simp [Builtin.len_, run_underlying hu, SV.den, CV.den, At.den, goInt, den_lit, e]
    · refine Res.pure h fun ρ'' _ => ⟨by simp, ty, rfl, fun β w v hrd hv => ?_⟩
      simp [Builtin.len_, run_underlying hu, SV.den, CV.den, At.den, goInt, den_lit]
    · exact h.elim

theorem doMinMax_sound {c : Ctr} {mx : Bool} {x y : SV} {K : SV → Ctr → Env → Prop} {ρ : Env} (h : doMinMax (PA P W Q QM) c mx x y K ρ) :
    Res c ρ K fun sv ρ'' => sv ≠ .any ∧ x ≠ .any ∧ y ≠ .any ∧ ∀ β w, (if mx then Builtin.max2 (x.den ρ'' β) (y.den ρ'' β) else Builtin.min2 (x.den ρ'' β) (y.den ρ'' β)).run P w = .ok (sv.den ρ'' β) w := by
  unfold doMinMax at h
  split at h
  · refine (doInt_sound h).mono fun sv ρ'' _ hv => ⟨(hv b0).2, by simp, by simp, fun β w => ?_⟩
    rw [(hv β).1]
    cases mx <;> simp [SV.den, CV.den, At.den, Builtin.max2, Builtin.min2, IP.den]
  · exact h.elim

theorem intOr_sound {d : IE} {o : Option SV} {e : IE} (h : intOr d o = some e) : (o = none ∧ e = d) ∨ ∃ k, o = some (.cv (.one (.int k e))) := by
  unfold intOr at h
  split at h
  · exact .inl ⟨rfl, by simpa using h.symm⟩
  · rename_i k e'
    simp only [Option.some.injEq] at h
    subst h
    exact .inr ⟨k, rfl⟩
  · cases h
/-- The bounds of a part, run. -/
theorem run_bounds {lo hi : Option Value} {n c : Nat} {l h : Int} (isS : Bool) (hlo : (lo = none ∧ l = 0) ∨ ∃ k, lo = some (.int k l)) (hhi : (hi = none ∧ h = n) ∨ ∃ k, hi = some (.int k h)) (h0 : 0 ≤ l) (h1 : l ≤ h) (h2 : h ≤ c) (w : World) :
    (Instr.sliceBounds isS n c lo hi none).run P w = .ok (l.toNat, h.toNat, c) w := by
  have a1 : 0 ≤ h := by omega
  rcases hlo with ⟨rfl, rfl⟩ | ⟨k, rfl⟩ <;> rcases hhi with ⟨rfl, rfl⟩ | ⟨k', rfl⟩
  · simp [Instr.sliceBounds]
  · simp [Instr.sliceBounds, Instr.sliceBound, asIntOf, a1, h2]
  · simp [Instr.sliceBounds, Instr.sliceBound, asIntOf, h0, h1]
  · have : l ≤ (h.toNat : Int) := by omega
    simp [Instr.sliceBounds, Instr.sliceBound, asIntOf, h0, h1, a1, h2, this]
    intro hx; omega

theorem doSlice1_sound {c : Ctr} {t : TypeId} {x : SV} {lo hi : Option SV} {K : SV → Ctr → Env → Prop} {ρ : Env} (hx : x.wf c = true) (hlo : ∀ v, lo = some v → v.wf c = true) (hhi : ∀ v, hi = some v → v.wf c = true) (h : doSlice1 (PA P W Q QM) P c t x lo hi K ρ) :
    Res c ρ K fun sv ρ'' => sv ≠ .any ∧ x ≠ .any ∧ (∀ v, lo = some v → v ≠ .any) ∧ (∀ v, hi = some v → v ≠ .any) ∧
      ∀ β w, (Instr.sliceAt t (x.den ρ'' β) (lo.map (SV.den ρ'' β)) (hi.map (SV.den ρ'' β)) none).run P w = .ok (sv.den ρ'' β) w := by
  have nany : ∀ {d e} {o : Option SV}, intOr d o = some e → ∀ v, o = some v → v ≠ .any := by
    intro d e o ho v hv
    rcases intOr_sound ho with ⟨h1, _⟩ | ⟨k, h1⟩
    · rw [h1] at hv; cases hv
    · rw [h1] at hv; cases hv; simp
  have wfI : ∀ {d e} {o : Option SV}, intOr d o = some e → d.wf c = true → (∀ v, o = some v → v.wf c = true) → e.wf c = true := by
    intro d e o ho hd hv
    rcases intOr_sound ho with ⟨_, h1⟩ | ⟨k, h1⟩
    · rw [h1]; exact hd
    · exact hv _ h1
  have mp : ∀ {d e} {o : Option SV} (ρ'' : Env) (β : Nat → Nat), intOr d o = some e → (o.map (SV.den ρ'' β) = none ∧ e.den ρ'' = d.den ρ'') ∨ ∃ k, o.map (SV.den ρ'' β) = some (.int k (e.den ρ'')) := by
    intro d e o ρ'' β ho
    rcases intOr_sound ho with ⟨h1, h2⟩ | ⟨k, h1⟩
    · exact .inl ⟨by rw [h1]; rfl, by rw [h2]⟩
    · exact .inr ⟨k, by rw [h1]; rfl⟩
  unfold doSlice1 at h
  generalize hu : P.underlying t = u1 at h
  split at h
  · rename_i el p ix sz len cap
    have wx : ((decide (p < c.np) && ix.wf c && len.wf c && cap.wf c)) = true := hx
    simp only [Bool.and_eq_true] at wx
    generalize hz : szAgg P el = u2 at h
    generalize hl : intOr (.lit 0) lo = u3 at h
    generalize hh : intOr len hi = u4 at h
    split at h
    · rename_i g s l hI
      split at h
      · rename_i hs
        subst hs
        have wl := wfI hl rfl hlo
        have wh := wfI hh wx.1.2 hhi
        obtain ⟨q1, ha⟩ := doChk_sound h
        clear h
        obtain ⟨q2, h⟩ := doChk_sound ha
        clear ha
        obtain ⟨q3, ha⟩ := doChk_sound h
        clear h
        obtain ⟨q4, h⟩ := doChk_sound ha
        clear ha
        obtain ⟨q5, ha⟩ := doChk_sound h
        clear h
        replace h := ha
        clear ha
        have tr : ∀ {ρ''}, Env.like c ρ ρ'' → 0 ≤ len.den ρ'' ∧ len.den ρ'' ≤ cap.den ρ'' ∧ 0 ≤ l.den ρ'' ∧ l.den ρ'' ≤ hI.den ρ'' ∧ hI.den ρ'' ≤ cap.den ρ'' := fun hk => by
          rw [IE.den_like hk wx.1.2, IE.den_like hk wx.2, IE.den_like hk wl, IE.den_like hk wh]
          exact ⟨q1, q2, q3, q4, q5⟩
        have run : ∀ {ρ''} (β : Nat → Nat) (w : World), Env.like c ρ ρ'' →
            (Instr.sliceAt t ((SV.cv (.one (.xsl p ix s len cap))).den ρ'' β) (lo.map (SV.den ρ'' β)) (hi.map (SV.den ρ'' β)) none).run P w =
              .ok (.slice (if (cap.den ρ'').toNat = (l.den ρ'').toNat then some ⟨(ρ''.p p).1, (ρ''.p p).2 + (ix.den ρ'').toNat * s, none⟩ else some ⟨(ρ''.p p).1, (ρ''.p p).2 + (ix.den ρ'').toNat * s + (l.den ρ'').toNat * s, none⟩)
                ((hI.den ρ'').toNat - (l.den ρ'').toNat) ((cap.den ρ'').toNat - (l.den ρ'').toNat)) w := by
          intro ρ'' β w hk
          obtain ⟨t1, t2, t3, t4, t5⟩ := tr hk
          have hb := run_bounds (P := P) (n := (len.den ρ'').toNat) (c := (cap.den ρ'').toNat) true (by
            rcases mp ρ'' β hl with ⟨m1, m2⟩ | m1
            · exact .inl ⟨m1, m2⟩
            · exact .inr m1) (by
            rcases mp ρ'' β hh with ⟨m1, m2⟩ | m1
            · exact .inl ⟨m1, by rw [m2]; omega⟩
            · exact .inr m1) t3 t4 (by omega) w
          simp only [SV.den, CV.den, At.den, Instr.sliceAt, Sem.run_bind, run_underlying hu, Result.andThen_ok, Instr.slice, hb, run_size hz, Sem.run_pure]
          split
          · rfl
          · simp [addr_add]
        split at h
        · rename_i hl0
          subst hl0
          refine Res.pure h fun ρ'' hk => ⟨by simp, by simp, nany hl, nany hh, fun β w => ?_⟩
          rw [run β w hk]
          simp only [den_lit, SV.den, CV.den, At.den, Int.toNat_zero, Nat.sub_zero, Nat.zero_mul, Nat.add_zero]
          split <;> rfl
        · obtain ⟨q6, h⟩ := doChk_sound h
          obtain ⟨len', c1, ρ1, r1, r2, r3, r4, r5, r6⟩ := doSum_sound h
          obtain ⟨cap', c2, ρ2, s1, s2, s3, s4, s5, s6⟩ := doSum_sound r1
          have k12 : c.le c2 := Ctr.le_trans r2 s2
          have l12 : Env.like c ρ ρ2 := Env.like_trans r2 r4 s4
          rcases doFork_sound s1 with ⟨hd, h⟩ | ⟨hd, h⟩
          · obtain ⟨ix', c3, ρ3, u1, u2, u3, u4, u5, u6⟩ := doSum_sound h
            refine ⟨_, c3, ρ3, u1, Ctr.le_trans k12 u2, Env.like_trans k12 l12 u4, fun ρ'' hk => ⟨by simp, by simp, nany hl, nany hh, fun β w => ?_⟩⟩
            have hk2 := Env.like_trans u2 u4 hk
            have hk1 := Env.like_trans s2 s4 hk2
            have hk0 := Env.like_trans r2 r4 hk1
            obtain ⟨t1, t2, t3, t4, t5⟩ := tr hk0
            rw [run β w hk0]
            have e1 := r6 ρ'' hk1
            have e2 := s6 ρ'' hk2
            have e3 := u6 ρ'' hk
            simp only [IP.den] at e1 e2 e3
            have p6 : 0 ≤ ix.den ρ'' := by rw [IE.den_like hk0 wx.1.1.2]; exact q6
            have p7 : l.den ρ'' < cap.den ρ'' := by
              rw [IE.den_like (Env.like_trans k12 l12 hk2) wl, IE.den_like (Env.like_trans k12 l12 hk2) wx.2]
              rw [← IE.den_like l12 wl, ← IE.den_like l12 wx.2]
              simpa [BE.den, cmpB] using hd
            have n1 : ¬ (cap.den ρ'').toNat = (l.den ρ'').toNat := by omega
            rw [if_neg n1]
            simp only [SV.den, CV.den, At.den, e1, e2, e3]
            congr 2
            · congr 2
              have : (ix.den ρ'' + l.den ρ'').toNat = (ix.den ρ'').toNat + (l.den ρ'').toNat := by omega
              rw [this, Nat.add_mul, Nat.add_assoc]
            · omega
            · omega
          · refine ⟨_, c2, ρ2, h, k12, l12, fun ρ'' hk => ⟨by simp, by simp, nany hl, nany hh, fun β w => ?_⟩⟩
            have hk1 := Env.like_trans s2 s4 hk
            have hk0 := Env.like_trans r2 r4 hk1
            obtain ⟨t1, t2, t3, t4, t5⟩ := tr hk0
            rw [run β w hk0]
            have e1 := r6 ρ'' hk1
            have e2 := s6 ρ'' hk
            simp only [IP.den] at e1 e2
            have p7 : ¬ l.den ρ'' < cap.den ρ'' := by
              rw [IE.den_like hk0 wl, IE.den_like hk0 wx.2, ← IE.den_like l12 wl, ← IE.den_like l12 wx.2]
              simpa [BE.den, cmpB] using hd
            have n1 : (cap.den ρ'').toNat = (l.den ρ'').toNat := by omega
            rw [if_pos n1]
            simp only [SV.den, CV.den, At.den, e1, e2]
            congr 2
            · omega
            · omega
      · exact h.elim
    · exact h.elim
  · rename_i el k off len cap
    generalize hz : szAgg P el = u2 at h
    generalize hl : intOr (.lit 0) lo = u3 at h
    generalize hh : intOr (.lit len) hi = u4 at h
    split at h
    · rename_i g s l hI
      split at h
      · rename_i hc
        obtain ⟨c1, c2, c3⟩ := hc
        refine Res.pure h fun ρ'' hk => ⟨by simp, by simp, nany hl, nany hh, fun β w => ?_⟩
        have hb := run_bounds (P := P) (n := len) (c := cap) (l := l) (h := hI) true (by
          rcases mp ρ'' β hl with ⟨m1, m2⟩ | m1
          · exact .inl ⟨m1, m2⟩
          · exact .inr m1) (by
          rcases mp ρ'' β hh with ⟨m1, m2⟩ | m1
          · exact .inl ⟨m1, m2⟩
          · exact .inr m1) c1 c2 c3 w
        simp only [SV.den, CV.den, At.den, Instr.sliceAt, Sem.run_bind, run_underlying hu, Result.andThen_ok, Instr.slice, hb, run_size hz, Sem.run_pure]
        by_cases hcl : l.toNat = cap
        · rw [if_pos hcl, if_pos hcl.symm]
        · rw [if_neg hcl, if_neg (fun e => hcl e.symm)]
          simp [addr_add]
      · exact h.elim
    · exact h.elim
  · rename_i n el k off
    generalize hz : szAgg P el = u2 at h
    generalize hl : intOr (.lit 0) lo = u3 at h
    generalize hh : intOr (.lit n) hi = u4 at h
    split at h
    · rename_i g s l hI
      split at h
      · rename_i hc
        obtain ⟨c1, c2, c3⟩ := hc
        refine Res.pure h fun ρ'' hk => ⟨by simp, by simp, nany hl, nany hh, fun β w => ?_⟩
        have hb := run_bounds (P := P) (n := n) (c := n) (l := l) (h := hI) false (by
          rcases mp ρ'' β hl with ⟨m1, m2⟩ | m1
          · exact .inl ⟨m1, m2⟩
          · exact .inr m1) (by
          rcases mp ρ'' β hh with ⟨m1, m2⟩ | m1
          · exact .inl ⟨m1, m2⟩
          · exact .inr m1) c1 c2 c3 w
        simp only [SV.den, CV.den, At.den, Instr.sliceAt, Instr.sureAddr, Sem.run_bind, run_underlying hu, Result.andThen_ok, hb, run_size hz, Sem.run_pure]
        by_cases hcl : l.toNat = n
        · rw [if_pos hcl, if_pos hcl.symm]
        · rw [if_neg hcl, if_neg (fun e => hcl e.symm)]
          simp [addr_add]
      · exact h.elim
    · exact h.elim
  · exact h.elim

theorem doSlice_sound {c : Ctr} {t : TypeId} {x : SV} {lo hi : Option SV} {K : SV → Ctr → Env → Prop} {ρ : Env} (hx : x.wf c = true) (hlo : ∀ v, lo = some v → v.wf c = true) (hhi : ∀ v, hi = some v → v.wf c = true) (h : doSlice (PA P W Q QM) P c t x lo hi K ρ) :
    Res c ρ K fun sv ρ'' => sv ≠ .any ∧ x ≠ .any ∧ (∀ v, lo = some v → v ≠ .any) ∧ (∀ v, hi = some v → v ≠ .any) ∧
      ∀ β w, (Instr.sliceAt t (x.den ρ'' β) (lo.map (SV.den ρ'' β)) (hi.map (SV.den ρ'' β)) none).run P w = .ok (sv.den ρ'' β) w := by
  unfold doSlice at h
  split at h
  · rename_i q p sz len cap
    have wx : (decide (q < c.nb) && decide (p < c.np) && len.wf c && cap.wf c) = true := hx
    simp only [Bool.and_eq_true, decide_eq_true_eq] at wx
    obtain ⟨q1, h⟩ := doChk_sound h
    refine (doSlice1_sound (x := .cv (.one (.xsl p (.lit 0) sz len cap))) ?_ hlo hhi h).mono fun sv ρ'' hl hv => ?_
    · show (decide (p < c.np) && true && len.wf c && cap.wf c) = true
      simp only [wx.1.1.2, wx.1.2, wx.2, decide_true, Bool.and_self]
    · obtain ⟨v1, v2, v3, v4, v5⟩ := hv
      refine ⟨v1, by simp, v3, v4, fun β w => ?_⟩
      have p0 : ¬ ρ''.b q = true := by rw [hl.b q wx.1.1.1]; exact q1
      have := v5 β w
      simpa [SV.den, CV.den, At.den, p0, den_lit] using this
  · exact doSlice1_sound hx hlo hhi h

theorem mem_arr {α : Type} {x : α} {l : Array α} (h : x ∈ l.toList) : x ∈ l := Array.mem_toList_iff.1 h

theorem args_eval {st : St} {ρ : Env} {β : Nat → Nat} {a : Act} (l : List Operand) (h : ∀ x ∈ l, a.eval x = (st.ev x).den ρ β) : l.map a.eval = (l.map st.ev).map (SV.den ρ β) := by
  rw [List.map_map]
  exact List.map_congr_left h

theorem blks_caps {k : Nat} : ∀ (caps : List (Nat × Nat)), k ∈ blksOf ((caps.map fun x => SV.cv (.one (.loc x.1 x.2))).flatMap svCells) → k ∈ caps.map (·.1)
  | [], h => by simp [blksOf] at h
  | c :: caps, h => by
    simp only [List.map_cons, List.flatMap_cons, svCells, CV.cells, List.cons_append, List.nil_append, blksOf, List.mem_cons] at h
    rcases h with rfl | h
    · simp
    · simp only [List.map_cons, List.mem_cons]; exact .inr (blks_caps caps h)

theorem run_value (s : Sem Value) (w : World) (v : Value) (h : s.run P w = .ok v w) : ((do pure (Next.value (← s))) : Sem Next).run P w = .ok (.value v) w := by
  simp [h]

theorem opv_sound {G : Cfg} (hG : G.Ok) {st : St} {o : Oper} {K : SV → Ctr → Env → Prop} {ρ : Env} (wf : st.WF) (h : opv (PA G.P W Q QM) G st o K ρ) :
    Res st.c ρ K fun sv ρ'' => ValOk G.P W st o sv ρ'' := by
  obtain ⟨dst, op, type, pos, after, guard⟩ := o
  unfold opv at h
  cases op
  case move x =>
    refine Res.pure h fun ρ'' _ => ValOk.run fun β a w hB ho hr => ⟨a.eval x, by simp [execOp], fun hn => ho x (by simp [Op.operands]) hn⟩
  case assign x =>
    refine Res.pure h fun ρ'' _ => ValOk.run fun β a w hB ho hr => ⟨a.eval x, by simp [execOp], fun hn => ho x (by simp [Op.operands]) hn⟩
  case pick x y z =>
    simp only at h
    generalize hx : st.ev x = sx at h
    split at h
    · rename_i e
      have we : e.wf st.c = true := by have := wf.ev x; rw [hx] at this; exact this
      rcases doFork_sound h with ⟨hd, h⟩ | ⟨hd, h⟩
      · refine Res.pure h fun ρ'' hl => ValOk.run fun β a w hB ho hr => ⟨a.eval y, ?_, fun hn => ho y (by simp [Op.operands]) hn⟩
        have hc := ho x (by simp [Op.operands]) (by rw [hx]; simp)
        rw [hx] at hc
        simp only [SV.den, CV.den, At.den, BE.den_like hl we, hd] at hc
        simp [execOp, hc, asBool]
      · refine Res.pure h fun ρ'' hl => ValOk.run fun β a w hB ho hr => ⟨a.eval z, ?_, fun hn => ho z (by simp [Op.operands]) hn⟩
        have hc := ho x (by simp [Op.operands]) (by rw [hx]; simp)
        rw [hx] at hc
        simp only [SV.den, CV.den, At.den, BE.den_like hl we, hd] at hc
        simp [execOp, hc, asBool]
    · exact h.elim
  case load t x =>
    simp only at h
    refine (doLoad_sound wf.ap h).mono fun sv ρ'' hl hv => ValOk.run fun β a w hB ho hr => ⟨sv.den ρ'' β, ?_, fun _ => rfl⟩
    obtain ⟨h1, h2, h3⟩ := hv
    have e1 := ho x (by simp [Op.operands]) h1
    simp only [execOp, e1]
    exact run_value _ w _ (h3 β w hB hr)
  case nilCheck x =>
    simp only at h
    generalize hx : st.ev x = sx at h
    split at h
    all_goals first
      | exact h.elim
      | (refine Res.pure h fun ρ'' hl => ValOk.run fun β a w hB ho hr => ⟨a.eval x, ?_, fun hn => ?_⟩
         · have hc := ho x (by simp [Op.operands]) (by rw [hx]; simp)
           rw [hx] at hc
           simp [execOp, hc, SV.den, CV.den, At.den]
         · have hc := ho x (by simp [Op.operands]) (by rw [hx]; simp)
           rw [hx] at hc
           exact hc)
  case binOp op t x y yt =>
    simp only at h
    have hx : st.ev x ≠ .any := by intro he; rw [he] at h; cases hy : st.ev y <;> rw [hy] at h <;> exact h
    have hy : st.ev y ≠ .any := by
      intro he; rw [he] at h
      cases hx2 : st.ev x with
      | cv q => rw [hx2] at h; cases q with
        | one q => cases q <;> exact h
        | agg q => exact h
      | _ => rw [hx2] at h; exact h
    refine (doBin_sound (wf.ev x) (wf.ev y) h).mono fun sv ρ'' hl hv => ValOk.run fun β a w hB ho hr => ⟨sv.den ρ'' β, ?_, fun _ => rfl⟩
    have e1 := ho x (by simp [Op.operands]) hx
    have e2 := ho y (by simp [Op.operands]) hy
    simp only [execOp, e1, e2]
    exact run_value _ w _ (hv.2 β w x y)
  case unOp op t x =>
    simp only at h
    refine (doUn_sound h).mono fun sv ρ'' hl hv => ValOk.run fun β a w hB ho hr => ⟨sv.den ρ'' β, ?_, fun _ => rfl⟩
    have e1 := ho x (by simp [Op.operands]) hv.2.1
    simp only [execOp, e1]
    exact run_value _ w _ (hv.2.2 β w)
  case convert s d x =>
    simp only at h
    refine (doConv_sound h).mono fun sv ρ'' hl hv => ValOk.run fun β a w hB ho hr => ⟨sv.den ρ'' β, ?_, fun _ => rfl⟩
    have e1 := ho x (by simp [Op.operands]) hv.2.1
    simp only [execOp, e1]
    exact run_value _ w _ (hv.2.2 β w)
  case field t x f =>
    simp only at h
    refine (doField_sound h).mono fun sv ρ'' hl hv => ValOk.run fun β a w hB ho hr => ⟨sv.den ρ'' β, ?_, fun _ => rfl⟩
    have e1 := ho x (by simp [Op.operands]) hv.2.1
    simp only [execOp, e1]
    exact run_value _ w _ (hv.2.2 β w)
  case fieldAddr t x f =>
    simp only at h
    refine (doFieldAddr_sound h).mono fun sv ρ'' hl hv => ValOk.run fun β a w hB ho hr => ⟨sv.den ρ'' β, ?_, fun _ => rfl⟩
    have e1 := ho x (by simp [Op.operands]) hv.2.1
    simp only [execOp, e1]
    exact run_value _ w _ (hv.2.2 β w)
  case indexAddr t x i =>
    simp only at h
    refine (doIndexAddr_sound wf.ap (wf.ev x) (wf.ev i) h).mono fun sv ρ'' hl hv => ValOk.run fun β a w hB ho hr => ⟨sv.den ρ'' β, ?_, fun _ => rfl⟩
    have e1 := ho x (by simp [Op.operands]) hv.2.1.1
    have e2 := ho i (by simp [Op.operands]) hv.2.1.2
    simp only [execOp, e1, e2]
    exact run_value _ w _ (hv.2.2 β w hr)
  case index t x i =>
    simp only at h
    refine (doIndex_sound (wf.ev x) (wf.ev i) h).mono fun sv ρ'' hl hv => ValOk.run fun β a w hB ho hr => ⟨sv.den ρ'' β, ?_, fun _ => rfl⟩
    have e1 := ho x (by simp [Op.operands]) hv.2.1.1
    have e2 := ho i (by simp [Op.operands]) hv.2.1.2
    simp only [execOp, e1, e2]
    exact run_value _ w _ (hv.2.2 β w)
  case extract x i =>
    simp only at h
    generalize hx : st.ev x = sx at h
    split at h
    · rename_i l
      generalize hi : l[i]? = u at h
      split at h
      · rename_i v
        refine Res.pure h fun ρ'' _ => ValOk.run fun β a w hB ho hr => ⟨(SV.cv v).den ρ'' β, ?_, fun _ => rfl⟩
        have e1 := ho x (by simp [Op.operands]) (by rw [hx]; simp)
        rw [hx] at e1
        simp only [execOp, e1]
        refine run_value _ w _ ?_
        simp [SV.den, Instr.extract, hi]
      · exact h.elim
    · exact h.elim
  case build t parts =>
    simp only at h
    have hany := doBuild_any h
    refine (doBuild_sound h).mono fun sv ρ'' hl hv => ValOk.run fun β a w hB ho hr => ⟨sv.den ρ'' β, ?_, fun _ => rfl⟩
    have e1 : (parts.map fun x => (x.1, a.eval x.2)) = ((parts.toList.map fun p => (p.1, st.ev p.2)).map fun p => (p.1, p.2.den ρ'' β)).toArray := by
      rw [List.map_map]
      apply Array.ext'
      rw [Array.toList_map]
      apply List.map_congr_left
      intro p hp
      have := ho p.2 (by simp only [Op.operands]; exact mem_arr (by simpa using ⟨p.1, Array.mem_toList_iff.1 hp⟩)) (hany (p.1, st.ev p.2) (List.mem_map.2 ⟨p, hp, rfl⟩))
      simp [this]
    simp only [execOp]
    refine run_value _ w _ ?_
    have := hv.2 β w
    rw [← e1] at this
    exact this
  case slice t x lo hi mx =>
    cases mx with
    | some m => exact h.elim
    | none =>
      simp only at h
      refine (doSlice_sound (wf.ev x) (fun v hv => ?_) (fun v hv => ?_) h).mono fun sv ρ'' hl hv => ValOk.run fun β a w hB ho hr => ⟨sv.den ρ'' β, ?_, fun _ => rfl⟩
      · cases lo <;> simp at hv; subst hv; exact wf.ev _
      · cases hi <;> simp at hv; subst hv; exact wf.ev _
      · obtain ⟨v1, v2, v3, v4, v5⟩ := hv
        have e1 := ho x (by simp [Op.operands]) v2
        have e2 : lo.map a.eval = (lo.map st.ev).map (SV.den ρ'' β) := by
          cases lo with
          | none => rfl
          | some l => simp only [Option.map_some]; rw [ho l (by simp [Op.operands]) (v3 _ rfl)]
        have e3 : hi.map a.eval = (hi.map st.ev).map (SV.den ρ'' β) := by
          cases hi with
          | none => rfl
          | some l => simp only [Option.map_some]; rw [ho l (by simp [Op.operands]) (v4 _ rfl)]
        simp only [execOp, e1, e2, e3, Option.map_none]
        exact run_value _ w _ (v5 β w)
  case makeFunc fn first caps =>
    cases fn <;> simp only at h <;> first
      | exact h.elim
      | skip
    rename_i f
    split at h
    · rename_i hf
      generalize hl : locsOf (caps.toList.map st.ev) = u at h
      split at h
      · rename_i l
        obtain ⟨q1, q2⟩ := locsOf_sound _ hl
        refine Res.pure h fun ρ'' _ => ValOk.run fun β a w hB ho hr => ⟨_, ?_, fun _ => rfl⟩
        have e1 : caps.map a.eval = (l.map fun c => (.pointer (some ⟨β c.1, c.2, none⟩) : Value)).toArray := by
          rw [← q2 ρ'' β]
          apply Array.ext'
          rw [Array.toList_map]
          exact args_eval _ fun x hx => ho x (by simp only [Op.operands]; exact Array.mem_append.2 (.inr (Array.mem_toList_iff.1 hx))) (q1 _ (List.mem_map.2 ⟨x, hx, rfl⟩))
        have e2 : first = #[] := Array.size_eq_zero_iff.1 hf
        subst e2
        simp only [execOp]
        refine run_value _ w _ ?_
        simp [Instr.makeFunc, e1, SV.den, CV.den, At.den]
      · exact h.elim
    · generalize hq : locsOf (first.toList.map st.ev) = u0 at h
      generalize hl : locsOf (caps.toList.map st.ev) = u at h
      split at h
      · rename_i q l
        obtain ⟨q1, q2⟩ := locsOf_sound _ hl
        obtain ⟨q3, q4⟩ := locsOf_sound _ hq
        refine Res.pure h fun ρ'' _ => ValOk.run fun β a w hB ho hr => ⟨_, ?_, fun _ => rfl⟩
        have e1 : caps.map a.eval = (l.map fun c => (.pointer (some ⟨β c.1, c.2, none⟩) : Value)).toArray := by
          rw [← q2 ρ'' β]
          apply Array.ext'
          rw [Array.toList_map]
          exact args_eval _ fun x hx => ho x (by simp only [Op.operands]; exact Array.mem_append.2 (.inr (Array.mem_toList_iff.1 hx))) (q1 _ (List.mem_map.2 ⟨x, hx, rfl⟩))
        have e2 : first.map a.eval = (q.map fun c => (.pointer (some ⟨β c.1, c.2, none⟩) : Value)).toArray := by
          rw [← q4 ρ'' β]
          apply Array.ext'
          rw [Array.toList_map]
          exact args_eval _ fun x hx => ho x (by simp only [Op.operands]; exact Array.mem_append.2 (.inl (Array.mem_toList_iff.1 hx))) (q3 _ (List.mem_map.2 ⟨x, hx, rfl⟩))
        simp only [execOp]
        refine run_value _ w _ ?_
        simp [Instr.makeFunc, e1, e2, SV.den, CV.den, At.den]
      · exact h.elim
  case call cl =>
    obtain ⟨callee, args, argTypes⟩ := cl
    cases callee
    case invoke r m => exact h.elim
    case builtin b =>
      cases b <;> simp only at h <;> first
        | exact h.elim
        | skip
      case len =>
        generalize ha : args.toList = al at h
        split at h
        · rename_i x
          refine (doLen_sound wf.ap (wf.ev x) h).mono fun sv ρ'' hl hv => ValOk.run fun β a w hB ho hr => ⟨sv.den ρ'' β, ?_, fun _ => rfl⟩
          obtain ⟨h1, ty, h2, h3⟩ := hv
          have ea : args = #[x] := by apply Array.ext'; rw [ha]
          subst ea
          have e1 := ho x (by simp [Op.operands, Call.operands])
          have h4 := h3 β w (a.eval x) (by simpa [readsOf] using hr) e1
          have ht : argTypes[0]? = some ty := h2
          have h5 : (Builtin.len_ argTypes type #[a.eval x]).run G.P w = .ok (sv.den ρ'' β) w := by
            have : Builtin.len_ argTypes type #[a.eval x] = Builtin.len_ #[ty] ty #[a.eval x] := by simp only [Builtin.len_, ht]; rfl
            rw [this]; exact h4
          simp [execOp, resolve, invoke, builtin, h5]
        · exact h.elim
      case max =>
        generalize ha : args.toList = al at h
        split at h
        · rename_i x y
          refine (doMinMax_sound h).mono fun sv ρ'' hl hv => ValOk.run fun β a w hB ho hr => ⟨sv.den ρ'' β, ?_, fun _ => rfl⟩
          obtain ⟨h1, h2, h3, h4⟩ := hv
          have ea : args = #[x, y] := by apply Array.ext'; rw [ha]
          subst ea
          have e1 := ho x (by simp [Op.operands, Call.operands]) h2
          have e2 := ho y (by simp [Op.operands, Call.operands]) h3
          have h5 := h4 β w
          rw [← e1, ← e2] at h5
          simp only [if_true] at h5
          simp [execOp, resolve, invoke, builtin, Builtin.max_, h5]
        · exact h.elim
      case min =>
        generalize ha : args.toList = al at h
        split at h
        · rename_i x y
          refine (doMinMax_sound h).mono fun sv ρ'' hl hv => ValOk.run fun β a w hB ho hr => ⟨sv.den ρ'' β, ?_, fun _ => rfl⟩
          obtain ⟨h1, h2, h3, h4⟩ := hv
          have ea : args = #[x, y] := by apply Array.ext'; rw [ha]
          subst ea
          have e1 := ho x (by simp [Op.operands, Call.operands]) h2
          have e2 := ho y (by simp [Op.operands, Call.operands]) h3
          have h5 := h4 β w
          rw [← e1, ← e2] at h5
          simp only [Bool.false_eq_true, if_false] at h5
          simp [execOp, resolve, invoke, builtin, Builtin.min_, h5]
        · exact h.elim
    case value g =>
      simp only at h
      -- a call of f, whose arguments stand ahead of, and behind, the operands
      have main : ∀ (f : FuncId) (first caps : List (Nat × Nat)) (all : List SV), all = (first.map fun x => SV.cv (.one (.loc x.1 x.2))) ++ (args.toList.map st.ev ++ caps.map fun x => SV.cv (.one (.loc x.1 x.2))) →
          st.ev g ≠ .any →
          (∀ (ρ'' : Env) (β : Nat → Nat), (st.ev g).den ρ'' β = .func (.func f) (first.map fun c => .pointer (some ⟨β c.1, c.2, none⟩)).toArray (caps.map fun c => .pointer (some ⟨β c.1, c.2, none⟩)).toArray) →
          (∀ k ∈ blksOf (all.flatMap svCells), k ∈ readsOf st ⟨dst, .call ⟨.value g, args, argTypes⟩, type, pos, after, guard⟩) →
          doCall (PA G.P W Q QM) G st.m st.o st.c f all K ρ →
          Res st.c ρ K fun sv ρ'' => ValOk G.P W st ⟨dst, .call ⟨.value g, args, argTypes⟩, type, pos, after, guard⟩ sv ρ'' := by
        intro f first caps all hall hgany hgden hreads h
        refine (doCall_sound hG wf.ap (fun k cs t hm => (wf.m k cs t hm).2) (fun k ce sz t hm => (wf.o k ce sz t hm).2) h).mono fun sv ρ'' hl hv => ?_
        obtain ⟨h1, h2, h3⟩ := hv
        intro β a w hB ho hr next Q' hn
        have eg := ho g (by simp [Op.operands, Call.operands]) hgany
        rw [hgden ρ'' β] at eg
        have ea : (args.map a.eval).toList = (args.toList.map st.ev).map (SV.den ρ'' β) := by
          rw [Array.toList_map]
          exact args_eval _ fun x hx => ho x (by simp only [Op.operands, Call.operands]; exact Array.mem_append.2 (.inr (Array.mem_toList_iff.1 hx))) (h2 _ (by rw [hall]; exact List.mem_append.2 (.inr (List.mem_append.2 (.inl (List.mem_map.2 ⟨x, hx, rfl⟩))))))
        have ec : (first.map fun c => (.pointer (some ⟨β c.1, c.2, none⟩) : Value)).toArray ++ args.map a.eval ++ (caps.map fun c => (.pointer (some ⟨β c.1, c.2, none⟩) : Value)).toArray = (all.map (SV.den ρ'' β)).toArray := by
          apply Array.ext'
          rw [Array.toList_append, Array.toList_append, ea, hall]
          simp [SV.den, CV.den, At.den, Function.comp_def]
        have hx : (execOp a.eval ⟨dst, .call ⟨.value g, args, argTypes⟩, type, pos, after, guard⟩).run G.P w = (callFunc f (all.map (SV.den ρ'' β)).toArray).run G.P w := by
          simp only [execOp, resolve, eg, Deferred.ofValue, Sem.run_bind, Sem.run_pure, Result.andThen_ok, invoke]
          rw [← ec]
        have hrd : RdOk W st.m st.o (blksOf (all.flatMap svCells)) ρ'' β w := fun k hk => hr k (hreads k hk)
        unfold Oper.wp
        rw [hx]
        rcases h3 β w hB hrd with h4 | ⟨h4, h5⟩
        · rw [h4, Oper.upon_value]
          exact hn _ w (fun _ => rfl) (Below.refl _ _)
        · rw [h4, Oper.upon_enter]
          exact h5.mono fun e w' he => by
            obtain ⟨rfl, hb⟩ := he
            exact hn _ w' (fun _ => rfl) hb
      have app : ∀ (l1 l2 : List At), blksOf (l1 ++ l2) = blksOf l1 ++ blksOf l2 := by
        intro l1 l2
        induction l1 with
        | nil => rfl
        | cons x l1 ih => cases x <;> simp [blksOf, ih]
      generalize hg : st.ev g = sg at h
      split at h
      · rename_i f caps
        refine main f [] caps _ (by simp) (by rw [hg]; simp) (fun ρ'' β => by rw [hg]; rfl) (fun k hk => ?_) h
        simp only [readsOf, hg]
        rw [List.flatMap_append, app] at hk
        rcases List.mem_append.1 hk with hk | hk
        · exact List.mem_append.2 (.inl hk)
        · exact List.mem_append.2 (.inr (blks_caps caps hk))
      · rename_i f first caps
        refine main f first caps _ rfl (by rw [hg]; simp) (fun ρ'' β => by rw [hg]; rfl) (fun k hk => ?_) h
        simp only [readsOf, hg]
        rw [List.flatMap_append, app] at hk
        rcases List.mem_append.1 hk with hk | hk
        · exact List.mem_append.2 (.inr (List.mem_append.2 (.inl (blks_caps first hk))))
        · rw [List.flatMap_append, app] at hk
          rcases List.mem_append.1 hk with hk | hk
          · exact List.mem_append.2 (.inl hk)
          · exact List.mem_append.2 (.inr (List.mem_append.2 (.inr (blks_caps caps hk))))
      · exact h.elim
  all_goals exact h.elim
end Vc
