/- Vc, part T: drawn regions are walked soundly; functions are. No program in sight. -/
import Derived.Test.YtdhiapllbjamfaaVcS
import Derived.StillTail
set_option linter.unusedVariables false
set_option linter.unusedSimpArgs false
namespace Vc
open Go Go.RowKit
variable {P : Program} {W : World} {Q : Value → Prop} {QM : World → Value → Prop}

section
variable {ops : Array Oper} {ρ : Env} {sts : Nat → St} {rd wr : List (Nat × Nat)}

theorem inv_core (hw : Way P W ops ρ sts rd wr) {a0 a : Act} {β0 β : Nat → Nat} {w0 w : World} {ρ0 : Env} (hC : Core W ρ0 β0 (sts 0) a0 w0) (hl : Env.like (sts 0).c ρ0 ρ) {listed : Array Bool} (inv : Inv W ops ρ sts a0 β0 listed a w β)
    (hall : ∀ j, j < ops.size → listed.getD j false = true) : Core W ρ β (sts ops.size) a w where
  size := by rw [hw.n ops.size (Nat.le_refl _)]; exact inv.size
  tmps t hn := by
    by_cases hx : ∃ (j : Nat) (p : Oper), ops[j]? = some p ∧ p.dst = some t
    · obtain ⟨j, p, hp, hpt⟩ := hx
      exact inv.s2 t j p hp hpt (hall j (Array.getElem?_eq_some_iff.1 hp).1) hn
    · have hnone : ∀ (m : Nat) (o' : Oper), ops[m]? = some o' → o'.dst ≠ some t := fun m o' hm he => hx ⟨m, o', hm, he⟩
      have hsame : SameS ρ (getS (sts 0).t t) (getS (sts ops.size).t t) := hw.same ops.size 0 (by omega) (Nat.le_refl _) fun m _ _ q hq => hnone m q hq
      rw [inv.s3 t (fun m o' hm he => (hnone m o' hm he).elim), hC.tmps t (hsame.any hn), ← hsame.den, SV.den_like hl inv.agree (hC.wf.t t)]
  dfr := inv.dfr
  below := inv.below
  mem k cs t hg := inv.mem k ops.size (Nat.le_refl _) (fun m hm hc => ⟨fun _ => hall m hm, fun _ => hm⟩) cs t hg
  inj k k' x y hx hy he := by
    have f : ∀ {n z}, getM (sts ops.size).m n = some z → ((getM (sts 0).m n).isSome = true ∨ ∃ m, m < ops.size ∧ laid sts m n ∧ listed.getD m false = true) := by
      intro n z hz
      rcases hw.pres ops.size (Nat.le_refl _) n z hz with h | ⟨m, h1, h2⟩
      · exact .inl h
      · exact .inr ⟨m, h1, h2, hall m h1⟩
    exact inv.inj k k' (f hx) (f hy) he
  wf := hw.wf ops.size (Nat.le_refl _)

theorem way_any (hw : Way P W ops ρ sts rd wr) (hd : drawOk ops = true) {a0 : Act} {β0 : Nat → Nat} {w0 : World} {ρ0 : Env} (hC : Core W ρ0 β0 (sts 0) a0 w0) (hl : Env.like (sts 0).c ρ0 ρ) {Q' : Exit → Act → World → Prop}
    (hQ : ∀ a w β, (∀ k, k < (sts 0).c.nk → β k = β0 k) → Core W ρ β (sts ops.size) a w → Q' .normal a w) :
    ∀ (fuel : Nat) (listed : Array Bool) (a : Act) (w : World) (β : Nat → Nat), Inv W ops ρ sts a0 β0 listed a w β → unl listed ops.size = fuel → wpAny P .any ops Q' fuel listed a w
  | 0, listed, a, w, β, inv, hu => by
    have hall := unl_zero hu
    refine ⟨?_, hQ a w β inv.agree (inv_core hw hC hl inv hall)⟩
    refine List.eq_nil_iff_forall_not_mem.2 fun i hi => ?_
    obtain ⟨h1, o, ho, _⟩ := mem_ready.1 hi
    have := hall i (Array.getElem?_eq_some_iff.1 ho).1
    rw [getD_both h1] at this
    cases this
  | fuel + 1, listed, a, w, β, inv, hu => by
    refine ⟨fun hnil => ?_, fun i hi => ?_⟩
    · exfalso
      obtain ⟨j, hj, hlj, hlt⟩ := unl_pos (listed := listed) (m := ops.size) (by omega)
      obtain ⟨o, ho⟩ := hw.get hj
      have : j ∈ Region.ready .any ops listed := mem_ready.2 ⟨getD_in (by rw [inv.lsize]; exact hj) hlj, o, ho, fun e he hb => hlt e.on ((drawOk_spec hd ho).1 e he hb)⟩
      rw [hnil] at this
      cases this
    · obtain ⟨h1, o, ho, hr⟩ := mem_ready.1 hi
      have hil : i < listed.size := by rw [inv.lsize]; exact (Array.getElem?_eq_some_iff.1 ho).1
      refine inv_step hw hd hC hl inv ho (getD_both h1) hr fun a' w' β' inv' => way_any hw hd hC hl hQ fuel _ a' w' β' inv' ?_
      have := unl_set hil (getD_both h1) ops.size
      rw [if_pos (Array.getElem?_eq_some_iff.1 ho).1] at this
      omega

theorem inv_start {a0 : Act} {β0 : Nat → Nat} {w0 : World} {ρ0 : Env} (hw : Way P W ops ρ sts rd wr) (hC : Core W ρ0 β0 (sts 0) a0 w0) (hl : Env.like (sts 0).c ρ0 ρ) : Inv W ops ρ sts a0 β0 (Array.replicate ops.size false) a0 w0 β0 := by
  have hf : ∀ j, (Array.replicate ops.size false).getD j false = false := fun j => by
    rw [Array.getD_eq_getD_getElem?, Array.getElem?_replicate]
    split <;> rfl
  have hno : ∀ {n}, ((getM (sts 0).m n).isSome = true ∨ ∃ m, m < ops.size ∧ laid sts m n ∧ (Array.replicate ops.size false).getD m false = true) → (getM (sts 0).m n).isSome = true := by
    rintro n (h | ⟨m, _, _, h⟩)
    · exact h
    · rw [hf m] at h; cases h
  refine ⟨by simp, fun j oj _ h => (by rw [hf j] at h; cases h), hC.size, hC.dfr, hC.below, fun t i o _ _ h => (by rw [hf i] at h; cases h), fun _ _ => rfl, fun k i hi hcut cs t hg => ?_, fun k hk => ?_, fun k k' hk hk' he => ?_, fun _ _ => rfl⟩
  · have : getM (sts i).m k = getM (sts 0).m k := Way.chain sts i 0 (by omega) fun m _ h2 => by
      by_cases hc : getM (sts (m + 1)).m k = getM (sts m).m k
      · exact hc
      · have := (hcut m (by omega) hc).1 h2
        rw [hf m] at this; cases this
    rw [this] at hg
    obtain ⟨m1, m2⟩ := hC.mem k cs t hg
    refine ⟨m1, ?_⟩
    rw [m2, map_den_like hl (β := β0) (fun _ _ => rfl) (hC.wf.m k cs t hg).2]
  · obtain ⟨x, hx⟩ := Option.isSome_iff_exists.1 (hno hk)
    exact heap_lt (hC.mem k x.1 x.2 hx).2
  · obtain ⟨x, hx⟩ := Option.isSome_iff_exists.1 (hno hk)
    obtain ⟨y, hy⟩ := Option.isSome_iff_exists.1 (hno hk')
    exact hC.inj k k' x y hx hy he
end

theorem Fct.imp {ops : Array Oper} {ρ : Env} {old old' fr fr' : Nat → Prop} {i : Nat} {rd wr rd' wr' : List (Nat × Nat)} {s s' : St} {o : Oper} (h : Fct P W ops ρ old fr i rd wr s o s') (h1 : ∀ k, old k → old' k) (h2 : ∀ k, fr k → fr' k) (h3 : ∀ k ∈ rd, k ∈ rd') (h4 : ∀ k ∈ wr, k ∈ wr') :
    Fct P W ops ρ old' fr' i rd' wr' s o s' := by
  cases h with
  | skip s1 k w p => exact .skip s1 k w p
  | run s1 _ k w f a1 a2 a3 a4 a5 => exact .run s1 _ k w f (fun k hk => h1 k (a1 k hk)) (fun x hx k hk => h1 k (a2 x hx k hk)) (fun e he k hk => h2 k (a3 e he k hk)) (fun k hk => h3 _ (a4 k hk)) (fun k hk => h4 _ (a5 k hk))

theorem putS_wf {st : St} {dst : Option Tmp} {v : SV} {c : Ctr} (hw : st.WF) (hle : st.c.le c) (hp : PutOk st dst v c) : (st.putS dst v c).WF := by
  obtain ⟨q1, q2, q3⟩ := putS_c st dst v c
  refine ⟨fun i => ?_, fun k cs t hg => ?_⟩
  · rw [getS_putS, q1]
    by_cases hd : dst = some i
    · rw [if_pos hd]; exact (hp i hd).2
    · rw [if_neg hd]; exact SV.wf_le hle (hw.t i)
  · rw [q2] at hg
    rw [q1]
    exact ⟨Nat.lt_of_lt_of_le (hw.m k cs t hg).1 hle.2.2.2.2, all_wf_le hle (hw.m k cs t hg).2⟩
theorem know_wf {st : St} {d : Nat} {b : Bool} (h : st.WF) : (st.know d b).WF :=
  ⟨fun i => by
    simp only [St.know, getS_cons]
    by_cases hi : d = i
    · rw [if_pos hi]; rfl
    · rw [if_neg hi]; exact h.t i, h.m⟩
theorem OFact.wf {s1 s' : St} {o : Oper} {ρ : Env} (hw : s1.WF) (h : OFact P W s1 o ρ s') : s'.WF := by
  cases h with
  | val sv c h1 h2 h3 h4 => exact putS_wf hw h2 h4
  | new cs t v vd h1 h2 h3 h4 =>
    have hle : s1.c.le { s1.c with nk := s1.c.nk + 1 } := ⟨Nat.le_refl _, Nat.le_refl _, Nat.le_refl _, Nat.le_refl _, Nat.le_succ _⟩
    obtain ⟨q1, q2, q3⟩ := putS_c { s1 with m := (s1.c.nk, cs, t) :: s1.m } o.dst (.cv (.one v)) { s1.c with nk := s1.c.nk + 1 }
    refine ⟨fun i => ?_, fun k cs' t' hg => ?_⟩
    · rw [getS_putS, q1]
      by_cases hd : o.dst = some i
      · rw [if_pos hd]; exact (h4 i hd).2
      · rw [if_neg hd]; exact SV.wf_le hle (hw.t i)
    · rw [q2, getM_cons] at hg
      rw [q1]
      by_cases hk : s1.c.nk = k
      · rw [if_pos hk] at hg
        cases hg
        exact ⟨by simp [← hk], all_wf_le hle h1⟩
      · rw [if_neg hk] at hg
        exact ⟨Nat.lt_succ_of_lt (hw.m k cs' t' hg).1, all_wf_le hle (hw.m k cs' t' hg).2⟩
  | sto k cs cs' t h1 h2 h3 h6 h4 h5 =>
    obtain ⟨q1, q2, q3⟩ := putS_c { s1 with m := setM s1.m k cs' } o.dst .any s1.c
    refine ⟨fun i => ?_, fun kk cs2 t2 hg => ?_⟩
    · rw [getS_putS, q1]
      by_cases hd : o.dst = some i
      · rw [if_pos hd]; rfl
      · rw [if_neg hd]; exact hw.t i
    · rw [q2, getM_setM] at hg
      rw [q1]
      by_cases hk : k = kk
      · subst hk
        rw [if_pos rfl, h1] at hg
        simp only [Option.map_some, Option.some.injEq, Prod.mk.injEq] at hg
        obtain ⟨rfl, rfl⟩ := hg
        exact ⟨(hw.m k cs t h1).1, h3⟩
      · rw [if_neg hk] at hg
        exact hw.m kk cs2 t2 hg

def ResAt (G : Cfg) (W : World) (ops : Array Oper) (K : St → Env → Prop) (l : List Oper) (i : Nat) (d : DS) (st : St) (ρ : Env) : Prop :=
    ∃ (sts : Nat → St) (ds : Nat → DS) (ρF : Env), sts i = st ∧ ds i = d ∧ K (sts (i + l.length)) ρF ∧ Env.like st.c ρ ρF ∧ apartB ops (ds (i + l.length)).rd (ds (i + l.length)).wr = true ∧
      (∀ k ∈ d.rd, k ∈ (ds (i + l.length)).rd) ∧ (∀ k ∈ d.wr, k ∈ (ds (i + l.length)).wr) ∧ (∀ j, j ≤ l.length → (sts (i + j)).WF) ∧
      ∀ j o, l[j]? = some o → ((ds (i + j + 1)).al = if (sts (i + j)).c.nk < (sts (i + j + 1)).c.nk then ((sts (i + j)).c.nk, i + j) :: (ds (i + j)).al else (ds (i + j)).al) ∧
        Fct G.P W ops ρF (fun k => (ds (i + j)).old ops (i + j) k = true) (fun k => (ds (i + j + 1)).al.lookup k = none) (i + j) (ds (i + l.length)).rd (ds (i + l.length)).wr (sts (i + j)) o (sts (i + j + 1))

theorem execD_resolve {G : Cfg} (hG : G.Ok) {ops : Array Oper} {K : St → Env → Prop} : ∀ (l : List Oper) (i : Nat) (d : DS) (st : St) (ρ : Env), execD (PA G.P W Q QM) G ops i l d st K ρ → st.WF → ResAt G W ops K l i d st ρ
  | [], i, d, st, ρ, h, hw => by
    unfold execD at h
    split at h
    rotate_left
    · exact h.elim
    · rename_i hne
      refine ⟨fun _ => st, fun _ => d, ρ, rfl, rfl, h, Env.like_refl _ _, hne, fun _ h => h, fun _ h => h, fun _ _ => hw, fun j o hj => by simp at hj⟩
  | o :: r, i, d, st, ρ, h, hw => by
    -- the rest, behind this operation
    have glue : ∀ (s' : St) (d' : DS) (ρ' : Env), execD (PA G.P W Q QM) G ops (i + 1) r d' s' K ρ' → s'.WF → st.c.le s'.c → Env.like st.c ρ ρ' → (∀ k ∈ d.rd, k ∈ d'.rd) → (∀ k ∈ d.wr, k ∈ d'.wr) →
        (d'.al = if st.c.nk < s'.c.nk then (st.c.nk, i) :: d.al else d.al) →
        (∀ ρ'', Env.like s'.c ρ' ρ'' → ∀ rd wr, (∀ k ∈ d'.rd, k ∈ rd) → (∀ k ∈ d'.wr, k ∈ wr) → Fct G.P W ops ρ'' (fun k => d.old ops i k = true) (fun k => d'.al.lookup k = none) i rd wr st o s') → ResAt G W ops K (o :: r) i d st ρ := by
      intro s' d' ρ' hx hws hle hlk hrd hwr hal hf
      obtain ⟨sts, ds, ρF, e1, e2, e3, e4, e5, e6, e7, e8, e9⟩ := execD_resolve hG r (i + 1) d' s' ρ' hx hws
      have hlen : i + (o :: r).length = i + 1 + r.length := by simp; omega
      refine ⟨fun j => if j ≤ i then st else sts j, fun j => if j ≤ i then d else ds j, ρF, if_pos (Nat.le_refl _), if_pos (Nat.le_refl _), ?_⟩
      have c1 : ¬ (i + 1 + r.length ≤ i) := by omega
      rw [hlen]
      simp only [c1, if_false]
      refine ⟨e3, Env.like_trans hle hlk e4, e5, fun k hk => e6 k (hrd k hk), fun k hk => e7 k (hwr k hk), fun j hj => ?_, fun j o' hj => ?_⟩
      · by_cases hj0 : j = 0
        · subst hj0; simp only [Nat.add_zero, Nat.le_refl, if_true]; exact hw
        · have c2 : ¬ (i + j ≤ i) := by omega
          simp only [c2, if_false]
          have := e8 (j - 1) (by simp at hj; omega)
          rwa [show i + 1 + (j - 1) = i + j by omega] at this
      · cases j with
        | zero =>
          simp only [List.getElem?_cons_zero, Option.some.injEq] at hj
          subst hj
          have c2 : ¬ (i + 0 + 1 ≤ i) := by omega
          simp only [Nat.add_zero, Nat.le_refl, if_true]
          have c3 : ¬ (i + 1 ≤ i) := by omega
          simp only [c3, if_false, e1, e2]
          exact ⟨hal, hf ρF e4 _ _ e6 e7⟩
        | succ j =>
          have c2 : ¬ (i + (j + 1) ≤ i) := by omega
          have c3 : ¬ (i + (j + 1) + 1 ≤ i) := by omega
          simp only [c2, c3, if_false]
          have := e9 j o' (by simpa using hj)
          rw [show i + 1 + j = i + (j + 1) by omega] at this
          exact this
    -- one operation that is wanted
    have run : ∀ (s1 : St), s1.WF → s1.c = st.c → s1.m = st.m → (∀ ρ'', Env.like st.c ρ ρ'' → Knw ρ'' st s1) → (∀ ρ'', Env.like st.c ρ ρ'' → Wants ops ρ'' st o true) →
        stepD (PA G.P W Q QM) G ops i d s1 o (fun d' s => execD (PA G.P W Q QM) G ops (i + 1) r d' s K) ρ → ResAt G W ops K (o :: r) i d st ρ := by
      intro s1 hw1 hc1 hm1 hkn hwt hs
      unfold stepD at hs
      by_cases hold : (readsOf s1 o ++ writesOf s1 o).all (d.old ops i) = true
      · rw [if_pos hold] at hs
        obtain ⟨s', ρ', g1, g2, g3, g4⟩ := opm_resolve hG hw1 hs
        dsimp only at g1
        by_cases hcond : okD ops i d o (if s1.c.nk < s'.c.nk then (s1.c.nk, i) :: d.al else d.al) s' = true
        · rw [if_pos hcond] at g1
          unfold okD at hcond
          rw [Bool.and_eq_true] at hcond
          obtain ⟨q1, q2⟩ := hcond
          refine glue s' _ ρ' g1 ((g4 ρ' (Env.like_refl _ _)).wf hw1) (by rw [← hc1]; exact g2) (by rw [← hc1]; exact g3) (fun k hk => List.mem_append.2 (.inr hk)) (fun k hk => List.mem_append.2 (.inr hk)) (by rw [hc1]) ?_
          intro ρ'' hl rd wr h1 h2
          have hl2 : Env.like st.c ρ ρ'' := by rw [← hc1]; exact Env.like_trans g2 g3 hl
          refine .run s1 s' (hkn ρ'' hl2) (hwt ρ'' hl2) (g4 ρ'' hl) (fun k hk => List.all_eq_true.1 hold k hk) (fun x hx k hk => ?_) (fun e he k hk => ?_) (fun k hk => h1 _ (List.mem_append.2 (.inl (List.mem_map.2 ⟨k, hk, rfl⟩)))) (fun k hk => h2 _ (List.mem_append.2 (.inl (List.mem_map.2 ⟨k, hk, rfl⟩))))
          · rw [hx] at q1
            exact List.all_eq_true.1 q1 k hk
          · have := List.all_eq_true.1 (List.all_eq_true.1 q2 e he) k hk
            simpa using this
        · rw [if_neg hcond] at g1; exact g1.elim
      · rw [if_neg hold] at hs; exact hs.elim
    unfold execD at h
    cases hgd : o.guard with
    | none =>
      simp only [hgd] at h
      exact run st hw rfl rfl (fun _ _ => .refl) (fun _ _ => by unfold Wants; rw [hgd]) h
    | some jw =>
      obtain ⟨j, want⟩ := jw
      simp only [hgd] at h
      generalize hd' : (ops[j]?).bind (·.dst) = u at h
      cases u with
      | none => exact h.elim
      | some x =>
        simp only at h
        split at h
        · rename_i hlt
          generalize hg : getS st.t x = sv at h
          split at h
          · rename_i e
            have we : e.wf st.c = true := by have := hw.t x; rw [hg] at this; exact this
            have kn : ∀ b, e.den ρ = b → ∀ ρ'', Env.like st.c ρ ρ'' → Knw ρ'' st (st.know x b) := fun b hb ρ'' hl => .know x b e hg (by rw [BE.den_like hl we]; exact hb)
            have wt : ∀ b c, e.den ρ = b → (b == want) = c → ∀ ρ'', Env.like st.c ρ ρ'' → Wants ops ρ'' st o c := by
              intro b c hb hc ρ'' hl
              unfold Wants
              rw [hgd]
              exact ⟨x, hd', .inl ⟨e, hg, by rw [BE.den_like hl we, hb]; exact hc⟩⟩
            have skp : ∀ b, e.den ρ = b → (b == want) = false → (St.put (PA G.P W Q QM) (st.know x b) o.dst .und st.c fun s => execD (PA G.P W Q QM) G ops (i + 1) r d s K) ρ → ResAt G W ops K (o :: r) i d st ρ := by
              intro b hb hc hp
              obtain ⟨p1, p2⟩ := put_resolve hp
              obtain ⟨q1, q2, q3⟩ := putS_c (st.know x b) o.dst .und st.c
              refine glue _ d ρ p1 (putS_wf (know_wf hw) (Ctr.le_refl _) p2) (by rw [q1]; exact Ctr.le_refl _) (Env.like_refl _ _) (fun _ h => h) (fun _ h => h) (by rw [q1]; simp) ?_
              intro ρ'' hl rd wr _ _
              rw [q1] at hl
              exact .skip (st.know x b) (kn b hb ρ'' hl) (wt b false hb hc ρ'' hl) p2
            rcases doFork_sound h with ⟨hb, h⟩ | ⟨hb, h⟩
            · cases want with
              | true => exact run (st.know x true) (know_wf hw) rfl rfl (kn true hb) (wt true true hb rfl) h
              | false => exact skp true hb rfl h
            · cases want with
              | true => exact skp false hb rfl h
              | false => exact run (st.know x false) (know_wf hw) rfl rfl (kn false hb) (wt false true hb rfl) h
          · obtain ⟨p1, p2⟩ := put_resolve h
            obtain ⟨q1, q2, q3⟩ := putS_c st o.dst .und st.c
            refine glue _ d ρ p1 (putS_wf hw (Ctr.le_refl _) p2) (by rw [q1]; exact Ctr.le_refl _) (Env.like_refl _ _) (fun _ h => h) (fun _ h => h) (by rw [q1]; simp) ?_
            intro ρ'' hl rd wr _ _
            refine .skip st .refl ?_ p2
            unfold Wants
            rw [hgd]
            exact ⟨x, hd', .inr ⟨hg, rfl⟩⟩
          · exact h.elim
        · exact h.elim

theorem lookup_laid {ops : Array Oper} {sts : Nat → St} {ds : Nat → DS} (h0 : (ds 0).al = []) (hal : ∀ j, j < ops.size → (ds (j + 1)).al = if (sts j).c.nk < (sts (j + 1)).c.nk then ((sts j).c.nk, j) :: (ds j).al else (ds j).al)
    (hnk : ∀ i j, i ≤ j → j ≤ ops.size → (sts i).c.nk ≤ (sts j).c.nk) : ∀ (i : Nat), i ≤ ops.size → ∀ m k, m < i → laid sts m k → (ds i).al.lookup k = some m
  | 0, _, m, k, h, _ => by omega
  | i + 1, hi, m, k, hm, hl => by
    obtain ⟨l1, l2⟩ := hl
    rw [hal i (by omega)]
    by_cases hmi : m = i
    · subst hmi
      rw [if_pos (by omega), l1]
      simp
    · have ih := lookup_laid h0 hal hnk i (by omega) m k (by omega) ⟨l1, l2⟩
      split
      · have := hnk (m + 1) i (by omega) (by omega)
        rw [List.lookup_cons]
        have : (k == (sts i).c.nk) = false := by simp; omega
        rw [this]
        exact ih
      · exact ih

theorem drawn_sound {G : Cfg} (hG : G.Ok) (hm : G.P.follows .mixedOrders = true) : DrawOk G W Q QM := by
  intro id ops st K ρ h β a w hC next Q' hq hn
  unfold drawnX at h
  by_cases hd : drawOk ops = true
  · rw [if_pos hd] at h
    obtain ⟨sts, ds, ρF, e1, e2, e3, e4, e5, _, _, e8, e9⟩ := execD_resolve hG ops.toList 0 ⟨[], [], []⟩ st ρ h hC.wf
    simp only [Nat.zero_add, Array.length_toList, Array.getElem?_toList] at e3 e5 e8 e9
    have hnk : ∀ j i, i ≤ j → j ≤ ops.size → (sts i).c.nk ≤ (sts j).c.nk := by
      intro j
      induction j with
      | zero => intro i h _; obtain rfl : i = 0 := by omega
                exact Nat.le_refl _
      | succ j ih =>
        intro i h hj
        by_cases hi : i = j + 1
        · subst hi; exact Nat.le_refl _
        · exact Nat.le_trans (ih i (by omega) (by omega)) ((e9 j ops[j] (Array.getElem?_eq_getElem (by omega))).2.step.2.1.2.2.2.2)
    have hlk := lookup_laid (ops := ops) (sts := sts) (ds := ds) (by rw [e2]) (fun j hj => (e9 j ops[j] (Array.getElem?_eq_getElem hj)).1) (fun i j h1 h2 => hnk j i h1 h2)
    have hw : Way G.P W ops ρF sts (ds ops.size).rd (ds ops.size).wr := by
      refine ⟨e8, fun i o ho => ?_, fun k i j h1 h2 => ?_⟩
      rotate_left
      · have := List.all_eq_true.1 (List.all_eq_true.1 e5 _ h1) _ h2
        simpa using this
      have hi : i < ops.size := (Array.getElem?_eq_some_iff.1 ho).1
      refine (e9 i o ho).2.imp (fun k hk m hmi hl => ?_) (fun k hk m hmi hl => ?_) (fun _ h => h) (fun _ h => h)
      · have := hlk i (by omega) m k hmi hl
        simpa [DS.old, this] using hk
      · have := hlk (i + 1) (by omega) m k (by omega) hl
        rw [this] at hk
        cases hk
    have hC0 : Core W ρ β (sts 0) a { w with drawn := w.drawn + 1 } := by
      rw [e1]
      exact hC.grow (Ctr.le_refl _) (Env.like_refl _ _) ((Below.refl _ w).drew)
    have hl0 : Env.like (sts 0).c ρ ρF := by rw [e1]; exact e4
    refine wp_region_any hm ?_
    have hu : ∀ m, m ≤ ops.size → unl (Array.replicate ops.size false) m = m := by
      intro m
      induction m with
      | zero => intro _; rfl
      | succ m ih =>
        intro hm'
        simp only [unl, ih (by omega)]
        rw [if_neg (by rw [Array.getD_eq_getD_getElem?, Array.getElem?_replicate]; split <;> simp)]
    refine way_any hw hd hC0 hl0 (fun a' w' β' hag hC' => ?_) ops.size _ a _ β (inv_start hw hC0 hl0) (hu _ (Nat.le_refl _))
    refine hq _ _ (hn (sts ops.size) ρF β' a' w' e3 ?_ e4 ?_ hC')
    · have := hw.le ops.size (Nat.le_refl _); rwa [e1] at this
    · rw [e1] at hag; exact hag
  · rw [if_neg hd] at h; exact h.elim

/-- A FUNCTION: what its walk says, as a proposition, gives its contract. -/
theorem calls_of_exec {G : Cfg} (hG : G.Ok) (hm : G.P.follows .mixedOrders = true) {f : FuncId} {fn : Func} {b : Code} (hf : G.P.funcs[f]? = some fn) (hb : fn.body = some b) {args : List SV} {c : Ctr} {ρ : Env} {w : World} (n : Nat)
    (hw : args.all (SV.wf c) = true) (h : execF (PA G.P w Q QM) G n fn b args c ρ) :
    Calls G.P f (args.map (SV.den ρ b0)).toArray w fun e w' => ∃ v, e = .returned v ∧ Below w.heap.size w w' ∧ (Q v ∨ QM w' v) := by
  refine calls_of_wp hf hb ?_
  have hC := core_enter (W := w) (ρ := ρ) (β := b0) (args := args) (n := fn.ntmps) (m := []) (c := c) (w := w) hw (Below.refl _ _) (fun k cs t h => by cases h) (fun k k' x y h => by cases h) (fun k cs t h => by cases h)
  refine exec_sound hG (drawn_sound hG hm) n b _ _ ρ h b0 _ w hC _ ?_
  intro e s ρ' β' a' w' hk h1 h2 h3 hC'
  have fin : (match resOf G.P s fn.results.toList with
      | some l => (PA G.P w Q QM).fin (resV l) (namedM s.m (l.flatMap CV.cells))
      | none => (PA G.P w Q QM).fail "results") ρ' → a'.defers = [] ∧ ∃ v, (results fn a'.tmps).run G.P w' = .ok v w' ∧ ∃ v', Ending.returned v = .returned v' ∧ Below w.heap.size w w' ∧ (Q v' ∨ QM w' v') := by
    intro hk
    generalize hr : resOf G.P s fn.results.toList = u at hk
    cases u with
    | none => exact hk.elim
    | some l =>
      obtain ⟨q1, q2⟩ := results_sound hC' hr
      refine ⟨hC'.dfr, _, q1, _, rfl, hC'.below, ?_⟩
      simp only [PA] at hk
      split at hk
      · rename_i hfl
        rw [SV.den_flat ρ' β' b0 hfl]
        exact .inl hk
      · exact .inr (hk β' w' hC'.below (namedM_sound (Env.like_refl _ ρ') (fun k cs t hg => (hC'.wf.m k cs t hg).2) _ (hC'.rd _)))
  cases e with
  | normal => exact fin hk
  | ret => exact fin hk
  | exit id => exact hk.elim
end Vc
