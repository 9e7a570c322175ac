/- Vc, part S: a drawn region, in whatever order: one operation more. No program in sight. -/
import Derived.Test.YtdhiapllbjamfaaVcR
import Derived.OrdersIn
set_option linter.unusedVariables false
set_option linter.unusedSimpArgs false
namespace Vc
open Go Go.RowKit
variable {P : Program} {W : World} {R : Nat → Loop} {Z : List Nat} {ops : Array Oper} {n : Nat} {ρ : Env} {sts : Nat → St} {svs : Nat → SV} {cs : Nat → List Nat} {rd wr : List (Nat × Nat)}

theorem chg_cells {s1 s' : St} {C : List Nat} {β β' : Nat → Nat} {w w' : World} (h : Chg W s1 s' ρ C β β' w w') (hC : ∀ k e, k ∈ C → getE s1.m s1.o k = some e → Holds W ρ β k e w) {b : Nat} {o : Obj} (hb : w.heap[b]? = some o)
    (ho : ∀ c t, o ≠ .cells c t (0, 0)) : w'.heap[b]? = some o := h.other hC hb ho

theorem inv_chg (hw : Way P W ops n ρ sts svs cs rd wr) (hd : drawOk ops = true) {a0 a : Act} {β0 β β' : Nat → Nat} {w w' w0 : World} (hC0 : Core W R Z ρ β0 (sts 0) a0 w0) {listed : Array Bool} (inv : Inv W R Z ops n ρ sts cs a0 β0 listed a w β) {i : Nat} {o : Oper} (hi : i < n) (ho : ops[i]? = some o)
    (hun : listed.getD i false = false) (hr : ∀ e ∈ o.after, Region.binds .any e = true → listed.getD e.on false = true) {s1 : St} (hk : Knw ρ (sts i) s1) (hst : Stp s1 o (sts (i + 1)) (svs i) (cs i)) {val : Value} (hval : svs i ≠ .any → val = (svs i).den ρ β')
    (hch : Chg W s1 (sts (i + 1)) ρ (cs i) β β' w w') (hcc : ∀ k ∈ cs i, cut n sts cs listed k i)
    (hids : ∀ k e', (k ∈ cs i ∨ s1.c.nk ≤ k) → getE (sts (i + 1)).m (sts (i + 1)).o k = some e' → ∀ x ∈ entIds e', ∀ m, m < n → laid sts m x → listed.getD m false = true) :
    Inv W R Z ops n ρ sts cs a0 β0 (listed.setIfInBounds i true) (a.put o.dst val) w' β' := by
  have his : i < ops.size := Nat.lt_of_lt_of_le hi hw.le
  have hil : i < listed.size := by rw [inv.lsize]; exact his
  obtain ⟨kc, km, kn, ko, kr, kd⟩ := hk.c
  have hget : ∀ m, i ≠ m → (listed.setIfInBounds i true).getD m false = listed.getD m false := fun m hm => by rw [getD_set listed i m hil, if_neg hm]
  have hgi : (listed.setIfInBounds i true).getD i false = true := by rw [getD_set listed i i hil, if_pos rfl]
  have hmono : ∀ m, listed.getD m false = true → (listed.setIfInBounds i true).getD m false = true := fun m hm => by
    rw [getD_set listed i m hil]; split
    · rfl
    · exact hm
  have hoff : ∀ k, ¬ laid sts i k → β' k = β k := fun k hk => hch.off k (by rw [kc]; exact hk)
  have hCm : ∀ k e, k ∈ cs i → getE s1.m s1.o k = some e → Holds W ρ β k e w := fun k e hkc hg => inv.mem k i (by omega) (hcc k hkc) e (by rw [km, ko] at hg; exact hg)
  -- an object that is touched
  have tcut : ∀ {k j}, tch sts cs i k → j ≤ n → cut n sts cs (listed.setIfInBounds i true) k j → getE (sts j).m (sts j).o k = getE (sts (i + 1)).m (sts (i + 1)).o k := by
    intro k j ht hj hcut
    have hij : i < j := (hcut i hi ht).2 hgi
    refine hw.chain j (i + 1) (by omega) hj fun m a1 a2 htm => ?_
    have hmn : m < n := by omega
    have hlm := (hcut m hmn htm).1 a2
    rw [hget m (by omega)] at hlm
    have no : ∀ h : reach ops 3 m i = true, False := fun h => by
      rw [later inv hun (Nat.lt_of_lt_of_le hmn hw.le) h] at hlm; cases hlm
    have hnk := hw.nk m (i + 1) a1 (by omega)
    have hnk2 := hw.nk (i + 1) i (by omega) (by omega)
    rcases ht with hc | hl <;> rcases htm with hc2 | hl2
    · obtain ⟨b1, _, _⟩ := hw.cls hi hc
      obtain ⟨c1, _, _⟩ := hw.cls hmn hc2
      rcases hw.apart k m i (.inr c1) b1 with rfl | ⟨_, d2⟩ | ⟨d1, _⟩
      · omega
      · exact no (direct_reach d2)
      · omega
    · have := (hw.cls hi hc).2.1
      have := hl2.1
      omega
    · exact no ((hw.cls hmn hc2).2.2 i (by omega) hl)
    · have := hl.2
      have := hl2.1
      omega
  have told : ∀ {k}, tch sts cs i k → k ∈ cs i ∨ s1.c.nk ≤ k := fun ht => by
    rcases ht with h | h
    · exact .inl h
    · rw [kc]; exact .inr h.1
  -- one that is not
  have ucut : ∀ {k j}, ¬ tch sts cs i k → cut n sts cs (listed.setIfInBounds i true) k j → cut n sts cs listed k j := fun {k j} ht hcut m hm hmt => by
    have := hcut m hm hmt
    rwa [hget m (fun e => ht (e ▸ hmt))] at this
  have hself : ∀ {k j e}, ¬ tch sts cs i k → j ≤ n → getE (sts j).m (sts j).o k = some e → ∀ x ∈ entSelf k e, β' x = β x := by
    intro k j e ht hj hg x hx
    refine hoff x fun hl => ?_
    cases e with
    | fix c t =>
      simp only [entSelf, List.mem_singleton] at hx
      subst hx
      exact ht (.inr hl)
    | row ce sz t =>
      have hrow := hw.rows j hj k ce sz t hg i hi
      simp only [entSelf, List.mem_cons, List.not_mem_nil, or_false] at hx
      have : ∃ d, d < 4 ∧ x = k + d := by
        rcases hx with rfl | rfl | rfl | rfl
        · exact ⟨0, by omega, rfl⟩
        · exact ⟨1, by omega, rfl⟩
        · exact ⟨2, by omega, rfl⟩
        · exact ⟨3, by omega, rfl⟩
      obtain ⟨d, h1, rfl⟩ := this
      exact ht (.inr (hrow d h1 hl))
  have hheap : ∀ {k j e}, ¬ tch sts cs i k → j ≤ n → cut n sts cs listed k j → getE (sts j).m (sts j).o k = some e → ∀ b, blkE β k e = some b → w'.heap[b]? = w.heap[b]? := by
    intro k j e ht hj hcut hg b hb
    have hl := (inv.mem k j hj hcut e hg).blk b hb
    refine hch.frame b hl.2.1 fun k0 e0 hk0 hg0 hb0 => ?_
    rw [km, ko] at hg0
    have := inv.inj k k0 j i hj (by omega) hcut (hcc k0 hk0) e e0 b hg hg0 hb hb0
    exact ht (.inl (this ▸ hk0))
  have hstep := hw.step hi ho
  have hsz : a.tmps.size = (sts i).n := by rw [(hw.n0 i (by omega)).1]; exact inv.size
  have hput : ∀ (t : Nat), (a.put o.dst val).tmps[t]? = if o.dst = some t then some val else a.tmps[t]? := fun t => by
    cases hdst : o.dst with
    | none => simp [Act.put]
    | some d =>
      rw [getElem?_put t (by rw [hsz]; exact hstep.2.2.2.2.2.2.1 d hdst)]
      simp only [Option.some.injEq]
  refine ⟨by simp [inv.lsize], fun j oj hj hl e he hb => ?_, fun j hj => by rw [hget j (by omega)]; exact inv.only j hj, by rw [put_size]; exact inv.size, by rw [put_dfr]; exact inv.dfr, hch.below inv.below hCm,
    fun t j p hjn hj hpt hl hn => ?_, fun t ht => ?_, fun k j hj hcut e hg => ?_, fun k j hj hcut e hg x hx m hm hl => ?_, fun k k' j j' hj hj' hcut hcut' e e' b hg hg' hb hb' => ?_, fun k e hg => ?_, fun b hb => ?_, fun k hk => ?_⟩
  · rw [getD_set listed i _ hil] at hl ⊢
    by_cases hon : i = e.on
    · rw [if_pos hon]
    · rw [if_neg hon]
      by_cases hij : i = j
      · subst hij
        rw [ho] at hj
        cases hj
        exact hr e he hb
      · rw [if_neg hij] at hl
        exact inv.closed j oj hj hl e he hb
  · rw [hput]
    have hsame : SameS ρ (getS (sts (j + 1)).t t) (getS (sts n).t t) := by
      refine hw.same n (j + 1) (by omega) (Nat.le_refl _) fun m h1 h3 q hq hqt => ?_
      rcases ((drawOk_spec hd hq).2 j p hj t hpt).1 with h4 | h4
      · omega
      · exact h4 hqt
    have hsv : getS (sts (j + 1)).t t = svs j := (hw.step hjn hj).2.2.2.2.2.1 t hpt
    by_cases hij : i = j
    · subst hij
      rw [ho] at hj
      cases hj
      rw [if_pos hpt]
      have h5 : svs i ≠ .any := by rw [← hsv]; exact hsame.any hn
      rw [hval h5, ← hsame.den, hsv]
    · rw [hget j hij] at hl
      have hne : o.dst ≠ some t := by
        rcases ((drawOk_spec hd ho).2 j p hj t hpt).1 with h4 | h4
        · exact (hij h4).elim
        · exact h4
      rw [if_neg hne, inv.s2 t j p hjn hj hpt hl hn]
      refine congrArg some (SV.den_ids fun y hy => hoff y fun hly => ?_).symm
      have hy2 := hsame.ids hy
      rw [hsv] at hy2
      have hlt := svIds_lt (hsv ▸ (hw.wf (j + 1) (by omega)).t t) _ hy2
      rcases Nat.lt_or_ge i j with a1 | a1
      · have := later inv hun (Array.getElem?_eq_some_iff.1 hj).1 (hw.dst hjn hj hpt hy2 a1 hly)
        rw [hl] at this; cases this
      · have := hw.nk i (j + 1) (by omega) (by omega)
        have := hly.1
        omega
  · have hne : o.dst ≠ some t := by
      intro he
      have := ht i o hi ho he
      rw [hgi] at this
      cases this
    rw [hput, if_neg hne]
    refine inv.s3 t fun j p hjn hj hpt => ?_
    have := ht j p hjn hj hpt
    by_cases hij : i = j
    · subst hij; rw [hgi] at this; cases this
    · rwa [hget j hij] at this
  · by_cases htc : tch sts cs i k
    · rw [tcut htc hj hcut] at hg
      exact (hch.new k e (told htc) hg).1
    · have hcut2 := ucut htc hcut
      refine (inv.mem k j hj hcut2 e hg).keepI (hself htc hj hg) (fun x hx => hoff x fun hl => ?_) (hheap htc hj hcut2 hg)
      have := inv.std k j hj hcut2 e hg x hx i hi hl
      rw [hun] at this; cases this
  · by_cases htc : tch sts cs i k
    · rw [tcut htc hj hcut] at hg
      exact hmono m (hids k e (told htc) hg x hx m hm hl)
    · exact hmono m (inv.std k j hj (ucut htc hcut) e hg x hx m hm hl)
  · have cross : ∀ {k k' j j' e e'}, tch sts cs i k → ¬ tch sts cs i k' → j ≤ n → j' ≤ n → cut n sts cs (listed.setIfInBounds i true) k j → cut n sts cs (listed.setIfInBounds i true) k' j' → getE (sts j).m (sts j).o k = some e → getE (sts j').m (sts j').o k' = some e' → blkE β' k e = some b → blkE β' k' e' = some b → False := by
      intro k k' j j' e e' h1 h2 hj hj' hcut hcut' hg hg' hb hb'
      have hcut2 := ucut h2 hcut'
      rw [blkE_keepI (hself h2 hj' hg')] at hb'
      have hl := (inv.mem k' j' hj' hcut2 e' hg').blk b hb'
      rw [tcut h1 hj hcut] at hg
      rcases (hch.new k e (told h1) hg).2 b hb with h3 | ⟨k0, e0, h3, h4, h5, _⟩
      · omega
      · rw [km, ko] at h4
        have := inv.inj k0 k' i j' (by omega) hj' (hcc k0 h3) hcut2 e0 e' b h4 hg' h5 hb'
        exact h2 (.inl (this ▸ h3))
    by_cases h1 : tch sts cs i k <;> by_cases h2 : tch sts cs i k'
    · rw [tcut h1 hj hcut] at hg
      rw [tcut h2 hj' hcut'] at hg'
      exact hch.inj k k' e e' (told h1) (told h2) hg hg'
    · exact (cross h1 h2 hj hj' hcut hcut' hg hg' hb hb').elim
    · exact (cross h2 h1 hj' hj hcut' hcut hg' hg hb' hb).elim
    · rw [blkE_keepI (hself h1 hj hg)] at hb
      rw [blkE_keepI (hself h2 hj' hg')] at hb'
      exact inv.inj k k' j j' hj hj' (ucut h1 hcut) (ucut h2 hcut') e e' b hg hg' hb hb'
  · exact hch.other hCm (inv.lps k e hg) (by simp)
  · exact hch.other hCm (inv.ded b hb) (by simp)
  · have := hw.nk i 0 (by omega) (by omega)
    rw [hoff k fun hl => by have := hl.1; omega]
    exact inv.agree k hk

theorem inv_step {r : Option Nat} {mm : Nat} (hw : Way P W ops n ρ sts svs cs rd wr) (hd : drawOk ops = true) {a0 a : Act} {β0 β : Nat → Nat} {w0 w : World} (hC : Core W R Z ρ β0 (sts 0) a0 w0)
    {listed : Array Bool} (inv : Inv W R Z ops n ρ sts cs a0 β0 listed a w β) {i : Nat} {o : Oper} (hi : i < n) (ho : ops[i]? = some o) (hun : listed.getD i false = false) (hr : ∀ e ∈ o.after, Region.binds .any e = true → listed.getD e.on false = true)
    {Q' : Exit → Act → World → Prop} {K : Act → World → Prop} (hK : ∀ a' w' β', Inv W R Z ops n ρ sts cs a0 β0 (listed.setIfInBounds i true) a' w' β' → K a' w') : wpOpIn (Fr r) mm P ops Q' i K a w := by
  have hwi := hw.wf i (by omega)
  have hfct := hw.fct i o hi ho
  have next : ∀ s1, Knw ρ (sts i) s1 → Stp s1 o (sts (i + 1)) (svs i) (cs i) → ∀ val β' w', (svs i ≠ .any → val = (svs i).den ρ β') → Chg W s1 (sts (i + 1)) ρ (cs i) β β' w w' → (∀ k ∈ cs i, cut n sts cs listed k i) →
      (∀ k e', (k ∈ cs i ∨ s1.c.nk ≤ k) → getE (sts (i + 1)).m (sts (i + 1)).o k = some e' → ∀ x ∈ entIds e', ∀ m, m < n → laid sts m x → listed.getD m false = true) → K (a.put o.dst val) w' :=
    fun s1 hk hst val β' w' hval hch hcc hids => hK _ _ _ (inv_chg hw hd hC inv hi ho hun hr hk hst hval hch hcc hids)
  unfold wpOpIn
  simp only [ho]
  generalize hs' : sts (i + 1) = s' at hfct next
  generalize hsv : svs i = sv at hfct next
  generalize hcs : cs i = C at hfct next
  cases hfct with
  | skip s1 k wt p =>
    rw [wanted_at hw hd hC inv hi ho hun hr wt]
    simp only [Bool.false_eq_true, if_false]
    refine ⟨fun f _ => fr_fn r f, next s1 k (skip_stp (k.wf hwi) p) undef β w (fun _ => rfl) (chg_quiet (k.wf hwi) ?_ (Below.refl _ _)) (fun k hk => by cases hk) ?_⟩
    · obtain ⟨q1, q2, q3, q4, q5, q6⟩ := putS_c s1 o.dst .und s1.c
      rw [q2, q4]
    · intro k' e' hk' hg
      obtain ⟨q1, q2, q3, q4, q5, q6⟩ := putS_c s1 o.dst .und s1.c
      rcases hk' with hk' | hk'
      · cases hk'
      · rw [q2, q4, (k.wf hwi).beyond hk'] at hg; cases hg
  | run s1 _ _ _ k wt nd f h1 h2 h4 h5 =>
    rw [wanted_at hw hd hC inv hi ho hun hr wt]
    simp only [if_true]
    obtain ⟨kc, km, kn, ko, kr, kd⟩ := k.c
    have hcut : ∀ kk ∈ readsOf s1 o ++ writesOf s1 o, kk < (sts i).c.nk → cut n sts cs listed kk i := fun kk hkk hlt =>
      cut_of hw inv hi ho hun hr hlt (by
        rcases List.mem_append.1 hkk with h | h
        · exact .inl (h4 kk h)
        · exact .inr (h5 kk h)) fun m hm hl => h1 kk (List.mem_append.2 (.inl hkk)) m hm hl
    refine wpIn_of_wp r mm nd (f.sem β a w inv.below (ops_at hw hd hC inv hi ho hun hr k) (fun kk hkk e hg => ?_) K Q' fun β' v w' hv hch => next s1 k f.stp v β' w' hv hch (fun kk hkk => ?_) fun kk e' hkk hg x hx m hm hl => ?_)
    · rw [km, ko] at hg
      exact inv.mem kk i (by omega) (hcut kk hkk (entWf_lt (hwi.ent hg))) e hg
    · have := f.chg kk hkk
      exact hcut kk (List.mem_append.2 (.inr this.1)) (by rw [← kc]; exact this.2)
    · rcases f.ids kk e' hkk hg x hx with h | ⟨j, e, hj, hge, hxe⟩
      · have hlt := valIds_lt (k.wf hwi) x h
        rw [kc] at hlt
        have hmi : m < i := by
          rcases Nat.lt_or_ge m i with h' | h'
          · exact h'
          · have := hw.nk m i h' (by omega)
            have := hl.1
            omega
        exact reach_listed inv.closed 3 i m o ho hr (h1 x (List.mem_append.2 (.inr h)) m hmi hl)
      · rw [km, ko] at hge
        exact inv.std j i (by omega) (hcut j hj (entWf_lt (hwi.ent hge))) e hge x hxe m hm hl

theorem inv_core (hw : Way P W ops n ρ sts svs cs rd wr) {a0 a : Act} {β0 β : Nat → Nat} {w0 w : World} (hC : Core W R Z ρ β0 (sts 0) a0 w0) {listed : Array Bool} (inv : Inv W R Z ops n ρ sts cs a0 β0 listed a w β)
    (hall : ∀ j, j < n → listed.getD j false = true) : Core W R Z ρ β (sts n) a w := by
  obtain ⟨n1, n2, n3, n4⟩ := hw.n0 n (Nat.le_refl _)
  have hcut : ∀ k, cut n sts cs listed k n := fun k m hm _ => ⟨fun _ => hall m hm, fun _ => hm⟩
  have hmap : (sts 0).d.map β = (sts 0).d.map β0 := List.map_congr_left fun k hk => inv.agree k (hC.wf.d k hk)
  refine ⟨by rw [n1]; exact inv.size, fun t hn => ?_, ?_, inv.below, fun k e hg => inv.mem k n (Nat.le_refl _) (hcut k) e hg, fun k k' e e' b hg hg' hb hb' => inv.inj k k' n n (Nat.le_refl _) (Nat.le_refl _) (hcut k) (hcut k') e e' b hg hg' hb hb',
    fun k e hg => ?_, fun k k' e e' hg hg' he => ?_, fun b hb => ?_, ?_, hw.wf n (Nat.le_refl _)⟩
  · by_cases hx : ∃ (j : Nat) (p : Oper), j < n ∧ ops[j]? = some p ∧ p.dst = some t
    · obtain ⟨j, p, hj, hp, hpt⟩ := hx
      exact inv.s2 t j p hj hp hpt (hall j hj) hn
    · have hnone : ∀ (m : Nat) (o' : Oper), m < n → ops[m]? = some o' → o'.dst ≠ some t := fun m o' hmn hm he => hx ⟨m, o', hmn, hm, he⟩
      have hsame : SameS ρ (getS (sts 0).t t) (getS (sts n).t t) := hw.same n 0 (by omega) (Nat.le_refl _) fun m _ h q hq => hnone m q h hq
      rw [inv.s3 t (fun m o' hmn hm he => (hnone m o' hmn hm he).elim), hC.tmps t (hsame.any hn), ← hsame.den, SV.den_like (Env.like_refl _ ρ) inv.agree (hC.wf.t t)]
  · rw [n3, inv.dfr]
    simp only [marksOf]
    exact List.map_congr_left fun k hk => by rw [inv.agree k (hC.wf.d k hk)]
  · rw [n2] at hg
    rw [inv.agree k (hC.wf.r k e hg)]
    exact ⟨(hC.lps k e hg).1, inv.lps k e hg⟩
  · rw [n2] at hg hg'
    rw [inv.agree k (hC.wf.r k e hg), inv.agree k' (hC.wf.r k' e' hg')] at he
    exact hC.rin k k' e e' hg hg' he
  · rw [n3, hmap] at hb
    exact ⟨(hC.ded b hb).1, inv.ded b hb⟩
  · rw [n3, hmap]
    exact hC.dn

theorem inv_start {a0 : Act} {β0 : Nat → Nat} {w0 : World} (hw : Way P W ops n ρ sts svs cs rd wr) (hC : Core W R Z ρ β0 (sts 0) a0 w0) : Inv W R Z ops n ρ sts cs a0 β0 (Array.replicate ops.size false) a0 w0 β0 := by
  have hf : ∀ j, (Array.replicate ops.size false).getD j false = false := fun j => by
    rw [Array.getD_eq_getD_getElem?, Array.getElem?_replicate]
    split <;> rfl
  have h0 : ∀ {k i}, i ≤ n → cut n sts cs (Array.replicate ops.size false) k i → getE (sts i).m (sts i).o k = getE (sts 0).m (sts 0).o k := fun {k i} hi hcut =>
    hw.chain i 0 (by omega) hi fun m _ h2 ht => by
      have := (hcut m (by omega) ht).1 h2
      rw [hf m] at this; cases this
  refine ⟨by simp, fun j oj _ h => (by rw [hf j] at h; cases h), fun j _ => hf j, hC.size, hC.dfr, hC.below, fun t i o _ _ _ h => (by rw [hf i] at h; cases h), fun _ _ => rfl, fun k i hi hcut e hg => ?_, fun k i hi hcut e hg x hx m hm hl => ?_, fun k k' i i' hi hi' hcut hcut' e e' b hg hg' hb hb' => ?_,
    fun k e hg => (hC.lps k e hg).2, fun b hb => (hC.ded b hb).2, fun _ _ => rfl⟩
  · rw [h0 hi hcut] at hg
    exact hC.mem k e hg
  · rw [h0 hi hcut] at hg
    have hlt : x < (sts 0).c.nk := by
      have hwe := hC.wf.ent hg
      cases e with
      | fix c t => exact ids_lt hwe.2 x hx
      | row ce sz t =>
        obtain ⟨s, hs, hxs⟩ := List.mem_flatMap.1 hx
        have := List.all_eq_true.1 hwe.2 s hs
        cases s with
        | ats l => exact ids_lt this x hxs
        | var i => cases hxs
    have := hw.nk m 0 (by omega) (by omega)
    have := hl.1
    omega
  · rw [h0 hi hcut] at hg
    rw [h0 hi' hcut'] at hg'
    exact hC.inj k k' e e' b hg hg' hb hb'
end Vc
