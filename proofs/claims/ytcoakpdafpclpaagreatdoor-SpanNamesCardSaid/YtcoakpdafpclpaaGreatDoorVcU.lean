/- Vc, parts S, T, U. No program in sight. -/
import Derived.Test.YtcoakpdafpclpaaGreatDoorVcR
import Derived.OrdersIn
import Derived.StillTail
/- Vc, part S: a drawn region, in whatever order: one operation more. No program in sight. -/
set_option linter.unusedVariables false
set_option linter.unusedSimpArgs false
namespace Vc
open Go Go.RowKit
variable {P : Program} {W : Wld} {R : Nat → Loop} {Z : List Nat} {ops : Array Oper} {n : Nat} {ρ : Env} {sts : Nat → St} {svs : Nat → SV} {cs : Nat → List Nat} {rd wr : List (Nat × Nat)}

theorem chg_cells {s1 s' : St} {C : List Nat} {β β' : Nat → Nat} {w w' : World} (h : Chg W s1 s' ρ C β β' w w') (hC : ∀ k e, k ∈ C → getE s1.m s1.o k = some e → Holds W ρ β k e w) {b : Nat} {o : Obj} (hb : w.heap[b]? = some o)
    (ho : ∀ c t, o ≠ .cells c t (0, 0)) : w'.heap[b]? = some o := h.other hC hb ho

theorem inv_chg (hw : Way P W ops n ρ sts svs cs rd wr) (hd : drawOk ops = true) {a0 a : Act} {β0 β β' : Nat → Nat} {w w' w0 : World} (hC0 : Core W R Z ρ β0 (sts 0) a0 w0) {listed : Array Bool} (inv : Inv W R Z ops n ρ sts cs a0 β0 listed a w β) {i : Nat} {o : Oper} (hi : i < n) (ho : ops[i]? = some o)
    (hun : listed.getD i false = false) (hr : ∀ e ∈ o.after, Region.binds .any e = true → listed.getD e.on false = true) {s1 : St} (hk : Knw ρ (sts i) s1) (hst : Stp s1 o (sts (i + 1)) (svs i) (cs i)) {val : Value} (hval : svs i ≠ .any → val = (svs i).den ρ β')
    (hch : Chg W s1 (sts (i + 1)) ρ (cs i) β β' w w') (hcc : ∀ k ∈ cs i, cut n sts cs listed k i)
    (hids : ∀ k e', (k ∈ cs i ∨ s1.c.nk ≤ k) → getE (sts (i + 1)).m (sts (i + 1)).o k = some e' → ∀ x ∈ entIds e', ∀ m, m < n → laid sts m x → listed.getD m false = true) :
    Inv W R Z ops n ρ sts cs a0 β0 (listed.setIfInBounds i true) (a.put o.dst val) w' β' := by
  have his : i < ops.size := Nat.lt_of_lt_of_le hi hw.le
  have hil : i < listed.size := by rw [inv.lsize]; exact his
  obtain ⟨kc, km, kn, ko, kr, kd⟩ := hk.c
  have hget : ∀ m, i ≠ m → (listed.setIfInBounds i true).getD m false = listed.getD m false := fun m hm => by rw [getD_set listed i m hil, if_neg hm]
  have hgi : (listed.setIfInBounds i true).getD i false = true := by rw [getD_set listed i i hil, if_pos rfl]
  have hmono : ∀ m, listed.getD m false = true → (listed.setIfInBounds i true).getD m false = true := fun m hm => by
    rw [getD_set listed i m hil]; split
    · rfl
    · exact hm
  have hoff : ∀ k, ¬ laid sts i k → β' k = β k := fun k hk => hch.off k (by rw [kc]; exact hk)
  have hCm : ∀ k e, k ∈ cs i → getE s1.m s1.o k = some e → Holds W ρ β k e w := fun k e hkc hg => inv.mem k i (by omega) (hcc k hkc) e (by rw [km, ko] at hg; exact hg)
  -- an object that is touched
  have tcut : ∀ {k j}, tch sts cs i k → j ≤ n → cut n sts cs (listed.setIfInBounds i true) k j → getE (sts j).m (sts j).o k = getE (sts (i + 1)).m (sts (i + 1)).o k := by
    intro k j ht hj hcut
    have hij : i < j := (hcut i hi ht).2 hgi
    refine hw.chain j (i + 1) (by omega) hj fun m a1 a2 htm => ?_
    have hmn : m < n := by omega
    have hlm := (hcut m hmn htm).1 a2
    rw [hget m (by omega)] at hlm
    have no : ∀ h : reach ops 3 m i = true, False := fun h => by
      rw [later inv hun (Nat.lt_of_lt_of_le hmn hw.le) h] at hlm; cases hlm
    have hnk := hw.nk m (i + 1) a1 (by omega)
    have hnk2 := hw.nk (i + 1) i (by omega) (by omega)
    rcases ht with hc | hl <;> rcases htm with hc2 | hl2
    · obtain ⟨b1, _, _⟩ := hw.cls hi hc
      obtain ⟨c1, _, _⟩ := hw.cls hmn hc2
      rcases hw.apart k m i (.inr c1) b1 with rfl | ⟨_, d2⟩ | ⟨d1, _⟩
      · omega
      · rw [laterO inv hun (Nat.lt_of_lt_of_le hmn hw.le) d2] at hlm; cases hlm
      · omega
    · have := (hw.cls hi hc).2.1
      have := hl2.1
      omega
    · exact no ((hw.cls hmn hc2).2.2 i (by omega) hl)
    · have := hl.2
      have := hl2.1
      omega
  have told : ∀ {k}, tch sts cs i k → k ∈ cs i ∨ s1.c.nk ≤ k := fun ht => by
    rcases ht with h | h
    · exact .inl h
    · rw [kc]; exact .inr h.1
  -- one that is not
  have ucut : ∀ {k j}, ¬ tch sts cs i k → cut n sts cs (listed.setIfInBounds i true) k j → cut n sts cs listed k j := fun {k j} ht hcut m hm hmt => by
    have := hcut m hm hmt
    rwa [hget m (fun e => ht (e ▸ hmt))] at this
  have hself : ∀ {k j e}, ¬ tch sts cs i k → j ≤ n → getE (sts j).m (sts j).o k = some e → ∀ x ∈ entSelf k e, β' x = β x := by
    intro k j e ht hj hg x hx
    refine hoff x fun hl => ?_
    cases e with
    | fix c t =>
      simp only [entSelf, List.mem_singleton] at hx
      subst hx
      exact ht (.inr hl)
    | row ce sz t =>
      have hrow := hw.rows j hj k ce sz t hg i hi
      simp only [entSelf, List.mem_cons, List.not_mem_nil, or_false] at hx
      have : ∃ d, d < 4 ∧ x = k + d := by
        rcases hx with rfl | rfl | rfl | rfl
        · exact ⟨0, by omega, rfl⟩
        · exact ⟨1, by omega, rfl⟩
        · exact ⟨2, by omega, rfl⟩
        · exact ⟨3, by omega, rfl⟩
      obtain ⟨d, h1, rfl⟩ := this
      exact ht (.inr (hrow d h1 hl))
  have hheap : ∀ {k j e}, ¬ tch sts cs i k → j ≤ n → cut n sts cs listed k j → getE (sts j).m (sts j).o k = some e → ∀ b, blkE β k e = some b → w'.heap[b]? = w.heap[b]? := by
    intro k j e ht hj hcut hg b hb
    have hl := (inv.mem k j hj hcut e hg).blk b hb
    refine hch.frame b hl.2.1 fun k0 e0 hk0 hg0 hb0 => ?_
    rw [km, ko] at hg0
    have := inv.inj k k0 j i hj (by omega) hcut (hcc k0 hk0) e e0 b hg hg0 hb hb0
    exact ht (.inl (this ▸ hk0))
  have hstep := hw.step hi ho
  have hsz : a.tmps.size = (sts i).n := by rw [(hw.n0 i (by omega)).1]; exact inv.size
  have hput : ∀ (t : Nat), (a.put o.dst val).tmps[t]? = if o.dst = some t then some val else a.tmps[t]? := fun t => by
    cases hdst : o.dst with
    | none => simp [Act.put]
    | some d =>
      rw [getElem?_put t (by rw [hsz]; exact hstep.2.2.2.2.2.2.1 d hdst)]
      simp only [Option.some.injEq]
  refine ⟨by simp [inv.lsize], fun j oj hj hl e he hb => ?_, fun j hj => by rw [hget j (by omega)]; exact inv.only j hj, by rw [put_size]; exact inv.size, by rw [put_dfr]; exact inv.dfr, hch.below inv.below hCm,
    fun t j p hjn hj hpt hl hn => ?_, fun t ht => ?_, fun k j hj hcut e hg => ?_, fun k j hj hcut e hg x hx m hm hl => ?_, fun k k' j j' hj hj' hcut hcut' e e' b hg hg' hb hb' => ?_, fun k e hg => ?_, fun b hb => ?_, fun k hk => ?_⟩
  · rw [getD_set listed i _ hil] at hl ⊢
    by_cases hon : i = e.on
    · rw [if_pos hon]
    · rw [if_neg hon]
      by_cases hij : i = j
      · subst hij
        rw [ho] at hj
        cases hj
        exact hr e he hb
      · rw [if_neg hij] at hl
        exact inv.closed j oj hj hl e he hb
  · rw [hput]
    have hsame : SameS ρ (getS (sts (j + 1)).t t) (getS (sts n).t t) := by
      refine hw.same n (j + 1) (by omega) (Nat.le_refl _) fun m h1 h3 q hq hqt => ?_
      rcases ((drawOk_spec hd hq).2 j p hj t hpt).1 with h4 | h4
      · omega
      · exact h4 hqt
    have hsv : getS (sts (j + 1)).t t = svs j := (hw.step hjn hj).2.2.2.2.2.1 t hpt
    by_cases hij : i = j
    · subst hij
      rw [ho] at hj
      cases hj
      rw [if_pos hpt]
      have h5 : svs i ≠ .any := by rw [← hsv]; exact hsame.any hn
      rw [hval h5, ← hsame.den, hsv]
    · rw [hget j hij] at hl
      have hne : o.dst ≠ some t := by
        rcases ((drawOk_spec hd ho).2 j p hj t hpt).1 with h4 | h4
        · exact (hij h4).elim
        · exact h4
      rw [if_neg hne, inv.s2 t j p hjn hj hpt hl hn]
      refine congrArg some (SV.den_ids fun y hy => hoff y fun hly => ?_).symm
      have hy2 := hsame.ids hy
      rw [hsv] at hy2
      have hlt := svIds_lt (hsv ▸ (hw.wf (j + 1) (by omega)).t t) _ hy2
      rcases Nat.lt_or_ge i j with a1 | a1
      · have := later inv hun (Array.getElem?_eq_some_iff.1 hj).1 (hw.dst hjn hj hpt hy2 a1 hly)
        rw [hl] at this; cases this
      · have := hw.nk i (j + 1) (by omega) (by omega)
        have := hly.1
        omega
  · have hne : o.dst ≠ some t := by
      intro he
      have := ht i o hi ho he
      rw [hgi] at this
      cases this
    rw [hput, if_neg hne]
    refine inv.s3 t fun j p hjn hj hpt => ?_
    have := ht j p hjn hj hpt
    by_cases hij : i = j
    · subst hij; rw [hgi] at this; cases this
    · rwa [hget j hij] at this
  · by_cases htc : tch sts cs i k
    · rw [tcut htc hj hcut] at hg
      exact (hch.new k e (told htc) hg).1
    · have hcut2 := ucut htc hcut
      refine (inv.mem k j hj hcut2 e hg).keepI (hself htc hj hg) (fun x hx => hoff x fun hl => ?_) (hheap htc hj hcut2 hg)
      have := inv.std k j hj hcut2 e hg x hx i hi hl
      rw [hun] at this; cases this
  · by_cases htc : tch sts cs i k
    · rw [tcut htc hj hcut] at hg
      exact hmono m (hids k e (told htc) hg x hx m hm hl)
    · exact hmono m (inv.std k j hj (ucut htc hcut) e hg x hx m hm hl)
  · have cross : ∀ {k k' j j' e e'}, tch sts cs i k → ¬ tch sts cs i k' → j ≤ n → j' ≤ n → cut n sts cs (listed.setIfInBounds i true) k j → cut n sts cs (listed.setIfInBounds i true) k' j' → getE (sts j).m (sts j).o k = some e → getE (sts j').m (sts j').o k' = some e' → blkE β' k e = some b → blkE β' k' e' = some b → False := by
      intro k k' j j' e e' h1 h2 hj hj' hcut hcut' hg hg' hb hb'
      have hcut2 := ucut h2 hcut'
      rw [blkE_keepI (hself h2 hj' hg')] at hb'
      have hl := (inv.mem k' j' hj' hcut2 e' hg').blk b hb'
      rw [tcut h1 hj hcut] at hg
      rcases (hch.new k e (told h1) hg).2 b hb with h3 | ⟨k0, e0, h3, h4, h5, _⟩
      · omega
      · rw [km, ko] at h4
        have := inv.inj k0 k' i j' (by omega) hj' (hcc k0 h3) hcut2 e0 e' b h4 hg' h5 hb'
        exact h2 (.inl (this ▸ h3))
    by_cases h1 : tch sts cs i k <;> by_cases h2 : tch sts cs i k'
    · rw [tcut h1 hj hcut] at hg
      rw [tcut h2 hj' hcut'] at hg'
      exact hch.inj k k' e e' b (told h1) (told h2) hg hg' hb hb'
    · exact (cross h1 h2 hj hj' hcut hcut' hg hg' hb hb').elim
    · exact (cross h2 h1 hj' hj hcut' hcut hg' hg hb' hb).elim
    · rw [blkE_keepI (hself h1 hj hg)] at hb
      rw [blkE_keepI (hself h2 hj' hg')] at hb'
      exact inv.inj k k' j j' hj hj' (ucut h1 hcut) (ucut h2 hcut') e e' b hg hg' hb hb'
  · exact hch.other hCm (inv.lps k e hg) (by simp)
  · exact hch.other hCm (inv.ded b hb) (by simp)
  · have := hw.nk i 0 (by omega) (by omega)
    rw [hoff k fun hl => by have := hl.1; omega]
    exact inv.agree k hk

theorem inv_step {r : Option Nat} {mm : Nat} (hw : Way P W ops n ρ sts svs cs rd wr) (hd : drawOk ops = true) {a0 a : Act} {β0 β : Nat → Nat} {w0 w : World} (hC : Core W R Z ρ β0 (sts 0) a0 w0)
    {listed : Array Bool} (inv : Inv W R Z ops n ρ sts cs a0 β0 listed a w β) {i : Nat} {o : Oper} (hi : i < n) (ho : ops[i]? = some o) (hun : listed.getD i false = false) (hr : ∀ e ∈ o.after, Region.binds .any e = true → listed.getD e.on false = true)
    {Q' : Exit → Act → World → Prop} {K : Act → World → Prop} (hK : ∀ a' w' β', Inv W R Z ops n ρ sts cs a0 β0 (listed.setIfInBounds i true) a' w' β' → K a' w') : wpOpIn (Fr r) mm P ops Q' i K a w := by
  have hwi := hw.wf i (by omega)
  have hfct := hw.fct i o hi ho
  have next : ∀ s1, Knw ρ (sts i) s1 → Stp s1 o (sts (i + 1)) (svs i) (cs i) → ∀ val β' w', (svs i ≠ .any → val = (svs i).den ρ β') → Chg W s1 (sts (i + 1)) ρ (cs i) β β' w w' → (∀ k ∈ cs i, cut n sts cs listed k i) →
      (∀ k e', (k ∈ cs i ∨ s1.c.nk ≤ k) → getE (sts (i + 1)).m (sts (i + 1)).o k = some e' → ∀ x ∈ entIds e', ∀ m, m < n → laid sts m x → listed.getD m false = true) → K (a.put o.dst val) w' :=
    fun s1 hk hst val β' w' hval hch hcc hids => hK _ _ _ (inv_chg hw hd hC inv hi ho hun hr hk hst hval hch hcc hids)
  unfold wpOpIn
  simp only [ho]
  generalize hs' : sts (i + 1) = s' at hfct next
  generalize hsv : svs i = sv at hfct next
  generalize hcs : cs i = C at hfct next
  cases hfct with
  | skip s1 k wt p =>
    rw [wanted_at hw hd hC inv hi ho hun hr wt]
    simp only [Bool.false_eq_true, if_false]
    refine ⟨fun f _ => fr_fn r f, next s1 k (skip_stp (k.wf hwi) p) undef β w (fun _ => rfl) (chg_quiet (k.wf hwi) ?_ (Below.refl _ _)) (fun k hk => by cases hk) ?_⟩
    · obtain ⟨q1, q2, q3, q4, q5, q6⟩ := putS_c s1 o.dst .und s1.c
      rw [q2, q4]
    · intro k' e' hk' hg
      obtain ⟨q1, q2, q3, q4, q5, q6⟩ := putS_c s1 o.dst .und s1.c
      rcases hk' with hk' | hk'
      · cases hk'
      · rw [q2, q4, (k.wf hwi).beyond hk'] at hg; cases hg
  | run s1 _ _ _ k wt nd f h1 h2 h4 h5 =>
    rw [wanted_at hw hd hC inv hi ho hun hr wt]
    simp only [if_true]
    obtain ⟨kc, km, kn, ko, kr, kd⟩ := k.c
    have hcut : ∀ kk ∈ readsOf s1 o ++ writesOf s1 o, kk < (sts i).c.nk → cut n sts cs listed kk i := fun kk hkk hlt =>
      cut_of hw inv hi ho hun hr hlt (by
        rcases List.mem_append.1 hkk with h | h
        · exact .inl (h4 kk h)
        · exact .inr (h5 kk h)) fun m hm hl => h1 kk (List.mem_append.2 (.inl hkk)) m hm hl
    refine wpIn_of_wp r mm nd (f.sem β a w inv.below (ops_at hw hd hC inv hi ho hun hr k) (fun kk hkk e hg => ?_) (fun kk kk' e e' b hkk hkk' hg hg' hb hb' => ?_) K Q' fun β' v w' hv hch => next s1 k f.stp v β' w' hv hch (fun kk hkk => ?_) fun kk e' hkk hg x hx m hm hl => ?_)
    · rw [km, ko] at hg
      exact inv.mem kk i (by omega) (hcut kk hkk (entWf_lt (hwi.ent hg))) e hg
    · rw [km, ko] at hg hg'
      exact inv.inj kk kk' i i (by omega) (by omega) (hcut kk (List.mem_append.2 (.inr hkk)) (entWf_lt (hwi.ent hg))) (hcut kk' (List.mem_append.2 (.inr hkk')) (entWf_lt (hwi.ent hg'))) e e' b hg hg' hb hb'
    · have := f.chg kk hkk
      exact hcut kk (List.mem_append.2 (.inr this.1)) (by rw [← kc]; exact this.2)
    · rcases f.ids kk e' hkk hg x hx with h | ⟨j, e, hj, hge, hxe⟩
      · have hlt := valIds_lt (k.wf hwi) x h
        rw [kc] at hlt
        have hmi : m < i := by
          rcases Nat.lt_or_ge m i with h' | h'
          · exact h'
          · have := hw.nk m i h' (by omega)
            have := hl.1
            omega
        exact reach_listed inv.closed 3 i m o ho hr (h1 x (List.mem_append.2 (.inr h)) m hmi hl)
      · rw [km, ko] at hge
        exact inv.std j i (by omega) (hcut j hj (entWf_lt (hwi.ent hge))) e hge x hxe m hm hl

theorem inv_core (hw : Way P W ops n ρ sts svs cs rd wr) {a0 a : Act} {β0 β : Nat → Nat} {w0 w : World} (hC : Core W R Z ρ β0 (sts 0) a0 w0) {listed : Array Bool} (inv : Inv W R Z ops n ρ sts cs a0 β0 listed a w β)
    (hall : ∀ j, j < n → listed.getD j false = true) : Core W R Z ρ β (sts n) a w := by
  obtain ⟨n1, n2, n3, n4⟩ := hw.n0 n (Nat.le_refl _)
  have hcut : ∀ k, cut n sts cs listed k n := fun k m hm _ => ⟨fun _ => hall m hm, fun _ => hm⟩
  have hmap : (sts 0).d.map β = (sts 0).d.map β0 := List.map_congr_left fun k hk => inv.agree k (hC.wf.d k hk)
  refine ⟨by rw [n1]; exact inv.size, fun t hn => ?_, ?_, inv.below, fun k e hg => inv.mem k n (Nat.le_refl _) (hcut k) e hg, fun k k' e e' b hg hg' hb hb' => inv.inj k k' n n (Nat.le_refl _) (Nat.le_refl _) (hcut k) (hcut k') e e' b hg hg' hb hb',
    fun k e hg => ?_, fun k k' e e' hg hg' he => ?_, fun b hb => ?_, ?_, hw.wf n (Nat.le_refl _)⟩
  · by_cases hx : ∃ (j : Nat) (p : Oper), j < n ∧ ops[j]? = some p ∧ p.dst = some t
    · obtain ⟨j, p, hj, hp, hpt⟩ := hx
      exact inv.s2 t j p hj hp hpt (hall j hj) hn
    · have hnone : ∀ (m : Nat) (o' : Oper), m < n → ops[m]? = some o' → o'.dst ≠ some t := fun m o' hmn hm he => hx ⟨m, o', hmn, hm, he⟩
      have hsame : SameS ρ (getS (sts 0).t t) (getS (sts n).t t) := hw.same n 0 (by omega) (Nat.le_refl _) fun m _ h q hq => hnone m q h hq
      rw [inv.s3 t (fun m o' hmn hm he => (hnone m o' hmn hm he).elim), hC.tmps t (hsame.any hn), ← hsame.den, SV.den_like (Env.like_refl _ ρ) inv.agree (hC.wf.t t)]
  · rw [n3, inv.dfr]
    simp only [marksOf]
    exact List.map_congr_left fun k hk => by rw [inv.agree k (hC.wf.d k hk)]
  · rw [n2] at hg
    rw [inv.agree k (hC.wf.r k e hg)]
    exact ⟨(hC.lps k e hg).1, inv.lps k e hg⟩
  · rw [n2] at hg hg'
    rw [inv.agree k (hC.wf.r k e hg), inv.agree k' (hC.wf.r k' e' hg')] at he
    exact hC.rin k k' e e' hg hg' he
  · rw [n3, hmap] at hb
    exact ⟨(hC.ded b hb).1, inv.ded b hb⟩
  · rw [n3, hmap]
    exact hC.dn

theorem inv_start {a0 : Act} {β0 : Nat → Nat} {w0 : World} (hw : Way P W ops n ρ sts svs cs rd wr) (hC : Core W R Z ρ β0 (sts 0) a0 w0) : Inv W R Z ops n ρ sts cs a0 β0 (Array.replicate ops.size false) a0 w0 β0 := by
  have hf : ∀ j, (Array.replicate ops.size false).getD j false = false := fun j => by
    rw [Array.getD_eq_getD_getElem?, Array.getElem?_replicate]
    split <;> rfl
  have h0 : ∀ {k i}, i ≤ n → cut n sts cs (Array.replicate ops.size false) k i → getE (sts i).m (sts i).o k = getE (sts 0).m (sts 0).o k := fun {k i} hi hcut =>
    hw.chain i 0 (by omega) hi fun m _ h2 ht => by
      have := (hcut m (by omega) ht).1 h2
      rw [hf m] at this; cases this
  refine ⟨by simp, fun j oj _ h => (by rw [hf j] at h; cases h), fun j _ => hf j, hC.size, hC.dfr, hC.below, fun t i o _ _ _ h => (by rw [hf i] at h; cases h), fun _ _ => rfl, fun k i hi hcut e hg => ?_, fun k i hi hcut e hg x hx m hm hl => ?_, fun k k' i i' hi hi' hcut hcut' e e' b hg hg' hb hb' => ?_,
    fun k e hg => (hC.lps k e hg).2, fun b hb => (hC.ded b hb).2, fun _ _ => rfl⟩
  · rw [h0 hi hcut] at hg
    exact hC.mem k e hg
  · rw [h0 hi hcut] at hg
    have hlt : x < (sts 0).c.nk := by
      have hwe := hC.wf.ent hg
      cases e with
      | fix c t => exact ids_lt hwe.2 x hx
      | row ce sz t =>
        obtain ⟨s, hs, hxs⟩ := List.mem_flatMap.1 hx
        have := List.all_eq_true.1 hwe.2 s hs
        cases s with
        | ats l => exact ids_lt this x hxs
        | var i => cases hxs
    have := hw.nk m 0 (by omega) (by omega)
    have := hl.1
    omega
  · rw [h0 hi hcut] at hg
    rw [h0 hi' hcut'] at hg'
    exact hC.inj k k' e e' b hg hg' hb hb'
end Vc

/- Vc, part T: drawn regions are walked soundly; functions are. No program in sight. -/
set_option linter.unusedVariables false
namespace Vc
open Go Go.RowKit
variable {P : Program} {W : Wld} {Q : Value → Prop} {QM : World → Value → Prop} {R : Nat → Loop} {Z : List Nat}

attribute [local irreducible] behind in
theorem cutOf_spec (ops : Array Oper) : ∀ m, cutOf ops m ≤ m ∧ ∀ i, cutOf ops m ≤ i → i < m → ∀ j, j < i → beh ops i j = true
  | 0 => ⟨Nat.le_refl _, fun i _ h => by omega⟩
  | m + 1 => by
    obtain ⟨h1, h2⟩ := cutOf_spec ops m
    unfold cutOf
    split
    · rename_i hall
      refine ⟨by omega, fun i h3 h4 j hj => ?_⟩
      by_cases him : i = m
      · subst him
        exact List.all_eq_true.1 hall j (List.mem_range.2 hj)
      · exact h2 i h3 (by omega) j hj
    · exact ⟨Nat.le_refl _, fun i h3 h4 => by omega⟩

section
variable {ops : Array Oper} {n : Nat} {r : Option Nat} {mm : Nat} {Q' : Exit → Act → World → Prop}

/-- The last operations come in the order of the text. -/
theorem tail_any (hd : drawOk ops = true) (hcut : ∀ i, n ≤ i → i < ops.size → ∀ j, j < i → beh ops i j = true) :
    ∀ (l : List Oper) (i : Nat) (fuel : Nat) (listed : Array Bool) (a : Act) (w : World), (∀ j, l[j]? = ops[i + j]?) → n ≤ i → i + l.length = ops.size → listed.size = ops.size → (∀ j, listed.getD j false = true ↔ j < i) →
      wpListIn (Fr r) mm P ops Q' l a w → l.length ≤ fuel → wpAnyIn (Fr r) mm P .any ops Q' fuel listed a w
  | [], i, fuel, listed, a, w, hl, hn, hlen, hsz, hli, h, hf => by
    refine wpAnyIn_done ?_ h fuel
    refine List.eq_nil_iff_forall_not_mem.2 fun j hj => ?_
    obtain ⟨h1, o, ho, _⟩ := mem_ready.1 hj
    have hjs := (Array.getElem?_eq_some_iff.1 ho).1
    have := (hli j).2 (by simp at hlen; omega)
    rw [getD_both h1] at this
    cases this
  | o :: l, i, 0, listed, a, w, hl, hn, hlen, hsz, hli, h, hf => by simp at hf
  | o :: l, i, fuel + 1, listed, a, w, hl, hn, hlen, hsz, hli, h, hf => by
    have ho : ops[i]? = some o := by have := hl 0; simpa using this.symm
    have hi : i < ops.size := (Array.getElem?_eq_some_iff.1 ho).1
    have hun : listed.getD i false = false := by
      cases hx : listed.getD i false with
      | false => rfl
      | true => have := (hli i).1 hx; omega
    have hclosed : ∀ j oj, ops[j]? = some oj → listed.getD j false = true → ∀ e ∈ oj.after, Region.binds .any e = true → listed.getD e.on false = true := fun j oj hj hlj e he hb => by
      have := (hli j).1 hlj
      have := (drawOk_spec hd hj).1 e he hb
      exact (hli e.on).2 (by omega)
    refine ⟨fun hnil => ?_, fun j hj => ?_⟩
    · exfalso
      have : i ∈ Region.ready .any ops listed := mem_ready.2 ⟨getD_in (by rw [hsz]; exact hi) hun, o, ho, fun e he hb => (hli e.on).2 ((drawOk_spec hd ho).1 e he hb)⟩
      rw [hnil] at this
      cases this
    · obtain ⟨h1, oj, hoj, hr⟩ := mem_ready.1 hj
      have hjs := (Array.getElem?_eq_some_iff.1 hoj).1
      have hij : j = i := by
        rcases Nat.lt_or_ge j i with a1 | a1
        · have := (hli j).2 a1
          rw [getD_both h1] at this; cases this
        · rcases Nat.lt_or_ge i j with a2 | a2
          · have := beh_listed hclosed hoj hr (hcut j (by omega) hjs i a2)
            rw [hun] at this; cases this
          · omega
      subst hij
      have h2 : wpOpIn (Fr r) mm P ops Q' j (wpListIn (Fr r) mm P ops Q' l) a w := by
        unfold wpOpIn
        simp only [ho]
        exact h
      have hjl : j < listed.size := by rw [hsz]; exact hjs
      refine wpOpIn_mono (fun a' w' h3 => tail_any hd hcut l (j + 1) fuel _ a' w' (fun k => ?_) (by omega) (by simp at hlen; omega) (by simp [hsz]) (fun k => ?_) h3 (by simpa using hf)) h2
      · have := hl (k + 1)
        rw [show j + 1 + k = j + (k + 1) by omega]
        simpa using this
      · rw [getD_set listed j k hjl]
        by_cases hjk : j = k
        · subst hjk; simp
        · rw [if_neg hjk, hli k]; omega

theorem unl_cut {listed : Array Bool} (h : ∀ j, listed.getD j false = true ↔ j < n) : ∀ m, unl listed m = m - n
  | 0 => by simp [unl]
  | m + 1 => by
    simp only [unl, unl_cut h m]
    by_cases hm : m < n
    · rw [if_pos ((h m).2 hm)]; omega
    · rw [if_neg (fun e => hm ((h m).1 e))]; omega

variable {ρ : Env} {sts : Nat → St} {svs : Nat → SV} {cs : Nat → List Nat} {rd wr : List (Nat × Nat)}
theorem way_any (hw : Way P W ops n ρ sts svs cs rd wr) (hd : drawOk ops = true) (hcut : ∀ i, n ≤ i → i < ops.size → ∀ j, j < i → beh ops i j = true) {a0 : Act} {β0 : Nat → Nat} {w0 : World} (hC : Core W R Z ρ β0 (sts 0) a0 w0)
    (hQ : ∀ a w β, (∀ k, k < (sts 0).c.nk → β k = β0 k) → Core W R Z ρ β (sts n) a w → wpListIn (Fr r) mm P ops Q' (ops.toList.drop n) a w) :
    ∀ (fuel : Nat) (listed : Array Bool) (a : Act) (w : World) (β : Nat → Nat), Inv W R Z ops n ρ sts cs a0 β0 listed a w β → unl listed ops.size = fuel → wpAnyIn (Fr r) mm P .any ops Q' fuel listed a w := by
  have done : ∀ (fuel : Nat) (listed : Array Bool) (a : Act) (w : World) (β : Nat → Nat), Inv W R Z ops n ρ sts cs a0 β0 listed a w β → unl listed ops.size = fuel → (∀ j, j < n → listed.getD j false = true) → wpAnyIn (Fr r) mm P .any ops Q' fuel listed a w := by
    intro fuel listed a w β inv hu hall
    have hli : ∀ j, listed.getD j false = true ↔ j < n := fun j => by
      refine ⟨fun h => ?_, hall j⟩
      rcases Nat.lt_or_ge j n with h' | h'
      · exact h'
      · rw [inv.only j h'] at h; cases h
    have hle := hw.le
    rw [unl_cut hli] at hu
    refine tail_any hd hcut (ops.toList.drop n) n fuel listed a w (fun j => by simp) (Nat.le_refl _) (by simp; omega) inv.lsize hli (hQ a w β inv.agree (inv_core hw hC inv hall)) (by simp; omega)
  intro fuel
  induction fuel with
  | zero =>
    intro listed a w β inv hu
    exact done 0 listed a w β inv hu fun j hj => unl_zero hu j (Nat.lt_of_lt_of_le hj hw.le)
  | succ fuel ih =>
    intro listed a w β inv hu
    by_cases hall : ∀ j, j < n → listed.getD j false = true
    · exact done (fuel + 1) listed a w β inv hu hall
    · refine ⟨fun hnil => ?_, fun i hi => ?_⟩
      · exfalso
        obtain ⟨j, hj, hlj, hlt⟩ := unl_pos (listed := listed) (m := ops.size) (by omega)
        have ho : ops[j]? = some ops[j] := Array.getElem?_eq_getElem hj
        have : j ∈ Region.ready .any ops listed := mem_ready.2 ⟨getD_in (by rw [inv.lsize]; exact hj) hlj, _, ho, fun e he hb => hlt e.on ((drawOk_spec hd ho).1 e he hb)⟩
        rw [hnil] at this
        cases this
      · obtain ⟨h1, o, ho, hr⟩ := mem_ready.1 hi
        have his := (Array.getElem?_eq_some_iff.1 ho).1
        have hil : i < listed.size := by rw [inv.lsize]; exact his
        have hin : i < n := by
          rcases Nat.lt_or_ge i n with h' | h'
          · exact h'
          · exact (hall fun j hj => beh_listed inv.closed ho hr (hcut i h' his j (by omega))).elim
        refine inv_step hw hd hC inv hin ho (getD_both h1) hr fun a' w' β' inv' => ih _ a' w' β' inv' ?_
        have := unl_set hil (getD_both h1) ops.size
        rw [if_pos his] at this
        omega
end

theorem lookup_map (a i k : Nat) (l : List (Nat × Nat)) : ∀ (L : List Nat), (L.map (fun j => (a + j, i)) ++ l).lookup k = if ∃ j ∈ L, a + j = k then some i else l.lookup k
  | [] => by simp
  | x :: L => by
    simp only [List.map_cons, List.cons_append, List.lookup_cons, lookup_map a i k l L]
    by_cases h : k = a + x
    · subst h
      simp
    · have : (k == a + x) = false := by simpa using h
      rw [this]
      have e : (∃ j ∈ x :: L, a + j = k) ↔ ∃ j ∈ L, a + j = k := by
        constructor
        · rintro ⟨j, hj, rfl⟩
          rcases List.mem_cons.1 hj with rfl | hj
          · exact (h rfl).elim
          · exact ⟨j, hj, rfl⟩
        · rintro ⟨j, hj, he⟩
          exact ⟨j, List.mem_cons_of_mem _ hj, he⟩
      by_cases h2 : ∃ j ∈ L, a + j = k
      · rw [if_pos h2, if_pos (e.2 h2)]
      · rw [if_neg h2, if_neg (fun h3 => h2 (e.1 h3))]
theorem lookup_new (a b i k : Nat) (l : List (Nat × Nat)) : (newIds a b i ++ l).lookup k = if a ≤ k ∧ k < b then some i else l.lookup k := by
  unfold newIds
  rw [lookup_map]
  have e : (∃ j ∈ List.range (b - a), a + j = k) ↔ (a ≤ k ∧ k < b) := by
    constructor
    · rintro ⟨j, hj, rfl⟩
      have := List.mem_range.1 hj
      omega
    · intro h
      exact ⟨k - a, List.mem_range.2 (by omega), by omega⟩
  by_cases h : a ≤ k ∧ k < b
  · rw [if_pos h, if_pos (e.2 h)]
  · rw [if_neg h, if_neg (fun h2 => h (e.1 h2))]
theorem newIds_same (a i : Nat) : newIds a a i = [] := by simp [newIds]
def ResAt (G : Cfg) (W : Wld) (ops : Array Oper) (K : St → Env → Prop) (l : List Oper) (i : Nat) (d : DS) (st : St) (ρ : Env) : Prop :=
    ∃ (sts : Nat → St) (svs : Nat → SV) (cs : Nat → List Nat) (ds : Nat → DS) (ρF : Env), sts i = st ∧ ds i = d ∧ K (sts (i + l.length)) ρF ∧ Env.like st.c ρ ρF ∧ apartB ops (ds (i + l.length)).rd (ds (i + l.length)).wr = true ∧
      (∀ k ∈ d.rd, k ∈ (ds (i + l.length)).rd) ∧ (∀ k ∈ d.wr, k ∈ (ds (i + l.length)).wr) ∧ (∀ j, j ≤ l.length → (sts (i + j)).WF ∧ rowsB (ds (i + j)).al (sts (i + j)).o = true) ∧
      ∀ j o, l[j]? = some o → ((ds (i + j + 1)).al = newIds (sts (i + j)).c.nk (sts (i + j + 1)).c.nk (i + j) ++ (ds (i + j)).al) ∧
        Fct G.P W ops ρF (fun k => (ds (i + j)).old ops (i + j) k = true) (i + j) (ds (i + l.length)).rd (ds (i + l.length)).wr (sts (i + j)) o (sts (i + j + 1)) (svs (i + j)) (cs (i + j))

theorem opd_resolve {G : Cfg} (hG : G.Ok) {st : St} {o : Oper} {K : St → Env → Prop} {ρ : Env} (wf : st.WF) (h : opd (PA G.P W Q QM) G st o K ρ) : Rsv G.P W st o K ρ ∧ ∀ c, o.op ≠ .defer c := by
  have memo : opm (PA G.P W Q QM) G st o K ρ → Rsv G.P W st o K ρ ∧ ∀ c, o.op ≠ .defer c := fun h => ⟨opm_resolve hG wf h, opm_defer h⟩
  have appo : opa (PA G.P W Q QM) G st o K ρ → Rsv G.P W st o K ρ ∧ ∀ c, o.op ≠ .defer c := fun h => ⟨opa_resolve wf h, opa_defer h⟩
  obtain ⟨dst, op, type, pos, after, guard⟩ := o
  unfold opd at h
  have rowo : opw (PA G.P W Q QM) G st ⟨dst, op, type, pos, after, guard⟩ K ρ → Rsv G.P W st ⟨dst, op, type, pos, after, guard⟩ K ρ ∧ ∀ c, (⟨dst, op, type, pos, after, guard⟩ : Oper).op ≠ .defer c := fun h => ⟨opw_resolve wf h, opw_defer h⟩
  cases op <;> first | exact memo h | skip
  case buildSlice t len parts =>
    simp only at h
    split at h
    · exact rowo h
    · exact memo h
  rename_i cl
  obtain ⟨callee, args, argTypes⟩ := cl
  cases callee <;> first | exact memo h | skip
  rename_i b
  cases b <;> first | exact memo h | exact appo h

theorem execD_resolve {G : Cfg} (hG : G.Ok) {ops : Array Oper} {K : St → Env → Prop} : ∀ (l : List Oper) (i : Nat) (d : DS) (st : St) (ρ : Env), execD (PA G.P W Q QM) G ops i l d st K ρ → st.WF → rowsB d.al st.o = true → ResAt G W ops K l i d st ρ
  | [], i, d, st, ρ, h, hw, hrb => by
    unfold execD at h
    split at h
    rotate_left
    · exact h.elim
    · rename_i hne
      refine ⟨fun _ => st, fun _ => .und, fun _ => [], fun _ => d, ρ, rfl, rfl, h, Env.like_refl _ _, hne, fun _ h => h, fun _ h => h, fun _ _ => ⟨hw, hrb⟩, fun j o hj => by simp at hj⟩
  | o :: r, i, d, st, ρ, h, hw, hrb => by
    -- the rest, behind this operation
    have glue : ∀ (s' : St) (d' : DS) (ρ' : Env) (sv : SV) (C : List Nat), execD (PA G.P W Q QM) G ops (i + 1) r d' s' K ρ' → s'.WF → rowsB d'.al s'.o = true → st.c.le s'.c → Env.like st.c ρ ρ' → (∀ k ∈ d.rd, k ∈ d'.rd) → (∀ k ∈ d.wr, k ∈ d'.wr) →
        (d'.al = newIds st.c.nk s'.c.nk i ++ d.al) →
        (∀ ρ'', Env.like s'.c ρ' ρ'' → ∀ rd wr, (∀ k ∈ d'.rd, k ∈ rd) → (∀ k ∈ d'.wr, k ∈ wr) → Fct G.P W ops ρ'' (fun k => d.old ops i k = true) i rd wr st o s' sv C) → ResAt G W ops K (o :: r) i d st ρ := by
      intro s' d' ρ' sv C hx hws hrs hle hlk hrd hwr hal hf
      obtain ⟨sts, svs, cs, ds, ρF, e1, e2, e3, e4, e5, e6, e7, e8, e9⟩ := execD_resolve hG r (i + 1) d' s' ρ' hx hws hrs
      have hlen : i + (o :: r).length = i + 1 + r.length := by simp; omega
      refine ⟨fun j => if j ≤ i then st else sts j, fun j => if j ≤ i then sv else svs j, fun j => if j ≤ i then C else cs j, fun j => if j ≤ i then d else ds j, ρF, if_pos (Nat.le_refl _), if_pos (Nat.le_refl _), ?_⟩
      have c1 : ¬ (i + 1 + r.length ≤ i) := by omega
      rw [hlen]
      simp only [c1, if_false]
      refine ⟨e3, Env.like_trans hle hlk e4, e5, fun k hk => e6 k (hrd k hk), fun k hk => e7 k (hwr k hk), fun j hj => ?_, fun j o' hj => ?_⟩
      · by_cases hj0 : j = 0
        · subst hj0; simp only [Nat.add_zero, Nat.le_refl, if_true]; exact ⟨hw, hrb⟩
        · have c2 : ¬ (i + j ≤ i) := by omega
          simp only [c2, if_false]
          have := e8 (j - 1) (by simp at hj; omega)
          rwa [show i + 1 + (j - 1) = i + j by omega] at this
      · cases j with
        | zero =>
          simp only [List.getElem?_cons_zero, Option.some.injEq] at hj
          subst hj
          have c2 : ¬ (i + 0 + 1 ≤ i) := by omega
          simp only [Nat.add_zero, Nat.le_refl, if_true]
          have c3 : ¬ (i + 1 ≤ i) := by omega
          simp only [c3, if_false, e1, e2]
          exact ⟨hal, hf ρF e4 _ _ e6 e7⟩
        | succ j =>
          have c2 : ¬ (i + (j + 1) ≤ i) := by omega
          have c3 : ¬ (i + (j + 1) + 1 ≤ i) := by omega
          simp only [c2, c3, if_false]
          have := e9 j o' (by simpa using hj)
          rw [show i + 1 + j = i + (j + 1) by omega] at this
          exact this
    -- one operation that is wanted
    have run : ∀ (s1 : St), s1.WF → s1.c = st.c → (∀ ρ'', Env.like st.c ρ ρ'' → Knw ρ'' st s1) → (∀ ρ'', Env.like st.c ρ ρ'' → Wants ops ρ'' st o true) →
        stepD (PA G.P W Q QM) G ops i d s1 o (fun d' s => execD (PA G.P W Q QM) G ops (i + 1) r d' s K) ρ → ResAt G W ops K (o :: r) i d st ρ := by
      intro s1 hw1 hc1 hkn hwt hs
      unfold stepD at hs
      by_cases hold : (readsOf s1 o ++ writesOf s1 o ++ valIds s1 o).all (d.old ops i) = true
      · rw [if_pos hold] at hs
        obtain ⟨⟨s', ρ', sv, C, g1, g2, g3, g4⟩, nd⟩ := opd_resolve hG hw1 hs
        dsimp only at g1
        by_cases hcond : (okD ops i d o s' && rowsB (newIds s1.c.nk s'.c.nk i ++ d.al) s'.o) = true
        · rw [if_pos hcond] at g1
          rw [Bool.and_eq_true] at hcond
          obtain ⟨q1, q2⟩ := hcond
          unfold okD at q1
          refine glue s' _ ρ' sv C g1 (g4 ρ' (Env.like_refl _ _)).wf q2 (by rw [← hc1]; exact g2) (by rw [← hc1]; exact g3) (fun k hk => List.mem_append.2 (.inr hk)) (fun k hk => List.mem_append.2 (.inr hk)) (by rw [hc1]) ?_
          intro ρ'' hl rd wr h1 h2
          have hl2 : Env.like st.c ρ ρ'' := by rw [← hc1]; exact Env.like_trans g2 g3 hl
          have hf := g4 ρ'' hl
          refine .run s1 s' sv C (hkn ρ'' hl2) (hwt ρ'' hl2) nd hf (fun k hk => List.all_eq_true.1 hold k hk) (fun x hx k hk => ?_) (fun k hk => h1 _ (List.mem_append.2 (.inl (List.mem_map.2 ⟨k, hk, rfl⟩)))) (fun k hk => h2 _ (List.mem_append.2 (.inl (List.mem_map.2 ⟨k, hk, rfl⟩))))
          rw [hx] at q1
          have hsx := hf.slot x
          rw [if_pos hx] at hsx
          exact List.all_eq_true.1 q1 k (by rw [hsx]; exact hk)
        · rw [if_neg hcond] at g1; exact g1.elim
      · rw [if_neg hold] at hs; exact hs.elim
    have know_wf : ∀ {x : Nat} {b : Bool}, (st.know x b).WF := fun {x b} => by
      refine ⟨fun i => ?_, hw.m, hw.o, hw.ap, hw.r, hw.d⟩
      simp only [St.know, getS_cons]
      by_cases hi : x = i
      · rw [if_pos hi]; rfl
      · rw [if_neg hi]; exact hw.t i
    unfold execD at h
    cases hgd : o.guard with
    | none =>
      simp only [hgd] at h
      exact run st hw rfl (fun _ _ => .refl) (fun _ _ => by unfold Wants; rw [hgd]) h
    | some jw =>
      obtain ⟨j, want⟩ := jw
      simp only [hgd] at h
      generalize hd' : (ops[j]?).bind (·.dst) = u at h
      cases u with
      | none => exact h.elim
      | some x =>
        simp only at h
        split at h
        · rename_i hlt
          generalize hg : getS st.t x = sv at h
          split at h
          · rename_i e
            have we : e.wf st.c = true := by have := hw.t x; rw [hg] at this; exact this
            have kn : ∀ b, e.den ρ = b → ∀ ρ'', Env.like st.c ρ ρ'' → Knw ρ'' st (st.know x b) := fun b hb ρ'' hl => .know x b e hg (by rw [BE.den_like hl we]; exact hb)
            have wt : ∀ b c, e.den ρ = b → (b == want) = c → ∀ ρ'', Env.like st.c ρ ρ'' → Wants ops ρ'' st o c := by
              intro b c hb hc ρ'' hl
              unfold Wants
              rw [hgd]
              exact ⟨x, hd', .inl ⟨e, hg, by rw [BE.den_like hl we, hb]; exact hc⟩⟩
            have skp : ∀ b, e.den ρ = b → (b == want) = false → (St.put (PA G.P W Q QM) (st.know x b) o.dst .und st.c fun s => execD (PA G.P W Q QM) G ops (i + 1) r d s K) ρ → ResAt G W ops K (o :: r) i d st ρ := by
              intro b hb hc hp
              obtain ⟨p1, p2⟩ := put_resolve hp
              obtain ⟨q1, q2, q3, q4, q5, q6⟩ := putS_c (st.know x b) o.dst .und st.c
              refine glue _ d ρ .und [] p1 (putS_wf know_wf (Ctr.le_refl _) p2) (by rw [q4]; exact hrb) (by rw [q1]; exact Ctr.le_refl _) (Env.like_refl _ _) (fun _ h => h) (fun _ h => h) (by rw [q1, newIds_same]; rfl) ?_
              intro ρ'' hl rd wr _ _
              rw [q1] at hl
              exact .skip (st.know x b) (kn b hb ρ'' hl) (wt b false hb hc ρ'' hl) p2
            rcases doFork_sound h with ⟨hb, h⟩ | ⟨hb, h⟩
            · cases want with
              | true => exact run (st.know x true) know_wf rfl (kn true hb) (wt true true hb rfl) h
              | false => exact skp true hb rfl h
            · cases want with
              | true => exact skp false hb rfl h
              | false => exact run (st.know x false) know_wf rfl (kn false hb) (wt false true hb rfl) h
          · obtain ⟨p1, p2⟩ := put_resolve h
            obtain ⟨q1, q2, q3, q4, q5, q6⟩ := putS_c st o.dst .und st.c
            refine glue _ d ρ .und [] p1 (putS_wf hw (Ctr.le_refl _) p2) (by rw [q4]; exact hrb) (by rw [q1]; exact Ctr.le_refl _) (Env.like_refl _ _) (fun _ h => h) (fun _ h => h) (by rw [q1, newIds_same]; rfl) ?_
            intro ρ'' hl rd wr _ _
            refine .skip st .refl ?_ p2
            unfold Wants
            rw [hgd]
            exact ⟨x, hd', .inr ⟨hg, rfl⟩⟩
          · exact h.elim
        · exact h.elim

theorem lookup_laid {sts : Nat → St} {ds : Nat → DS} {n : Nat} (h0 : (ds 0).al = []) (hal : ∀ j, j < n → (ds (j + 1)).al = newIds (sts j).c.nk (sts (j + 1)).c.nk j ++ (ds j).al)
    (hnk : ∀ i j, i ≤ j → j ≤ n → (sts i).c.nk ≤ (sts j).c.nk) : ∀ (i : Nat), i ≤ n → ∀ m k, (ds i).al.lookup k = some m ↔ (m < i ∧ laid sts m k)
  | 0, _, m, k => by rw [h0]; simp
  | i + 1, hi, m, k => by
    rw [hal i (by omega), lookup_new]
    have ih := lookup_laid h0 hal hnk i (by omega) m k
    by_cases hk : (sts i).c.nk ≤ k ∧ k < (sts (i + 1)).c.nk
    · rw [if_pos hk]
      constructor
      · intro h
        cases h
        exact ⟨by omega, hk⟩
      · rintro ⟨h1, h2⟩
        rcases Nat.lt_or_ge m i with h' | h'
        · have := hnk (m + 1) i (by omega) (by omega)
          have := h2.2
          omega
        · have : m = i := by omega
          rw [this]
    · rw [if_neg hk, ih]
      constructor
      · rintro ⟨h1, h2⟩; exact ⟨by omega, h2⟩
      · rintro ⟨h1, h2⟩
        refine ⟨?_, h2⟩
        rcases Nat.lt_or_ge m i with h' | h'
        · exact h'
        · have : m = i := by omega
          subst this
          exact (hk h2).elim

theorem Fct.imp {ops : Array Oper} {ρ : Env} {old old' : Nat → Prop} {i : Nat} {rd wr : List (Nat × Nat)} {s s' : St} {o : Oper} {sv : SV} {C : List Nat} (h : Fct P W ops ρ old i rd wr s o s' sv C) (h1 : ∀ k, old k → old' k) : Fct P W ops ρ old' i rd wr s o s' sv C := by
  cases h with
  | skip s1 k w p => exact .skip s1 k w p
  | run s1 _ _ _ k w nd f a1 a2 a4 a5 => exact .run s1 _ _ _ k w nd f (fun k hk => h1 k (a1 k hk)) (fun x hx k hk => h1 k (a2 x hx k hk)) a4 a5

theorem ordB_spec {ops : Array Oper} {x y : Nat × Nat} (h : ordB ops x y = true) (he : x.1 = y.1) : x.2 = y.2 ∨ (y.2 < x.2 ∧ ordr ops x.2 y.2 = true) ∨ (x.2 < y.2 ∧ ordr ops y.2 x.2 = true) := by
  unfold ordB at h
  simp only [Bool.or_eq_true, decide_eq_true_eq, Bool.and_eq_true] at h
  rcases h with ((h | h) | h) | h
  · exact (h he).elim
  · exact .inl h
  · exact .inr (.inl h)
  · exact .inr (.inr h)

theorem drawn_sound {G : Cfg} (hG : G.Ok) (hm : G.P.follows .mixedOrders = true) : DrawOk G W Q QM := by
  intro R Z r n inl yl id ops st K ρ h β a w hC hI hY next Q' hq hn
  unfold drawnX at h
  by_cases hd : drawOk ops = true
  · rw [if_pos hd] at h
    obtain ⟨hcl, hcut⟩ := cutOf_spec ops ops.size
    generalize cutOf ops ops.size = nn at h hcl hcut
    obtain ⟨sts, svs, cs, ds, ρF, e1, e2, e3, e4, e5, _, _, e8, e9⟩ := execD_resolve hG (ops.toList.take nn) 0 ⟨[], [], []⟩ st ρ h hC.wf (by unfold rowsB; simp)
    have hlen : (ops.toList.take nn).length = nn := by simp; omega
    simp only [Nat.zero_add, hlen] at e3 e5 e8 e9
    have e9' : ∀ j o, j < nn → ops[j]? = some o → _ := fun j o hj ho => e9 j o (by rw [List.getElem?_take, if_pos hj]; simpa using ho)
    have hget : ∀ j, j < nn → ops[j]? = some (ops[j]!) := fun j hj => by
      rw [getElem!_pos ops j (by omega), Array.getElem?_eq_getElem (by omega)]
    have hnk : ∀ j i, i ≤ j → j ≤ nn → (sts i).c.nk ≤ (sts j).c.nk := by
      intro j
      induction j with
      | zero => intro i h _; obtain rfl : i = 0 := by omega
                exact Nat.le_refl _
      | succ j ih =>
        intro i h hj
        by_cases hi : i = j + 1
        · subst hi; exact Nat.le_refl _
        · obtain ⟨s1, k1, hst⟩ := (e9' j _ (by omega) (hget j (by omega))).2.stp (e8 j (by omega)).1
          have := hst.cle.k
          rw [k1.c.1] at this
          exact Nat.le_trans (ih i (by omega) (by omega)) this
    have hlk := lookup_laid (sts := sts) (ds := ds) (n := nn) (by rw [e2]) (fun j hj => (e9' j _ hj (hget j hj)).1) (fun i j h1 h2 => hnk j i h1 h2)
    have hw : Way G.P W ops nn ρF sts svs cs (ds nn).rd (ds nn).wr := by
      refine ⟨hcl, fun i hi => (e8 i hi).1, fun i o hi ho => ?_, fun k i j h1 h2 => ?_, fun i hi k ce sz t hg m hmn d hd4 hl => ?_⟩
      · refine (e9' i o hi ho).2.imp fun k hk m hmi hl => ?_
        have := (hlk i (by omega) m k).2 ⟨hmi, hl⟩
        simpa [DS.old, this] using hk
      · unfold apartB at e5
        rw [Bool.and_eq_true] at e5
        rcases h1 with h1 | h1
        · exact ordB_spec (List.all_eq_true.1 (List.all_eq_true.1 e5.1 _ h1) _ h2) rfl
        · exact ordB_spec (List.all_eq_true.1 (List.all_eq_true.1 e5.2 _ h1) _ h2) rfl
      · have hgo : getO (sts i).o k = some (ce, sz, t) := by
          unfold getE at hg
          split at hg
          · cases hg
          · split at hg
            · rename_i h3
              simp only [Option.some.injEq, Ent.row.injEq] at hg
              obtain ⟨rfl, rfl, rfl⟩ := hg
              exact h3
            · cases hg
        have hwk := (e8 i hi).1.o k ce sz t hgo
        rcases Nat.lt_or_ge m i with h' | h'
        · have hb := List.all_eq_true.1 (e8 i hi).2 _ (getO_mem hgo)
          simp only [List.all_cons, List.all_nil, Bool.and_true, Bool.and_eq_true, decide_eq_true_eq] at hb
          have h5 := (hlk i hi m (k + d)).2 ⟨h', hl⟩
          have h6 : (ds i).al.lookup k = some m := by
            rcases (by omega : d = 0 ∨ d = 1 ∨ d = 2 ∨ d = 3) with rfl | rfl | rfl | rfl
            · exact h5
            · rw [← hb.1]; exact h5
            · rw [← hb.2.1]; exact h5
            · rw [← hb.2.2]; exact h5
          exact ((hlk i hi m k).1 h6).2
        · have := hnk m i h' (by omega)
          have := hl.1
          have := hwk.1
          omega
    have hB : Below w.heap.size w { w with drawn := w.drawn + 1 } := (Below.refl _ w).drew
    have hC0 : Core W R Z ρF β (sts 0) a { w with drawn := w.drawn + 1 } := by
      rw [e1]
      have hC1 := hC.like e4
      exact ⟨hC1.size, hC1.tmps, hC1.dfr, hC1.below.drew, fun k e hg => (hC1.mem k e hg).keepI (fun _ _ => rfl) (fun _ _ => rfl) (fun _ _ => rfl), hC1.inj, hC1.lps, hC1.rin, hC1.ded, hC1.dn, hC1.wf⟩
    refine wpIn_region_any hm ?_
    have hu : ∀ m, m ≤ ops.size → unl (Array.replicate ops.size false) m = m := by
      intro m
      induction m with
      | zero => intro _; rfl
      | succ m ih =>
        intro hm'
        simp only [unl, ih (by omega)]
        rw [if_neg (by rw [Array.getD_eq_getD_getElem?, Array.getElem?_replicate]; split <;> simp)]
    have hle := (hw.n0 nn (Nat.le_refl _)).2.2.2
    rw [e1] at hle
    refine way_any hw hd hcut hC0 (fun a' w' β' hag hC' => ?_) ops.size _ a _ β (inv_start hw hC0) (hu _ (Nat.le_refl _))
    rw [e1] at hag
    exact execL_sound (stepO_sound hG hI hY) (ops.toList.drop nn) (sts nn) ρF e3 hle e4 β' a' w' hag hC' next hq (hn.far hle e4 hag)
  · rw [if_neg hd] at h; exact h.elim

/-- A FUNCTION: what its walk says, as a proposition, gives its contract. -/
theorem calls_of_exec {G : Cfg} (hG : G.Ok) (hm : G.P.follows .mixedOrders = true) {f : FuncId} {fn : Func} {b : Code} (hf : G.P.funcs[f]? = some fn) (hb : fn.body = some b) {args : List SV} {c : Ctr} {ρ : Env} {w : World} (n : Nat)
    (hw : args.all (SV.wf c) = true) (h : execF (PA G.P ⟨w, []⟩ Q QM) G n fn b args c ρ) :
    Calls G.P f (args.map (SV.den ρ b0)).toArray w fun e w' => ∃ v, e = .returned v ∧ Below w.heap.size w w' ∧ (Q v ∨ QM w' v) := by
  refine calls_body (n := 0) hf hb ?_
  have hC := core_first (W := ⟨w, []⟩) (R := fun _ => { state := .ready, pending := none, fn := 0, tmps := #[], params := #[], assign := .skip, body := .skip, defers := 0 }) (ρ := ρ) (β := b0) (args := args) (n := fn.ntmps) (c := c) (w := w) hw (Bel.refl ⟨w, []⟩)
  refine exec_sound hG (drawn_sound hG hm) n none _ b _ _ ρ h _ _ none 0 b0 _ w hC ?_ rfl _ ?_
  · intro k args s K' ρ hy
    exact hy.elim
  intro e s ρ' β' a' w' hk h1 h2 h3 hC'
  have fin : (match resOf G.P s fn.results.toList with
      | some l => (PA G.P ⟨w, []⟩ Q QM).fin (resV l) (namedM s.m (l.flatMap CV.cells)) (namedO s.o (l.flatMap CV.cells))
      | none => (PA G.P ⟨w, []⟩ Q QM).fail "results") ρ' → LeavesInM (Fr none) 0 G.P fn a'.tmps (fun e w' => ∃ v, e = .returned v ∧ Below w.heap.size w w' ∧ (Q v ∨ QM w' v)) a'.defers .returning w' := by
    intro hk
    generalize hr : resOf G.P s fn.results.toList = u at hk
    cases u with
    | none => exact hk.elim
    | some l =>
      refine body_end hC' hr fun w2 hC2 _ => ⟨_, rfl, hC2.below, ?_⟩
      simp only [PA] at hk
      split at hk
      · rename_i hfl
        rw [SV.den_flat ρ' β' b0 hfl]
        exact .inl hk
      · exact .inr (hk β' w2 hC2.below (namedM_sound hC'.wf.ap (Env.like_refl _ ρ') (fun k cs t hg => (hC'.wf.m k cs t hg).2) (fun k ce sz t hg => (hC'.wf.o k ce sz t hg).2) _ fun k _ e hg => hC2.mem k e hg))
  cases e with
  | normal => exact fin hk
  | ret => exact fin hk
  | exit id => exact hk.elim
theorem named_get {m : Mem} {k : Nat} {v : List At × TypeId} : ∀ {l : List At}, getM (namedM m l) k = some v → getM m k = some v := by
  intro l
  induction l with
  | nil => intro h; simp [namedM, getM] at h
  | cons a l ih =>
    have key : ∀ q, getM (match getM m q with
        | some v => (q, v) :: namedM m l
        | none => namedM m l) k = some v → getM m k = some v := fun q h => by
      split at h
      · rename_i u hu
        rw [getM_cons] at h
        split at h
        · rename_i he
          subst he
          rw [hu]; exact h
        · exact ih h
      · exact ih h
    intro h
    cases a <;> first | exact ih h | exact key _ h
theorem lent_den {ρ : Env} {β β' : Nat → Nat} {n : Nat} (h : ∀ k, k < n → β k = β' k) : ∀ {a : At}, a.lentOk n = true → a.den ρ β = a.den ρ β'
  | .loc k o, ha => by
    simp only [At.lentOk, decide_eq_true_eq] at ha
    simp only [At.den, h k ha]
  | .fn f caps, ha => by
    simp only [At.lentOk] at ha
    have : (caps.map fun c => (.pointer (some ⟨β c.1, c.2, none⟩) : Value)) = caps.map fun c => .pointer (some ⟨β' c.1, c.2, none⟩) :=
      List.map_congr_left fun x hx => by rw [h x.1 (by simpa using List.all_eq_true.1 ha x hx)]
    simp only [At.den, this]
  | .int .., _ => rfl
  | .bool .., _ => rfl
  | .val .., _ => rfl
  | .str .., _ => rfl
  | .sv .., _ => rfl
  | .nils, _ => rfl
  | .nilp, _ => rfl
  | .nilf, _ => rfl
  | .nili, _ => rfl
  | .nilm, _ => rfl
  | .xsl .., _ => rfl
  | .qsl .., _ => rfl
  | .ext .., _ => rfl
  | .lsl .., ha => by simp [At.lentOk, At.flat] at ha
  | .own .., ha => by simp [At.lentOk, At.flat] at ha
  | .oloc .., ha => by simp [At.lentOk, At.flat] at ha
  | .mfn .., ha => by simp [At.lentOk, At.flat] at ha
/-- A FUNCTION to which blocks are lent. -/
theorem calls_of_execL {G : Cfg} (hG : G.Ok) (hm : G.P.follows .mixedOrders = true) {f : FuncId} {fn : Func} {b : Code} (hf : G.P.funcs[f]? = some fn) (hb : fn.body = some b) {args : List SV} {c : Ctr} {ρ : Env} {w : World} (n : Nat) {xs : List Nat} {bs : List (List At × TypeId)}
    (hw : args.all (SV.wf c) = true) (hc : bs.all (fun b => b.1.all (At.wf c)) = true) (h0 : bs.length ≤ c.nk) (hlen : xs.length = bs.length) (hnd : xs.Nodup) (hx : LentAt ρ xs bs w) (h : execFL (PA G.P ⟨w, xs⟩ Q QM) G n fn b args bs c ρ) :
    Calls G.P f (args.map (SV.den ρ (lentB xs))).toArray w fun e w' => ∃ v cells, e = .returned v ∧ Bel ⟨w, xs⟩ w' ∧ cells.length = bs.length ∧ (∀ k cs t, bs[k]? = some (cs, t) → ∃ new, cells[k]? = some (.agg new) ∧ w'.heap[lentB xs k]? = some (.cells new t)) ∧ Q (.agg (v :: cells).toArray) := by
  refine calls_body (n := 0) hf hb ?_
  have hC := core_firstL (W := ⟨w, xs⟩) (R := fun _ => { state := .ready, pending := none, fn := 0, tmps := #[], params := #[], assign := .skip, body := .skip, defers := 0 }) (ρ := ρ) (args := args) (n := fn.ntmps) (c := c) (w := w) hw hc h0 hlen hnd rfl (Bel.refl ⟨w, xs⟩) hx
  refine exec_sound hG (drawn_sound hG hm) n none _ b _ _ ρ h _ _ none 0 (lentB xs) _ w hC ?_ rfl _ ?_
  · intro k args s K' ρ hy
    exact hy.elim
  intro e s ρ' β' a' w' hk h1 h2 h3 hC'
  have fin : (match resOf G.P s fn.results.toList with
      | some l => (PA G.P ⟨w, xs⟩ Q QM).finL (resV l) (namedM s.m ((List.range bs.length).map (fun k => At.loc k 0) ++ l.flatMap CV.cells)) (namedO s.o (l.flatMap CV.cells)) (bs.map Prod.snd)
      | none => (PA G.P ⟨w, xs⟩ Q QM).fail "results") ρ' → LeavesInM (Fr none) 0 G.P fn a'.tmps (fun e w' => ∃ v cells, e = .returned v ∧ Bel ⟨w, xs⟩ w' ∧ cells.length = bs.length ∧ (∀ k cs t, bs[k]? = some (cs, t) → ∃ new, cells[k]? = some (.agg new) ∧ w'.heap[lentB xs k]? = some (.cells new t)) ∧ Q (.agg (v :: cells).toArray)) a'.defers .returning w' := by
    intro hk
    generalize hr : resOf G.P s fn.results.toList = u at hk
    cases u with
    | none => exact hk.elim
    | some l =>
      refine body_end hC' hr fun w2 hC2 _ => ?_
      simp only [PA] at hk
      split at hk
      · rename_i ll hg
        split at hk
        · rename_i hfl
          simp only [Bool.and_eq_true] at hfl
          obtain ⟨hfl, hll⟩ := hfl
          have hbx : ∀ k, k < (bs.map Prod.snd).length → β' k = lentB xs k := fun k hk => h3 k (by simp only [List.length_map] at hk; exact Nat.lt_of_lt_of_le hk h0)
          have hgs : ∀ {k0 : Nat} {ts : List TypeId} {ll : List (List At)}, getMs (namedM s.m ((List.range bs.length).map (fun k => At.loc k 0) ++ l.flatMap CV.cells)) k0 ts = some ll →
              ll.length = ts.length ∧ ∀ k t, ts[k]? = some t → ∃ cs', ll[k]? = some cs' ∧ getM s.m (k0 + k) = some (cs', t) := by
            intro k0 ts
            induction ts generalizing k0 with
            | nil => intro ll h; simp only [getMs, Option.some.injEq] at h; subst h; exact ⟨rfl, fun k t h => by simp at h⟩
            | cons t0 r ih =>
              intro ll h
              simp only [getMs] at h
              split at h
              · rename_i cs t' l' g1 g2
                split at h
                · rename_i he
                  simp only [Option.some.injEq] at h
                  subst h
                  obtain ⟨i1, i2⟩ := ih g2
                  refine ⟨by simp [i1], fun k t hk => ?_⟩
                  cases k with
                  | zero =>
                    simp only [List.getElem?_cons_zero, Option.some.injEq] at hk
                    subst hk
                    exact ⟨cs, rfl, by rw [Nat.add_zero, named_get g1, he]⟩
                  | succ k =>
                    obtain ⟨cs', j1, j2⟩ := i2 k t (by simpa using hk)
                    exact ⟨cs', by simpa using j1, by rw [show k0 + (k + 1) = k0 + 1 + k by omega]; exact j2⟩
                · cases h
              · cases h
          obtain ⟨i1, i2⟩ := hgs hg
          refine ⟨_, ll.map fun cs => Value.agg (cs.map (At.den ρ' (lentB xs))).toArray, rfl, hC2.below, ?_, fun k cs t hbk => ?_, ?_⟩
          rotate_right
          · rw [SV.den_flat ρ' β' b0 hfl]
            exact hk
          · simpa using i1
          · obtain ⟨cs', j1, j2⟩ := i2 k t (by rw [List.getElem?_map, hbk]; rfl)
            rw [Nat.zero_add] at j2
            have hkl : k < (bs.map Prod.snd).length := by
              have := (List.getElem?_eq_some_iff.1 hbk).1
              simpa using this
            have hh := (hC2.fix (k := k) j2).2
            rw [hbx k hkl] at hh
            refine ⟨(cs'.map (At.den ρ' (lentB xs))).toArray, by rw [List.getElem?_map, j1]; rfl, ?_⟩
            have e2 : cs'.map (At.den ρ' β') = cs'.map (At.den ρ' (lentB xs)) := List.map_congr_left fun y hy =>
              lent_den hbx (List.all_eq_true.1 (List.all_eq_true.1 hll cs' (List.mem_of_getElem? j1)) y hy)
            rw [← e2]
            exact hh
        · exact hk.elim
      · exact hk.elim
  cases e with
  | normal => exact fin hk
  | ret => exact fin hk
  | exit id => exact hk.elim
/-- A FUNCTION to which a row is lent. -/
theorem calls_of_execR {G : Cfg} (hG : G.Ok) (hm : G.P.follows .mixedOrders = true) {f : FuncId} {fn : Func} {b : Code} (hf : G.P.funcs[f]? = some fn) (hb : fn.body = some b) {args : List SV} {c : Ctr} {ρ : Env} {w : World} (n : Nat) {x rb code rn base sz : Nat} {t : TypeId}
    (hw : args.all (SV.wf c) = true) (h4 : 4 ≤ c.nk) (h1 : 1 ≤ c.nl) (hx : RowOkP (fun b => b = x) rb code rn base ((ρ.l 0).map (·.1)) sz t w) (h : execFR (PA G.P ⟨w, [x]⟩ Q QM) G n fn b args sz t c ρ) :
    Calls G.P f (args.map (SV.den ρ fun k => [rb, code, rn, base].getD k 0)).toArray w fun e w' => ∃ v cells, e = .returned v ∧ BelX x w w' ∧ RowOkP (fun b => b = x ∨ w.heap.size ≤ b) rb code rn base cells sz t w' ∧ Q (.agg #[v, .agg cells.toArray]) := by
  refine calls_body (n := 0) hf hb ?_
  have hC : Core ⟨w, [x]⟩ (fun _ => { state := .ready, pending := none, fn := 0, tmps := #[], params := #[], assign := .skip, body := .skip, defers := 0 }) [] ρ (fun k => [rb, code, rn, base].getD k 0) { t := (List.range args.length).zip args, n := args.length + (fn.ntmps - args.length), m := [], o := [(0, [.var 0], sz, t)], c := c }
      { tmps := (args.map (SV.den ρ fun k => [rb, code, rn, base].getD k 0)).toArray ++ Array.replicate (fn.ntmps - (args.map (SV.den ρ fun k => [rb, code, rn, base].getD k 0)).toArray.size) undef, defers := [] } w := by
    have one : ∀ {k e}, getE [] ([(0, [.var 0], sz, t)] : OMem) k = some e → k = 0 ∧ e = .row [.var 0] sz t := by
      intro k e h
      unfold getE at h
      simp only [getM, getO_cons] at h
      by_cases hk : 0 = k
      · rw [if_pos hk] at h
        simp only [Option.some.injEq] at h
        exact ⟨hk.symm, h.symm⟩
      · rw [if_neg hk] at h
        simp [getO] at h
    refine ⟨by simp, fun i hn => ?_, rfl, Bel.refl ⟨w, [x]⟩, fun k e h => ?_, fun k k' e e' b h h' _ _ => (one h).1.trans (one h').1.symm, fun k e h => (by cases h), fun k k' e e' h => (by cases h), fun b hb => (by cases hb), by simp, ⟨fun i => ?_, fun k cs t h => (by cases h), fun k ce sz' t' h => ?_, fun k x h => rfl, fun k e h => (by cases h), fun k hk => (by cases hk)⟩⟩
    · simp only [getS_args] at hn ⊢
      cases hi : args[i]? with
      | none => rw [hi] at hn; exact (hn rfl).elim
      | some v =>
        have hlt : i < args.length := (List.getElem?_eq_some_iff.1 hi).1
        rw [Array.getElem?_append_left (by simpa using hlt)]
        simp [hi]
    · obtain ⟨rfl, rfl⟩ := one h
      simp only [Holds, ceDen, Sg.den, List.append_nil]
      obtain ⟨a1, a2, a3⟩ := hx
      refine ⟨a1, a2, ?_⟩
      rcases a3 with a3 | ⟨b1, b2, b3, b4⟩
      · exact .inl a3
      · exact .inr ⟨b1, b2, OwnB.mk (.inl (List.mem_singleton.2 b3)), b4⟩
    · simp only [getS_args]
      cases hi : args[i]? with
      | none => rfl
      | some v => exact List.all_eq_true.1 hw v (List.mem_of_getElem? hi)
    · simp only [getO_cons] at h
      by_cases hk : 0 = k
      · rw [if_pos hk] at h
        simp only [Option.some.injEq, Prod.mk.injEq] at h
        obtain ⟨rfl, _, _⟩ := h
        refine ⟨by show k + 3 < c.nk; omega, ?_⟩
        have : 0 < c.nl := h1
        simp [ceWf, Sg.wf, this]
      · rw [if_neg hk] at h
        simp [getO] at h
  refine exec_sound hG (drawn_sound hG hm) n none _ b _ _ ρ h _ _ none 0 (fun k => [rb, code, rn, base].getD k 0) _ w hC ?_ rfl _ ?_
  · intro k args s K' ρ hy
    exact hy.elim
  intro e s ρ' β' a' w' hk g1 g2 g3 hC'
  have fin : (match resOf G.P s fn.results.toList with
      | some l => (PA G.P ⟨w, [x]⟩ Q QM).finR (resV l) s.o sz t
      | none => (PA G.P ⟨w, [x]⟩ Q QM).fail "results") ρ' → LeavesInM (Fr none) 0 G.P fn a'.tmps (fun e w' => ∃ v cells, e = .returned v ∧ BelX x w w' ∧ RowOkP (fun b => b = x ∨ w.heap.size ≤ b) rb code rn base cells sz t w' ∧ Q (.agg #[v, .agg cells.toArray])) a'.defers .returning w' := by
    intro hq
    generalize hr : resOf G.P s fn.results.toList = u at hq
    cases u with
    | none => exact hq.elim
    | some l =>
      refine body_end hC' hr fun w2 hC2 _ => ?_
      simp only [PA] at hq
      split at hq
      · rename_i ce sz' t' hg
        split at hq
        · rename_i hfl
          simp only [Bool.and_eq_true, decide_eq_true_eq] at hfl
          obtain ⟨⟨hfl, hcf⟩, rfl, rfl⟩ := hfl
          have hrow := hC2.mem 0 _ (getE_o (hC2.wf.ap 0 _ hg) hg)
          simp only [Holds] at hrow
          have e0 : β' 0 = rb := g3 0 (by show 0 < c.nk; omega)
          have e1 : β' 1 = code := g3 1 (by show 1 < c.nk; omega)
          have e2 : β' 2 = rn := g3 2 (by show 2 < c.nk; omega)
          have e3 : β' 3 = base := g3 3 (by show 3 < c.nk; omega)
          rw [show 0 + 1 = 1 from rfl, show 0 + 2 = 2 from rfl, show 0 + 3 = 3 from rfl, e0, e1, e2, e3, ceDen_flat ρ' β' b0 hcf] at hrow
          refine ⟨_, _, rfl, hC2.below, hrow, ?_⟩
          rw [SV.den_flat ρ' β' b0 hfl]
          exact hq
        · exact hq.elim
      · exact hq.elim
  cases e with
  | normal => exact fin hk
  | ret => exact fin hk
  | exit id => exact hk.elim
end Vc

/- Vc, part U: what a seat's texts use. No program in sight. -/
set_option linter.unusedVariables false
namespace Vc
open Go Go.RowKit

def envOf (is : List Int) (bs : List Bool) (vs : List OV) (ps : List (Nat × Nat)) (ss : List (List UInt8) := []) (ls : List (List OV) := []) : Env :=
  ⟨fun j => is.getD j 0, fun j => bs.getD j false, fun j => vs.getD j ⟨.nilFunc, rfl⟩, fun j => ps.getD j (0, 0), fun j => ss.getD j [], fun j => ls.getD j []⟩

def okCalls (P : Program) (l : List FuncId) : Bool :=
  l.all fun f => match P.funcs[f]? with
    | some fn => (fn.name != "runtime.NumGoroutine") && fn.body.isSome
    | none => false
theorem callable {P : Program} {l : List FuncId} (h : okCalls P l = true) {f : FuncId} (hf : l.contains f = true) (args : Array Value) (w : World) : (callFunc f args).run P w = .ok (.enter f args) w := by
  have := List.all_eq_true.1 h f (List.contains_iff_mem.1 hf)
  cases hp : P.funcs[f]? with
  | none => simp [hp] at this
  | some fn =>
    simp only [hp, Bool.and_eq_true, bne_iff_ne, ne_eq] at this
    obtain ⟨h1, h2⟩ := this
    have h3 : fn.body.isNone = false := by cases hb : fn.body <;> simp_all
    have h4 : fn.body ≠ none := by intro he; rw [he] at h2; cases h2
    simp [callFunc, hp, h1, h4]

/-- What a seat's texts share. -/
structure Base (P : Program) (calls ext inl : List FuncId) : Prop where
  calls : okCalls P calls = true
  inl : okCalls P inl = true
  mix : P.follows .mixedOrders = true
theorem Base.ok {P : Program} {calls ext inl : List FuncId} (h : Base P calls ext inl) (loops : List (Nat × LH)) : (⟨P, calls, ext, inl, loops⟩ : Cfg).Ok :=
  ⟨fun f hf args w => callable h.calls hf args w, fun f hf args w => callable h.inl hf args w⟩

theorem Ret.mono {P : Program} {f : FuncId} {args : Array Value} {w : World} {v v' : Value} (h : Calls P f args w (Ret v w)) (e : v = v') : Calls P f args w (Ret v' w) := e ▸ h

/-- A FUNCTION THAT COMPUTES A VALUE, by what its walk says. -/
theorem pure_of {P : Program} {calls ext inl : List FuncId} (B : Base P calls ext inl) (loops : List (Nat × LH)) (n : Nat) {f : FuncId} {fn : Func} {b : Code} (hf : P.funcs[f]? = some fn) (hb : fn.body = some b)
    (args : List SV) (c : Ctr) (ρ : Env) {vals : Array Value} (ha : (args.map (SV.den ρ b0)).toArray = vals) (hw : args.all (SV.wf c) = true) {w : World} {v : Value} {p : Prop}
    (he : execF (PA P ⟨w, []⟩ (fun u => u = v) (fun _ _ => False)) ⟨P, calls, ext, inl, loops⟩ n fn b args c ρ = p) (h : p) : Calls P f vals w (Ret v w) := by
  subst ha
  refine (calls_of_exec (G := ⟨P, calls, ext, inl, loops⟩) (B.ok loops) B.mix hf hb n hw (Eq.mpr he h)).mono fun e w' he => ?_
  obtain ⟨u, h1, h2, h3⟩ := he
  rcases h3 with rfl | h3
  · exact ⟨h1, h2⟩
  · exact h3.elim
/-- A FUNCTION THAT CHANGES A BLOCK that is lent to it. -/
theorem eff_of {P : Program} {calls ext inl : List FuncId} (B : Base P calls ext inl) (loops : List (Nat × LH)) (n : Nat) {f : FuncId} {fn : Func} {b : Code} (hf : P.funcs[f]? = some fn) (hb : fn.body = some b)
    (args : List SV) (cs : List At) (t : TypeId) (c : Ctr) (ρ : Env) {x : Nat} {vals old : Array Value} (ha : (args.map (SV.den ρ (lentB [x]))).toArray = vals) (ho : (cs.map (At.den ρ (lentB [x]))).toArray = old) (hw : args.all (SV.wf c) = true) (hc : cs.all (At.wf c) = true) (h0 : 0 < c.nk)
    {w : World} {v : Value} {new : Array Value} {p : Prop} (he : execFL (PA P ⟨w, [x]⟩ (fun u => u = .agg #[v, .agg new]) (fun _ _ => False)) ⟨P, calls, ext, inl, loops⟩ n fn b args [(cs, t)] c ρ = p)
    (hx : w.heap[x]? = some (.cells old t)) (h : p) : Calls P f vals w (Eff v x new t w) := by
  subst ha ho
  refine (calls_of_execL (G := ⟨P, calls, ext, inl, loops⟩) (B.ok loops) B.mix hf hb n hw (bs := [(cs, t)]) (xs := [x]) (by simpa using hc) h0 rfl (by simp) (fun k cs' t' hk => ?_) (Eq.mpr he h)).mono fun e w' he => ?_
  · cases k with
    | zero =>
      simp only [List.getElem?_cons_zero, Option.some.injEq, Prod.mk.injEq] at hk
      obtain ⟨rfl, rfl⟩ := hk
      exact hx
    | succ k => simp at hk
  · obtain ⟨u, cells, h1, h2, h3, h4, h5⟩ := he
    obtain ⟨n', h6, h7⟩ := h4 0 cs t rfl
    match cells, h3 with
    | [cell], _ =>
      simp only [List.getElem?_cons_zero, Option.some.injEq] at h6
      subst h6
      simp only [Value.agg.injEq] at h5
      have h8 := congrArg Array.toList h5
      simp only [List.cons.injEq, Value.agg.injEq, and_true] at h8
      obtain ⟨rfl, rfl⟩ := h8
      exact ⟨h1, h2, h7⟩
/-- Blocks that are lent, with what they hold. -/
def LentH : List Nat → List (Array Value × TypeId) → World → Prop
  | x :: xs, b :: bs, w => w.heap[x]? = some (.cells b.1 b.2) ∧ LentH xs bs w
  | [], [], _ => True
  | _, _, _ => False
theorem LentH.get {w : World} : ∀ {xs : List Nat} {bs : List (Array Value × TypeId)}, LentH xs bs w → xs.length = bs.length ∧ ∀ k b, bs[k]? = some b → w.heap[lentB xs k]? = some (.cells b.1 b.2)
  | [], [], _ => ⟨rfl, fun k b h => by simp at h⟩
  | x :: xs, b :: bs, h => by
    obtain ⟨h1, h2⟩ := LentH.get h.2
    refine ⟨by simp [h1], fun k b' hk => ?_⟩
    cases k with
    | zero =>
      simp only [List.getElem?_cons_zero, Option.some.injEq] at hk
      subst hk
      exact h.1
    | succ k => exact h2 k b' (by simpa using hk)
/-- A FUNCTION THAT CHANGES BLOCKS that are lent to it (two or more). -/
theorem effL_of {P : Program} {calls ext inl : List FuncId} (B : Base P calls ext inl) (loops : List (Nat × LH)) (n : Nat) {f : FuncId} {fn : Func} {b : Code} (hf : P.funcs[f]? = some fn) (hb : fn.body = some b)
    (args : List SV) (bs : List (List At × TypeId)) (c : Ctr) (ρ : Env) {x y : Nat} {xs : List Nat} {vals : Array Value} {old : List (Array Value × TypeId)} (ha : (args.map (SV.den ρ (lentB (x :: y :: xs)))).toArray = vals) (ho : (bs.map fun b => ((b.1.map (At.den ρ (lentB (x :: y :: xs)))).toArray, b.2)) = old) (hw : args.all (SV.wf c) = true) (hc : bs.all (fun b => b.1.all (At.wf c)) = true) (h0 : bs.length ≤ c.nk)
    {w : World} {v : Value} {new : List (Array Value)} {p : Prop} (he : execFL (PA P ⟨w, x :: y :: xs⟩ (fun u => u = .agg (v :: new.map .agg).toArray) (fun _ _ => False)) ⟨P, calls, ext, inl, loops⟩ n fn b args bs c ρ = p)
    (hnd : (x :: y :: xs).Nodup) (hx : LentH (x :: y :: xs) old w) (h : p) : Calls P f vals w fun e w' => e = .returned v ∧ BelL (x :: y :: xs) w w' ∧ LentH (x :: y :: xs) (new.zip (bs.map (·.2))) w' := by
  subst ha ho
  obtain ⟨g1, g2⟩ := LentH.get hx
  refine (calls_of_execL (G := ⟨P, calls, ext, inl, loops⟩) (B.ok loops) B.mix hf hb n hw (bs := bs) (xs := x :: y :: xs) hc h0 (by simpa using g1) hnd (fun k cs' t' hk => g2 k _ (by rw [List.getElem?_map, hk]; rfl)) (Eq.mpr he h)).mono fun e w' he => ?_
  obtain ⟨u, cells, h1, h2, h3, h4, h5⟩ := he
  simp only [Value.agg.injEq] at h5
  have h8 := congrArg Array.toList h5
  simp only [List.cons.injEq] at h8
  obtain ⟨rfl, rfl⟩ := h8
  refine ⟨h1, h2, ?_⟩
  have hl : (x :: y :: xs).length = bs.length := by simpa using g1
  have h3' : new.length = bs.length := by simpa using h3
  clear h2 h5 h1 hx g1 g2 he h hc h0 hnd hw h3
  generalize x :: y :: xs = zs at *
  induction zs generalizing bs new with
  | nil =>
    cases bs with
    | nil => cases new with
      | nil => trivial
      | cons a l => cases h3'
    | cons a l => cases hl
  | cons z zs ih =>
    cases bs with
    | nil => cases hl
    | cons b bs =>
      cases new with
      | nil => cases h3'
      | cons a new =>
        obtain ⟨n', e1, e2⟩ := h4 0 b.1 b.2 rfl
        simp only [List.map_cons, List.getElem?_cons_zero, Option.some.injEq, Value.agg.injEq] at e1
        subst e1
        refine ⟨e2, ih bs (by simpa using h3') (fun k cs t hk => ?_) (by simpa using hl)⟩
        obtain ⟨n'', e3, e4⟩ := h4 (k + 1) cs t (by simpa using hk)
        exact ⟨n'', by simpa using e3, e4⟩
/-- A FUNCTION THAT CHANGES A ROW that is lent to it, in place. -/
theorem effR_of {P : Program} {calls ext inl : List FuncId} (B : Base P calls ext inl) (loops : List (Nat × LH)) (n : Nat) {f : FuncId} {fn : Func} {b : Code} (hf : P.funcs[f]? = some fn) (hb : fn.body = some b)
    (args : List SV) (sz : Nat) (t : TypeId) (c : Ctr) (ρ : Env) {rb code rn base : Nat} {vals : Array Value} {xs : List Value} (ha : (args.map (SV.den ρ fun k => [rb, code, rn, base].getD k 0)).toArray = vals) (hl : (ρ.l 0).map (·.1) = xs) (hw : args.all (SV.wf c) = true) (h4 : 4 ≤ c.nk) (h1 : 1 ≤ c.nl)
    {w : World} {v : Value} {new : List Value} {p : Nat → Prop} (he : ∀ x, execFR (PA P ⟨w, [x]⟩ (fun u => u = .agg #[v, .agg new.toArray]) (fun _ _ => False)) ⟨P, calls, ext, inl, loops⟩ n fn b args sz t c ρ = p x)
    {own : Nat → Prop} (hx : RowOkP own rb code rn base xs sz t w) (hlt : 2 ≤ code → rb < w.heap.size) (h : ∀ x, p x) : Calls P f vals w (EffRow v rb code rn base new sz t w) := by
  subst ha hl
  have key : ∀ x, (2 ≤ code → rb = x) → Calls P f (args.map (SV.den ρ fun k => [rb, code, rn, base].getD k 0)).toArray w fun e w' => e = .returned v ∧ BelX x w w' ∧ RowOkP (fun _ => True) rb code rn base new sz t w' := fun x hxx => by
    refine (calls_of_execR (G := ⟨P, calls, ext, inl, loops⟩) (B.ok loops) B.mix hf hb n (x := x) hw h4 h1 ?_ (Eq.mpr (he x) (h x))).mono fun e w' hh => ?_
    · obtain ⟨a1, a2, a3⟩ := hx
      refine ⟨a1, a2, ?_⟩
      rcases a3 with a3 | ⟨b1, b2, b3, b4⟩
      · exact .inl a3
      · exact .inr ⟨b1, b2, hxx b1, b4⟩
    · obtain ⟨u, cells, g1, g2, g3, g4⟩ := hh
      simp only [Value.agg.injEq] at g4
      have g5 := congrArg Array.toList g4
      simp only [List.cons.injEq, Value.agg.injEq, and_true] at g5
      obtain ⟨rfl, g6⟩ := g5
      have g7 : cells = new := by simpa using congrArg Array.toList g6
      subst g7
      refine ⟨g1, g2, ?_⟩
      obtain ⟨a1, a2, a3⟩ := g3
      refine ⟨a1, a2, ?_⟩
      rcases a3 with a3 | ⟨b1, b2, b3, b4⟩
      · exact .inl a3
      · exact .inr ⟨b1, b2, trivial, b4⟩
  by_cases hc : 2 ≤ code
  · exact (key rb fun _ => rfl).mono fun e w' ⟨h1, h2, h3⟩ => ⟨h1, fun h => by omega, fun _ => h2, h3⟩
  · exact (key w.heap.size fun h => by omega).mono fun e w' ⟨h1, h2, h3⟩ => ⟨h1, fun _ => ⟨h2.os, h2.tape, h2.output, h2.size, fun k hk => h2.block k hk (by omega)⟩, fun h => by omega, h3⟩
/-- The same for any postcondition on the value. -/
theorem post_of {P : Program} {calls ext inl : List FuncId} (B : Base P calls ext inl) (loops : List (Nat × LH)) (n : Nat) {f : FuncId} {fn : Func} {b : Code} (hf : P.funcs[f]? = some fn) (hb : fn.body = some b)
    (args : List SV) (c : Ctr) (ρ : Env) {vals : Array Value} (ha : (args.map (SV.den ρ b0)).toArray = vals) (hw : args.all (SV.wf c) = true) {w : World} {Q : Value → Prop} {QM : World → Value → Prop} {p : Prop}
    (he : execF (PA P ⟨w, []⟩ Q QM) ⟨P, calls, ext, inl, loops⟩ n fn b args c ρ = p) (h : p) : Calls P f vals w fun e w' => ∃ v, e = .returned v ∧ Below w.heap.size w w' ∧ (Q v ∨ QM w' v) := by
  subst ha
  exact calls_of_exec (G := ⟨P, calls, ext, inl, loops⟩) (B.ok loops) B.mix hf hb n hw (Eq.mpr he h)
/-- A contract that says a value, out of one that says more of it. -/
theorem ret_of_post {P : Program} {f : FuncId} {vals : Array Value} {w : World} {Q : Value → Prop} {v : Value} (h : Calls P f vals w fun e w' => ∃ u, e = .returned u ∧ Below w.heap.size w w' ∧ (Q u ∨ False)) (hq : ∀ u, Q u → u = v) : Calls P f vals w (Ret v w) :=
  h.mono fun e w' ⟨u, h1, h2, h3⟩ => by
    rcases h3 with h3 | h3
    · exact ⟨by rw [h1, hq u h3], h2⟩
    · exact h3.elim

theorem i64_eq (x : Int) : IntKind.i64.wrap x = (x + 9223372036854775808) % 18446744073709551616 - 9223372036854775808 := by
  unfold IntKind.wrap
  simp only [IntKind.bits, IntKind.signed]
  simp
  split <;> omega
theorem u64_eq (x : Int) : IntKind.u64.wrap x = x % 18446744073709551616 := by
  simp [IntKind.wrap, IntKind.bits, IntKind.signed]
theorem i64_id {x : Int} (h : -9223372036854775808 ≤ x ∧ x ≤ 9223372036854775807) : IntKind.i64.wrap x = x := by rw [i64_eq]; omega
theorem u64_id {x : Int} (h : 0 ≤ x ∧ x ≤ 18446744073709551615) : IntKind.u64.wrap x = x := by rw [u64_eq]; omega
end Vc
