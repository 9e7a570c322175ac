import Derived.Test.YtdjgnbkclcjiiaaGreatDoorRv
set_option linter.unusedVariables false
set_option linter.unusedSimpArgs false
namespace Go.Proofs.YtdjgnbkclcjiiaaGreatDoor
open Go Go.RowKit Vc
def ObsP(l:List Sn):Prop:=(∀ s∈l,snB s=true)∧l.Pairwise fun a b=>a.nm=b.nm→a.t≤b.t
theorem zer{α:Type}{P:List α→Prop}(h0:P [])(h1:∀ l a,P l→P (l ++ [a]))(l:List α):P l:=by
 have:∀ l:List α,P l.reverse:=by
  intro l
  induction l with
  | nil=>exact h0
  | cons a l ih=>rw [List.reverse_cons];exact h1 _ _ ih
 have:=this l.reverse
 rwa [List.reverse_reverse]at this
theorem zva(p:List Sn)(s:Sn)(nm:List UInt8):lastT (p ++ [s]) nm=if s.nm=nm then s.t else lastT p nm:=by unfold lastT;rw [List.foldl_append];rfl
theorem zro:∀ (p:List Sn) (nm:List UInt8),lastT p nm=0∨∃ s∈p,s.nm=nm∧s.t=lastT p nm:=by
  intro p
  induction p using zer with
  | h0=>intro nm;exact .inl rfl
  | h1 p s ih =>
    intro nm;rw [zva];split
    · rename_i h;exact .inr ⟨s,by simp,h,rfl⟩
    · rcases ih nm with h | ⟨x,h1,h2,h3⟩
      · exact .inl h
      · exact .inr ⟨x,by simp [h1],h2,h3⟩
theorem zrv:∀ (p:List Sn),p.Pairwise (fun a b=>a.nm=b.nm→a.t≤b.t)→∀ x∈p,x.t≤lastT p x.nm:=by
  intro p
  induction p using zer with
  | h0=>intro _ x hx;cases hx
  | h1 p s ih =>
    intro hp x hx;rw [List.pairwise_append]at hp;rw [zva];rcases List.mem_append.1 hx with hx | hx
    · split
      · rename_i h;exact hp.2.2 x hx s (by simp) h.symm
      · exact ih hp.1 x hx
    · simp only [List.mem_singleton]at hx;subst hx;rw [if_pos rfl];exact Int.le_refl _
theorem zfr:∀ (l p:List Sn),ObsP p→(obsA p l=true↔ObsP (p++l))
  | [],p,hp=>by simp [obsA,hp]
  | s::l,p,hp=>by
    have key:(nameB s.nm && inB s.t (lastT p s.nm) 1073741824 && inB s.v (-1073741824) 1073741824)=true↔ObsP (p ++ [s]):=by
      simp only [Bool.and_eq_true,inB,decide_eq_true_eq];constructor
      · intro h
        have h0:0≤s.t:=by
          rcases zro p s.nm with h1 | ⟨x,h1,h2,h3⟩
          · omega
          · have:=hp.1 x h1
            simp only [snB,inB,Bool.and_eq_true,decide_eq_true_eq]at this;omega
        refine⟨fun x hx => ?_, ?_⟩
        · rcases List.mem_append.1 hx with hx | hx
          · exact hp.1 x hx
          · simp only [List.mem_singleton]at hx;subst hx;simp only [snB,inB,Bool.and_eq_true,decide_eq_true_eq];exact⟨⟨h.1.1,by omega,by omega⟩,by omega,by omega⟩
        · rw [List.pairwise_append];refine⟨hp.2,by simp,fun x hx y hy hxy => ?_⟩;simp only [List.mem_singleton]at hy;subst hy
          have:=zrv p hp.2 x hx
          rw [hxy]at this;omega
      · intro h;have h1:=h.1 s (by simp);simp only [snB,inB,Bool.and_eq_true,decide_eq_true_eq]at h1;refine⟨⟨h1.1.1, ?_,by omega⟩,by omega⟩;rcases zro p s.nm with h2 | ⟨x,h2,h3,h4⟩
        · omega
        · rw [← h4]
          have:=(List.pairwise_append.1 h.2).2.2 x h2 s (by simp) h3
          exact this
    unfold obsA;by_cases hk:(nameB s.nm && inB s.t (lastT p s.nm) 1073741824 && inB s.v (-1073741824) 1073741824)=true
    · rw [hk,Bool.true_and,zfr l (p ++ [s]) (key.1 hk),List.append_assoc];rfl
    · rw [Bool.eq_false_iff.2 hk,Bool.false_and];refine⟨fun h=>(by cases h),fun h=>absurd (key.2 ?_) hk⟩;refine⟨fun x hx=>h.1 x (by rcases List.mem_append.1 hx with hx | hx <;> simp_all), ?_⟩
      have:=h.2
      rw [show p++s::l=(p ++ [s])++l by simp]at this;exact (List.pairwise_append.1 this).1
theorem znm(l:List Sn):obsB l=true↔ObsP l∧l.length≤1000:=by
 unfold obsB;rw [Bool.and_eq_true,decide_eq_true_eq,zfr l [] ⟨fun s hs=>(by cases hs),List.Pairwise.nil⟩];rfl
theorem zgr:∀ (l:List Sn) (a:Int),a≤l.foldl (fun a s=>max a s.v) a∧∀ s∈l,s.v≤l.foldl (fun a s=>max a s.v) a
  | [],a=>⟨Int.le_refl _,fun s hs=>(by cases hs)⟩
  | x::l,a=>by
    obtain⟨h1,h2⟩:=zgr l (max a x.v);simp only [List.foldl_cons];refine⟨by omega,fun s hs => ?_⟩;rcases List.mem_cons.1 hs with rfl | hs
    · omega
    · exact h2 s hs
theorem zhr:∀ (l:List Sn) (a:Int),l.foldl (fun a s=>min a s.v) a≤a∧∀ s∈l,l.foldl (fun a s=>min a s.v) a≤s.v
  | [],a=>⟨Int.le_refl _,fun s hs=>(by cases hs)⟩
  | x::l,a=>by
    obtain⟨h1,h2⟩:=zhr l (min a x.v);simp only [List.foldl_cons];refine⟨by omega,fun s hs => ?_⟩;rcases List.mem_cons.1 hs with rfl | hs
    · omega
    · exact h2 s hs
theorem zyp{s:List Sn}{now fresh win:Int}(h:(sightP s now fresh win).2=true):∃ x,x∈(sightP s now fresh win).1:=by
  unfold sightP at h ⊢;dsimp only at h ⊢;cases hg:(s.filter fun x=>decide (x.t≤now - win)).getLast? with
  | none=>rw [hg]at h;simp at h
  | some f =>
    rw [hg]at h;dsimp only at h ⊢;by_cases hw:now - win - fresh≤f.t
    · rw [if_pos hw];exact⟨f,by simp⟩
    · rw [if_neg hw]at h;simp at h
theorem zzp{l:List Sn}{now fresh w n:Int}{nm:List UInt8}{v1 v2:Value}{c1 c2 n1 n2:Int}(hn:n≤1073741824)(h1:ansI (askQ l now fresh (.mk 1 1 nm w c1 n1 v1 [])) 0 n=1)(h2:ansI (askQ l now fresh (.mk 1 2 nm w c2 n2 v2 [])) 3 n=1):False:=by
 have e:∀ (b:Int × Int) (c:Int),ansI b c n=1→(cmpB c b.1 n && cmpB c (max b.1 (min b.2 n)) n && cmpB c b.2 n)=true:=fun b c h=>by
  unfold ansI at h;split at h
  ·assumption
  ·split at h <;> simp at h
 have g1:=e _ _ h1;have g2:=e _ _ h2;simp only [askQ,Rl.ask,Rl.nm,Rl.wi]at g1 g2;simp only [cmpB]at g1 g2;by_cases hw:(sightP (sampL l nm now) now fresh w).2=true
 ·obtain⟨x,hx⟩:=zyp hw;have m1:=(zgr (sightP (sampL l nm now) now fresh w).1 (-1099511627776)).2 x hx;have m2:=(zhr (sightP (sampL l nm now) now fresh w).1 1099511627776).2 x hx;simp [hw,maxV,minV]at g1 g2;omega
 ·simp [hw]at g1 g2;omega
end Go.Proofs.YtdjgnbkclcjiiaaGreatDoor
