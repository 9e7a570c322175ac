import Derived.Test.YtdjgnbkclcjiiaaGreatDoorRv
set_option linter.unusedVariables false
set_option linter.unusedSimpArgs false
namespace Go.Proofs.YtdjgnbkclcjiiaaGreatDoor
open Go Go.RowKit Vc
def ObsP(l:List Sn):Prop:=(∀ s∈l,snB s=true)∧l.Pairwise fun a b=>a.nm=b.nm→a.t≤b.t
theorem zrr{α:Type}{P:List α→Prop}(h0:P [])(h1:∀ l a,P l→P (l ++ [a]))(l:List α):P l:=by
 have:∀ l:List α,P l.reverse:=by
  intro l
  induction l with
  | nil=>exact h0
  | cons a l ih=>rw [List.reverse_cons];exact h1 _ _ ih
 have:=this l.reverse
 rwa [List.reverse_reverse]at this
theorem zwa(p:List Sn)(s:Sn)(nm:List UInt8):lastT (p ++ [s]) nm=if s.nm=nm then s.t else lastT p nm:=by unfold lastT;rw [List.foldl_append];rfl
theorem zfp:∀ (p:List Sn) (nm:List UInt8),lastT p nm=0∨∃ s∈p,s.nm=nm∧s.t=lastT p nm:=by
  intro p
  induction p using zrr with
  | h0=>intro nm;exact .inl rfl
  | h1 p s ih =>
    intro nm;rw [zwa];split
    · rename_i h;exact .inr ⟨s,by simp,h,rfl⟩
    · rcases ih nm with h | ⟨x,h1,h2,h3⟩
      · exact .inl h
      · exact .inr ⟨x,by simp [h1],h2,h3⟩
theorem zlw:∀ (p:List Sn),p.Pairwise (fun a b=>a.nm=b.nm→a.t≤b.t)→∀ x∈p,x.t≤lastT p x.nm:=by
  intro p
  induction p using zrr with
  | h0=>intro _ x hx;cases hx
  | h1 p s ih =>
    intro hp x hx;rw [List.pairwise_append]at hp;rw [zwa];rcases List.mem_append.1 hx with hx | hx
    · split
      · rename_i h;exact hp.2.2 x hx s (by simp) h.symm
      · exact ih hp.1 x hx
    · simp only [List.mem_singleton]at hx;subst hx;rw [if_pos rfl];exact Int.le_refl _
theorem zsr:∀ (l p:List Sn),ObsP p→(obsA p l=true↔ObsP (p++l))
  | [],p,hp=>by simp [obsA,hp]
  | s::l,p,hp=>by
    have key:(nameB s.nm && inB s.t (lastT p s.nm) 1073741824 && inB s.v (-1073741824) 1073741824)=true↔ObsP (p ++ [s]):=by
      simp only [Bool.and_eq_true,inB,decide_eq_true_eq];constructor
      · intro h
        have h0:0≤s.t:=by
          rcases zfp p s.nm with h1 | ⟨x,h1,h2,h3⟩
          · omega
          · have:=hp.1 x h1
            simp only [snB,inB,Bool.and_eq_true,decide_eq_true_eq]at this;omega
        refine⟨fun x hx => ?_, ?_⟩
        · rcases List.mem_append.1 hx with hx | hx
          · exact hp.1 x hx
          · simp only [List.mem_singleton]at hx;subst hx;simp only [snB,inB,Bool.and_eq_true,decide_eq_true_eq];exact⟨⟨h.1.1,by omega,by omega⟩,by omega,by omega⟩
        · rw [List.pairwise_append];refine⟨hp.2,by simp,fun x hx y hy hxy => ?_⟩;simp only [List.mem_singleton]at hy;subst hy
          have:=zlw p hp.2 x hx
          rw [hxy]at this;omega
      · intro h;have h1:=h.1 s (by simp);simp only [snB,inB,Bool.and_eq_true,decide_eq_true_eq]at h1;refine⟨⟨h1.1.1, ?_,by omega⟩,by omega⟩;rcases zfp p s.nm with h2 | ⟨x,h2,h3,h4⟩
        · omega
        · rw [← h4]
          have:=(List.pairwise_append.1 h.2).2.2 x h2 s (by simp) h3
          exact this
    unfold obsA;by_cases hk:(nameB s.nm && inB s.t (lastT p s.nm) 1073741824 && inB s.v (-1073741824) 1073741824)=true
    · rw [hk,Bool.true_and,zsr l (p ++ [s]) (key.1 hk),List.append_assoc];rfl
    · rw [Bool.eq_false_iff.2 hk,Bool.false_and];refine⟨fun h=>(by cases h),fun h=>absurd (key.2 ?_) hk⟩;refine⟨fun x hx=>h.1 x (by rcases List.mem_append.1 hx with hx | hx <;> simp_all), ?_⟩
      have:=h.2
      rw [show p++s::l=(p ++ [s])++l by simp]at this;exact (List.pairwise_append.1 this).1
theorem zvi(l:List Sn):obsB l=true↔ObsP l∧l.length≤1000:=by
 unfold obsB;rw [Bool.and_eq_true,decide_eq_true_eq,zsr l [] ⟨fun s hs=>(by cases hs),List.Pairwise.nil⟩];rfl
end Go.Proofs.YtdjgnbkclcjiiaaGreatDoor
