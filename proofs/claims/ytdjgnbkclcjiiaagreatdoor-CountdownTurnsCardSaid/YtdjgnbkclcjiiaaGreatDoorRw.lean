import Derived.Test.YtdjgnbkclcjiiaaGreatDoorRv
set_option linter.unusedVariables false
set_option linter.unusedSimpArgs false
namespace Go.Proofs.YtdjgnbkclcjiiaaGreatDoor
open Go Go.RowKit Vc
def notR(v:Value)(a:Rl):Rl := .mk 2 0 [] 0 0 0 v [a]
def andR(v:Value)(a b:Rl):Rl := .mk 3 0 [] 0 0 0 v [a,b]
def orR(v:Value)(a b:Rl):Rl := .mk 4 0 [] 0 0 0 v [a,b]
theorem ztm(q:Rl→Int × Int)(v:Value)(a:Rl):valR q (notR v a) = -valR q a:=by simp [notR,valR,valL,valK]
theorem zpy(q:Rl→Int × Int)(v:Value)(a b:Rl):valR q (andR v a b)=min (valR q a) (valR q b):=by simp [andR,valR,valL,valK]
theorem zoz(q:Rl→Int × Int)(v:Value)(a b:Rl):valR q (orR v a b)=max (valR q a) (valR q b):=by simp [orR,valR,valL,valK]
theorem ziw(q:Rl→Int × Int)(v1 v2 v3 v4 v5:Value)(a b:Rl):valR q (notR v1 (andR v2 a b))=valR q (orR v3 (notR v4 a) (notR v5 b)):=by
 rw [ztm,zpy,zoz,ztm,ztm];omega
def ObsP(l:List Sn):Prop:=(∀ s∈l,snB s=true)∧l.Pairwise fun a b=>a.nm=b.nm→a.t≤b.t
theorem ztr{α:Type}{P:List α→Prop}(h0:P [])(h1:∀ l a,P l→P (l ++ [a]))(l:List α):P l:=by
 have:∀ l:List α,P l.reverse:=by
  intro l
  induction l with
  | nil=>exact h0
  | cons a l ih=>rw [List.reverse_cons];exact h1 _ _ ih
 have:=this l.reverse
 rwa [List.reverse_reverse]at this
theorem zwa(p:List Sn)(s:Sn)(nm:List UInt8):lastT (p ++ [s]) nm=if s.nm=nm then s.t else lastT p nm:=by unfold lastT;rw [List.foldl_append];rfl
theorem zcp:∀ (p:List Sn) (nm:List UInt8),lastT p nm=0∨∃ s∈p,s.nm=nm∧s.t=lastT p nm:=by
  intro p
  induction p using ztr with
  | h0=>intro nm;exact .inl rfl
  | h1 p s ih =>
    intro nm;rw [zwa];split
    · rename_i h;exact .inr ⟨s,by simp,h,rfl⟩
    · rcases ih nm with h | ⟨x,h1,h2,h3⟩
      · exact .inl h
      · exact .inr ⟨x,by simp [h1],h2,h3⟩
theorem zjw:∀ (p:List Sn),p.Pairwise (fun a b=>a.nm=b.nm→a.t≤b.t)→∀ x∈p,x.t≤lastT p x.nm:=by
  intro p
  induction p using ztr with
  | h0=>intro _ x hx;cases hx
  | h1 p s ih =>
    intro hp x hx;rw [List.pairwise_append]at hp;rw [zwa];rcases List.mem_append.1 hx with hx | hx
    · split
      · rename_i h;exact hp.2.2 x hx s (by simp) h.symm
      · exact ih hp.1 x hx
    · simp only [List.mem_singleton]at hx;subst hx;rw [if_pos rfl];exact Int.le_refl _
theorem zur:∀ (l p:List Sn),ObsP p→(obsA p l=true↔ObsP (p++l))
  | [],p,hp=>by simp [obsA,hp]
  | s::l,p,hp=>by
    have key:(nameB s.nm && inB s.t (lastT p s.nm) 1073741824 && inB s.v (-1073741824) 1073741824)=true↔ObsP (p ++ [s]):=by
      simp only [Bool.and_eq_true,inB,decide_eq_true_eq];constructor
      · intro h
        have h0:0≤s.t:=by
          rcases zcp p s.nm with h1 | ⟨x,h1,h2,h3⟩
          · omega
          · have:=hp.1 x h1
            simp only [snB,inB,Bool.and_eq_true,decide_eq_true_eq]at this;omega
        refine⟨fun x hx => ?_, ?_⟩
        · rcases List.mem_append.1 hx with hx | hx
          · exact hp.1 x hx
          · simp only [List.mem_singleton]at hx;subst hx;simp only [snB,inB,Bool.and_eq_true,decide_eq_true_eq];exact⟨⟨h.1.1,by omega,by omega⟩,by omega,by omega⟩
        · rw [List.pairwise_append];refine⟨hp.2,by simp,fun x hx y hy hxy => ?_⟩;simp only [List.mem_singleton]at hy;subst hy
          have:=zjw p hp.2 x hx
          rw [hxy]at this;omega
      · intro h;have h1:=h.1 s (by simp);simp only [snB,inB,Bool.and_eq_true,decide_eq_true_eq]at h1;refine⟨⟨h1.1.1, ?_,by omega⟩,by omega⟩;rcases zcp p s.nm with h2 | ⟨x,h2,h3,h4⟩
        · omega
        · rw [← h4]
          have:=(List.pairwise_append.1 h.2).2.2 x h2 s (by simp) h3
          exact this
    unfold obsA;by_cases hk:(nameB s.nm && inB s.t (lastT p s.nm) 1073741824 && inB s.v (-1073741824) 1073741824)=true
    · rw [hk,Bool.true_and,zur l (p ++ [s]) (key.1 hk),List.append_assoc];rfl
    · rw [Bool.eq_false_iff.2 hk,Bool.false_and];refine⟨fun h=>(by cases h),fun h=>absurd (key.2 ?_) hk⟩;refine⟨fun x hx=>h.1 x (by rcases List.mem_append.1 hx with hx | hx <;> simp_all), ?_⟩
      have:=h.2
      rw [show p++s::l=(p ++ [s])++l by simp]at this;exact (List.pairwise_append.1 this).1
theorem zsi(l:List Sn):obsB l=true↔ObsP l∧l.length≤1000:=by
 unfold obsB;rw [Bool.and_eq_true,decide_eq_true_eq,zur l [] ⟨fun s hs=>(by cases hs),List.Pairwise.nil⟩];rfl
theorem zvs{l:List Sn}(f:Sn→Bool)(h:obsB l=true):obsB (l.filter f)=true:=by
 rw [zsi]at h ⊢;refine⟨⟨fun s hs=>h.1.1 s (List.mem_filter.1 hs).1,h.1.2.filter _⟩, ?_⟩
 have:=List.length_filter_le f l
 omega
theorem znq(l:List Sn)(now:Int)(nm:List UInt8):sampL (l.filter fun s=>decide (s.t≤now)) nm now=sampL l nm now:=by
 unfold sampL;rw [List.filter_filter];congr 1;funext s;cases decide (s.nm=nm) <;> cases decide (s.t≤now) <;> rfl
theorem zws(l:List Sn)(now fresh:Int):askQ (l.filter fun s=>decide (s.t≤now)) now fresh=askQ l now fresh:=by
 funext r;unfold askQ;rw [znq]
theorem zdp{r:Rl}{l:List Sn}{now fresh:Int}(h:(judgeI r l now fresh).2=0):(judgeI r (l.filter fun s=>decide (s.t≤now)) now fresh).1=(judgeI r l now fresh).1:=by
 unfold judgeI at h ⊢;by_cases h1:(validR r && obsB l)=false
 ·rw [if_pos h1]at h;simp at h
 rw [if_neg h1]at h ⊢;by_cases h2:(inB now 0 1073741824 && inB fresh 0 1000)=false
 ·rw [if_pos h2]at h;simp at h
 rw [if_neg h2];have h3:validR r=true∧obsB l=true:=by simpa using h1
 rw [if_neg (by rw [h3.1,zvs _ h3.2];simp),if_neg h2,zws]
end Go.Proofs.YtdjgnbkclcjiiaaGreatDoor
