import Derived.Test.YtnjpiipdgapakaaGreatDoorVcU
set_option linter.unusedVariables false
set_option linter.unusedSimpArgs false
namespace Vc
open Go
section
variable {α:Type}
theorem GO{dR:α->List Value}{n:Nat}(hn:∀a,(dR a).length=n):∀(l:List α) (i:Nat),(l.flatMap dR).drop (i*n)=(l.drop i).flatMap dR
  |l,0=>by simp
  | [],i+1=>by simp
  |a::r,i+1=>by
    rw [List.flatMap_cons,List.drop_succ_cons,<-GO hn r i,Nat.succ_mul,Nat.add_comm,<-List.drop_drop];congr 1;rw [<-hn a,List.drop_left]
theorem Rg{dR:α->List Value}{n:Nat}(hn:∀a,(dR a).length=n):∀(l:List α),(l.flatMap dR).length=l.length*n
 | []=>by simp
 |a::r=>by rw [List.flatMap_cons,List.length_append,hn,Rg hn r,List.length_cons,Nat.succ_mul,Nat.add_comm]
theorem Mb{dR:α->List Value}{n:Nat}(hn:∀a,(dR a).length=n){l:List α}{i k:Nat}{a:α}(h:l[i]? = some a)(hk:k<n):(l.flatMap dR)[i*n+k]? = (dR a)[k]? := by
 rw [<-List.getElem?_drop,GO hn]
 have:l.drop i=a::l.drop (i+1):=by
  obtain⟨h1,h2⟩:=List.getElem?_eq_some_iff.1 h;rw [List.drop_eq_getElem_cons h1,h2]
 rw [this,List.flatMap_cons,List.getElem?_append_left (by rw [hn];exact hk)]
theorem EI{dR:α->List Value}{n:Nat}(hn:∀a,(dR a).length=n)(h0:0<n){a:α}{r:List α}(h:(a::r).flatMap dR=[]):False:=by
 have:=congrArg List.length h
 rw [List.flatMap_cons,List.length_append,hn,List.length_nil]at this;omega
theorem Rh{dR:α->List Value}{ks:List CK}{n:Nat}(hn:∀a,(dR a).length=n)(h0:0<n)(rk:ks.length<=n)(hk:∀a,eI ks ((dR a).take ks.length)=true):∀(f:Nat) (l:List α),hZ ks n f (l.flatMap dR)=true
  |0,_=>rfl
  |f+1,[]=>rfl
  |f+1,a::r=>by
    have e1:((a::r).flatMap dR).take ks.length=(dR a).take ks.length:=by rw [List.flatMap_cons,List.take_append_of_le_length (by rw [hn];exact rk)]
    have e2:((a::r).flatMap dR).drop n=r.flatMap dR:=by have:=GO hn (a::r) 1;simpa using this
    have dO:(a::r).flatMap dR ≠ []:=λh=>EI hn h0 h;cases hc:(a::r).flatMap dR with
    |nil=>exact (dO hc).elim
    |cons x y =>
      rw [hZ,<-hc,e1,e2,hk,Rh hn h0 rk hk f r]
      · rfl
      · intro h;cases h
theorem VL{dR:α->List Value}{ks:List CK}{n:Nat}(hn:∀a,(dR a).length=n)(h0:0<n)(rk:ks.length<=n)(hk:∀a,eI ks ((dR a).take ks.length)=true)(l:List α):iF ks n (l.flatMap dR)=true:=Rh hn h0 rk hk _ l
theorem Ri{dR:α->List Value}{nk n:Nat}(hn:∀a,(dR a).length=n)(h0:0<n)(hk:nk<=n)(key:List Value):∀(f:Nat) (l:List α),l.length<=f->bS nk n key f (l.flatMap dR)=l.findIdx? (λa=>iv key ((dR a).take nk))
  |0,l,h=>by
    have:l=[]:=by cases l with|nil=>rfl|cons a r=>simp at h
    subst this;rfl
  |f+1,[],_=>rfl
  |f+1,a::r,h=>by
    have e1:((a::r).flatMap dR).take nk=(dR a).take nk:=by rw [List.flatMap_cons,List.take_append_of_le_length (by rw [hn];exact hk)]
    have e2:((a::r).flatMap dR).drop n=r.flatMap dR:=by have:=GO hn (a::r) 1;simpa using this
    have dO:(a::r).flatMap dR ≠ []:=λh=>EI hn h0 h;rw [List.findIdx?_cons,<-Ri hn h0 hk key f r (by simpa using h)];cases hc:(a::r).flatMap dR with
    |nil=>exact (dO hc).elim
    |cons x y =>
      rw [bS,<-hc,e1,e2];intro h;cases h
theorem VM{dR:α->List Value}{nk n:Nat}(hn:∀a,(dR a).length=n)(h0:0<n)(hk:nk<=n)(key:List Value)(l:List α):fy nk n key (l.flatMap dR)=match l.findIdx? (λa=>iv key ((dR a).take nk))with|some i=>(i:Int)|none => -1:=by
 unfold fy;rw [Ri hn h0 hk key _ l (by rw [Rg hn];exact Nat.le_mul_of_pos_right _ h0)];rfl
end
def sK(s:List UInt8):Value := .string ⟨s.toArray⟩
theorem Mc(a b:List UInt8):nj (sK a) (sK b)=decide (a=b):=by simp [nj,sK]
def jm(s:List UInt8):List Value := [sK s,.bool true]
theorem Md(s:List UInt8):(jm s).length=2:=rfl
theorem GP(l:List (List UInt8)):iF [.str] 2 (l.flatMap jm)=true:=VL Md (by decide) (by decide) (λa=>rfl) l
theorem Rj(s:List UInt8)(l:List (List UInt8)):fy 1 2 [sK s] (l.flatMap jm)=match l.findIdx? (λa=>decide (s=a))with|some i=>(i:Int)|none => -1:=by
 rw [VM Md (by decide) (by decide)]
 have:(λa=>iv [sK s] ((jm a).take 1))=λa=>decide (s=a):=by
  funext a;simp only [jm,List.take_succ_cons,List.take_zero,iv,Bool.and_true,Mc]
 rw [this]
theorem AI{s:List UInt8}{l:List (List UInt8)}:(0<=fy 1 2 [sK s] (l.flatMap jm))↔s∈l:=by
  rw [Rj];cases h:l.findIdx? (λa=>decide (s=a))with
  |none =>
    simp only [List.findIdx?_eq_none_iff,decide_eq_false_iff_not]at h;simp only [show ¬(0:Int) <= -1 by decide,false_iff];intro hm;exact h s hm rfl
  |some i =>
    simp only [List.findIdx?_eq_some_iff_getElem,decide_eq_true_eq]at h;obtain⟨h1,h2,_⟩:=h;simp only [Int.natCast_nonneg,true_iff];rw [h2];exact List.getElem_mem h1
theorem Rk{s:List UInt8}{l:List (List UInt8)}(h:s∈l):(l.flatMap jm)[(fy 1 2 [sK s] (l.flatMap jm)).toNat*2+1]? = some (.bool true):=by
  have h0:=AI.2 h;rw [Rj]at h0 ⊢;cases h:l.findIdx? (λa=>decide (s=a))with
  |none=>rw [h]at h0;simp at h0
  |some i =>
    simp only [List.findIdx?_eq_some_iff_getElem,decide_eq_true_eq]at h;obtain⟨h1,h2,_⟩:=h;simp only [Int.toNat_natCast];rw [Mb Md (List.getElem?_eq_getElem h1) (by decide)];rfl
end Vc
