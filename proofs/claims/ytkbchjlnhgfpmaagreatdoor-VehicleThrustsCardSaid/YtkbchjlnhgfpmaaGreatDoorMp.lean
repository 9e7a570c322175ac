import Derived.Test.YtkbchjlnhgfpmaaGreatDoorVcU
set_option linter.unusedVariables false
set_option linter.unusedSimpArgs false
namespace Vc
open Go
section
variable {α:Type}
theorem JY{eO:α->List Value}{n:Nat}(hn:∀a,(eO a).length=n):∀(l:List α) (i:Nat),(l.flatMap eO).drop (i*n)=(l.drop i).flatMap eO
  |l,0=>by simp
  | [],i+1=>by simp
  |a::r,i+1=>by
    rw [List.flatMap_cons,List.drop_succ_cons,<-JY hn r i,Nat.succ_mul,Nat.add_comm,<-List.drop_drop];congr 1;rw [<-hn a,List.drop_left]
theorem VL{eO:α->List Value}{n:Nat}(hn:∀a,(eO a).length=n):∀(l:List α),(l.flatMap eO).length=l.length*n
 | []=>by simp
 |a::r=>by rw [List.flatMap_cons,List.length_append,hn,VL hn r,List.length_cons,Nat.succ_mul,Nat.add_comm]
theorem Qt{eO:α->List Value}{n:Nat}(hn:∀a,(eO a).length=n){l:List α}{i k:Nat}{a:α}(h:l[i]? = some a)(hk:k<n):(l.flatMap eO)[i*n+k]? = (eO a)[k]? := by
 rw [<-List.getElem?_drop,JY hn]
 have:l.drop i=a::l.drop (i+1):=by
  obtain⟨h1,h2⟩:=List.getElem?_eq_some_iff.1 h;rw [List.drop_eq_getElem_cons h1,h2]
 rw [this,List.flatMap_cons,List.getElem?_append_left (by rw [hn];exact hk)]
theorem Hx{eO:α->List Value}{n:Nat}(hn:∀a,(eO a).length=n)(h0:0<n){a:α}{r:List α}(h:(a::r).flatMap eO=[]):False:=by
 have:=congrArg List.length h
 rw [List.flatMap_cons,List.length_append,hn,List.length_nil]at this;omega
theorem VM{eO:α->List Value}{ks:List CK}{n:Nat}(hn:∀a,(eO a).length=n)(h0:0<n)(tX:ks.length<=n)(hk:∀a,fy ks ((eO a).take ks.length)=true):∀(f:Nat) (l:List α),iZ ks n f (l.flatMap eO)=true
  |0,_=>rfl
  |f+1,[]=>rfl
  |f+1,a::r=>by
    have e1:((a::r).flatMap eO).take ks.length=(eO a).take ks.length:=by rw [List.flatMap_cons,List.take_append_of_le_length (by rw [hn];exact tX)]
    have e2:((a::r).flatMap eO).drop n=r.flatMap eO:=by have:=JY hn (a::r) 1;simpa using this
    have dt:(a::r).flatMap eO ≠ []:=λh=>Hx hn h0 h;cases hc:(a::r).flatMap eO with
    |nil=>exact (dt hc).elim
    |cons x y =>
      rw [iZ,<-hc,e1,e2,hk,VM hn h0 tX hk f r]
      · rfl
      · intro h;cases h
theorem zty{eO:α->List Value}{ks:List CK}{n:Nat}(hn:∀a,(eO a).length=n)(h0:0<n)(tX:ks.length<=n)(hk:∀a,fy ks ((eO a).take ks.length)=true)(l:List α):jC ks n (l.flatMap eO)=true:=VM hn h0 tX hk _ l
theorem VN{eO:α->List Value}{nk n:Nat}(hn:∀a,(eO a).length=n)(h0:0<n)(hk:nk<=n)(key:List Value):∀(f:Nat) (l:List α),l.length<=f->cB nk n key f (l.flatMap eO)=l.findIdx? (λa=>jh key ((eO a).take nk))
  |0,l,h=>by
    have:l=[]:=by cases l with|nil=>rfl|cons a r=>simp at h
    subst this;rfl
  |f+1,[],_=>rfl
  |f+1,a::r,h=>by
    have e1:((a::r).flatMap eO).take nk=(eO a).take nk:=by rw [List.flatMap_cons,List.take_append_of_le_length (by rw [hn];exact hk)]
    have e2:((a::r).flatMap eO).drop n=r.flatMap eO:=by have:=JY hn (a::r) 1;simpa using this
    have dt:(a::r).flatMap eO ≠ []:=λh=>Hx hn h0 h;rw [List.findIdx?_cons,<-VN hn h0 hk key f r (by simpa using h)];cases hc:(a::r).flatMap eO with
    |nil=>exact (dt hc).elim
    |cons x y =>
      rw [cB,<-hc,e1,e2];intro h;cases h
theorem Qu{eO:α->List Value}{nk n:Nat}(hn:∀a,(eO a).length=n)(h0:0<n)(hk:nk<=n)(key:List Value)(l:List α):gh nk n key (l.flatMap eO)=match l.findIdx? (λa=>jh key ((eO a).take nk))with|some i=>(i:Int)|none => -1:=by
 unfold gh;rw [VN hn h0 hk key _ l (by rw [VL hn];exact Nat.le_mul_of_pos_right _ h0)];rfl
end
def sK(s:List UInt8):Value := .string ⟨s.toArray⟩
theorem Qv(a b:List UInt8):oY (sK a) (sK b)=decide (a=b):=by simp [oY,sK]
def kH(s:List UInt8):List Value := [sK s,.bool true]
theorem Qw(s:List UInt8):(kH s).length=2:=rfl
theorem Ak(l:List (List UInt8)):jC [.str] 2 (l.flatMap kH)=true:=zty Qw (by decide) (by decide) (λa=>rfl) l
theorem Hy(s:List UInt8)(l:List (List UInt8)):gh 1 2 [sK s] (l.flatMap kH)=match l.findIdx? (λa=>decide (s=a))with|some i=>(i:Int)|none => -1:=by
 rw [Qu Qw (by decide) (by decide)]
 have:(λa=>jh [sK s] ((kH a).take 1))=λa=>decide (s=a):=by
  funext a;simp only [kH,List.take_succ_cons,List.take_zero,jh,Bool.and_true,Qv]
 rw [this]
theorem Dj{s:List UInt8}{l:List (List UInt8)}:(0<=gh 1 2 [sK s] (l.flatMap kH))↔s∈l:=by
  rw [Hy];cases h:l.findIdx? (λa=>decide (s=a))with
  |none =>
    simp only [List.findIdx?_eq_none_iff,decide_eq_false_iff_not]at h;simp only [show ¬(0:Int) <= -1 by decide,false_iff];intro hm;exact h s hm rfl
  |some i =>
    simp only [List.findIdx?_eq_some_iff_getElem,decide_eq_true_eq]at h;obtain⟨h1,h2,_⟩:=h;simp only [Int.natCast_nonneg,true_iff];rw [h2];exact List.getElem_mem h1
theorem VO{s:List UInt8}{l:List (List UInt8)}(h:s∈l):(l.flatMap kH)[(gh 1 2 [sK s] (l.flatMap kH)).toNat*2+1]? = some (.bool true):=by
  have h0:=Dj.2 h;rw [Hy]at h0 ⊢;cases h:l.findIdx? (λa=>decide (s=a))with
  |none=>rw [h]at h0;simp at h0
  |some i =>
    simp only [List.findIdx?_eq_some_iff_getElem,decide_eq_true_eq]at h;obtain⟨h1,h2,_⟩:=h;simp only [Int.toNat_natCast];rw [Qt Qw (List.getElem?_eq_getElem h1) (by decide)];rfl
end Vc
