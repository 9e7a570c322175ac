import Derived.Test.YtpfgephckjpcjaaGreatDoorFvA
set_option linter.unusedVariables false
set_option linter.unusedSimpArgs false
namespace Vc
open Go Go.RowKit
theorem Mz{α:Type}{f:α->List Value}{c:Nat}(hf:∀a,(f a).length=c):∀l:List α,(l.flatMap f).length=l.length*c
 | []=>by simp
 |a::l=>by rw [List.flatMap_cons,List.length_append,hf,Mz hf l,List.length_cons,Nat.add_mul];omega
theorem FO{α:Type}{f:α->List Value}{c:Nat}(hf:∀a,(f a).length=c):∀{ps:List α} {i:Nat} {q:α} {o:Nat},ps[i]? = some q->o<c->(ps.flatMap f)[i*c+o]? = (f q)[o]?
  | [],i,q,o,h,_=>by simp at h
  |p::ps,i,q,o,h,ho=>by
    rw [List.flatMap_cons];cases i with
    |zero =>
      simp only [List.getElem?_cons_zero,Option.some.injEq]at h;subst h;rw [List.getElem?_append_left (by rw [hf];omega)];simp
    |succ i =>
      have hm:(i+1)*c=i*c+c:=Nat.succ_mul i c;rw [List.getElem?_append_right (by rw [hf];omega),<-FO hf (ps:=ps) (i:=i) (by simpa using h) ho];congr 1;rw [hf];omega
theorem MA{v:Value}{sz n:Nat}{xs:List Value}{w:World}(h:vT w v sz xs)(hz:0<sz)(hn:xs.length=n*sz) :
  ∃(b0:Bool) (p0:Nat × Nat) (x1:Int),v=(if b0=true then .slice none 0 0 else .slice (some (Vc.aO p0 (Int.toNat (n:Int)) x1.toNat)) (Int.toNat (n:Int)) x1.toNat)/\(b0=true->n=0)/\∀j u,xs[j]? = some u->w.cell? ⟨p0.1,p0.2+j,none⟩=some u:=by
 have empty:xs=[]->n=0:=λh2=>by
  rw [h2]at hn;rcases Nat.mul_eq_zero.1 hn.symm with h|h<;>omega
 have AI:∀a,v=.slice (some a) 0 0->xs=[]->∃(b0:Bool) (p0:Nat × Nat) (x1:Int),v=(if b0=true then .slice none 0 0 else .slice (some (Vc.aO p0 (Int.toNat (n:Int)) x1.toNat)) (Int.toNat (n:Int)) x1.toNat)/\(b0=true->n=0)/\∀j u,xs[j]? = some u->w.cell? ⟨p0.1,p0.2+j,none⟩=some u:=λa h1 h2=>by
  obtain⟨p,hp⟩:=HP a;have h0:=empty h2;subst h0;refine⟨false,p,0, ?_,λh=>(by cases h),λj u hj=>(by rw [h2]at hj;simp at hj)⟩;rw [if_neg (by decide),show Int.toNat ((0:Nat):Int)=0 from rfl,show Int.toNat (0:Int)=0 from rfl,hp];exact h1
 rcases h with ⟨h1,h2⟩|⟨a,h1,h2⟩|⟨b,o,len,cap,h1,h2,h3⟩
 ·exact⟨true,(0,0),0,(by rw [if_pos rfl];exact h1),λ_=>empty h2,λj u hj=>(by rw [h2]at hj;simp at hj)⟩
 ·exact AI a h1 h2
 ·have hl:len=n:=Nat.eq_of_mul_eq_mul_right hz (by rw [<-h2,hn]);subst hl;by_cases h0:len=0/\cap=0
  ·obtain⟨rfl,rfl⟩:=h0;exact AI _ h1 (List.eq_nil_of_length_eq_zero (by rw [h2];omega))
  ·refine⟨false,(b,o),(cap:Int), ?_,λh=>(by cases h),h3⟩;rw [if_neg (by decide),HO (by omega)];exact h1
end Vc
