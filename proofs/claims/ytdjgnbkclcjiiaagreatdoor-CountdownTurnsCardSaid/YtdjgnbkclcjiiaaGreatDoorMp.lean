import Derived.Test.YtdjgnbkclcjiiaaGreatDoorVcU
set_option linter.unusedVariables false
set_option linter.unusedSimpArgs false
namespace Vc
open Go
section
variable {α:Type}
theorem zye{ent:α→List Value}{n:Nat}(hn:∀ a,(ent a).length=n):∀ (l:List α) (i:Nat),(l.flatMap ent).drop (i * n)=(l.drop i).flatMap ent
  | l,0=>by simp
  | [],i + 1=>by simp
  | a::r,i + 1=>by
    rw [List.flatMap_cons,List.drop_succ_cons,← zye hn r i,Nat.succ_mul,Nat.add_comm,← List.drop_drop];congr 1;rw [← hn a,List.drop_left]
theorem zsk{ent:α→List Value}{n:Nat}(hn:∀ a,(ent a).length=n):∀ (l:List α),(l.flatMap ent).length=l.length * n
 | []=>by simp
 | a::r=>by rw [List.flatMap_cons,List.length_append,hn,zsk hn r,List.length_cons,Nat.succ_mul,Nat.add_comm]
theorem zqw{ent:α→List Value}{n:Nat}(hn:∀ a,(ent a).length=n){l:List α}{i k:Nat}{a:α}(h:l[i]? = some a)(hk:k < n):(l.flatMap ent)[i * n + k]? = (ent a)[k]? := by
 rw [← List.getElem?_drop,zye hn]
 have:l.drop i=a::l.drop (i + 1):=by
  obtain⟨h1,h2⟩:=List.getElem?_eq_some_iff.1 h;rw [List.drop_eq_getElem_cons h1,h2]
 rw [this,List.flatMap_cons,List.getElem?_append_left (by rw [hn];exact hk)]
theorem zsu{ent:α→List Value}{n:Nat}(hn:∀ a,(ent a).length=n)(h0:0 < n){a:α}{r:List α}(h:(a::r).flatMap ent=[]):False:=by
 have:=congrArg List.length h
 rw [List.flatMap_cons,List.length_append,hn,List.length_nil]at this;omega
theorem zki{ent:α→List Value}{ks:List CK}{n:Nat}(hn:∀ a,(ent a).length=n)(h0:0 < n)(hks:ks.length≤n)(hk:∀ a,ckVals ks ((ent a).take ks.length)=true):∀ (f:Nat) (l:List α),keysOkF ks n f (l.flatMap ent)=true
  | 0,_=>rfl
  | f + 1,[]=>rfl
  | f + 1,a::r=>by
    have e1:((a::r).flatMap ent).take ks.length=(ent a).take ks.length:=by rw [List.flatMap_cons,List.take_append_of_le_length (by rw [hn];exact hks)]
    have e2:((a::r).flatMap ent).drop n=r.flatMap ent:=by have:=zye hn (a::r) 1;simpa using this
    have hne:(a::r).flatMap ent ≠ []:=fun h=>zsu hn h0 h;cases hc:(a::r).flatMap ent with
    | nil=>exact (hne hc).elim
    | cons x y =>
      rw [keysOkF,← hc,e1,e2,hk,zki hn h0 hks hk f r]
      · rfl
      · intro h;cases h
theorem zqq{ent:α→List Value}{ks:List CK}{n:Nat}(hn:∀ a,(ent a).length=n)(h0:0 < n)(hks:ks.length≤n)(hk:∀ a,ckVals ks ((ent a).take ks.length)=true)(l:List α):keysOk ks n (l.flatMap ent)=true:=zki hn h0 hks hk _ l
theorem ztk{ent:α→List Value}{nk n:Nat}(hn:∀ a,(ent a).length=n)(h0:0 < n)(hk:nk≤n)(key:List Value):∀ (f:Nat) (l:List α),l.length≤f→mfindF nk n key f (l.flatMap ent)=l.findIdx? (fun a=>keyEq key ((ent a).take nk))
  | 0,l,h=>by
    have:l=[]:=by cases l with | nil=>rfl | cons a r=>simp at h
    subst this;rfl
  | f + 1,[],_=>rfl
  | f + 1,a::r,h=>by
    have e1:((a::r).flatMap ent).take nk=(ent a).take nk:=by rw [List.flatMap_cons,List.take_append_of_le_length (by rw [hn];exact hk)]
    have e2:((a::r).flatMap ent).drop n=r.flatMap ent:=by have:=zye hn (a::r) 1;simpa using this
    have hne:(a::r).flatMap ent ≠ []:=fun h=>zsu hn h0 h;rw [List.findIdx?_cons,← ztk hn h0 hk key f r (by simpa using h)];cases hc:(a::r).flatMap ent with
    | nil=>exact (hne hc).elim
    | cons x y =>
      rw [mfindF,← hc,e1,e2];intro h;cases h
theorem zxs{ent:α→List Value}{nk n:Nat}(hn:∀ a,(ent a).length=n)(h0:0 < n)(hk:nk≤n)(key:List Value)(l:List α):mfind nk n key (l.flatMap ent)=match l.findIdx? (fun a=>keyEq key ((ent a).take nk))with | some i=>(i:Int) | none => -1:=by
 unfold mfind;rw [ztk hn h0 hk key _ l (by rw [zsk hn];exact Nat.le_mul_of_pos_right _ h0)];rfl
end
def sK(s:List UInt8):Value := .string ⟨s.toArray⟩
theorem ztu(a b:List UInt8):valEq (sK a) (sK b)=decide (a=b):=by simp [valEq,sK]
end Vc
