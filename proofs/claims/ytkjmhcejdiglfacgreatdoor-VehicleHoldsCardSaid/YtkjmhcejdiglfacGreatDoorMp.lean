import Derived.Test.YtkjmhcejdiglfacGreatDoorVcU
set_option linter.unusedVariables false
set_option linter.unusedSimpArgs false
namespace Vc
open Go
section
variable {α:Type}
theorem zhi{ent:α→List Value}{n:Nat}(hn:∀ a,(ent a).length=n):∀ (l:List α) (i:Nat),(l.flatMap ent).drop (i * n)=(l.drop i).flatMap ent
  | l,0=>by simp
  | [],i + 1=>by simp
  | a::r,i + 1=>by
    rw [List.flatMap_cons,List.drop_succ_cons,← zhi hn r i,Nat.succ_mul,Nat.add_comm,← List.drop_drop];congr 1;rw [← hn a,List.drop_left]
theorem zzr{ent:α→List Value}{n:Nat}(hn:∀ a,(ent a).length=n):∀ (l:List α),(l.flatMap ent).length=l.length * n
 | []=>by simp
 | a::r=>by rw [List.flatMap_cons,List.length_append,hn,zzr hn r,List.length_cons,Nat.succ_mul,Nat.add_comm]
theorem zsaa{ent:α→List Value}{n:Nat}(hn:∀ a,(ent a).length=n){l:List α}{i k:Nat}{a:α}(h:l[i]? = some a)(hk:k < n):(l.flatMap ent)[i * n + k]? = (ent a)[k]? := by
 rw [← List.getElem?_drop,zhi hn]
 have:l.drop i=a::l.drop (i + 1):=by
  obtain⟨h1,h2⟩:=List.getElem?_eq_some_iff.1 h;rw [List.drop_eq_getElem_cons h1,h2]
 rw [this,List.flatMap_cons,List.getElem?_append_left (by rw [hn];exact hk)]
theorem zky{ent:α→List Value}{n:Nat}(hn:∀ a,(ent a).length=n)(h0:0 < n){a:α}{r:List α}(h:(a::r).flatMap ent=[]):False:=by
 have:=congrArg List.length h
 rw [List.flatMap_cons,List.length_append,hn,List.length_nil]at this;omega
theorem zyj{ent:α→List Value}{ks:List CK}{n:Nat}(hn:∀ a,(ent a).length=n)(h0:0 < n)(hks:ks.length≤n)(hk:∀ a,ckVals ks ((ent a).take ks.length)=true):∀ (f:Nat) (l:List α),keysOkF ks n f (l.flatMap ent)=true
  | 0,_=>rfl
  | f + 1,[]=>rfl
  | f + 1,a::r=>by
    have e1:((a::r).flatMap ent).take ks.length=(ent a).take ks.length:=by rw [List.flatMap_cons,List.take_append_of_le_length (by rw [hn];exact hks)]
    have e2:((a::r).flatMap ent).drop n=r.flatMap ent:=by have:=zhi hn (a::r) 1;simpa using this
    have hne:(a::r).flatMap ent ≠ []:=fun h=>zky hn h0 h;cases hc:(a::r).flatMap ent with
    | nil=>exact (hne hc).elim
    | cons x y =>
      rw [keysOkF,← hc,e1,e2,hk,zyj hn h0 hks hk f r]
      · rfl
      · intro h;cases h
theorem zot{ent:α→List Value}{ks:List CK}{n:Nat}(hn:∀ a,(ent a).length=n)(h0:0 < n)(hks:ks.length≤n)(hk:∀ a,ckVals ks ((ent a).take ks.length)=true)(l:List α):keysOk ks n (l.flatMap ent)=true:=zyj hn h0 hks hk _ l
theorem zrm{ent:α→List Value}{nk n:Nat}(hn:∀ a,(ent a).length=n)(h0:0 < n)(hk:nk≤n)(key:List Value):∀ (f:Nat) (l:List α),l.length≤f→mfindF nk n key f (l.flatMap ent)=l.findIdx? (fun a=>keyEq key ((ent a).take nk))
  | 0,l,h=>by
    have:l=[]:=by cases l with | nil=>rfl | cons a r=>simp at h
    subst this;rfl
  | f + 1,[],_=>rfl
  | f + 1,a::r,h=>by
    have e1:((a::r).flatMap ent).take nk=(ent a).take nk:=by rw [List.flatMap_cons,List.take_append_of_le_length (by rw [hn];exact hk)]
    have e2:((a::r).flatMap ent).drop n=r.flatMap ent:=by have:=zhi hn (a::r) 1;simpa using this
    have hne:(a::r).flatMap ent ≠ []:=fun h=>zky hn h0 h;rw [List.findIdx?_cons,← zrm hn h0 hk key f r (by simpa using h)];cases hc:(a::r).flatMap ent with
    | nil=>exact (hne hc).elim
    | cons x y =>
      rw [mfindF,← hc,e1,e2];intro h;cases h
theorem zfw{ent:α→List Value}{nk n:Nat}(hn:∀ a,(ent a).length=n)(h0:0 < n)(hk:nk≤n)(key:List Value)(l:List α):mfind nk n key (l.flatMap ent)=match l.findIdx? (fun a=>keyEq key ((ent a).take nk))with | some i=>(i:Int) | none => -1:=by
 unfold mfind;rw [zrm hn h0 hk key _ l (by rw [zzr hn];exact Nat.le_mul_of_pos_right _ h0)];rfl
end
def sK(s:List UInt8):Value := .string ⟨s.toArray⟩
theorem zly(a b:List UInt8):valEq (sK a) (sK b)=decide (a=b):=by simp [valEq,sK]
def setE(s:List UInt8):List Value := [sK s,.bool true]
theorem zpp(s:List UInt8):(setE s).length=2:=rfl
theorem zwu(l:List (List UInt8)):keysOk [.str] 2 (l.flatMap setE)=true:=zot zpp (by decide) (by decide) (fun a=>rfl) l
theorem zxu(s:List UInt8)(l:List (List UInt8)):mfind 1 2 [sK s] (l.flatMap setE)=match l.findIdx? (fun a=>decide (s=a))with | some i=>(i:Int) | none => -1:=by
 rw [zfw zpp (by decide) (by decide)]
 have:(fun a=>keyEq [sK s] ((setE a).take 1))=fun a=>decide (s=a):=by
  funext a;simp only [setE,List.take_succ_cons,List.take_zero,keyEq,Bool.and_true,zly]
 rw [this]
theorem zfb{s:List UInt8}{l:List (List UInt8)}:(0≤mfind 1 2 [sK s] (l.flatMap setE))↔s∈l:=by
  rw [zxu];cases h:l.findIdx? (fun a=>decide (s=a))with
  | none =>
    simp only [List.findIdx?_eq_none_iff,decide_eq_false_iff_not]at h;simp only [show ¬ (0:Int) ≤ -1 by decide,false_iff];intro hm;exact h s hm rfl
  | some i =>
    simp only [List.findIdx?_eq_some_iff_getElem,decide_eq_true_eq]at h;obtain⟨h1,h2,_⟩:=h;simp only [Int.natCast_nonneg,true_iff];rw [h2];exact List.getElem_mem h1
theorem zsm{s:List UInt8}{l:List (List UInt8)}(h:s∈l):(l.flatMap setE)[(mfind 1 2 [sK s] (l.flatMap setE)).toNat * 2 + 1]? = some (.bool true):=by
  have h0:=zfb.2 h;rw [zxu]at h0 ⊢;cases h:l.findIdx? (fun a=>decide (s=a))with
  | none=>rw [h]at h0;simp at h0
  | some i =>
    simp only [List.findIdx?_eq_some_iff_getElem,decide_eq_true_eq]at h;obtain⟨h1,h2,_⟩:=h;simp only [Int.toNat_natCast];rw [zsaa zpp (List.getElem?_eq_getElem h1) (by decide)];rfl
end Vc
