import Derived.Test.YtkjmhcejdiglfacGreatDoorGh
import Derived.Test.YtkjmhcejdiglfacGreatDoorTp
import Derived.Test.YtkjmhcejdiglfacGreatDoorGt
set_option linter.unusedVariables false
set_option linter.unusedSimpArgs false
set_option maxRecDepth 4000
namespace Go.Proofs.YtkjmhcejdiglfacGreatDoor
open Go Go.RowKit Vc Ul
attribute [local irreducible] Go.Calls
def STV(s:Stg):Value := .agg #[.string ⟨s.nm.toArray⟩,.int .i64 s.dl,.int .i64 s.dh,.int .i64 s.pl,.int .i64 s.ph,s.v]
theorem zoda(e:En)(w:World):Calls Tryz.prog 20 #[.agg #[.string ⟨e.nm.toArray⟩,.int .i64 e.n,.int .i64 e.tl,.int .i64 e.th,.int .i64 e.fl,.int .i64 e.fh,.int .i64 e.le,.int .i64 e.sl,.int .i64 e.sh,.int .i64 e.pl,.int .i64 e.ph]] w (Vc.Ret (.agg #[.int .i64 e.tl,.int .i64 e.th]) w):=zwi _ _ _ _ _ _ _ _ _ _ _ w _ rfl
theorem zpda(e:En)(w:World):Calls Tryz.prog 21 #[.agg #[.string ⟨e.nm.toArray⟩,.int .i64 e.n,.int .i64 e.tl,.int .i64 e.th,.int .i64 e.fl,.int .i64 e.fh,.int .i64 e.le,.int .i64 e.sl,.int .i64 e.sh,.int .i64 e.pl,.int .i64 e.ph]] w (Vc.Ret (.agg #[.int .i64 e.fl,.int .i64 e.fh]) w):=vc_vehicle_flow _ _ _ _ _ _ _ _ _ _ _ w _ rfl
def InvTq(f g:En→Int)(es:List En)(L:List Vl):Prop:=∃ k:Nat,L=[.i k,.i (sumE f (es.take k)),.i (sumE g (es.take k))]∧k≤es.length
def msTq(n:Nat)(L:List Vl):Nat:=match L with
 | [.i k,_,_]=>n - k.toNat
 | _=>0
theorem zwaa{es:List En}(hr:∀ e∈es,rng e=true)(k:Nat):∀ e∈es.take k,rng e=true:=fun e he=>hr e (List.mem_of_mem_take he)
theorem zdv{f:En→Int}(hf:Fok f){es:List En}(hr:∀ e∈es,rng e=true)(hl:es.length≤16)(k:Nat):0≤sumE f (es.take k)∧sumE f (es.take k)≤4611686018427387904:=by
 have h1:=zjf hf (zwaa hr k);have h2:(es.take k).length≤16:=by rw [List.length_take];omega
 omega
theorem zhga{w:World}{s:Stg}(h:SlAt w s.v 11 (s.es.flatMap enc))(hr:∀ e∈s.es,rng e=true)(hl:s.es.length≤16):Calls Tryz.prog 24 #[STV s,.func (.func 20) #[] #[]] w (Vc.Ret (.agg #[.int .i64 (sumE (·.tl) s.es),.int .i64 (sumE (·.th) s.es)]) w):=by
 obtain⟨b0,p0,c0,e0,f0,g0⟩:=zfd h;have hno:=zob f0;unfold STV;rw [e0];refine zlh p0 s.dl s.dh s.pl s.ph (s.es.length:Nat) c0 b0 s.nm w _ ⟨by omega,hno,InvTq (·.tl) (·.th) s.es,msTq s.es.length,⟨0,rfl,Nat.zero_le _⟩, ?_⟩;rintro x6 x7 x8 ⟨k,hy,hk⟩;simp only [List.cons.injEq,Vl.i.injEq,and_true]at hy;obtain⟨rfl,rfl,rfl⟩:=hy;refine iteI (fun hlt => ?_) (fun hge => ?_)
 ·have hk':k < s.es.length:=by omega
  have he:=List.getElem?_eq_getElem hk';have hm:s.es[k]∈s.es:=List.getElem_mem hk';generalize s.es[k]=e at he hm;obtain⟨q0,q1,q2,q3,q4,q5,q6,q7,q8,q9,q10⟩:=g0 k e he;have hr':=zme (hr e hm);have s1:=zdv zyu hr hl k;have s2:=zdv zzu hr hl k;have b1:=znd (n:=e.n) (x:=e.tl) (by omega) (by omega) (zyu e (hr e hm)).1 (zyu e (hr e hm)).2;have b2:=znd (n:=e.n) (x:=e.th) (by omega) (by omega) (zzu e (hr e hm)).1 (zzu e (hr e hm)).2;simp only [Int.toNat_natCast];refine⟨fun hb=>by have:=f0 hb;omega,by omega,hlt,e.nm,q0,e.n,q1,e.tl,q2,e.th,q3,e.fl,q4,e.fh,q5,e.le,q6,e.sl,q7,e.sh,q8,e.pl,q9,e.ph,q10,e.tl,e.th,fun w' _=>zoda e w', ?_⟩;rintro x21 rfl x22 rfl x23 rfl x24 rfl x25 rfl;rw [zj (x:=e.n * e.tl) (by omega),zj (x:=e.n * e.th) (by omega),zj (by omega),zj (by omega),zj (by omega)];exact⟨⟨k + 1,by rw [zii _ he,zii _ he];rfl,by omega⟩,by simp only [msTq];omega⟩
 ·obtain rfl:k=s.es.length:=by omega
  rw [List.take_length]
theorem zkfa{w:World}{s:Stg}(h:SlAt w s.v 11 (s.es.flatMap enc))(hr:∀ e∈s.es,rng e=true)(hl:s.es.length≤16):Calls Tryz.prog 24 #[STV s,.func (.func 21) #[] #[]] w (Vc.Ret (.agg #[.int .i64 (sumE (·.fl) s.es),.int .i64 (sumE (·.fh) s.es)]) w):=by
 obtain⟨b0,p0,c0,e0,f0,g0⟩:=zfd h;have hno:=zob f0;unfold STV;rw [e0];refine zmh p0 s.dl s.dh s.pl s.ph (s.es.length:Nat) c0 b0 s.nm w _ ⟨by omega,hno,InvTq (·.fl) (·.fh) s.es,msTq s.es.length,⟨0,rfl,Nat.zero_le _⟩, ?_⟩;rintro x6 x7 x8 ⟨k,hy,hk⟩;simp only [List.cons.injEq,Vl.i.injEq,and_true]at hy;obtain⟨rfl,rfl,rfl⟩:=hy;refine iteI (fun hlt => ?_) (fun hge => ?_)
 ·have hk':k < s.es.length:=by omega
  have he:=List.getElem?_eq_getElem hk';have hm:s.es[k]∈s.es:=List.getElem_mem hk';generalize s.es[k]=e at he hm;obtain⟨q0,q1,q2,q3,q4,q5,q6,q7,q8,q9,q10⟩:=g0 k e he;have hr':=zme (hr e hm);have s1:=zdv zas hr hl k;have s2:=zdv zbs hr hl k;have b1:=znd (n:=e.n) (x:=e.fl) (by omega) (by omega) (zas e (hr e hm)).1 (zas e (hr e hm)).2;have b2:=znd (n:=e.n) (x:=e.fh) (by omega) (by omega) (zbs e (hr e hm)).1 (zbs e (hr e hm)).2;simp only [Int.toNat_natCast];refine⟨fun hb=>by have:=f0 hb;omega,by omega,hlt,e.nm,q0,e.n,q1,e.tl,q2,e.th,q3,e.fl,q4,e.fh,q5,e.le,q6,e.sl,q7,e.sh,q8,e.pl,q9,e.ph,q10,e.fl,e.fh,fun w' _=>zpda e w', ?_⟩;rintro x21 rfl x22 rfl x23 rfl x24 rfl x25 rfl;rw [zj (x:=e.n * e.fl) (by omega),zj (x:=e.n * e.fh) (by omega),zj (by omega),zj (by omega),zj (by omega)];exact⟨⟨k + 1,by rw [zii _ he,zii _ he];rfl,by omega⟩,by simp only [msTq];omega⟩
 ·obtain rfl:k=s.es.length:=by omega
  rw [List.take_length]
end Go.Proofs.YtkjmhcejdiglfacGreatDoor
