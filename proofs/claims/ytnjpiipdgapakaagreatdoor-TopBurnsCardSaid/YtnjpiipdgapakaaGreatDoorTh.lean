import Derived.Test.YtnjpiipdgapakaaGreatDoorGh
import Derived.Test.YtnjpiipdgapakaaGreatDoorTp
import Derived.Test.YtnjpiipdgapakaaGreatDoorCe
set_option linter.unusedVariables false
set_option linter.unusedSimpArgs false
set_option maxRecDepth 4000
namespace Go.Proofs.YtnjpiipdgapakaaGreatDoor
open Go Go.RowKit Vc Ul
attribute [local irreducible] Go.Calls
def A1(s:je):Value := .agg #[.string ⟨s.nm.toArray⟩,.int .i64 s.dl,.int .i64 s.dh,.int .i64 s.pl,.int .i64 s.ph,s.v]
theorem MX(e:En)(w:World):Calls Tryz.prog 21 #[.agg #[.string ⟨e.nm.toArray⟩,.int .i64 e.n,.int .i64 e.tl,.int .i64 e.th,.int .i64 e.fl,.int .i64 e.fh,.int .i64 e.le,.int .i64 e.sl,.int .i64 e.sh,.int .i64 e.pl,.int .i64 e.ph]] w (Vc.aw (.agg #[.int .i64 e.tl,.int .i64 e.th]) w):=Wz _ _ _ _ _ _ _ _ _ _ _ w _ rfl
theorem MY(e:En)(w:World):Calls Tryz.prog 16 #[.agg #[.string ⟨e.nm.toArray⟩,.int .i64 e.n,.int .i64 e.tl,.int .i64 e.th,.int .i64 e.fl,.int .i64 e.fh,.int .i64 e.le,.int .i64 e.sl,.int .i64 e.sh,.int .i64 e.pl,.int .i64 e.ph]] w (Vc.aw (.agg #[.int .i64 e.fl,.int .i64 e.fh]) w):=WA _ _ _ _ _ _ _ _ _ _ _ w _ rfl
def yA(f g:En->Int)(es:List En)(L:List Vl):Prop:=∃k:Nat,L=[.i k,.i (cL f (es.take k)),.i (cL g (es.take k))]/\k<=es.length
def xm(n:Nat)(L:List Vl):Nat:=match L with
 | [.i k,_,_]=>n-k.toNat
 |_=>0
theorem MZ{es:List En}(hr:∀e∈es,kt e=true)(k:Nat):∀e∈es.take k,kt e=true:=λe he=>hr e (List.mem_of_mem_take he)
theorem G2{f:En->Int}(hf:B3 f){es:List En}(hr:∀e∈es,kt e=true)(hl:es.length<=16)(k:Nat):0<=cL f (es.take k)/\cL f (es.take k)<=4611686018427387904:=by
 have h1:=tC hf (MZ hr k);have h2:(es.take k).length<=16:=by rw [List.length_take];omega
 omega
theorem M0{w:World}{s:je}(h:gP w s.v 11 (s.es.flatMap enc))(hr:∀e∈s.es,kt e=true)(hl:s.es.length<=16):Calls Tryz.prog 15 #[A1 s,.func (.func 21) #[] #[]] w (Vc.aw (.agg #[.int .i64 (cL (·.tl) s.es),.int .i64 (cL (·.th) s.es)]) w):=by
 obtain⟨b0,p0,c0,e0,f0,g0⟩:=B1 h;have kH:=rS f0;unfold A1;rw [e0];refine WB p0 s.dl s.dh s.pl s.ph (s.es.length:Nat) c0 b0 s.nm w _ ⟨by omega,kH,yA (·.tl) (·.th) s.es,xm s.es.length,⟨0,rfl,Nat.zero_le _⟩, ?_⟩;rintro x6 x7 x8 ⟨k,hy,hk⟩;simp only [List.cons.injEq,Vl.i.injEq,and_true]at hy;obtain⟨rfl,rfl,rfl⟩:=hy;refine af (λcw => ?_) (λmN => ?_)
 ·have gJ:k<s.es.length:=by omega
  have he:=List.getElem?_eq_getElem gJ;have hm:s.es[k]∈s.es:=List.getElem_mem gJ;generalize s.es[k]=e at he hm;obtain⟨q0,q1,q2,q3,q4,q5,q6,q7,q8,q9,A2⟩:=g0 k e he;have Jb:=qN (hr e hm);have s1:=G2 EW hr hl k;have s2:=G2 EX hr hl k;have b1:=EY (n:=e.n) (x:=e.tl) (by omega) (by omega) (EW e (hr e hm)).1 (EW e (hr e hm)).2;have b2:=EY (n:=e.n) (x:=e.th) (by omega) (by omega) (EX e (hr e hm)).1 (EX e (hr e hm)).2;simp only [Int.toNat_natCast];refine⟨λhb=>by have:=f0 hb;omega,by omega,cw,e.nm,q0,e.n,q1,e.tl,q2,e.th,q3,e.fl,q4,e.fh,q5,e.le,q6,e.sl,q7,e.sh,q8,e.pl,q9,e.ph,A2,e.tl,e.th,λw' _=>MX e w', ?_⟩;rintro bD rfl bd rfl b_ rfl cD rfl bX rfl;rw [zx (x:=e.n*e.tl) (by omega),zx (x:=e.n*e.th) (by omega),zx (by omega),zx (by omega),zx (by omega)];exact⟨⟨k+1,by rw [GV _ he,GV _ he];rfl,by omega⟩,by simp only [xm];omega⟩
 ·obtain rfl:k=s.es.length:=by omega
  rw [List.take_length]
theorem E8{w:World}{s:je}(h:gP w s.v 11 (s.es.flatMap enc))(hr:∀e∈s.es,kt e=true)(hl:s.es.length<=16):Calls Tryz.prog 15 #[A1 s,.func (.func 16) #[] #[]] w (Vc.aw (.agg #[.int .i64 (cL (·.fl) s.es),.int .i64 (cL (·.fh) s.es)]) w):=by
 obtain⟨b0,p0,c0,e0,f0,g0⟩:=B1 h;have kH:=rS f0;unfold A1;rw [e0];refine WC p0 s.dl s.dh s.pl s.ph (s.es.length:Nat) c0 b0 s.nm w _ ⟨by omega,kH,yA (·.fl) (·.fh) s.es,xm s.es.length,⟨0,rfl,Nat.zero_le _⟩, ?_⟩;rintro x6 x7 x8 ⟨k,hy,hk⟩;simp only [List.cons.injEq,Vl.i.injEq,and_true]at hy;obtain⟨rfl,rfl,rfl⟩:=hy;refine af (λcw => ?_) (λmN => ?_)
 ·have gJ:k<s.es.length:=by omega
  have he:=List.getElem?_eq_getElem gJ;have hm:s.es[k]∈s.es:=List.getElem_mem gJ;generalize s.es[k]=e at he hm;obtain⟨q0,q1,q2,q3,q4,q5,q6,q7,q8,q9,A2⟩:=g0 k e he;have Jb:=qN (hr e hm);have s1:=G2 B4 hr hl k;have s2:=G2 B5 hr hl k;have b1:=EY (n:=e.n) (x:=e.fl) (by omega) (by omega) (B4 e (hr e hm)).1 (B4 e (hr e hm)).2;have b2:=EY (n:=e.n) (x:=e.fh) (by omega) (by omega) (B5 e (hr e hm)).1 (B5 e (hr e hm)).2;simp only [Int.toNat_natCast];refine⟨λhb=>by have:=f0 hb;omega,by omega,cw,e.nm,q0,e.n,q1,e.tl,q2,e.th,q3,e.fl,q4,e.fh,q5,e.le,q6,e.sl,q7,e.sh,q8,e.pl,q9,e.ph,A2,e.fl,e.fh,λw' _=>MY e w', ?_⟩;rintro bD rfl bd rfl b_ rfl cD rfl bX rfl;rw [zx (x:=e.n*e.fl) (by omega),zx (x:=e.n*e.fh) (by omega),zx (by omega),zx (by omega),zx (by omega)];exact⟨⟨k+1,by rw [GV _ he,GV _ he];rfl,by omega⟩,by simp only [xm];omega⟩
 ·obtain rfl:k=s.es.length:=by omega
  rw [List.take_length]
end Go.Proofs.YtnjpiipdgapakaaGreatDoor
