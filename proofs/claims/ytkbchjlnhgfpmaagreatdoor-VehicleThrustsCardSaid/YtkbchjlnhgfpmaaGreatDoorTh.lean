import Derived.Test.YtkbchjlnhgfpmaaGreatDoorGh
import Derived.Test.YtkbchjlnhgfpmaaGreatDoorTp
import Derived.Test.YtkbchjlnhgfpmaaGreatDoorGt
set_option linter.unusedVariables false
set_option linter.unusedSimpArgs false
set_option maxRecDepth 4000
namespace Go.Proofs.YtkbchjlnhgfpmaaGreatDoor
open Go Go.RowKit Vc Ul
attribute [local irreducible] Go.Calls
def vU(s:f_):Value := .agg #[.string ⟨s.nm.toArray⟩,.int .i64 s.dl,.int .i64 s.dh,.int .i64 s.pl,.int .i64 s.ph,s.v]
theorem Ra(e:En)(w:World):Calls Tryz.prog 20 #[.agg #[.string ⟨e.nm.toArray⟩,.int .i64 e.n,.int .i64 e.tl,.int .i64 e.th,.int .i64 e.fl,.int .i64 e.fh,.int .i64 e.le,.int .i64 e.sl,.int .i64 e.sh,.int .i64 e.pl,.int .i64 e.ph]] w (Vc.aI (.agg #[.int .i64 e.tl,.int .i64 e.th]) w):=X3 _ _ _ _ _ _ _ _ _ _ _ w _ rfl
theorem Rb(e:En)(w:World):Calls Tryz.prog 24 #[.agg #[.string ⟨e.nm.toArray⟩,.int .i64 e.n,.int .i64 e.tl,.int .i64 e.th,.int .i64 e.fl,.int .i64 e.fh,.int .i64 e.le,.int .i64 e.sl,.int .i64 e.sh,.int .i64 e.pl,.int .i64 e.ph]] w (Vc.aI (.agg #[.int .i64 e.fl,.int .i64 e.fh]) w):=fY _ _ _ _ _ _ _ _ _ _ _ w _ rfl
def BK(f g:En->Int)(es:List En)(L:List Vl):Prop:=∃k:Nat,L=[.i k,.i (bQ f (es.take k)),.i (bQ g (es.take k))]/\k<=es.length
def Av(n:Nat)(L:List Vl):Nat:=match L with
 | [.i k,_,_]=>n-k.toNat
 |_=>0
theorem Rc{es:List En}(hr:∀e∈es,jg e=true)(k:Nat):∀e∈es.take k,jg e=true:=λe he=>hr e (List.mem_of_mem_take he)
theorem BL{f:En->Int}(hf:Es f){es:List En}(hr:∀e∈es,jg e=true)(hl:es.length<=16)(k:Nat):0<=bQ f (es.take k)/\bQ f (es.take k)<=4611686018427387904:=by
 have h1:=uF hf (Rc hr k);have h2:(es.take k).length<=16:=by rw [List.length_take];omega
 omega
theorem Rd{w:World}{s:f_}(h:e_ w s.v 11 (s.es.flatMap enc))(hr:∀e∈s.es,jg e=true)(hl:s.es.length<=16):Calls Tryz.prog 28 #[vU s,.func (.func 20) #[] #[]] w (Vc.aI (.agg #[.int .i64 (bQ (·.tl) s.es),.int .i64 (bQ (·.th) s.es)]) w):=by
 obtain⟨b0,p0,c0,e0,f0,g0⟩:=tD h;have gR:=zu f0;unfold vU;rw [e0];refine X4 p0 s.dl s.dh s.pl s.ph (s.es.length:Nat) c0 b0 s.nm w _ ⟨by omega,gR,BK (·.tl) (·.th) s.es,Av s.es.length,⟨0,rfl,Nat.zero_le _⟩, ?_⟩;rintro x6 x7 x8 ⟨k,hy,hk⟩;simp only [List.cons.injEq,Vl.i.injEq,and_true]at hy;obtain⟨rfl,rfl,rfl⟩:=hy;refine ae (λct => ?_) (λkq => ?_)
 ·have gE:k<s.es.length:=by omega
  have he:=List.getElem?_eq_getElem gE;have hm:s.es[k]∈s.es:=List.getElem_mem gE;generalize s.es[k]=e at he hm;obtain⟨q0,q1,q2,q3,q4,q5,q6,q7,q8,q9,yH⟩:=g0 k e he;have I6:=sw (hr e hm);have s1:=BL Et hr hl k;have s2:=BL Eu hr hl k;have b1:=HP (n:=e.n) (x:=e.tl) (by omega) (by omega) (Et e (hr e hm)).1 (Et e (hr e hm)).2;have b2:=HP (n:=e.n) (x:=e.th) (by omega) (by omega) (Eu e (hr e hm)).1 (Eu e (hr e hm)).2;simp only [Int.toNat_natCast];refine⟨λhb=>by have:=f0 hb;omega,by omega,ct,e.nm,q0,e.n,q1,e.tl,q2,e.th,q3,e.fl,q4,e.fh,q5,e.le,q6,e.sl,q7,e.sh,q8,e.pl,q9,e.ph,yH,e.tl,e.th,λw' _=>Ra e w', ?_⟩;rintro bz rfl bg rfl bL rfl bP rfl bR rfl;rw [zb (x:=e.n*e.tl) (by omega),zb (x:=e.n*e.th) (by omega),zb (by omega),zb (by omega),zb (by omega)];exact⟨⟨k+1,by rw [BG _ he,BG _ he];rfl,by omega⟩,by simp only [Av];omega⟩
 ·obtain rfl:k=s.es.length:=by omega
  rw [List.take_length]
theorem H5{w:World}{s:f_}(h:e_ w s.v 11 (s.es.flatMap enc))(hr:∀e∈s.es,jg e=true)(hl:s.es.length<=16):Calls Tryz.prog 28 #[vU s,.func (.func 24) #[] #[]] w (Vc.aI (.agg #[.int .i64 (bQ (·.fl) s.es),.int .i64 (bQ (·.fh) s.es)]) w):=by
 obtain⟨b0,p0,c0,e0,f0,g0⟩:=tD h;have gR:=zu f0;unfold vU;rw [e0];refine X5 p0 s.dl s.dh s.pl s.ph (s.es.length:Nat) c0 b0 s.nm w _ ⟨by omega,gR,BK (·.fl) (·.fh) s.es,Av s.es.length,⟨0,rfl,Nat.zero_le _⟩, ?_⟩;rintro x6 x7 x8 ⟨k,hy,hk⟩;simp only [List.cons.injEq,Vl.i.injEq,and_true]at hy;obtain⟨rfl,rfl,rfl⟩:=hy;refine ae (λct => ?_) (λkq => ?_)
 ·have gE:k<s.es.length:=by omega
  have he:=List.getElem?_eq_getElem gE;have hm:s.es[k]∈s.es:=List.getElem_mem gE;generalize s.es[k]=e at he hm;obtain⟨q0,q1,q2,q3,q4,q5,q6,q7,q8,q9,yH⟩:=g0 k e he;have I6:=sw (hr e hm);have s1:=BL BH hr hl k;have s2:=BL BI hr hl k;have b1:=HP (n:=e.n) (x:=e.fl) (by omega) (by omega) (BH e (hr e hm)).1 (BH e (hr e hm)).2;have b2:=HP (n:=e.n) (x:=e.fh) (by omega) (by omega) (BI e (hr e hm)).1 (BI e (hr e hm)).2;simp only [Int.toNat_natCast];refine⟨λhb=>by have:=f0 hb;omega,by omega,ct,e.nm,q0,e.n,q1,e.tl,q2,e.th,q3,e.fl,q4,e.fh,q5,e.le,q6,e.sl,q7,e.sh,q8,e.pl,q9,e.ph,yH,e.fl,e.fh,λw' _=>Rb e w', ?_⟩;rintro bz rfl bg rfl bL rfl bP rfl bR rfl;rw [zb (x:=e.n*e.fl) (by omega),zb (x:=e.n*e.fh) (by omega),zb (by omega),zb (by omega),zb (by omega)];exact⟨⟨k+1,by rw [BG _ he,BG _ he];rfl,by omega⟩,by simp only [Av];omega⟩
 ·obtain rfl:k=s.es.length:=by omega
  rw [List.take_length]
def Re(es:List En)(L:List Vl):Prop:=∃k:Nat,L=[.i k,.i (bQ (·.tl) (es.take k)),.i (bQ (·.th) (es.take k)),.i (bQ (·.fl) (es.take k)),.i (bQ (·.fh) (es.take k))]/\k<=es.length
def J7(n:Nat)(L:List Vl):Nat:=match L with
 | [.i k,_,_,_,_]=>n-k.toNat
 |_=>0
def H6(n t1 t2 t3 t4 a b c d:Int)(L:List Vl):Prop:=∃j:Int,L=[.i j,.i (a+j*t1),.i (b+j*t2),.i (c+j*t3),.i (d+j*t4)]/\0<=j/\j<=n
theorem J8{j n x:Int}(h0:0<=j)(h1:j<=n)(h2:n<=64)(h3:0<=x)(h4:x<=4503599627370496):0<=j*x/\j*x<=288230376151711744:=by
 refine⟨Int.mul_nonneg h0 h3, ?_⟩
 have:j*x<=64*4503599627370496:=Int.mul_le_mul (by omega) h4 h3 (by omega)
 omega
theorem Dw{w:World}{s:f_}(h:e_ w s.v 11 (s.es.flatMap enc))(hr:∀e∈s.es,jg e=true)(hl:s.es.length<=16):Calls Tryz.prog 22 #[vU s] w (Vc.aI (.tuple #[.agg #[.int .i64 (bQ (·.tl) s.es),.int .i64 (bQ (·.th) s.es)],.agg #[.int .i64 (bQ (·.fl) s.es),.int .i64 (bQ (·.fh) s.es)]]) w):=by
 obtain⟨b0,p0,c0,e0,f0,g0⟩:=tD h;have gR:=zu f0;unfold vU;rw [e0];refine Ya p0 s.dl s.dh s.pl s.ph (s.es.length:Nat) c0 b0 s.nm w _ ⟨Re s.es,J7 s.es.length,⟨0,rfl,Nat.zero_le _⟩, ?_⟩;rintro x6 x7 x8 x9 az ⟨k,hy,hk⟩;simp only [List.cons.injEq,Vl.i.injEq,and_true]at hy;obtain⟨rfl,rfl,rfl,rfl,rfl⟩:=hy;refine⟨by omega,gR,ae (λct => ?_) (λkq => ?_)⟩
 ·have gE:k<s.es.length:=by omega
  have he:=List.getElem?_eq_getElem gE;have hm:s.es[k]∈s.es:=List.getElem_mem gE;generalize s.es[k]=e at he hm;obtain⟨q0,q1,q2,q3,q4,q5,q6,q7,q8,q9,yH⟩:=g0 k e he;have I6:=sw (hr e hm);have s1:=BL Et hr hl k;have s2:=BL Eu hr hl k;have s3:=BL BH hr hl k;have s4:=BL BI hr hl k;have z1:=BG (·.tl) he;have z2:=BG (·.th) he;have z3:=BG (·.fl) he;have z4:=BG (·.fh) he;simp only [Int.toNat_natCast]
  refine⟨λhb=>by have:=f0 hb;omega,by omega,ct,e.nm,q0,e.n,q1,e.tl,q2,e.th,q3,e.fl,q4,e.fh,q5,e.le,q6,e.sl,q7,e.sh,q8,e.pl,q9,e.ph,yH,
   H6 e.n e.tl e.th e.fl e.fh (bQ (·.tl) (s.es.take k)) (bQ (·.th) (s.es.take k)) (bQ (·.fl) (s.es.take k)) (bQ (·.fh) (s.es.take k)),J7 e.n.toNat,⟨0,by simp,by omega,by omega⟩, ?_⟩
  generalize bQ (·.tl) (s.es.take k)=a1 at *;generalize bQ (·.th) (s.es.take k)=a2 at *;generalize bQ (·.fl) (s.es.take k)=a3 at *;generalize bQ (·.fh) (s.es.take k)=a4 at *;rintro bz bg bL bP bR ⟨j,r9,yp,J9⟩;simp only [List.cons.injEq,Vl.i.injEq,and_true]at r9;obtain⟨rfl,rfl,rfl,rfl,rfl⟩:=r9;have j1:=J8 (j:=bz) (n:=e.n) (x:=e.tl) yp J9 (by omega) (by omega) (by omega);have j2:=J8 (j:=bz) (n:=e.n) (x:=e.th) yp J9 (by omega) (by omega) (by omega);have j3:=J8 (j:=bz) (n:=e.n) (x:=e.fl) yp J9 (by omega) (by omega) (by omega);have j4:=J8 (j:=bz) (n:=e.n) (x:=e.fh) yp J9 (by omega) (by omega) (by omega);refine ae (λxq => ?_) (λhjg => ?_)
  ·rintro cU rfl dq rfl eP rfl ee rfl ei rfl;rw [zb (by omega),zb (by omega),zb (by omega),zb (by omega),zb (by omega)];refine⟨⟨bz+1, ?_,by omega,by omega⟩,by simp only [J7];omega⟩;simp only [Int.add_mul,Int.one_mul,Int.add_assoc]
  ·obtain rfl:bz=e.n:=by omega
   rintro cU rfl;rw [zb (by omega)];refine⟨⟨k+1, ?_,by omega⟩,by simp only [J7];omega⟩;rw [z1,z2,z3,z4];rfl
 ·obtain rfl:k=s.es.length:=by omega
  rw [List.take_length]
theorem J_{n l:Int}(up:Bool)(w:World)(hn:0<=n)(D5:n<=4611686018427387904)(hl:0<=l)(gj:l<=4294967296):Calls Tryz.prog 23 #[.int .i64 n,.int .i64 l,.bool up] w (Vc.aI (.int .i64 (Ev n l up)) w):=by
 obtain⟨h1,h2,h3,h4,h5,h6,h7,h8,h9⟩:=zex hn D5 hl gj;refine Yb n l up w _ ?_;rintro x2 rfl x3 rfl x4 rfl x5 rfl x6 rfl x7 rfl x8 rfl x9 rfl az rfl aA rfl aH rfl aP rfl aL rfl aS rfl
 rw [Int.tmod_eq_emod_of_nonneg hn,Int.tmod_eq_emod_of_nonneg hl,zb (x:=n % 4294967296*(l / 65536)) (by omega),Int.tmod_eq_emod_of_nonneg h4,zb (x:=n / 4294967296*l) (by omega),zb (x:=n % 4294967296*(l % 65536)) (by omega),
  zb (x:=n % 4294967296*(l / 65536) % 65536*65536) (by omega)]
 generalize n % 4294967296*(l / 65536)=rs at *;generalize n / 4294967296*l=wl at *;generalize n % 4294967296*(l % 65536)=pl at *;rw [zb (x:=rs % 65536*65536+pl) (by omega)];generalize rs % 65536*65536+pl=low at *;rw [zb (x:=wl+rs / 65536) (by omega),zb (x:=wl+rs / 65536+low / 4294967296) (by omega)];refine ae (λhu => ?_) (λhu => ?_)
 ·rintro aT rfl;rw [Int.tmod_eq_emod_of_nonneg h2];refine ae (λhz => ?_) (λhz => ?_)
  ·refine congrArg _ ?_;unfold Ev ce;rw [if_pos hu];omega
  ·rintro aZ rfl;refine congrArg _ ?_;rw [zb (by omega)];unfold Ev ce;rw [if_pos hu];omega
 ·refine congrArg _ ?_;unfold Ev fl;rw [if_neg hu];omega
end Go.Proofs.YtkbchjlnhgfpmaaGreatDoor
