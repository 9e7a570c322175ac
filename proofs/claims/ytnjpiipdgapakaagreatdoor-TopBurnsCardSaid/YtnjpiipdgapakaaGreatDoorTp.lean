import Derived.Test.YtnjpiipdgapakaaGreatDoorOkv
import Derived.Test.YtnjpiipdgapakaaGreatDoorQn
set_option linter.unusedVariables false
set_option linter.unusedSimpArgs false
namespace Go.Proofs.YtnjpiipdgapakaaGreatDoor
open Go Go.RowKit Vc Ul
def cL(f:En->Int):List En->Int
 | []=>0
 |e::r=>e.n*f e+cL f r
theorem GV(f:En->Int){es:List En}{k:Nat}{e:En}(h:es[k]? = some e):cL f (es.take (k+1))=cL f (es.take k)+e.n*f e:=by
  induction es generalizing k with
  |nil=>simp at h
  |cons a r ih =>
    cases k with
    |zero=>simp at h;subst h;simp [cL]
    |succ k =>
      simp only [List.getElem?_cons_succ]at h;simp only [List.take_succ_cons,cL,ih h];omega
def B3(f:En->Int):Prop:=∀e,kt e=true->0<=f e/\f e<=4503599627370496
theorem qN{e:En}(h:kt e=true):(1<=e.n/\e.n<=64)/\(1<=e.tl/\e.tl<=e.th/\e.th<=4503599627370496)/\(1<=e.fl/\e.fl<=e.fh/\e.fh<=4503599627370496):=by
 simp only [kt,mq,Bool.and_eq_true,decide_eq_true_eq]at h;omega
theorem EW:B3 (·.tl):=λe h=>by have:=qN h;simp only;omega
theorem EX:B3 (·.th):=λe h=>by have:=qN h;simp only;omega
theorem B4:B3 (·.fl):=λe h=>by have:=qN h;simp only;omega
theorem B5:B3 (·.fh):=λe h=>by have:=qN h;simp only;omega
theorem EY{n x:Int}(h1:1<=n)(h2:n<=64)(h3:0<=x)(h4:x<=4503599627370496):0<=n*x/\n*x<=288230376151711744:=by
 refine⟨Int.mul_nonneg (by omega) h3, ?_⟩
 have:n*x<=64*4503599627370496:=Int.mul_le_mul h2 h4 h3 (by omega)
 omega
theorem tC{f:En->Int}(hf:B3 f):∀{es:List En},(∀e∈es,kt e=true)->0<=cL f es/\cL f es<=es.length*288230376151711744
  | [],_=>by simp [cL]
  |e::r,h=>by
    have h1:=tC hf (es:=r) λe he=>h e (List.mem_cons_of_mem _ he);have h2:=h e (List.mem_cons_self ..);have h3:=qN h2;have h4:=hf e h2;have h5:=EY (n:=e.n) (x:=f e) (by omega) (by omega) h4.1 h4.2;simp only [cL,List.length_cons];omega
theorem GW{f g:En->Int}(Ru:∀e,kt e=true->f e<=g e):∀{es:List En},(∀e∈es,kt e=true)->cL f es<=cL g es
  | [],_=>by simp [cL]
  |e::r,h=>by
    have h1:=GW Ru (es:=r) λe he=>h e (List.mem_cons_of_mem _ he);have h2:=h e (List.mem_cons_self ..);have h3:=qN h2;have h4:e.n*f e<=e.n*g e:=Int.mul_le_mul_of_nonneg_left (Ru e h2) (by omega);simp only [cL];omega
theorem GX{f:En->Int}(hf:∀e,kt e=true->1<=f e):∀{es:List En},(∀e∈es,kt e=true)->es ≠ []->1<=cL f es
  | [],_,h=>absurd rfl h
  |e::r,h,_=>by
    have h2:=h e (List.mem_cons_self ..);have h3:=qN h2;have h4:e.n*1<=e.n*f e:=Int.mul_le_mul_of_nonneg_left (hf e h2) (by omega)
    have h5:0<=cL f r:=by
      rcases r with _|⟨a,r⟩
      · simp [cL]
      · have:=GX hf (es:=a::r) (λe he=>h e (List.mem_cons_of_mem _ he)) (by simp)
        omega
    simp only [cL];omega
def iB(f g:En->Int)(v:Vh)(g0 lo hi:Int):Int × Int × Int :=
 if (bU v).2.2≠0 then (0,0,2)else if ¬(0<=g0/\g0<=(v.ss.length:Int)-1)then (0,0,7)
 else match v.ss[g0.toNat]? with
  |none=>(0,0,7)
  |some s=>if lo<0∨hi<lo∨4294967296<hi then (0,0,4)else if 0<hi/\s.es.any (λe=>decide (lo<e.le))=true then (0,0,4)else mul lo hi (cL f s.es) (cL g s.es)
def B6(n l:Int)(up:Bool):Int:=if up=true then ce (n*l) 4294967296 else fl (n*l) 4294967296
theorem EZ{lo hi a b:Int}(h0:0<=lo)(h1:lo<=hi)(h2:hi<=4294967296)(ha:0<=a)(tp:a<=b)(hb:b<=4611686018427387904):mul lo hi a b=(B6 a lo false,B6 b hi true,0):=by
 have p1:lo*a<=lo*b:=Int.mul_le_mul_of_nonneg_left tp h0;have p2:lo*a<=hi*a:=Int.mul_le_mul_of_nonneg_right h1 ha;have p3:hi*a<=hi*b:=Int.mul_le_mul_of_nonneg_left tp (by omega);have p4:lo*b<=hi*b:=Int.mul_le_mul_of_nonneg_right h1 (by omega);have p5:hi*b<=4294967296*b:=Int.mul_le_mul_of_nonneg_right h2 (by omega);have p6:0<=lo*a:=Int.mul_nonneg h0 ha;have e1:kW (lo*a) (lo*b) (hi*a) (hi*b)=a*lo:=by rw [Int.mul_comm a lo];unfold kW;omega
 have e2:kX (lo*a) (lo*b) (hi*a) (hi*b)=b*hi:=by rw [Int.mul_comm b hi];unfold kX;omega
 unfold mul;rw [if_pos (by simp only [ok,Bool.and_eq_true,decide_eq_true_eq];omega),e1,e2];have A:a*lo=lo*a:=Int.mul_comm ..;have B:b*hi=hi*b:=Int.mul_comm ..;unfold fit;rw [if_pos]
 ·rfl
 ·unfold fl ce;omega
theorem E0{f g:En->Int}{v:Vh}{n lo hi:Int}(h:(bU v).2.2≠0):RV (0,0,2)=RV (iB f g v n lo hi):=by unfold iB;rw [if_pos h]
theorem GY{f g:En->Int}{v:Vh}{n lo hi:Int}(h:(bU v).2.2=0)(h2:¬(0<=n/\n<=(v.ss.length:Int)-1)):RV (0,0,7)=RV (iB f g v n lo hi):=by unfold iB;rw [if_neg (by omega),if_pos h2]
theorem B7{f g:En->Int}{v:Vh}{n lo hi:Int}(h:(bU v).2.2=0)(h2:0<=n/\n<=(v.ss.length:Int)-1){s:je}(hs:v.ss[n.toNat]? = some s)(h3:lo<0∨hi<lo∨4294967296<hi):RV (0,0,4)=RV (iB f g v n lo hi):=by
 unfold iB;rw [if_neg (by omega),if_neg (by omega),hs];simp only;rw [if_pos h3]
theorem Rv{f g:En->Int}{v:Vh}{n lo hi:Int}(h:(bU v).2.2=0)(h2:0<=n/\n<=(v.ss.length:Int)-1){s:je}(hs:v.ss[n.toNat]? = some s)(h3:¬(lo<0∨hi<lo∨4294967296<hi))(h4:0<hi/\s.es.any (λe=>decide (lo<e.le))=true):RV (0,0,4)=RV (iB f g v n lo hi):=by
 unfold iB;rw [if_neg (by omega),if_neg (by omega),hs];simp only;rw [if_neg h3,if_pos h4]
theorem xk{f g:En->Int}{v:Vh}{n lo hi:Int}(h:(bU v).2.2=0)(h2:0<=n/\n<=(v.ss.length:Int)-1){s:je}(hs:v.ss[n.toNat]? = some s)(h3:¬(lo<0∨hi<lo∨4294967296<hi))(h4:¬(0<hi/\s.es.any (λe=>decide (lo<e.le))=true)):iB f g v n lo hi=mul lo hi (cL f s.es) (cL g s.es):=by
 unfold iB;rw [if_neg (by omega),if_neg (by omega),hs];simp only;rw [if_neg h3,if_neg h4]
def cC(v:Vh)(n:Int):Int × Int × Int :=
 if (bU v).2.2≠0 then (0,0,2)else if ¬(0<=n/\n<=(v.ss.length:Int)-1)then (0,0,7)
 else match v.ss[n.toNat]? with
  |none=>(0,0,7)
  |some s=>if s.es.length=0 then (0,0,9)else div s.pl s.ph (cL (·.fl) s.es) (cL (·.fh) s.es)
theorem MN{v:Vh}{n:Int}(h:(bU v).2.2≠0):RV (0,0,2)=RV (cC v n):=by unfold cC;rw [if_pos h]
theorem E1{v:Vh}{n:Int}(h:(bU v).2.2=0)(h2:¬(0<=n/\n<=(v.ss.length:Int)-1)):RV (0,0,7)=RV (cC v n):=by unfold cC;rw [if_neg (by omega),if_pos h2]
theorem MO{v:Vh}{n:Int}(h:(bU v).2.2=0)(h2:0<=n/\n<=(v.ss.length:Int)-1){s:je}(hs:v.ss[n.toNat]? = some s)(h3:s.es.length=0):RV (0,0,9)=RV (cC v n):=by
 unfold cC;rw [if_neg (by omega),if_neg (by omega),hs];simp only;rw [if_pos h3]
theorem MP{v:Vh}{n:Int}(h:(bU v).2.2=0)(h2:0<=n/\n<=(v.ss.length:Int)-1){s:je}(hs:v.ss[n.toNat]? = some s)(h3:¬s.es.length=0):cC v n=div s.pl s.ph (cL (·.fl) s.es) (cL (·.fh) s.es):=by
 unfold cC;rw [if_neg (by omega),if_neg (by omega),hs];simp only;rw [if_neg h3]
theorem MQ{x d:Int}(hx:x<=0)(hd:0<d):x / d<=0:=by
 have:=Int.ediv_le_ediv hd hx
 rwa [Int.zero_ediv]at this
theorem GZ(a d:Int)(hd:1<=d):mS a d=a*4294967296 / d:=by unfold mS fl;rw [if_neg (by omega)]
theorem MR(a d:Int)(hd:1<=d):nI a d = -((-(a*4294967296)) / d):=by unfold nI ce;rw [if_neg (by omega)]
theorem G0{a b c d:Int}(ha:0<=a)(tp:a<=b)(hc:1<=c)(yz:c<=d):mS a d<=mS b c/\0<=mS a d:=by
 rw [GZ a d (by omega),GZ b c hc];have h1:a*4294967296 / d<=b*4294967296 / d:=Int.ediv_le_ediv (by omega) (by omega)
 have h2:b*4294967296 / d<=b*4294967296 / c:=by
  refine Int.le_ediv_of_mul_le (by omega) ?_;have h3:=Int.ediv_mul_le (b*4294967296) (show d≠0 by omega);have h4:0<=b*4294967296 / d:=Int.ediv_nonneg (by omega) (by omega);have h5:=Int.mul_le_mul_of_nonneg_left yz h4;omega
 exact⟨by omega,Int.ediv_nonneg (by omega) (by omega)⟩
theorem G1{a b c d:Int}(ha:0<=a)(tp:a<=b)(hc:1<=c)(yz:c<=d):nI a d<=nI b c:=by
 rw [MR _ _ (by omega),MR _ _ hc]
 have h1:-(b*4294967296) / c <= -(a*4294967296) / d:=by
  refine Int.le_ediv_of_mul_le (by omega) ?_;have h3:=Int.ediv_mul_le (-(b*4294967296)) (show c≠0 by omega);have h4:-(b*4294967296) / c<=0:=MQ (by omega) (by omega);have h5:-(b*4294967296) / c*d <= -(b*4294967296) / c*c:=Int.mul_le_mul_of_nonpos_left h4 yz;omega
 omega
theorem MS(a d:Int)(hd:1<=d):mS a d<=nI a d:=by
 rw [MR _ _ hd];rw [GZ a d hd];have h1:=Int.ediv_mul_le (a*4294967296) (show d≠0 by omega);have h2:=Int.ediv_mul_le (-(a*4294967296)) (show d≠0 by omega);have h3:(a*4294967296 / d + -(a*4294967296) / d)*d<=0:=by rw [Int.add_mul];omega
 by_cases h:0<a*4294967296 / d + -(a*4294967296) / d
 ·have:=Int.mul_pos h (show 0<d by omega);omega
 ·omega
theorem MT{a b c d:Int}(ha:0<=a)(tp:a<=b)(hb:b<=4503599627370496)(hc:1<=c)(yz:c<=d)(hd:d<=4611686018427387904) :
  div a b c d=if mS a d<=9223372036854775807/\nI b c<=9223372036854775807 then (mS a d,nI b c,0)else (0,0,4):=by
 have m1:=G0 ha (Int.le_refl a) hc yz;have m2:=G0 (by omega:0<=b) (Int.le_refl b) hc yz;have m3:=G0 ha tp hc (Int.le_refl c);have m4:=G0 ha tp (by omega:1<=d) (Int.le_refl d);have u1:=G1 ha (Int.le_refl a) hc yz;have u2:=G1 (by omega:0<=b) (Int.le_refl b) hc yz;have u3:=G1 ha tp hc (Int.le_refl c);have u4:=G1 ha tp (by omega:1<=d) (Int.le_refl d);have r1:=MS a d (by omega);have e1:kW (mS a c) (mS a d) (mS b c) (mS b d)=mS a d:=by unfold kW;omega
 have e2:kX (nI a c) (nI a d) (nI b c) (nI b d)=nI b c:=by unfold kX;omega
 unfold div;rw [if_pos (by simp only [ok,Bool.and_eq_true,decide_eq_true_eq];omega),if_neg (by omega),e1,e2];unfold fit;by_cases h:mS a d<=9223372036854775807/\nI b c<=9223372036854775807
 ·rw [if_pos h,if_pos (by omega)]
 ·rw [if_neg h,if_neg (by omega)]
end Go.Proofs.YtnjpiipdgapakaaGreatDoor
