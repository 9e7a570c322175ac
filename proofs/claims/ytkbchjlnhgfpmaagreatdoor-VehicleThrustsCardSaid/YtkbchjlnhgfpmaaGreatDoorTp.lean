import Derived.Test.YtkbchjlnhgfpmaaGreatDoorOkv
import Derived.Test.YtkbchjlnhgfpmaaGreatDoorQn
set_option linter.unusedVariables false
set_option linter.unusedSimpArgs false
namespace Go.Proofs.YtkbchjlnhgfpmaaGreatDoor
open Go Go.RowKit Vc Ul
def bQ(f:En->Int):List En->Int
 | []=>0
 |e::r=>e.n*f e+bQ f r
theorem BG(f:En->Int){es:List En}{k:Nat}{e:En}(h:es[k]? = some e):bQ f (es.take (k+1))=bQ f (es.take k)+e.n*f e:=by
  induction es generalizing k with
  |nil=>simp at h
  |cons a r ih =>
    cases k with
    |zero=>simp at h;subst h;simp [bQ]
    |succ k =>
      simp only [List.getElem?_cons_succ]at h;simp only [List.take_succ_cons,bQ,ih h];omega
def Es(f:En->Int):Prop:=∀e,jg e=true->0<=f e/\f e<=4503599627370496
theorem sw{e:En}(h:jg e=true):(1<=e.n/\e.n<=64)/\(1<=e.tl/\e.tl<=e.th/\e.th<=4503599627370496)/\(1<=e.fl/\e.fl<=e.fh/\e.fh<=4503599627370496):=by
 simp only [jg,jl,Bool.and_eq_true,decide_eq_true_eq]at h;omega
theorem Et:Es (·.tl):=λe h=>by have:=sw h;simp only;omega
theorem Eu:Es (·.th):=λe h=>by have:=sw h;simp only;omega
theorem BH:Es (·.fl):=λe h=>by have:=sw h;simp only;omega
theorem BI:Es (·.fh):=λe h=>by have:=sw h;simp only;omega
theorem HP{n x:Int}(h1:1<=n)(h2:n<=64)(h3:0<=x)(h4:x<=4503599627370496):0<=n*x/\n*x<=288230376151711744:=by
 refine⟨Int.mul_nonneg (by omega) h3, ?_⟩
 have:n*x<=64*4503599627370496:=Int.mul_le_mul h2 h4 h3 (by omega)
 omega
theorem uF{f:En->Int}(hf:Es f):∀{es:List En},(∀e∈es,jg e=true)->0<=bQ f es/\bQ f es<=es.length*288230376151711744
  | [],_=>by simp [bQ]
  |e::r,h=>by
    have h1:=uF hf (es:=r) λe he=>h e (List.mem_cons_of_mem _ he);have h2:=h e (List.mem_cons_self ..);have h3:=sw h2;have h4:=hf e h2;have h5:=HP (n:=e.n) (x:=f e) (by omega) (by omega) h4.1 h4.2;simp only [bQ,List.length_cons];omega
theorem HQ{f g:En->Int}(V2:∀e,jg e=true->f e<=g e):∀{es:List En},(∀e∈es,jg e=true)->bQ f es<=bQ g es
  | [],_=>by simp [bQ]
  |e::r,h=>by
    have h1:=HQ V2 (es:=r) λe he=>h e (List.mem_cons_of_mem _ he);have h2:=h e (List.mem_cons_self ..);have h3:=sw h2;have h4:e.n*f e<=e.n*g e:=Int.mul_le_mul_of_nonneg_left (V2 e h2) (by omega);simp only [bQ];omega
theorem Q0{f:En->Int}(hf:∀e,jg e=true->1<=f e):∀{es:List En},(∀e∈es,jg e=true)->es ≠ []->1<=bQ f es
  | [],_,h=>absurd rfl h
  |e::r,h,_=>by
    have h2:=h e (List.mem_cons_self ..);have h3:=sw h2;have h4:e.n*1<=e.n*f e:=Int.mul_le_mul_of_nonneg_left (hf e h2) (by omega)
    have h5:0<=bQ f r:=by
      rcases r with _|⟨a,r⟩
      · simp [bQ]
      · have:=Q0 hf (es:=a::r) (λe he=>h e (List.mem_cons_of_mem _ he)) (by simp)
        omega
    simp only [bQ];omega
def pg(f g:En->Int)(v:Vh)(g0 lo hi:Int):Int × Int × Int :=
 if (bU v).2.2≠0 then (0,0,2)else if ¬(0<=g0/\g0<=(v.ss.length:Int)-1)then (0,0,7)
 else match v.ss[g0.toNat]? with
  |none=>(0,0,7)
  |some s=>if lo<0\/hi<lo\/4294967296<hi then (0,0,4)else if 0<hi/\s.es.any (λe=>decide (lo<e.le))=true then (0,0,4)else mul lo hi (bQ f s.es) (bQ g s.es)
def Ev(n l:Int)(up:Bool):Int:=if up=true then ce (n*l) 4294967296 else fl (n*l) 4294967296
theorem HR{lo hi a b:Int}(h0:0<=lo)(h1:lo<=hi)(h2:hi<=4294967296)(ha:0<=a)(tW:a<=b)(hb:b<=4611686018427387904):mul lo hi a b=(Ev a lo false,Ev b hi true,0):=by
 have p1:lo*a<=lo*b:=Int.mul_le_mul_of_nonneg_left tW h0;have p2:lo*a<=hi*a:=Int.mul_le_mul_of_nonneg_right h1 ha;have p3:hi*a<=hi*b:=Int.mul_le_mul_of_nonneg_left tW (by omega);have p4:lo*b<=hi*b:=Int.mul_le_mul_of_nonneg_right h1 (by omega);have p5:hi*b<=4294967296*b:=Int.mul_le_mul_of_nonneg_right h2 (by omega);have p6:0<=lo*a:=Int.mul_nonneg h0 ha;have e1:tu (lo*a) (lo*b) (hi*a) (hi*b)=a*lo:=by rw [Int.mul_comm a lo];unfold tu;omega
 have e2:tv (lo*a) (lo*b) (hi*a) (hi*b)=b*hi:=by rw [Int.mul_comm b hi];unfold tv;omega
 unfold mul;rw [if_pos (by simp only [ok,Bool.and_eq_true,decide_eq_true_eq];omega),e1,e2];have A:a*lo=lo*a:=Int.mul_comm ..;have B:b*hi=hi*b:=Int.mul_comm ..;unfold fit;rw [if_pos]
 ·rfl
 ·unfold fl ce;omega
theorem zex{n l:Int}(hn:0<=n)(D5:n<=4611686018427387904)(hl:0<=l)(gj:l<=4294967296) :
  let wh:=n / 4294967296;let pt:=n % 4294967296;let rs:=pt*(l / 65536);let low:=rs % 65536*65536+pt*(l % 65536)
  n*l=4294967296*(wh*l+rs / 65536)+low/\0<=low/\low<=562949953421312/\0<=rs/\rs<=562949953421312/\0<=wh*l/\wh*l<=4611686018427387904/\0<=pt*(l % 65536)/\pt*(l % 65536)<=281474976710656:=by
 intro wh pt rs low;have e1:n=4294967296*wh+pt:=by simp only [wh,pt];omega
 have e2:l=65536*(l / 65536)+l % 65536:=by omega
 have b1:0<=pt/\pt<4294967296:=by simp only [pt];omega
 have b2:0<=wh/\wh<=1073741824:=by simp only [wh];omega
 have b3:0<=l / 65536/\l / 65536<=65536:=by omega
 have b4:0<=l % 65536/\l % 65536<65536:=by omega
 have r0:0<=rs:=Int.mul_nonneg b1.1 b3.1;have r1:rs<=4294967296*65536:=Int.mul_le_mul (by omega) b3.2 b3.1 (by omega);have q0:0<=pt*(l % 65536):=Int.mul_nonneg b1.1 b4.1;have q1:pt*(l % 65536)<=4294967296*65536:=Int.mul_le_mul (by omega) (by omega) b4.1 (by omega);have w0:0<=wh*l:=Int.mul_nonneg b2.1 hl;have w1:wh*l<=1073741824*4294967296:=Int.mul_le_mul b2.2 gj hl (by omega)
 have e3:pt*l=rs*65536+pt*(l % 65536):=by
  have:pt*l=pt*(65536*(l / 65536)+l % 65536):=by rw [<-e2]
  rw [this,Int.mul_add]
  have:pt*(65536*(l / 65536))=rs*65536:=by simp only [rs];rw [Int.mul_left_comm];omega
  omega
 have e4:n*l=4294967296*(wh*l)+pt*l:=by
  have:n*l=(4294967296*wh+pt)*l:=by rw [<-e1]
  rw [this,Int.add_mul,Int.mul_assoc]
 have e5:rs=65536*(rs / 65536)+rs % 65536:=by omega
 refine⟨?_,by omega,by omega,r0,by omega,w0,by omega,q0,by omega⟩;simp only [low];omega
theorem HS{f g:En->Int}{v:Vh}{n lo hi:Int}(h:(bU v).2.2≠0):RV (0,0,2)=RV (pg f g v n lo hi):=by unfold pg;rw [if_pos h]
theorem J2{f g:En->Int}{v:Vh}{n lo hi:Int}(h:(bU v).2.2=0)(h2:¬(0<=n/\n<=(v.ss.length:Int)-1)):RV (0,0,7)=RV (pg f g v n lo hi):=by unfold pg;rw [if_neg (by omega),if_pos h2]
theorem Ew{f g:En->Int}{v:Vh}{n lo hi:Int}(h:(bU v).2.2=0)(h2:0<=n/\n<=(v.ss.length:Int)-1){s:f_}(hs:v.ss[n.toNat]? = some s)(h3:lo<0\/hi<lo\/4294967296<hi):RV (0,0,4)=RV (pg f g v n lo hi):=by
 unfold pg;rw [if_neg (by omega),if_neg (by omega),hs];simp only;rw [if_pos h3]
theorem HT{f g:En->Int}{v:Vh}{n lo hi:Int}(h:(bU v).2.2=0)(h2:0<=n/\n<=(v.ss.length:Int)-1){s:f_}(hs:v.ss[n.toNat]? = some s)(h3:¬(lo<0\/hi<lo\/4294967296<hi))(h4:0<hi/\s.es.any (λe=>decide (lo<e.le))=true):RV (0,0,4)=RV (pg f g v n lo hi):=by
 unfold pg;rw [if_neg (by omega),if_neg (by omega),hs];simp only;rw [if_neg h3,if_pos h4]
theorem Ar{f g:En->Int}{v:Vh}{n lo hi:Int}(h:(bU v).2.2=0)(h2:0<=n/\n<=(v.ss.length:Int)-1){s:f_}(hs:v.ss[n.toNat]? = some s)(h3:¬(lo<0\/hi<lo\/4294967296<hi))(h4:¬(0<hi/\s.es.any (λe=>decide (lo<e.le))=true)):pg f g v n lo hi=mul lo hi (bQ f s.es) (bQ g s.es):=by
 unfold pg;rw [if_neg (by omega),if_neg (by omega),hs];simp only;rw [if_neg h3,if_neg h4]
def j_(v:Vh)(n lo hi:Int):Int :=
 if (bU v).2.2≠0 then 2 else if ¬(0<=n/\n<=(v.ss.length:Int)-1)then 7
 else match v.ss[n.toNat]? with
  |none=>7
  |some s=>if lo<0\/hi<lo\/4294967296<hi then 4 else if 0<hi/\s.es.any (λe=>decide (lo<e.le))=true then 4 else 0
theorem HU{f g:En->Int}{v:Vh}{n lo hi:Int}(h:j_ v n lo hi≠0):RV (0,0,j_ v n lo hi)=RV (pg f g v n lo hi):=by
 unfold j_ pg at *;split
 ·rfl
 split
 ·rfl
 split
 ·rfl
 split
 ·rfl
 split
 ·rfl
 simp_all
theorem HV{v:Vh}{n lo hi:Int}(h:j_ v n lo hi=0):(bU v).2.2=0/\(0<=n/\n<=(v.ss.length:Int)-1)/\∃s,v.ss[n.toNat]? = some s/\¬(lo<0\/hi<lo\/4294967296<hi)/\¬(0<hi/\s.es.any (λe=>decide (lo<e.le))=true):=by
 unfold j_ at h;split at h
 ·simp at h
 rename_i h1;split at h
 ·simp at h
 rename_i h2;split at h
 ·simp at h
 rename_i s hs;split at h
 ·simp at h
 rename_i h3;split at h
 ·simp at h
 rename_i h4;exact⟨by omega,by omega,s,hs,h3,h4⟩
def kx(v:Vh)(n:Int):Int × Int × Int :=
 if (bU v).2.2≠0 then (0,0,2)else if ¬(0<=n/\n<=(v.ss.length:Int)-1)then (0,0,7)
 else match v.ss[n.toNat]? with
  |none=>(0,0,7)
  |some s=>if s.es.length=0 then (0,0,9)else div s.pl s.ph (bQ (·.fl) s.es) (bQ (·.fh) s.es)
theorem HW{v:Vh}{n:Int}(h:(bU v).2.2≠0):RV (0,0,2)=RV (kx v n):=by unfold kx;rw [if_pos h]
theorem J3{v:Vh}{n:Int}(h:(bU v).2.2=0)(h2:¬(0<=n/\n<=(v.ss.length:Int)-1)):RV (0,0,7)=RV (kx v n):=by unfold kx;rw [if_neg (by omega),if_pos h2]
theorem HX{v:Vh}{n:Int}(h:(bU v).2.2=0)(h2:0<=n/\n<=(v.ss.length:Int)-1){s:f_}(hs:v.ss[n.toNat]? = some s)(h3:s.es.length=0):RV (0,0,9)=RV (kx v n):=by
 unfold kx;rw [if_neg (by omega),if_neg (by omega),hs];simp only;rw [if_pos h3]
theorem HY{v:Vh}{n:Int}(h:(bU v).2.2=0)(h2:0<=n/\n<=(v.ss.length:Int)-1){s:f_}(hs:v.ss[n.toNat]? = some s)(h3:¬s.es.length=0):kx v n=div s.pl s.ph (bQ (·.fl) s.es) (bQ (·.fh) s.es):=by
 unfold kx;rw [if_neg (by omega),if_neg (by omega),hs];simp only;rw [if_neg h3]
theorem HZ{a d:Int}(ha:0<=a)(pO:a<=4503599627370496)(hd:1<=d)(vJ:d<=4611686018427387904) :
  ∃n m,iU a d 0 0 0=⟨n,m,0,0,0,0⟩/\om n m 0 0 0=true/\1<=m/\0<=n/\(∀c,n*c / m=a*c / d):=by
 have dL:0<Int.gcd a d:=Int.gcd_pos_of_ne_zero_right _ (by omega);have hga:=Int.gcd_dvd_left a d;have rY:=Int.gcd_dvd_right a d;have h1:=Int.gcd_ediv_gcd_ediv_gcd dL;generalize hg:Int.gcd a d=g at *;obtain⟨n,rfl⟩:=hga;obtain⟨m,rfl⟩:=rY;have CI:(0:Int)<(g:Int):=by omega
 rw [Int.mul_ediv_cancel_left _ (by omega),Int.mul_ediv_cancel_left _ (by omega)]at h1
 have hn:0<=n:=by
  by_cases h:n<0
  ·have:=Int.mul_neg_of_pos_of_neg CI h;omega
  ·omega
 have hm:1<=m:=by
  by_cases h:m<1
  ·have:=Int.mul_le_mul_of_nonneg_left (show m<=0 by omega) (Int.le_of_lt CI);omega
  ·omega
 have hnl:n<=(g:Int)*n:=by
  have:=Int.mul_le_mul_of_nonneg_right (show (1:Int)<=(g:Int) by omega) hn;omega
 have Fo:m<=(g:Int)*m:=by
  have:=Int.mul_le_mul_of_nonneg_right (show (1:Int)<=(g:Int) by omega) (show (0:Int)<=m by omega);omega
 have yZ:om n m 0 0 0=true:=by
  simp only [om,Bool.and_eq_true,decide_eq_true_eq];refine⟨⟨⟨⟨⟨by omega,by omega⟩,by omega⟩,by omega⟩,h1⟩,by omega⟩
 refine⟨n,m, ?_,yZ,hm,hn,λc => ?_⟩
 ·unfold iU;rw [hg,Int.mul_tdiv_cancel_left _ (by omega),Int.mul_tdiv_cancel_left _ (by omega),if_pos yZ]
 ·rw [Int.mul_assoc,Int.mul_ediv_mul_of_pos _ _ CI]
theorem H0{x d:Int}(hx:x<=0)(hd:0<d):x / d<=0:=by
 have:=Int.ediv_le_ediv hd hx
 rwa [Int.zero_ediv]at this
theorem As(a d:Int)(hd:1<=d):mo a d=a*4294967296 / d:=by unfold mo fl;rw [if_neg (by omega)]
theorem J4(a d:Int)(hd:1<=d):mH a d = -((-(a*4294967296)) / d):=by unfold mH ce;rw [if_neg (by omega)]
theorem Q1{a d:Int}(ha:0<=a)(pO:a<=4503599627370496)(hd:1<=d)(vJ:d<=4611686018427387904) :
  ∃n m,iU a d 0 0 0=⟨n,m,0,0,0,0⟩/\ly n m 0 0 0=(if mo a d<=9223372036854775807 then (mo a d,0)else (0,4)):=by
 obtain⟨n,m,h1,h2,h3,h4,h5⟩:=HZ ha pO hd vJ;refine⟨n,m,h1, ?_⟩;have h6:0<=a*4294967296 / d:=Int.ediv_nonneg (by omega) (by omega);unfold ly xZ;rw [if_pos h2,h5,As a d hd];by_cases h:a*4294967296 / d<=9223372036854775807
 ·rw [if_pos ⟨by omega,h⟩,if_pos h]
 ·rw [if_neg (λhh=>h hh.2),if_neg h]
theorem Q3{a d:Int}(ha:0<=a)(pO:a<=4503599627370496)(hd:1<=d)(vJ:d<=4611686018427387904) :
  ∃n m,iU a d 0 0 0=⟨n,m,0,0,0,0⟩/\rS n m 0 0 0=(if mH a d<=9223372036854775807 then (mH a d,0)else (0,4)):=by
 obtain⟨n,m,h1,h2,h3,h4,h5⟩:=HZ ha pO hd vJ;refine⟨n,m,h1, ?_⟩
 have h6:a * -4294967296 / d<=0:=by
  have:a * -4294967296<=0:=by omega
  exact H0 this (by omega)
 have h7:-n*4294967296 / m=a * -4294967296 / d:=by rw [<-h5];congr 1;omega
 unfold rS ly xZ;rw [if_pos h2,if_pos (QZ h2),h7];rw [J4 a d hd,show -(a*4294967296)=a * -4294967296 by omega];by_cases h:-(a * -4294967296 / d)<=9223372036854775807
 ·rw [if_pos ⟨by omega,by omega⟩,if_pos h];simp only;rw [zb (by omega),Int.zero_sub]
 ·rw [if_neg (λhh=>h (by omega)),if_neg h];rfl
theorem J5{a b c d:Int}(ha:0<=a)(tW:a<=b)(hc:1<=c)(xU:c<=d):mo a d<=mo b c/\0<=mo a d:=by
 rw [As a d (by omega),As b c hc];have h1:a*4294967296 / d<=b*4294967296 / d:=Int.ediv_le_ediv (by omega) (by omega)
 have h2:b*4294967296 / d<=b*4294967296 / c:=by
  refine Int.le_ediv_of_mul_le (by omega) ?_;have h3:=Int.ediv_mul_le (b*4294967296) (show d≠0 by omega);have h4:0<=b*4294967296 / d:=Int.ediv_nonneg (by omega) (by omega);have h5:=Int.mul_le_mul_of_nonneg_left xU h4;omega
 exact⟨by omega,Int.ediv_nonneg (by omega) (by omega)⟩
theorem J6{a b c d:Int}(ha:0<=a)(tW:a<=b)(hc:1<=c)(xU:c<=d):mH a d<=mH b c:=by
 rw [J4 _ _ (by omega),J4 _ _ hc]
 have h1:-(b*4294967296) / c <= -(a*4294967296) / d:=by
  refine Int.le_ediv_of_mul_le (by omega) ?_;have h3:=Int.ediv_mul_le (-(b*4294967296)) (show c≠0 by omega);have h4:-(b*4294967296) / c<=0:=H0 (by omega) (by omega);have h5:-(b*4294967296) / c*d <= -(b*4294967296) / c*c:=Int.mul_le_mul_of_nonpos_left h4 xU;omega
 omega
theorem Q4(a d:Int)(hd:1<=d):mo a d<=mH a d:=by
 rw [J4 _ _ hd];rw [As a d hd];have h1:=Int.ediv_mul_le (a*4294967296) (show d≠0 by omega);have h2:=Int.ediv_mul_le (-(a*4294967296)) (show d≠0 by omega);have h3:(a*4294967296 / d + -(a*4294967296) / d)*d<=0:=by rw [Int.add_mul];omega
 by_cases h:0<a*4294967296 / d + -(a*4294967296) / d
 ·have:=Int.mul_pos h (show 0<d by omega);omega
 ·omega
theorem Q6{a b c d:Int}(ha:0<=a)(tW:a<=b)(hb:b<=4503599627370496)(hc:1<=c)(xU:c<=d)(hd:d<=4611686018427387904) :
  div a b c d=if mo a d<=9223372036854775807/\mH b c<=9223372036854775807 then (mo a d,mH b c,0)else (0,0,4):=by
 have m1:=J5 ha (Int.le_refl a) hc xU;have m2:=J5 (by omega:0<=b) (Int.le_refl b) hc xU;have m3:=J5 ha tW hc (Int.le_refl c);have m4:=J5 ha tW (by omega:1<=d) (Int.le_refl d);have u1:=J6 ha (Int.le_refl a) hc xU;have u2:=J6 (by omega:0<=b) (Int.le_refl b) hc xU;have u3:=J6 ha tW hc (Int.le_refl c);have u4:=J6 ha tW (by omega:1<=d) (Int.le_refl d);have r1:=Q4 a d (by omega);have e1:tu (mo a c) (mo a d) (mo b c) (mo b d)=mo a d:=by unfold tu;omega
 have e2:tv (mH a c) (mH a d) (mH b c) (mH b d)=mH b c:=by unfold tv;omega
 unfold div;rw [if_pos (by simp only [ok,Bool.and_eq_true,decide_eq_true_eq];omega),if_neg (by omega),e1,e2];unfold fit;by_cases h:mo a d<=9223372036854775807/\mH b c<=9223372036854775807
 ·rw [if_pos h,if_pos (by omega)]
 ·rw [if_neg h,if_neg (by omega)]
end Go.Proofs.YtkbchjlnhgfpmaaGreatDoor
