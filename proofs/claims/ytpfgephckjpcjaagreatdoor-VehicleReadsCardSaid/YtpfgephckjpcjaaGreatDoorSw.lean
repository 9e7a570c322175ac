import Derived.Test.YtpfgephckjpcjaaGreatDoorGq
import Derived.Test.YtpfgephckjpcjaaGreatDoorQa
import Derived.Test.YtpfgephckjpcjaaGreatDoorShI
import Derived.Test.YtpfgephckjpcjaaGreatDoorAwv
import Derived.Lib.ItoaLen
import Derived.Lib.AppendIntMem
set_option linter.unusedVariables false
set_option linter.unusedSimpArgs false
namespace Go.Proofs.YtpfgephckjpcjaaGreatDoor
open Go Go.RowKit Vc
attribute [local irreducible] Go.Calls
theorem NB {w : World} (h : px w) : Lib.TabIs Tryz.prog w "internal/strconv.uint64pow10" .u64 Lib.pow10Tab := by
  obtain⟨ty,mk,hh⟩:=h;have hg : Tryz.prog.globalNamed "internal/strconv.uint64pow10" = some 13 := by kernel_rfl
  unfold Lib.TabIs World.var?;rw [hg];simp only [Option.bind_some];rw [hh];exact congrArg some (by kernel_rfl)
abbrev fg(f:Nat)(w:World):Prop:=∀n:Int,-9223372036854775808<=n->n<=9223372036854775807->∀w':World,Below w.heap.size w w'->Calls Tryz.prog f #[.int .i64 n] w' (Vc.aR (.string ⟨(Lib.itoa n).toArray⟩) w')
theorem NC{w:World}(hV:px w):fg 22 w:=by
 intro n h0 h1 w' hb;refine (Tryz.strconv_Itoa n h0 h1 w' (NB (zt hV hb))).mono ?_;rintro e w2 ⟨rfl,k,os,rfl⟩;exact⟨rfl,Lib.below_grow _ w' (Nat.le_refl _) k os⟩
theorem rQ{n:Int}(h0:-9223372036854775808<=n)(h1:n<=9223372036854775807):(Lib.itoa n).length<=21:=Lib.itoa_length_le n h0 h1
theorem Sp{m:Nat}(h:m<10):Lib.decDigits m=[UInt8.ofNat (48+m)]:=by rw [Lib.decDigits,dif_pos h]
theorem F8{m:Nat}(h:¬m<10):Lib.decDigits m=Lib.decDigits (m / 10) ++ [UInt8.ofNat (48+m % 10)]:=by rw [Lib.decDigits,dif_neg h]
def AU(n:Int)(l:List Vc.Vl):Prop:=∃(s0:List UInt8) (x:Int),l=[.s s0,.i x,.s []] /\ -9223372036854775808<=x/\x<=9223372036854775807/\Lib.decDigits n.natAbs=Lib.decDigits x.natAbs++s0
def zJ(l:List Vc.Vl):Nat:=match l with
 | [.s _,.i x,.s _]=>x.natAbs
 |_=>0
theorem Sq{x:Int}(h0:-9223372036854775808<=x)(h1:x<=9223372036854775807):IntKind.u8.wrap (IntKind.i64.wrap (48+(if IntKind.i64.wrap (0-x.tmod 10) > x.tmod 10 then IntKind.i64.wrap (0-x.tmod 10)else x.tmod 10)))=((48+x.natAbs % 10:Nat):Int):=by
 have h2:(x.tmod 10).natAbs=x.natAbs % 10:=Int.natAbs_tmod x 10;have h3:x.natAbs % 10<10:=Nat.mod_lt _ (by decide);have hw:IntKind.i64.wrap (0-x.tmod 10) = -(x.tmod 10):=by rw [zk (by omega)];omega
 rw [hw];have e:(if -(x.tmod 10) > x.tmod 10 then -(x.tmod 10)else x.tmod 10)=((x.natAbs % 10:Nat):Int):=by split<;>omega
 rw [e,zk (by omega),IntKind.wrap_u8];omega
theorem ND{n:Int}{l:List UInt8}(hn:n<0)(h:Lib.decDigits n.natAbs=l):[45]++l=Lib.itoa n:=by
 unfold Lib.itoa;rw [if_pos hn,h];rfl
theorem NF{n:Int}{l:List UInt8}(hn:¬n<0)(h:Lib.decDigits n.natAbs=l):[]++l=Lib.itoa n:=by
 unfold Lib.itoa;rw [if_neg hn,show n.toNat=n.natAbs by omega,h];rfl
theorem NG{w:World}:fg 25 w:=by
 intro n h0 h1 w' hb;refine Vw n w' _ (aa (λhn=>⟨AU n,zJ,⟨[],n,rfl,h0,h1,by rw [List.append_nil]⟩, ?_⟩) (λhn=>⟨AU n,zJ,⟨[],n,rfl,h0,h1,by rw [List.append_nil]⟩, ?_⟩))
 ·rintro s0 x1 s1 ⟨t0,y,xd,iE,ji,hd⟩;simp only [List.cons.injEq,Vc.Vl.s.injEq,Vc.Vl.i.injEq,and_true]at xd;obtain⟨rfl,rfl,rfl⟩:=xd;rintro x2 rfl x3 rfl x4 rfl x5 rfl x6 rfl x7 vk;rw [Sq iE ji]at vk;subst vk;refine⟨λv hv=>⟨_,by simpa using hv⟩, ?_⟩;rintro s2 lX;have lX:s2=[UInt8.ofNat (48+x1.natAbs % 10)]:=lX;subst lX;have hlen:(Lib.decDigits n.natAbs).length<=20:=by rw [Lib.decDigits_length];exact Lib.nDigits_le20 _ (by omega)
  rw [hd,List.length_append]at hlen;refine⟨by simp;omega, ?_⟩;rintro s3 rfl x8 F9;have h8:(x1.tdiv 10).natAbs=x1.natAbs / 10:=Int.natAbs_tdiv x1 10;rw [zk (by omega)]at F9;rw [<-F9]at h8;refine aa (λh => ?_) (λh => ?_)
  ·have hs:x1.natAbs<10:=by omega
   refine⟨by simp;omega, ?_⟩;rintro s4 rfl;rw [Sp hs]at hd;have hm:x1.natAbs % 10=x1.natAbs:=Nat.mod_eq_of_lt hs;rw [hm];exact congrArg (λl:List UInt8=>Value.string ⟨l.toArray⟩) (ND hn hd)
  ·have hs:¬x1.natAbs<10:=by omega
   refine⟨⟨_,_,rfl,by omega,by omega, ?_⟩, ?_⟩
   ·rw [hd,F8 hs,h8,List.append_assoc]
   ·simp only [zJ];omega
 ·rintro s0 x1 s1 ⟨t0,y,xd,iE,ji,hd⟩;simp only [List.cons.injEq,Vc.Vl.s.injEq,Vc.Vl.i.injEq,and_true]at xd;obtain⟨rfl,rfl,rfl⟩:=xd;rintro x2 rfl x3 rfl x4 rfl x5 rfl x6 rfl x7 vk;rw [Sq iE ji]at vk;subst vk;refine⟨λv hv=>⟨_,by simpa using hv⟩, ?_⟩;rintro s2 lX;have lX:s2=[UInt8.ofNat (48+x1.natAbs % 10)]:=lX;subst lX;have hlen:(Lib.decDigits n.natAbs).length<=20:=by rw [Lib.decDigits_length];exact Lib.nDigits_le20 _ (by omega)
  rw [hd,List.length_append]at hlen;refine⟨by simp;omega, ?_⟩;rintro s3 rfl x8 F9;have h8:(x1.tdiv 10).natAbs=x1.natAbs / 10:=Int.natAbs_tdiv x1 10;rw [zk (by omega)]at F9;rw [<-F9]at h8;refine aa (λh => ?_) (λh => ?_)
  ·have hs:x1.natAbs<10:=by omega
   refine⟨by simp;omega, ?_⟩;rintro s4 rfl;rw [Sp hs]at hd;have hm:x1.natAbs % 10=x1.natAbs:=Nat.mod_eq_of_lt hs;rw [hm];exact congrArg (λl:List UInt8=>Value.string ⟨l.toArray⟩) (NF hn hd)
  ·have hs:¬x1.natAbs<10:=by omega
   refine⟨⟨_,_,rfl,by omega,by omega, ?_⟩, ?_⟩
   ·rw [hd,F8 hs,h8,List.append_assoc]
   ·simp only [zJ];omega
def jc(name:List UInt8)(n:Int):List UInt8:=if n=0 then []else if n=1 then 32::name else 32::name ++ [94]++Lib.itoa n
theorem Dg{name:List UInt8}:jc name 0=[]:=rfl
theorem Dh{name:List UInt8}{n:Int}(h0:n≠0)(h1:n≠1):jc name n=(32::name ++ [94])++Lib.itoa n:=by unfold jc;rw [if_neg h0,if_neg h1]
def mO(n d k s t:Int):List UInt8:=if iy n d k s t=true then Lib.itoa n++(if d=1 then []else 47::Lib.itoa d)++jc [107,109] k++jc [115] s++jc [116] t else []
theorem Sr{n d k s t:Int}(hc:iy n d k s t=true)(h:d=1):Lib.itoa n++jc [107,109] k++jc [115] s++jc [116] t=mO n d k s t:=by
 unfold mO;rw [if_pos hc,if_pos h,List.append_nil]
theorem Ss{n d k s t:Int}(hc:iy n d k s t=true)(h:¬d=1):Lib.itoa n++(47::Lib.itoa d)++jc [107,109] k++jc [115] s++jc [116] t=mO n d k s t:=by
 unfold mO;rw [if_pos hc,if_neg h]
theorem NH{x4:Int}{s r:List UInt8}{w:World}(hI:fg 22 w)(hl:s.length<=500)(h9:-9<=x4/\x4<=9)(h0:x4≠0)(hr:s++jc [116] x4=r):cx x4 s (.string ⟨r.toArray⟩) w:=by
 unfold cx;refine aa (λh1=>⟨by simp;omega, ?_⟩) (λh1=>⟨Lib.itoa x4,λw' hb=>hI x4 (by omega) (by omega) w' hb,by have:=rQ (n:=x4) (by omega) (by omega);simp;omega, ?_⟩)
 ·rintro s3 rfl;rw [<-hr,h1];rfl
 ·rintro s4 rfl;refine⟨by have:=rQ (n:=x4) (by omega) (by omega);simp;omega, ?_⟩;rintro s5 rfl;rw [<-hr,Dh h0 h1];rfl
theorem Cu{x4:Int}{s r:List UInt8}{w:World}(hI:fg 22 w)(hl:s.length<=500)(h9:-9<=x4/\x4<=9)(hr:s++jc [116] x4=r):((x4=0)->(.string ⟨s.toArray⟩:Value)=.string ⟨r.toArray⟩)/\(¬(x4=0)->cx x4 s (.string ⟨r.toArray⟩) w) :=
 aa (λh0=>by rw [<-hr,h0,Dg,List.append_nil]) (λh0=>NH hI hl h9 h0 hr)
theorem NI{x4:Int}{s r:List UInt8}{w:World}(hI:fg 22 w)(hl:s.length<=500)(h9:-9<=x4/\x4<=9)(hr:s++jc [116] x4=r):cy x4 s (.string ⟨r.toArray⟩) w:=by
 unfold cy;exact Cu hI hl h9 hr
theorem NJ{x3 x4:Int}{s r:List UInt8}{w:World}(hI:fg 22 w)(hl:s.length<=400)(h9:-9<=x3/\x3<=9)(mB:-9<=x4/\x4<=9)(h0:x3≠0)(hr:s++jc [115] x3++jc [116] x4=r):cA x3 s x4 (.string ⟨r.toArray⟩) w:=by
 unfold cA;refine aa (λh1=>⟨by simp;omega, ?_⟩) (λh1=>⟨Lib.itoa x3,λw' hb=>hI x3 (by omega) (by omega) w' hb,by have:=rQ (n:=x3) (by omega) (by omega);simp;omega, ?_⟩)
 ·rintro s3 rfl;rw [h1]at hr;exact Cu hI (by simp;omega) mB hr
 ·rintro s4 rfl
  have:=rQ (n:=x3) (by omega) (by omega)
  refine⟨by simp;omega, ?_⟩;rintro s5 rfl;rw [Dh h0 h1]at hr;exact Cu hI (by simp;omega) mB hr
theorem Cv{x3 x4:Int}{s r:List UInt8}{w:World}(hI:fg 22 w)(hl:s.length<=400)(h9:-9<=x3/\x3<=9)(mB:-9<=x4/\x4<=9)(hr:s++jc [115] x3++jc [116] x4=r):((x3=0)->cy x4 s (.string ⟨r.toArray⟩) w)/\(¬(x3=0)->cA x3 s x4 (.string ⟨r.toArray⟩) w) :=
 aa (λh0=>NI hI (by omega) mB (by rw [<-hr,h0,Dg,List.append_nil])) (λh0=>NJ hI hl h9 mB h0 hr)
theorem NK{x3 x4:Int}{s r:List UInt8}{w:World}(hI:fg 22 w)(hl:s.length<=400)(h9:-9<=x3/\x3<=9)(mB:-9<=x4/\x4<=9)(hr:s++jc [115] x3++jc [116] x4=r):cS x3 x4 s (.string ⟨r.toArray⟩) w:=by
 unfold cS;exact Cv hI hl h9 mB hr
theorem NL{x2 x3 x4:Int}{s r:List UInt8}{w:World}(hI:fg 22 w)(hl:s.length<=300)(h9:-9<=x2/\x2<=9)(mB:-9<=x3/\x3<=9)(oE:-9<=x4/\x4<=9)(h0:x2≠0)(hr:s++jc [107,109] x2++jc [115] x3++jc [116] x4=r):cT x2 s x3 x4 (.string ⟨r.toArray⟩) w:=by
 unfold cT;refine aa (λh1=>⟨by simp;omega, ?_⟩) (λh1=>⟨Lib.itoa x2,λw' hb=>hI x2 (by omega) (by omega) w' hb,by have:=rQ (n:=x2) (by omega) (by omega);simp;omega, ?_⟩)
 ·rintro s3 rfl;rw [h1]at hr;exact Cv hI (by simp;omega) mB oE hr
 ·rintro s4 rfl
  have:=rQ (n:=x2) (by omega) (by omega)
  refine⟨by simp;omega, ?_⟩;rintro s5 rfl;rw [Dh h0 h1]at hr;exact Cv hI (by simp;omega) mB oE hr
theorem F_{x2 x3 x4:Int}{s r:List UInt8}{w:World}(hI:fg 22 w)(hl:s.length<=300)(h9:-9<=x2/\x2<=9)(mB:-9<=x3/\x3<=9)(oE:-9<=x4/\x4<=9)(hr:s++jc [107,109] x2++jc [115] x3++jc [116] x4=r):((x2=0)->cS x3 x4 s (.string ⟨r.toArray⟩) w)/\(¬(x2=0)->cT x2 s x3 x4 (.string ⟨r.toArray⟩) w) :=
 aa (λh0=>NK hI (by omega) mB oE (by rw [<-hr,h0,Dg,List.append_nil])) (λh0=>NL hI hl h9 mB oE h0 hr)
theorem NM{s:List UInt8}{r:List UInt8}(hl:s.length<=1000)(hr:s=r):bM s (.string ⟨r.toArray⟩):=by
 unfold bM;refine⟨by rw [List.length_nil];omega, ?_⟩;rintro s3 rfl;rw [List.append_nil,hr]
theorem NN{x4:Int}{s r:List UInt8}{w:World}(hI:fg 25 w)(hl:s.length<=500)(h9:-9<=x4/\x4<=9)(h0:x4≠0)(hr:s++jc [116] x4=r):bN x4 s (.string ⟨r.toArray⟩) w:=by
 unfold bN;refine aa (λh1=>⟨by simp;omega, ?_⟩) (λh1=>⟨Lib.itoa x4,λw' hb=>hI x4 (by omega) (by omega) w' hb,by have:=rQ (n:=x4) (by omega) (by omega);simp;omega, ?_⟩)
 ·rintro s3 rfl;rw [<-hr,h1];rfl
 ·rintro s4 rfl;refine⟨by have:=rQ (n:=x4) (by omega) (by omega);simp;omega, ?_⟩;rintro s5 rfl;rw [<-hr,Dh h0 h1];rfl
theorem Cw{x4:Int}{s r:List UInt8}{w:World}(hI:fg 25 w)(hl:s.length<=500)(h9:-9<=x4/\x4<=9)(hr:s++jc [116] x4=r):((x4=0)->bM s (.string ⟨r.toArray⟩))/\(¬(x4=0)->bN x4 s (.string ⟨r.toArray⟩) w) :=
 aa (λh0=>NM (by omega) (by rw [<-hr,h0,Dg,List.append_nil])) (λh0=>NN hI hl h9 h0 hr)
theorem NO{x4:Int}{s r:List UInt8}{w:World}(hI:fg 25 w)(hl:s.length<=500)(h9:-9<=x4/\x4<=9)(hr:s++jc [116] x4=r):bO s x4 (.string ⟨r.toArray⟩) w:=by
 unfold bO;refine⟨by rw [List.length_nil];omega, ?_⟩;rintro s2 rfl;rw [List.append_nil];exact Cw hI hl h9 hr
theorem NP{x3 x4:Int}{s r:List UInt8}{w:World}(hI:fg 25 w)(hl:s.length<=400)(h9:-9<=x3/\x3<=9)(mB:-9<=x4/\x4<=9)(h0:x3≠0)(hr:s++jc [115] x3++jc [116] x4=r):bP x3 s x4 (.string ⟨r.toArray⟩) w:=by
 unfold bP;refine aa (λh1=>⟨by simp;omega, ?_⟩) (λh1=>⟨Lib.itoa x3,λw' hb=>hI x3 (by omega) (by omega) w' hb,by have:=rQ (n:=x3) (by omega) (by omega);simp;omega, ?_⟩)
 ·rintro s3 rfl;rw [h1]at hr;exact Cw hI (by simp;omega) mB hr
 ·rintro s4 rfl
  have:=rQ (n:=x3) (by omega) (by omega)
  refine⟨by simp;omega, ?_⟩;rintro s5 rfl;rw [Dh h0 h1]at hr;exact Cw hI (by simp;omega) mB hr
theorem Cx{x3 x4:Int}{s r:List UInt8}{w:World}(hI:fg 25 w)(hl:s.length<=400)(h9:-9<=x3/\x3<=9)(mB:-9<=x4/\x4<=9)(hr:s++jc [115] x3++jc [116] x4=r):((x3=0)->bO s x4 (.string ⟨r.toArray⟩) w)/\(¬(x3=0)->bP x3 s x4 (.string ⟨r.toArray⟩) w) :=
 aa (λh0=>NO hI (by omega) mB (by rw [<-hr,h0,Dg,List.append_nil])) (λh0=>NP hI hl h9 mB h0 hr)
theorem NQ{x3 x4:Int}{s r:List UInt8}{w:World}(hI:fg 25 w)(hl:s.length<=400)(h9:-9<=x3/\x3<=9)(mB:-9<=x4/\x4<=9)(hr:s++jc [115] x3++jc [116] x4=r):cg s x3 x4 (.string ⟨r.toArray⟩) w:=by
 unfold cg;refine⟨by rw [List.length_nil];omega, ?_⟩;rintro s2 rfl;rw [List.append_nil];exact Cx hI hl h9 mB hr
theorem NR{x2 x3 x4:Int}{s r:List UInt8}{w:World}(hI:fg 25 w)(hl:s.length<=300)(h9:-9<=x2/\x2<=9)(mB:-9<=x3/\x3<=9)(oE:-9<=x4/\x4<=9)(h0:x2≠0)(hr:s++jc [107,109] x2++jc [115] x3++jc [116] x4=r):cj x2 s x3 x4 (.string ⟨r.toArray⟩) w:=by
 unfold cj;refine aa (λh1=>⟨by simp;omega, ?_⟩) (λh1=>⟨Lib.itoa x2,λw' hb=>hI x2 (by omega) (by omega) w' hb,by have:=rQ (n:=x2) (by omega) (by omega);simp;omega, ?_⟩)
 ·rintro s3 rfl;rw [h1]at hr;exact Cx hI (by simp;omega) mB oE hr
 ·rintro s4 rfl
  have:=rQ (n:=x2) (by omega) (by omega)
  refine⟨by simp;omega, ?_⟩;rintro s5 rfl;rw [Dh h0 h1]at hr;exact Cx hI (by simp;omega) mB oE hr
theorem Ga{x2 x3 x4:Int}{s r:List UInt8}{w:World}(hI:fg 25 w)(hl:s.length<=300)(h9:-9<=x2/\x2<=9)(mB:-9<=x3/\x3<=9)(oE:-9<=x4/\x4<=9)(hr:s++jc [107,109] x2++jc [115] x3++jc [116] x4=r):((x2=0)->cg s x3 x4 (.string ⟨r.toArray⟩) w)/\(¬(x2=0)->cj x2 s x3 x4 (.string ⟨r.toArray⟩) w) :=
 aa (λh0=>NQ hI (by omega) mB oE (by rw [<-hr,h0,Dg,List.append_nil])) (λh0=>NR hI hl h9 mB oE h0 hr)
theorem NS(n d k s t:Int){w:World}(hV:px w):Calls Tryz.prog 7 #[QV n d k s t] w (Vc.aR (.string ⟨(mO n d k s t).toArray⟩) w):=by
 refine Vu n d k s t w _ ⟨_,λw' _=>yX n d k s t w', ?_⟩;refine aa (λhc => ?_) (λhc=>by unfold mO;rw [if_neg hc]);obtain⟨b1,l1,u1,_⟩:=ub hc;obtain⟨m1,m2,m3⟩:=Az hc;have hI:fg 22 w:=NC hV;have z1:=rQ (n:=n) (by omega) (by omega);have z2:=rQ (n:=d) (by omega) (by omega);refine⟨_,λw' hb=>hI n (by omega) (by omega) w' hb, ?_⟩;refine aa (λh=>F_ hI (by omega) m1 m2 m3 (Sr hc h)) (λh => ?_);refine⟨_,λw' hb=>hI d (by omega) (by omega) w' hb,by simp;omega, ?_⟩;rintro s2 rfl;refine⟨by simp;omega, ?_⟩;rintro s3 rfl;exact F_ hI (by simp;omega) m1 m2 m3 (Ss hc h)
theorem NT(n d k s t:Int)(w:World):Calls Tryz.prog 8 #[QV n d k s t] w (Vc.aR (.string ⟨(mO n d k s t).toArray⟩) w):=by
 refine Vv n d k s t w _ ⟨_,λw' _=>yY n d k s t w', ?_⟩;refine aa (λhc => ?_) (λhc=>by unfold mO;rw [if_neg hc]);obtain⟨b1,l1,u1,_⟩:=ub hc;obtain⟨m1,m2,m3⟩:=Az hc;have hI:fg 25 w:=NG;have z1:=rQ (n:=n) (by omega) (by omega);have z2:=rQ (n:=d) (by omega) (by omega);refine⟨_,λw' hb=>hI n (by omega) (by omega) w' hb, ?_⟩;refine aa (λh=>Ga hI (by omega) m1 m2 m3 (Sr hc h)) (λh=>⟨by simp;omega, ?_⟩);rintro s1 rfl;refine⟨_,λw' hb=>hI d (by omega) (by omega) w' hb,by simp;omega, ?_⟩;rintro s3 rfl;exact Ga hI (by simp;omega) m1 m2 m3 (by rw [<-Ss hc h];simp)
end Go.Proofs.YtpfgephckjpcjaaGreatDoor
