import Derived.Test.YtocleppbcngcjaaGreatDoorGk
import Derived.Test.YtocleppbcngcjaaGreatDoorLx
import Derived.Test.YtocleppbcngcjaaGreatDoorVal2
import Derived.Test.YtocleppbcngcjaaGreatDoorQp
import Derived.Test.YtocleppbcngcjaaGreatDoorTz
import Derived.Test.YtocleppbcngcjaaGreatDoorFvA
section
set_option linter.unusedVariables false
set_option linter.unusedSimpArgs false
namespace Go.Proofs.YtocleppbcngcjaaGreatDoor
open Go Go.RowKit Vc
theorem S1(c:UInt8)(w:World):Calls Tryz.prog 54 #[.int .u8 (c.toNat:Int)] w (Vc.Ret (.bool (lL c)) w):=by
 refine XS _ w _ ?_;unfold lL;refine aj (λh=>aj (λh' => ?_) λh'=>aj (λh2 => ?_) λh2 => ?_) λh=>aj (λh2 => ?_) λh2 => ?_
 all_goals (refine pt ?_;rw [Bool.eq_iff_iff];simp;omega)
theorem HW(c:UInt8)(w:World):Calls Tryz.prog 56 #[.int .u8 (c.toNat:Int)] w (Vc.Ret (.bool (lD c)) w):=by
 refine XT _ w _ ?_;unfold lD;refine aj (λh => ?_) λh => ?_
 all_goals (refine pt ?_;rw [Bool.eq_iff_iff];simp;omega)
def uk(p:UInt8->Bool)(s:List UInt8)(n:Nat)(l:List Vl):Prop:=∃i:Nat,l=[.i i]/\n<=i/\i<=s.length/\runN p s i=runN p s n
def Aj(s:List UInt8)(l:List Vl):Nat:=match l with
 | [.i x]=>s.length-x.toNat
 |_=>0
theorem wX{p:UInt8->Bool}{s:List UInt8}{n i:Nat}(hs:s.length<4611686018427387904)(h1:n<=i)(h2:i<s.length)(h3:runN p s i=runN p s n)(hp:p (s.getD i 0)=true) :
  uk p s n [.i (IntKind.i64.wrap ((i:Int)+1))]/\Aj s [.i (IntKind.i64.wrap ((i:Int)+1))]<Aj s [.i (i:Int)]:=by
 rw [zj (by omega)];refine⟨⟨i+1,rfl,by omega,by omega,(MS h2 hp).trans h3⟩, ?_⟩;simp only [Aj];omega
theorem BX{p:UInt8->Bool}{s:List UInt8}{n i:Nat}(h2:i<s.length)(h3:runN p s i=runN p s n)(hp:p (s.getD i 0)=false):(Value.int .i64 (i:Int))=.int .i64 (runN p s n:Nat):=by
 rw [<-h3,HV h2 hp]
theorem BY{p:UInt8->Bool}{s:List UInt8}{n i:Nat}(h2:s.length<=i)(h3:runN p s i=runN p s n):(Value.int .i64 (i:Int))=.int .i64 (runN p s n:Nat):=by
 rw [<-h3,FN h2]
theorem Ya(s:List UInt8)(n:Nat)(h:n<=s.length)(hs:s.length<4611686018427387904)(w:World):Calls Tryz.prog 52 #[.string ⟨s.toArray⟩,.int .i64 n,.func (.func 53) #[] #[]] w (Vc.Ret (.int .i64 (runN lB s n:Nat)) w):=by
 refine XR _ s w _ ⟨uk lB s n,Aj s,⟨n,rfl,Nat.le_refl _,h,rfl⟩, ?_⟩;rintro x1 ⟨i,hl,h1,h2,h3⟩;simp only [List.cons.injEq,Vc.Vl.i.injEq,and_true]at hl;subst hl;rintro x2 rfl;refine aj (λcn => ?_) (λkU=>BY (by omega) h3);have hi:i<s.length:=by omega
 rintro x3 rfl;refine⟨by omega,by omega, ?_⟩;rintro x4 rfl;simp only [Int.toNat_natCast];refine aj (λe => ?_) (λe=>aj (λe' => ?_) (λe' => ?_))
 ·rintro x5 rfl;exact wX hs h1 hi h3 (by simp only [lB,decide_eq_true_eq];omega)
 ·rintro x5 rfl;exact wX hs h1 hi h3 (by simp only [lB,decide_eq_true_eq];omega)
 ·exact BX hi h3 (by simp only [lB,decide_eq_false_iff_not];omega)
theorem Yb(s:List UInt8)(n:Nat)(h:n<=s.length)(hs:s.length<4611686018427387904)(w:World):Calls Tryz.prog 52 #[.string ⟨s.toArray⟩,.int .i64 n,.func (.func 55) #[] #[]] w (Vc.Ret (.int .i64 (runN lW s n:Nat)) w):=by
 refine XU _ s w _ ⟨uk lW s n,Aj s,⟨n,rfl,Nat.le_refl _,h,rfl⟩, ?_⟩;rintro x1 ⟨i,hl,h1,h2,h3⟩;simp only [List.cons.injEq,Vc.Vl.i.injEq,and_true]at hl;subst hl;rintro x2 rfl;refine aj (λcn => ?_) (λkU=>BY (by omega) h3);have hi:i<s.length:=by omega
 rintro x3 rfl;refine⟨by omega,by omega, ?_⟩;rintro x4 rfl;simp only [Int.toNat_natCast];refine⟨_,λw' _=>S1 _ w', ?_⟩;refine aj (λe => ?_) (λe=>⟨_,λw' _=>HW _ w',aj (λe' => ?_) (λe'=>aj (λe2 => ?_) (λe2 => ?_))⟩)
 ·rintro x5 rfl;exact wX hs h1 hi h3 (by rw [lW,e,Bool.true_or])
 ·rintro x5 rfl;exact wX hs h1 hi h3 (by rw [lW,e',Bool.true_or,Bool.or_true])
 ·rintro x5 rfl;exact wX hs h1 hi h3 (by rw [lW,decide_eq_true (by omega),Bool.or_true,Bool.or_true])
 ·exact BX hi h3 (by rw [lW,Bool.eq_false_iff.2 e,Bool.eq_false_iff.2 e',decide_eq_false (by omega)];rfl)
theorem S2(s:List UInt8)(n:Nat)(h:n<=s.length)(hs:s.length<4611686018427387904)(w:World):Calls Tryz.prog 52 #[.string ⟨s.toArray⟩,.int .i64 n,.func (.func 56) #[] #[]] w (Vc.Ret (.int .i64 (runN lD s n:Nat)) w):=by
 refine XV _ s w _ ⟨uk lD s n,Aj s,⟨n,rfl,Nat.le_refl _,h,rfl⟩, ?_⟩;rintro x1 ⟨i,hl,h1,h2,h3⟩;simp only [List.cons.injEq,Vc.Vl.i.injEq,and_true]at hl;subst hl;rintro x2 rfl;refine aj (λcn => ?_) (λkU=>BY (by omega) h3);have hi:i<s.length:=by omega
 rintro x3 rfl;refine⟨by omega,by omega, ?_⟩;rintro x4 rfl;simp only [Int.toNat_natCast];refine⟨_,λw' _=>HW _ w',aj (λe => ?_) (λe => ?_)⟩
 ·rintro x5 rfl;exact wX hs h1 hi h3 e
 ·exact BX hi h3 (Bool.eq_false_iff.2 e)
theorem S3(s p:List UInt8):(decide (s.take p.length=p))=p.isPrefixOf s:=by
 rw [Bool.eq_iff_iff,decide_eq_true_eq,List.isPrefixOf_iff_prefix,List.prefix_iff_eq_take];exact eq_comm
theorem Yc(s p:List UInt8)(w:World):Calls Tryz.prog 61 #[.string ⟨s.toArray⟩,.string ⟨p.toArray⟩] w (Vc.Ret (.bool (p.isPrefixOf s)) w):=by
 refine XW s p w _ ?_;rintro x0 rfl x1 rfl;refine aj (λh => ?_) (λh => ?_)
 ·rintro x2 rfl;refine⟨by omega, ?_⟩;rintro s2 rfl;refine pt ?_;rw [<-S3];simp
 ·refine pt ?_;rw [<-S3,eq_comm,decide_eq_false_iff_not];intro e
  have:=congrArg List.length e
  rw [List.length_take]at this;omega
def MX(s:List UInt8)(l:List Vl):Prop:=∃t,l=[.s t]/\t.length<=s.length/\dq t=dq s
def S4(l:List Vl):Nat:=match l with
 | [.s t]=>t.length
 |_=>0
theorem Yd(s:List UInt8)(hs:s.length<4611686018427387904)(w:World):Calls Tryz.prog 57 #[.string ⟨s.toArray⟩,.string ⟨(([45]:List UInt8)).toArray⟩] w (Vc.Ret (.string ⟨(dq s).toArray⟩) w):=by
 refine XX s w _ ?_;refine aj (λh => ?_) (λh => ?_)
 ·subst h;rfl
 refine⟨MX s,S4,⟨s,rfl,Nat.le_refl _,rfl⟩, ?_⟩;rintro s1 ⟨t,hl,h1,h2⟩;simp only [List.cons.injEq,Vc.Vl.s.injEq,and_true]at hl;subst hl;rintro x0 rfl;refine aj (λh0 => ?_) (λh0 => ?_)
 ·rintro x1 rfl x2 rfl x3 rfl;rw [zj (by omega)];refine⟨by omega,by omega, ?_⟩;rintro x4 rfl;obtain⟨r,c,rfl⟩:∃r c,s1=r ++ [c]:=⟨s1.dropLast,s1.getLast (by intro h;rw [h]at h0;simp at h0),(List.dropLast_concat_getLast _).symm⟩
  have hg:(r ++ [c]).getD (((r ++ [c]).length:Int)-1).toNat 0=c:=by
   have:(((r ++ [c]).length:Int)-1).toNat=r.length:=by simp
   rw [this];simp [List.getD]
  rw [hg];rw [MT]at h2;refine aj (λe => ?_) (λe => ?_)
  ·rintro x5 rfl x6 rfl;rw [zj (by omega)];refine⟨by simp;omega, ?_⟩;rintro s2 rfl;have hr:List.take ((((r ++ [c]).length:Int)-1).toNat-Int.toNat 0) (List.drop (Int.toNat 0) (r ++ [c]))=r:=by simp
   rw [hr];rw [if_pos (by omega)]at h2;exact⟨⟨r,rfl,by simp at h1;omega,h2⟩,by simp [S4]⟩
  ·rw [if_neg (by omega)]at h2;rw [h2]
 ·have:s1=[]:=List.eq_nil_of_length_eq_zero (by omega)
  subst this;rw [<-h2];rfl
end Go.Proofs.YtocleppbcngcjaaGreatDoor
end
section
set_option linter.unusedVariables false
set_option linter.unusedSimpArgs false
set_option maxRecDepth 4000
namespace Go.Proofs.YtocleppbcngcjaaGreatDoor
open Go Go.RowKit Vc
attribute [local irreducible] Go.Calls
def Ak(o:Option Q5):Value:=match o with
 |some q=>.tuple #[MU q,.bool true]
 |none=>.tuple #[QV 0 0 0 0 0,.bool false]
theorem MY(s:List UInt8){w:World}(hG:nu w):Calls Tryz.prog 140 #[.string ⟨s.toArray⟩] w (Vc.Ret (Ak (mZ s)) w):=by
 refine XY s w _ ⟨hG.g0, ?_⟩;unfold mZ kH
 iterate 14 (refine aj (λh=>by rw [om,if_pos h];rfl) (λh => ?_);rw [om,if_neg h];clear h)
 rfl
theorem Ye(o:Option Q5):∃(x0 x1 x2 x3 x4:Int),Ak o=.tuple #[.agg #[.int .i64 x0,.int .i64 x1,.int .i64 x2,.int .i64 x3,.int .i64 x4],.bool o.isSome]:=by
 cases o with
 |none=>exact⟨_,_,_,_,_,rfl⟩
 |some q=>exact⟨_,_,_,_,_,rfl⟩
theorem Yf(s:List UInt8){w:World}(hG:nu w):Calls Tryz.prog 112 #[.string ⟨s.toArray⟩] w (Vc.Ret (.bool (dW s)) w):=by
 obtain⟨x0,x1,x2,x3,x4,hu⟩:=Ye (mZ s);refine XZ s w _ ⟨x0,x1,x2,x3,x4,(mZ s).isSome,λw' hb=>by rw [<-hu];exact MY s (hG.cA hb), ?_⟩;have g:=hG.g14
 iterate 228 (refine⟨g, ?_⟩)
 refine aj (λh=>by unfold dW;rw [h];rfl) (λh => ?_);unfold dW;rw [Bool.eq_false_iff.2 h,Bool.false_or];unfold qN
 iterate 18 (refine aj (λh=>by rw [Ai,if_pos h]) (λh => ?_);rw [Ai,if_neg h])
 rfl
theorem MZ{s:List UInt8}:Lib.indexByte s 46<0->ct s=s/\cM s=[]:=by
  induction s with
  |nil=>intro _;exact⟨rfl,rfl⟩
  |cons b r ih =>
    intro h;unfold Lib.indexByte at h;by_cases hb:b=46
    · subst hb;simp at h
    · have hn:b.toNat≠46:=λe=>hb (UInt8.toNat_inj.1 (by rw [e];rfl));rw [if_neg (by simpa using hb)]at h
      have hr:Lib.indexByte r 46<0:=by
        have:=Lib.indexByte_ge r 46
        split at h<;>rename_i h1
        · have:=eq_of_beq h1;omega
        · omega
      obtain⟨i1,i2⟩:=ih hr;unfold ct cM at *;rw [List.takeWhile_cons,List.dropWhile_cons,decide_eq_true hn];exact⟨by rw [if_pos rfl,i1],by rw [if_pos rfl,i2]⟩
theorem M0{s:List UInt8}:∀{i:Nat},Lib.indexByte s 46=i->ct s=s.take i/\cM s=s.drop (i+1)/\i<s.length:=by
  induction s with
  |nil=>intro i h;simp [Lib.indexByte]at h
  |cons b r ih =>
    intro i h;unfold Lib.indexByte at h;by_cases hb:b=46
    · subst hb;simp only [beq_self_eq_true,if_true]at h;obtain rfl:i=0:=by omega
      exact⟨rfl,rfl,by simp⟩
    · have hn:b.toNat≠46:=λe=>hb (UInt8.toNat_inj.1 (by rw [e];rfl));rw [if_neg (by simpa using hb)]at h;have hr:=Lib.indexByte_ge r 46;split at h<;>rename_i h1
      · omega
      · obtain⟨j,rfl⟩:∃j:Nat,i=j+1:=⟨i-1,by have:Lib.indexByte r 46 ≠ -1:=λe=>h1 (by rw [e];rfl);omega⟩;obtain⟨i1,i2,i3⟩:=ih (i:=j) (by omega);unfold ct cM at *;rw [List.takeWhile_cons,List.dropWhile_cons,decide_eq_true hn];exact⟨by rw [if_pos rfl,i1];rfl,by rw [if_pos rfl,i2];rfl,by simp;omega⟩
theorem FO(s:List UInt8)(hs:s.length<4611686018427387904):∃b:Bool,∀w,Calls Tryz.prog 104 #[.string ⟨s.toArray⟩,.string ⟨#[46]⟩] w (Vc.Ret (.tuple #[.string ⟨(ct s).toArray⟩,.string ⟨(cM s).toArray⟩,.bool b]) w):=by
 by_cases h0:[46]=s
 ·refine⟨true,λw=>ML s w _ (aj (λ_ => ?_) (λh=>(h h0).elim))⟩;subst h0;refine⟨by simp, ?_⟩;rintro s1 rfl x0 rfl;refine⟨by simp, ?_⟩;rintro s2 rfl;rfl
 ·rcases Int.lt_or_le (Lib.indexByte s 46) 0 with h|h
  ·obtain⟨e1,e2⟩:=MZ h;refine⟨false,λw=>ML s w _ (aj (λh=>(h0 h).elim) (λ_=>⟨_,⟨rfl,λw'=>uR s w'⟩,aj (λh'=>by omega) (λ_ => ?_)⟩))⟩;rw [e1,e2]
  ·obtain⟨i,hi⟩:=Int.eq_ofNat_of_zero_le h;obtain⟨e1,e2,e3⟩:=M0 hi;refine⟨true,λw=>ML s w _ (aj (λh=>(h0 h).elim) (λ_=>⟨_,⟨rfl,λw'=>uR s w'⟩,aj (λ_ => ?_) (λh'=>by omega)⟩))⟩;rw [hi];refine⟨by omega, ?_⟩;rintro s1 rfl x1 rfl x2 rfl;rw [zj (by omega)];refine⟨by omega, ?_⟩;rintro s2 rfl;rw [e1,e2];have a1:List.take (Int.toNat ((i:Nat):Int)-Int.toNat 0) (List.drop (Int.toNat 0) s)=s.take i:=by simp
   have a2:List.take (Int.toNat ((s.length:Nat):Int)-Int.toNat (((i:Nat):Int)+1)) (List.drop (Int.toNat (((i:Nat):Int)+1)) s)=s.drop (i+1):=by
    rw [show Int.toNat (((i:Nat):Int)+1)=i+1 by omega];refine List.take_of_length_le ?_;rw [List.length_drop];simp
   rw [a1,a2]
theorem S5{n:Nat}(h:n<=18):(10:Int) ^ n<=1000000000000000000/\0<(10:Int) ^ n:=by
 have h1:=Di n h;have h2:((10 ^ n:Nat):Int)=(10:Int) ^ n:=Int.natCast_pow 10 n;have h3:0<(10:Int) ^ n:=Int.pow_pos (by omega);exact⟨by rw [<-h2];exact Int.ofNat_le.2 h1,h3⟩
theorem Yg(s:List UInt8){w:World}(hG:nu w)(hs:s.length<4611686018427387904)(hd:∀b∈ct s++cM s,48<=b.toNat/\b.toNat<=57) :
  Calls Tryz.prog 58 #[.string ⟨s.toArray⟩] w (Vc.Ret (.tuple #[MU (lR s).1,.int .i64 (lR s).2]) w):=by
 have hl:(ct s).length+(cM s).length<=s.length+0:=by
  unfold ct cM;have h1:=congrArg List.length (List.takeWhile_append_dropWhile (p:=λc:UInt8=>decide (c.toNat≠46)) (l:=s));rw [List.length_append]at h1;rw [List.length_drop];omega
 by_cases h:18<(ct s).length+(cM s).length
 ·have hv:lR s=(q0,4):=by unfold lR;rw [if_pos h]
  rw [hv];obtain⟨b,hb⟩:=FO s hs;exact X' s _ _ b w hb h (by omega)
 ·have Yh:(gY (ct s++cM s):Int)<1000000000000000000:=by
   have h1:=HI _ (ct s++cM s) rfl hd;have h2:=Di (ct s++cM s).length (by rw [List.length_append];omega);omega
  obtain⟨p1,p2⟩:=S5 (n:=(cM s).length) (by omega);have hv:lR s=((kG (gY (ct s++cM s)) ((10:Int) ^ (cM s).length) 0 0 0).q,(kG (gY (ct s++cM s)) ((10:Int) ^ (cM s).length) 0 0 0).e):=by unfold lR;rw [if_neg h]
  rw [hv];obtain⟨b,hb⟩:=FO s hs;exact wQ s _ _ b w _ _ hb (by omega) hd hG.g4 (λw'=>X8 _ _ 0 0 0 w' ⟨by omega,by omega⟩ ⟨by omega,by omega⟩ (by omega)) ⟨_,_,_,_,_,rfl⟩
end Go.Proofs.YtocleppbcngcjaaGreatDoor
end
section
set_option linter.unusedVariables false
set_option linter.unusedSimpArgs false
set_option maxRecDepth 4000
namespace Go.Proofs.YtocleppbcngcjaaGreatDoor
open Go Go.RowKit Vc
attribute [local irreducible] Go.Calls
theorem FP(p:UInt8->Bool)(l:List UInt8):l.drop (l.takeWhile p).length=l.dropWhile p/\l.take (l.takeWhile p).length=l.takeWhile p:=by
 have h:=List.takeWhile_append_dropWhile (p:=p) (l:=l);have h1:(l.takeWhile p++l.dropWhile p).drop (l.takeWhile p).length=l.dropWhile p:=List.drop_left;have h2:(l.takeWhile p++l.dropWhile p).take (l.takeWhile p).length=l.takeWhile p:=List.take_left;rw [h]at h1 h2;exact⟨h1,h2⟩
theorem Al(c:UInt8):lD c=true↔48<=c.toNat/\c.toNat<=57:=by simp [lD]
theorem S6{d r:List UInt8}(hd:∀b∈d,lD b=true):ct (d++46::r)=d/\cM (d++46::r)=r/\ct d=d/\cM d=[]:=by
  induction d with
  |nil=>exact⟨rfl,rfl,rfl,rfl⟩
  |cons b d ih =>
    have hb:=(Al b).1 (hd b (by simp));have hn:decide (b.toNat≠46)=true:=by simp;omega
    obtain⟨i1,i2,i3,i4⟩:=ih λx hx=>hd x (by simp [hx]);unfold ct cM at *;simp only [List.cons_append,List.takeWhile_cons,List.dropWhile_cons,hn,if_true,i1,i2,i3,i4,and_self]
def d1(s:List UInt8)(a:Nat):List UInt8:=(s.drop a).takeWhile lD
def d2(s:List UInt8)(a:Nat):List UInt8:=if runN lD s a+1<s.length/\(s.getD (runN lD s a) 0).toNat=46/\lD (s.getD (runN lD s a+1) 0)=true then (s.drop (runN lD s a+1)).takeWhile lD else []
theorem BZ(s:List UInt8)(a:Nat):∀b∈d1 s a,lD b=true:=λb hb=>List.all_eq_true.1 (List.all_takeWhile (l:=s.drop a) (p:=lD)) b hb
theorem HX(s:List UInt8)(a:Nat):∀b∈d2 s a,lD b=true:=λb hb=>by
 unfold d2 at hb;split at hb
 ·exact List.all_eq_true.1 (List.all_takeWhile (l:=s.drop (runN lD s a+1)) (p:=lD)) b hb
 ·cases hb
theorem M1(s:List UInt8)(a:Nat):ct (cr s a (b_ s a))=d1 s a/\cM (cr s a (b_ s a))=d2 s a:=by
 have hr:runN lD s a=a+(d1 s a).length:=rfl;obtain⟨t1,t2⟩:=FP lD (s.drop a);unfold b_ d2;split
 ·rename_i h;obtain⟨h1,h2,h3⟩:=h;have Am:s.drop (runN lD s a)=s[runN lD s a]::s.drop (runN lD s a+1):=List.drop_eq_getElem_cons (by omega)
  have hb:s[runN lD s a]=46:=UInt8.toNat_inj.1 (by
   have:s.getD (runN lD s a) 0=s[runN lD s a]'(by omega):=by simp [List.getD,show runN lD s a<s.length by omega]
   rw [<-this,h2];rfl)
  rw [hb]at Am;obtain⟨u1,u2⟩:=FP lD (s.drop (runN lD s a+1))
  have e1:s.drop a=d1 s a++46::s.drop (runN lD s a+1):=by
   rw [<-Am,hr,<-List.drop_drop]
   conv=>lhs;rw [<-List.take_append_drop (d1 s a).length (s.drop a)]
   congr 1
  have e2:cr s a (runN lD s (runN lD s a+1))=d1 s a++46::(s.drop (runN lD s a+1)).takeWhile lD:=by
   have e3:runN lD s (runN lD s a+1)-a=(d1 s a).length+(1+((s.drop (runN lD s a+1)).takeWhile lD).length):=by
    have:runN lD s (runN lD s a+1)=runN lD s a+1+((s.drop (runN lD s a+1)).takeWhile lD).length:=rfl
    rw [this,hr];omega
   unfold cr;rw [e3,e1,List.take_length_add_append,Nat.add_comm 1,List.take_succ_cons,u2]
  rw [e2];obtain⟨i1,i2,_,_⟩:=S6 (r:=(s.drop (runN lD s a+1)).takeWhile lD) (BZ s a);exact⟨i1,i2⟩
 ·have e2:cr s a (runN lD s a)=d1 s a:=by
   unfold cr;rw [hr,Nat.add_sub_cancel_left];exact t2
  rw [e2];obtain⟨_,_,i3,i4⟩:=S6 (r := []) (BZ s a);exact⟨i3,i4⟩
theorem M3(s:List UInt8)(a:Nat):∀b∈ct (cr s a (b_ s a))++cM (cr s a (b_ s a)),48<=b.toNat/\b.toNat<=57:=by
 obtain⟨h1,h2⟩:=M1 s a;rw [h1,h2];intro b hb;rcases List.mem_append.1 hb with hb|hb
 ·exact (Al b).1 (BZ s a b hb)
 ·exact (Al b).1 (HX s a b hb)
theorem M4(s:List UInt8)(a b:Nat):List.take (Int.toNat (b:Int)-Int.toNat (a:Int)) (List.drop (Int.toNat (a:Int)) s)=cr s a b:=by simp [cr]
theorem M5{s:List UInt8}{a:Nat}:List.take (Int.toNat ((s.length:Nat):Int)-Int.toNat ((a:Nat):Int)) (List.drop (Int.toNat ((a:Nat):Int)) s)=s.drop a:=by
 refine List.take_of_length_le ?_;rw [List.length_drop];simp
theorem HY(s:List UInt8)(a:Nat){w:World}(hG:nu w)(hs:s.length<4611686018427387904)(t:List UInt8)(ht:t=cr s a (b_ s a)) :
  Calls Tryz.prog 58 #[.string ⟨t.toArray⟩] w (Vc.Ret (.tuple #[MU (lR (cr s a (b_ s a))).1,.int .i64 (lR (cr s a (b_ s a))).2]) w):=by
 subst ht;refine Yg _ hG ?_ (M3 s a);unfold cr;rw [List.length_take,List.length_drop];omega
theorem M6(s:List UInt8)(n:Nat){w:World}(hG:nu w)(hn:n<=s.length)(hs:s.length < 4611686018427387904) :
    Calls Tryz.prog 33 #[.string ⟨s.toArray⟩,.int .i64 n] w (Vc.Ret (nL (fF s n)) w):=by
  have ha:=BW (p:=lB) hn
  have hR:∀a,a=runN lB s n->fF s n=if a<s.length then
    (if lL (s.getD a 0)=true then ⟨1,a,a+(dq (cr s a (runN lW s a))).length,dq (cr s a (runN lW s a)),q0,if 32<(dq (cr s a (runN lW s a))).length then 5 else 0⟩
    else if lD (s.getD a 0)=true then ⟨2,a,b_ s a,[],(lR (cr s a (b_ s a))).1,(lR (cr s a (b_ s a))).2⟩
    else match fE dt (s.drop a)with
      |some g=>⟨3,a,a+g.length,g,q0,0⟩
      |none=>⟨3,a,a,[],q0,5⟩)else ⟨0,a,a,[],q0,0⟩:=λa h=>by subst h;rfl
  refine X0 _ s w _ ⟨(runN lB s n:Nat),λw' _=>Ya s n hn hs w', ?_⟩;rintro x2 rfl;rw [hR _ rfl];clear hR;generalize runN lB s n=a at ha ⊢;refine aj (λh => ?_) (λh => ?_)
  · rw [if_neg (by omega)];rfl
  have cn:a<s.length:=by omega
  rw [if_pos cn];rintro x3 rfl;refine⟨by omega,by omega, ?_⟩;rintro x4 rfl;simp only [Int.toNat_natCast];refine⟨_,λw' _=>S1 _ w',aj (λhL => ?_) (λhL => ?_)⟩
  · rw [if_pos hL];have hw:=BW (p:=lW) ha;have hg:=Ds lW s a;refine⟨(runN lW s a:Nat),λw' _=>Yb s a ha hs w',⟨by omega,by omega,by omega⟩, ?_⟩;rintro s1 rfl;simp only [Int.toNat_natCast];have e1:List.take (runN lW s a-a) (List.drop a s)=cr s a (runN lW s a):=rfl;have e2:(cr s a (runN lW s a)).length<=s.length-a:=by rw [S0 hw];omega
    refine⟨_,λw' _=>Yd _ (by rw [e1];omega) w', ?_⟩;rw [e1];have e3:=X_ (cr s a (runN lW s a));generalize dq (cr s a (runN lW s a))=t at e3 ⊢;rintro x6 rfl x7 rfl x8 rfl;rw [zj (by omega)];refine aj (λh => ?_) (λh => ?_)
    · rw [if_pos (by omega)];simp only [nL,q0,Int.natCast_add]
    · rw [if_neg (by omega)];simp only [nL,q0,Int.natCast_add]
  rw [if_neg hL];rintro x5 rfl;refine⟨by omega,by omega, ?_⟩;rintro x6 rfl;refine⟨_,λw' _=>HW _ w',aj (λhD => ?_) (λhD => ?_)⟩
  · rw [if_pos hD];have hw:=BW (p:=lD) ha;have hg:=Ds lD s a;have Zz:=MV (s:=s) ha;have ZA:=MW (s:=s) (a:=a);refine⟨(runN lD s a:Nat),λw' _=>S2 s a ha hs w', ?_⟩;rintro x8 rfl x9 rfl;have fin:∀e:Nat,e=b_ s a->List.take (Int.toNat ((e:Nat):Int)-a) (List.drop a s)=cr s a (b_ s a):=λe h=>by subst h;rfl
    refine aj (λh1 => ?_) (λh1 => ?_)
    · rw [zj (by omega)]at h1;rintro bd rfl;refine⟨by omega,by omega, ?_⟩;rintro aS rfl;simp only [Int.toNat_natCast];refine aj (λh2 => ?_) (λh2 => ?_)
      · rintro aW rfl bC rfl;rw [zj (by omega)];refine⟨by omega,by omega, ?_⟩;rintro bn rfl;rw [show Int.toNat ((runN lD s a:Nat)+1:Int)=runN lD s a+1 by omega];refine⟨_,λw' _=>HW _ w',aj (λh3 => ?_) (λh3 => ?_)⟩
        · have hc:runN lD s a+1<s.length/\(s.getD (runN lD s a) 0).toNat=46/\lD (s.getD (runN lD s a+1) 0)=true:=⟨by omega,by omega,h3⟩;have hN:b_ s a=runN lD s (runN lD s a+1):=by unfold b_;rw [if_pos hc]
          rintro bJ rfl;refine⟨(runN lD s (runN lD s a+1):Nat),λw' _=>by have:=S2 s (runN lD s a+1) (by omega) hs w';simpa using this,⟨by omega,by omega,by omega⟩, ?_⟩;rintro s1 rfl;refine⟨_,_,_,_,_,_,λw' hb=>HY s a (hG.cA hb) hs _ (fin _ hN.symm), ?_⟩;rw [<-hN];rfl
        · have hc:¬(runN lD s a+1<s.length/\(s.getD (runN lD s a) 0).toNat=46/\lD (s.getD (runN lD s a+1) 0)=true):=λh=>h3 h.2.2;have hN:b_ s a=runN lD s a:=by unfold b_;rw [if_neg hc]
          refine⟨⟨by omega,by omega,by omega⟩, ?_⟩;rintro s1 rfl;refine⟨_,_,_,_,_,_,λw' hb=>HY s a (hG.cA hb) hs _ (fin _ hN.symm), ?_⟩;rw [<-hN];rfl
      · have hc:¬(runN lD s a+1<s.length/\(s.getD (runN lD s a) 0).toNat=46/\lD (s.getD (runN lD s a+1) 0)=true):=λh=>h2 (by omega);have hN:b_ s a=runN lD s a:=by unfold b_;rw [if_neg hc]
        refine⟨⟨by omega,by omega,by omega⟩, ?_⟩;rintro s1 rfl;refine⟨_,_,_,_,_,_,λw' hb=>HY s a (hG.cA hb) hs _ (fin _ hN.symm), ?_⟩;rw [<-hN];rfl
    · rw [zj (by omega)]at h1;have hc:¬(runN lD s a+1<s.length/\(s.getD (runN lD s a) 0).toNat=46/\lD (s.getD (runN lD s a+1) 0)=true):=λh=>h1 (by omega);have hN:b_ s a=runN lD s a:=by unfold b_;rw [if_neg hc]
      refine⟨⟨by omega,by omega,by omega⟩, ?_⟩;rintro s1 rfl;refine⟨_,_,_,_,_,_,λw' hb=>HY s a (hG.cA hb) hs _ (fin _ hN.symm), ?_⟩;rw [<-hN];rfl
  rw [if_neg hD];unfold dt;have g:=hG.g3;have uT:List.take (Int.toNat ((s.length:Nat):Int)-Int.toNat ((a:Nat):Int)) (List.drop (Int.toNat ((a:Nat):Int)) s)=s.drop a:=M5;simp only [Int.toNat_natCast]at uT
  iterate 13
    (refine⟨g, ?_⟩
     rintro _ rfl;refine⟨⟨by omega,by omega,by omega⟩, ?_⟩;rintro _ rfl;simp only [Int.toNat_natCast];rw [uT];refine⟨_,λw' _=>Yc _ _ w',aj (λh => ?_) (λh => ?_)⟩
     · refine⟨g, ?_⟩;rintro _ rfl;rw [fE,if_pos h,zj (by omega)];rfl
     rw [fE,if_neg h];clear h)
  rfl
theorem M7(s:List UInt8){w:World}(hG:nu w)(hs:s.length<4611686018427387904):Calls Tryz.prog 89 #[.string ⟨s.toArray⟩] w (Vc.Ret (.bool (du s)) w):=by
 refine X1 s w _ ⟨_,_,_,_,_,_,_,_,_,_,λw' hb=>M6 s 0 (hG.cA hb) (Nat.zero_le _) hs, ?_⟩;unfold du;generalize fF s 0=t;refine aj (λh1=>aj (λh2=>aj (λh3 => ?_) (λh3 => ?_)) (λh2 => ?_)) (λh1 => ?_)
 ·rintro x9 rfl;refine aj (λh4=>⟨_,λw' hb=>Yf s (hG.cA hb), ?_⟩) (λh4 => ?_)
  ·rw [decide_eq_true ⟨h1,h2,by omega,by omega⟩,Bool.true_and]
  ·rw [decide_eq_false (by omega),Bool.false_and]
 all_goals rw [decide_eq_false (by omega),Bool.false_and]
end Go.Proofs.YtocleppbcngcjaaGreatDoor
end
section
set_option linter.unusedVariables false
set_option linter.unusedSimpArgs false
namespace Vc
open Go Go.RowKit
theorem zf{α:Type}{f:α->List Value}{c:Nat}(hf:∀a,(f a).length=c):∀l:List α,(l.flatMap f).length=l.length*c
 | []=>by simp
 |a::l=>by rw [List.flatMap_cons,List.length_append,hf,zf hf l,List.length_cons,Nat.add_mul];omega
theorem zg{α:Type}{f:α->List Value}{c:Nat}(hf:∀a,(f a).length=c):∀{ps:List α} {i:Nat} {q:α} {o:Nat},ps[i]? = some q->o<c->(ps.flatMap f)[i*c+o]? = (f q)[o]?
  | [],i,q,o,h,_=>by simp at h
  |p::ps,i,q,o,h,ho=>by
    rw [List.flatMap_cons];cases i with
    |zero =>
      simp only [List.getElem?_cons_zero,Option.some.injEq]at h;subst h;rw [List.getElem?_append_left (by rw [hf];omega)];simp
    |succ i =>
      have hm:(i+1)*c=i*c+c:=Nat.succ_mul i c;rw [List.getElem?_append_right (by rw [hf];omega),<-zg hf (ps:=ps) (i:=i) (by simpa using h) ho];congr 1;rw [hf];omega
theorem FQ{v:Value}{sz n:Nat}{xs:List Value}{w:World}(h:dI w v sz xs)(hz:0<sz)(hn:xs.length=n*sz) :
  ∃(b0:Bool) (p0:Nat × Nat) (x1:Int),v=(if b0=true then .slice none 0 0 else .slice (some (Vc.dJ p0 (Int.toNat (n:Int)) x1.toNat)) (Int.toNat (n:Int)) x1.toNat)/\(b0=true->n=0)/\∀j u,xs[j]? = some u->w.cell? ⟨p0.1,p0.2+j,none⟩=some u:=by
 have empty:xs=[]->n=0:=λh2=>by
  rw [h2]at hn;rcases Nat.mul_eq_zero.1 hn.symm with h|h<;>omega
 have An:∀a,v=.slice (some a) 0 0->xs=[]->∃(b0:Bool) (p0:Nat × Nat) (x1:Int),v=(if b0=true then .slice none 0 0 else .slice (some (Vc.dJ p0 (Int.toNat (n:Int)) x1.toNat)) (Int.toNat (n:Int)) x1.toNat)/\(b0=true->n=0)/\∀j u,xs[j]? = some u->w.cell? ⟨p0.1,p0.2+j,none⟩=some u:=λa h1 h2=>by
  obtain⟨p,hp⟩:=Io a;have h0:=empty h2;subst h0;refine⟨false,p,0, ?_,λh=>(by cases h),λj u hj=>(by rw [h2]at hj;simp at hj)⟩;rw [if_neg (by decide),show Int.toNat ((0:Nat):Int)=0 from rfl,show Int.toNat (0:Int)=0 from rfl,hp];exact h1
 rcases h with ⟨h1,h2⟩|⟨a,h1,h2⟩|⟨b,o,len,cap,h1,h2,h3⟩
 ·exact⟨true,(0,0),0,(by rw [if_pos rfl];exact h1),λ_=>empty h2,λj u hj=>(by rw [h2]at hj;simp at hj)⟩
 ·exact An a h1 h2
 ·have hl:len=n:=Nat.eq_of_mul_eq_mul_right hz (by rw [<-h2,hn]);subst hl;by_cases h0:len=0/\cap=0
  ·obtain⟨rfl,rfl⟩:=h0;exact An _ h1 (List.eq_nil_of_length_eq_zero (by rw [h2];omega))
  ·refine⟨false,(b,o),(cap:Int), ?_,λh=>(by cases h),h3⟩;rw [if_neg (by decide),DB (by omega)];exact h1
theorem wY{v:Value}{sz:Nat}{xs:List Value}{w w':World}(hb:Below w.heap.size w w')(h:dI w v sz xs):dI w' v sz xs:=by
 rcases h with h|h|⟨b,o,len,cap,h1,h2,h3⟩
 ·exact .inl h
 ·exact .inr (.inl h)
 ·refine .inr (.inr ⟨b,o,len,cap,h1,h2,λj u hj=>by
   have:=h3 j u hj
   rw [hb.cell (World.block_lt_of_cell? _ _ this)];exact this⟩)
end Vc
end
