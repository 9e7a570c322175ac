import Derived.Test.YtpfgephckjpcjaaGreatDoorLf
set_option linter.unusedVariables false
set_option linter.unusedSimpArgs false
set_option maxRecDepth 4000
namespace Go.Proofs.YtpfgephckjpcjaaGreatDoor
open Go Go.RowKit Vc
attribute [local irreducible] Go.Calls
theorem R7{p:UInt8->Bool}{s:List UInt8}:∀(m n:Nat),s.length-n<=m->runN p s n<s.length->p (s.getD (runN p s n) 0)=false
  |0,n,hm,h=>by rw [FJ (by omega)]at h;omega
  |m+1,n,hm,h=>by
    by_cases hn:n<s.length
    · cases hp:p (s.getD n 0)with
      |false=>rw [Hw hn hp]at h ⊢;exact hp
      |true=>rw [<-Hx hn hp]at h ⊢;exact R7 m (n+1) (by omega) h
    · rw [FJ (by omega)]at h;omega
theorem R8{p:UInt8->Bool}{s:List UInt8}{n:Nat}(h:runN p s n<s.length):p (s.getD (runN p s n) 0)=false:=R7 _ n (Nat.le_refl _) h
theorem FQ{p:UInt8->Bool}{s:List UInt8}{n k:Nat}(h:k<((s.drop n).takeWhile p).length):((s.drop n).takeWhile p)[k]=s.getD (n+k) 0/\n+k<s.length:=by
 have h1:=(List.takeWhile_sublist p (l:=s.drop n)).length_le;rw [List.length_drop]at h1;have h2:((s.drop n).takeWhile p)[k]=(s.drop n)[k]'(by rw [List.length_drop];omega):=(List.takeWhile_prefix p (l:=s.drop n)).getElem h;rw [h2,List.getElem_drop];have h3:n+k<s.length:=by omega
 exact⟨by simp [List.getD,h3],h3⟩
def my(D:List UInt8):Int:=(iV (D.take 18):Nat)
def oM(D:List UInt8):Int:=(min 18 D.length:Nat)
def oN(D:List UInt8):Int:=if 18<D.length then 4 else 0
def uQ(D:List UInt8)(kb:Nat):Nat:=min 18 D.length-(D.length-kb)
def fV(D:List UInt8)(kb:Nat):Int:=(10:Int) ^ uQ D kb
theorem Cl{D:List UInt8}(hd:∀b∈D,lD b=true):0<=my D/\my D<1000000000000000000/\(D.length<18->my D<100000000000000000):=by
 have h1:=Hr _ (D.take 18) rfl λb hb=>(y8 b).1 (hd b (List.mem_of_mem_take hb));have h2:=Da (D.take 18).length (by rw [List.length_take];omega);unfold my;refine⟨by omega,by omega,λh => ?_⟩;have h3:10 ^ (D.take 18).length<=10 ^ 17:=Nat.pow_le_pow_right (by omega) (by rw [List.length_take];omega);have h4:(10:Nat) ^ 17=100000000000000000:=by decide
 omega
theorem ME{D:List UInt8}{c:UInt8}(h:D.length<18):my (D ++ [c])=10*my D+((c.toNat-48:Nat):Int):=by
 unfold my;rw [List.take_of_length_le (by simp;omega),List.take_of_length_le (by omega),LJ];simp
theorem MF{D:List UInt8}{c:UInt8}(h:18<=D.length):my (D ++ [c])=my D:=by
 unfold my;rw [List.take_append_of_le_length h]
theorem MG(D:List UInt8)(kb:Nat):1<=fV D kb/\fV D kb<=1000000000000000000:=by
 obtain⟨h1,h2⟩:=RU (n:=uQ D kb) (by unfold uQ;omega);unfold fV;omega
theorem MH{D:List UInt8}{c:UInt8}{kb:Nat}(h:D.length<18)(hk:kb<=D.length):fV (D ++ [c]) (kb+1)=10*fV D kb:=by
 have:uQ (D ++ [c]) (kb+1)=uQ D kb+1:=by unfold uQ;simp only [List.length_append,List.length_cons,List.length_nil];omega
 unfold fV;rw [this,Int.pow_succ];omega
theorem MI{D:List UInt8}{c:UInt8}{kb:Nat}(h:18<=D.length)(hk:kb<=D.length):fV (D ++ [c]) (kb+1)=fV D kb:=by
 have:uQ (D ++ [c]) (kb+1)=uQ D kb:=by unfold uQ;simp only [List.length_append,List.length_cons,List.length_nil];omega
 unfold fV;rw [this]
theorem FR(D:List UInt8):fV D 0=1:=by
 have:uQ D 0=0:=by unfold uQ;omega
 unfold fV;rw [this];rfl
theorem MJ{D:List UInt8}{c:UInt8}(h:D.length<18):oM (D ++ [c])=oM D+1/\oN (D ++ [c])=oN D:=by
 unfold oM oN;simp only [List.length_append,List.length_cons,List.length_nil];exact⟨by omega,by rw [if_neg (by omega),if_neg (by omega)]⟩
theorem MK{D:List UInt8}{c:UInt8}(h:18<=D.length):oM (D ++ [c])=oM D/\oN (D ++ [c])=4:=by
 unfold oM oN;simp only [List.length_append,List.length_cons,List.length_nil];exact⟨by omega,by rw [if_pos (by omega)]⟩
def y9(b:Bool)(D:List UInt8)(kb to:Nat):List Vl := [.b b,.i (my D),.i (fV D kb),.i (oM D),.i (oN D),.i (to:Nat)]
def gJ(s:List UInt8)(a:Nat):Bool:=decide (runN lD s a+1<s.length/\(s.getD (runN lD s a) 0).toNat=46/\lD (s.getD (runN lD s a+1) 0)=true)
def td(s:List UInt8)(a:Nat)(L:List Vl):Prop :=
 (∃k,k<=(d1 s a).length/\L=y9 false ((d1 s a).take k) 0 (a+k))∨(gJ s a=true/\∃k,k<=(d2 s a).length/\L=y9 true (d1 s a++(d2 s a).take k) k (runN lD s a+1+k))
def uc(n:Nat)(L:List Vl):Nat:=match L with
 | [_,_,_,_,_,.i x]=>n-x.toNat
 |_=>0
def uR(s:List UInt8)(a:Nat):Tk:=⟨2,a,cm s a,[],(fN (my (d1 s a++d2 s a)) (fV (d1 s a++d2 s a) (d2 s a).length) 0 0 0).q,oN (d1 s a++d2 s a)⟩
theorem FT{s:List UInt8}{a to kb:Nat}{b:Bool}{D:List UInt8}(hs:s.length < 4611686018427387904)(hd:∀ x∈D,lD x=true)(ML:to < s.length)(R9:kb<=D.length)(hb:b=false->kb=0)
    (hc:lD (s.getD to 0)=true) (lT:td s a (y9 b (D ++ [s.getD to 0]) (if b=true then kb+1 else 0) (to+1))) :
    ((oM D<18)->(
      ∀aC:Int,aC=IntKind.i64.wrap (10*my D) ->
      ∀aA:Int,aA=((s.length:Nat):Int) ->
      (0<=((to:Nat):Int)) /\
      (((to:Nat):Int)<aA) /\
      ∀au:Int,au=(((s.getD (Int.toNat ((to:Nat):Int)) 0).toNat:Nat):Int) ->
      ∀ao:Int,ao=IntKind.u8.wrap (au-48) ->
      ∀aD:Int,aD=IntKind.i64.wrap (ao) ->
      ∀az:Int,az=IntKind.i64.wrap (aC+aD) ->
      ((b=true)->(
      ∀aS:Int,aS=IntKind.i64.wrap (10*fV D kb) ->
      ∀aU:Int,aU=IntKind.i64.wrap (oM D+1) ->
      ∀bh:Int,bh=IntKind.i64.wrap (((to:Nat):Int)+1) ->
      td s a [.b b,.i az,.i aS,.i aU,.i (oN D),.i bh]/\uc s.length [.b b,.i az,.i aS,.i aU,.i (oN D),.i bh]<uc s.length [.b b,.i (my D),.i (fV D kb),.i (oM D),.i (oN D),.i ((to:Nat):Int)]))/\(¬(b=true)->(
      ∀aS:Int,aS=IntKind.i64.wrap (oM D+1) ->
      ∀aU:Int,aU=IntKind.i64.wrap (((to:Nat):Int)+1) ->
      td s a [.b b,.i az,.i (fV D kb),.i aS,.i (oN D),.i aU]/\uc s.length [.b b,.i az,.i (fV D kb),.i aS,.i (oN D),.i aU]<uc s.length [.b b,.i (my D),.i (fV D kb),.i (oM D),.i (oN D),.i ((to:Nat):Int)]))))/\(¬(oM D<18)->(
      ∀aC:Int,aC=IntKind.i64.wrap (((to:Nat):Int)+1) ->
      td s a [.b b,.i (my D),.i (fV D kb),.i (oM D),.i 4,.i aC]/\uc s.length [.b b,.i (my D),.i (fV D kb),.i (oM D),.i 4,.i aC]<uc s.length [.b b,.i (my D),.i (fV D kb),.i (oM D),.i (oN D),.i ((to:Nat):Int)])):=by
  have hlen:oM D<18↔D.length<18:=by unfold oM;omega
  obtain⟨n1,n2,n3⟩:=Cl hd;have R_:=(y8 _).1 hc;refine aa (λh => ?_) (λh => ?_)
  · have hl:=hlen.1 h;have n4:=n3 hl;rintro aC rfl aA rfl;refine⟨by omega,by omega, ?_⟩;rintro au rfl ao rfl aD rfl az rfl;simp only [Int.toNat_natCast];have w1:IntKind.u8.wrap (((s.getD to 0).toNat:Int)-48)=(((s.getD to 0).toNat-48:Nat):Int):=by rw [IntKind.wrap_u8];omega
    have w2:IntKind.i64.wrap (IntKind.i64.wrap (10*my D)+IntKind.i64.wrap (IntKind.u8.wrap (((s.getD to 0).toNat:Int)-48)))=my (D ++ [s.getD to 0]):=by
      have e1:IntKind.i64.wrap (10*my D)=10*my D:=zk (by omega);have e2:IntKind.i64.wrap ((((s.getD to 0).toNat-48:Nat):Int))=(((s.getD to 0).toNat-48:Nat):Int):=zk (by omega);rw [w1,e1,e2,zk (by omega),ME hl]
    obtain⟨m1,m2⟩:=MJ (c:=s.getD to 0) hl;have w3:IntKind.i64.wrap (oM D+1)=oM (D ++ [s.getD to 0]):=by rw [zk (by unfold oM;omega),m1]
    have w4:IntKind.i64.wrap ((to:Int)+1)=((to+1:Nat):Int):=by rw [zk (by omega)];omega
    have Ac:∀(v1 v2 v3 v4 v5 u1 u2 u3 u4 u5:Vl),uc s.length [v1,v2,v3,v4,v5,.i ((to+1:Nat):Int)]<uc s.length [u1,u2,u3,u4,u5,.i (to:Int)]:=λ_ _ _ _ _ _ _ _ _ _=>by simp only [uc];omega
    refine aa (λji => ?_) (λji => ?_)
    · subst ji;rintro aS rfl aU rfl bh rfl;obtain⟨t1,t2⟩:=MG (D ++ [s.getD to 0]) (kb+1);have t3:=MH (c:=s.getD to 0) hl R9;rw [w2,w3,w4,zk (by omega),<-t3,<-m2];rw [if_pos rfl]at lT;exact⟨lT,Ac ..⟩
    · have mZ:b=false:=by simpa using ji
      subst mZ
      have:=hb rfl
      subst this;rintro aS rfl aU rfl;rw [w2,w3,w4,FR,<-FR (D ++ [s.getD to 0]),<-m2];rw [if_neg (by simp)]at lT;exact⟨lT,Ac ..⟩
  · have hl:18<=D.length:=by have:=mt hlen.2 h;omega
    rintro aC rfl;obtain⟨m1,m2⟩:=MK (c:=s.getD to 0) hl;have w4:IntKind.i64.wrap ((to:Int)+1)=((to+1:Nat):Int):=by rw [zk (by omega)];omega
    have Ac:∀(v1 v2 v3 v4 v5 u1 u2 u3 u4 u5:Vl),uc s.length [v1,v2,v3,v4,v5,.i ((to+1:Nat):Int)]<uc s.length [u1,u2,u3,u4,u5,.i (to:Int)]:=λ_ _ _ _ _ _ _ _ _ _=>by simp only [uc];omega
    have t3:fV D kb=fV (D ++ [s.getD to 0]) (if b=true then kb+1 else 0):=by
      cases b with
      |true=>exact (MI hl R9).symm
      |false=>rw [hb rfl,FR];exact (FR _).symm
    rw [w4,t3,<-m2,<-m1,<-MF (c:=s.getD to 0) hl];exact⟨lT,Ac ..⟩
theorem FU{s:List UInt8}{a:Nat}{w:World}(D:List UInt8)(kb:Nat)(to:Nat)(hD:D=d1 s a++d2 s a)(hk:kb=(d2 s a).length)(ht:to=cm s a) :
    ∃(x9 ar aC aA au ao:Int),(Vq w 104 #[.int .i64 (my D),.int .i64 (fV D kb),.int .i64 0,.int .i64 0,.int .i64 0] (.tuple #[.agg #[.int .i64 x9,.int .i64 ar,.int .i64 aC,.int .i64 aA,.int .i64 au],.int .i64 ao])) /\
      (.agg #[.int .i64 2,.int .i64 (a:Nat),.int .i64 (to:Nat),.string ⟨(([]:List UInt8)).toArray⟩,.int .i64 x9,.int .i64 ar,.int .i64 aC,.int .i64 aA,.int .i64 au,.int .i64 (oN D)]:Value)=nh (uR s a):=by
  subst hD hk ht
  have Cm:∀b∈d1 s a++d2 s a,lD b=true:=λb hb=>by
    rcases List.mem_append.1 hb with hb|hb
    · exact AG s a b hb
    · exact FN s a b hb
  obtain⟨n1,n2,_⟩:=Cl Cm;obtain⟨t1,t2⟩:=MG (d1 s a++d2 s a) (d2 s a).length;exact⟨_,_,_,_,_,_,λw' _=>Lx _ _ 0 0 0 w' ⟨by omega,by omega⟩ ⟨by omega,by omega⟩ (by omega),rfl⟩
theorem WC(s:List UInt8)(a:Nat)(ha:a<=s.length)(hs:s.length<4611686018427387904)(w:World):Calls Tryz.prog 58 #[.string ⟨s.toArray⟩,.int .i64 a] w (Vc.aR (nh (uR s a)) w):=by
 refine U1 _ s w _ ⟨td s a,uc s.length,.inl ⟨0,by omega, ?_⟩, ?_⟩
 ·simp [y9,my,FR,oM,oN,iV]
 have hr:runN lD s a=a+(d1 s a).length:=rfl;have Sa:runN lD s a<=s.length:=yZ ha;rintro b0 x1 x2 x3 x4 x5 hI;rcases hI with ⟨k,hk,hl⟩|⟨hp,k,hk,hl⟩
 ·simp only [y9,List.cons.injEq,Vl.b.injEq,Vl.i.injEq,and_true]at hl;obtain⟨rfl,rfl,rfl,rfl,rfl,rfl⟩:=hl;have MM:∀x∈(d1 s a).take k,lD x=true:=λx hx=>AG s a x (List.mem_of_mem_take hx);rintro x6 rfl;by_cases yK:k<(d1 s a).length
  ·obtain⟨g1,g2⟩:=FQ (p:=lD) (s:=s) (n:=a) yK;have hc:lD (s.getD (a+k) 0)=true:=by rw [<-g1];exact AG s a _ (List.getElem_mem yK)
   have lT:td s a (y9 false ((d1 s a).take k ++ [s.getD (a+k) 0]) 0 (a+k+1)):=by
    refine .inl ⟨k+1,by omega, ?_⟩;rw [List.take_add_one,List.getElem?_eq_getElem yK];rw [show (d1 s a)[k]=s.getD (a+k) 0 from g1];rfl
   have R_:=(y8 _).1 hc;refine aa (λh => ?_) (λh=>by omega);rintro x7 rfl;refine⟨by omega,by omega, ?_⟩;rintro x8 rfl;simp only [Int.toNat_natCast];refine⟨true,λw' _=>by rw [<-hc];exact Ck _ w',aa (λ_ => ?_) (λh=>(h rfl).elim)⟩;rintro x9 rfl;refine⟨by omega,by omega, ?_⟩;rintro ar rfl;refine aa (λHE=>by omega) (λ_ => ?_)
   have:=FT (a:=a) (b:=false) (kb:=0) hs MM g2 (by omega) (λ_=>rfl) hc lT
   simp only [Int.toNat_natCast]at this;exact this
  ·have Bs:k=(d1 s a).length:=by omega
   subst Bs;rw [List.take_length];rw [<-hr];have fin:gJ s a=false->_:=λhp=>FU (s:=s) (a:=a) (w:=w) (d1 s a) 0 (runN lD s a) (by unfold d2;rw [if_neg (by simpa [gJ]using hp),List.append_nil]) (by unfold d2;rw [if_neg (by simpa [gJ]using hp)];rfl) (by unfold cm;rw [if_neg (by simpa [gJ]using hp)]);refine aa (λh => ?_) (λh=>fin (by simp only [gJ,decide_eq_false_iff_not];omega));rintro x7 rfl;refine⟨by omega,by omega, ?_⟩;rintro x8 rfl;simp only [Int.toNat_natCast];have mY:=R8 (p:=lD) (s:=s) (n:=a) (by omega);refine⟨false,λw' _=>by rw [<-mY];exact Ck _ w',aa (λh=>by cases h) (λ_=>aa (λh=>by cases h) (λ_ => ?_))⟩;rintro x9 rfl;refine⟨by omega,by omega, ?_⟩;rintro ar rfl;refine aa (λHE => ?_) (λHE=>fin (by simp only [gJ,decide_eq_false_iff_not];omega));rintro aC rfl aA rfl;rw [zk (by omega)];refine aa (λh1 => ?_) (λh1=>fin (by simp only [gJ,decide_eq_false_iff_not];omega));rintro au rfl ao rfl;refine⟨by omega,by omega, ?_⟩;rintro aD rfl;rw [show Int.toNat ((runN lD s a:Nat)+1:Int)=runN lD s a+1 by omega];refine⟨_,λw' _=>Ck _ w',aa (λh2 => ?_) (λh2=>fin (by simp only [gJ,decide_eq_false_iff_not];exact λh=>h2 h.2.2))⟩;rintro az rfl;refine⟨by omega,by omega, ?_⟩;rintro aS rfl;refine aa (λ_ => ?_) (λh=>(h HE).elim);rintro aU rfl;have qC:gJ s a=true:=by simp only [gJ,decide_eq_true_eq];exact⟨by omega,by omega,h2⟩
   refine⟨.inr ⟨qC,0,by omega, ?_⟩,by simp only [uc];omega⟩;rw [List.take_zero,List.append_nil];simp [y9]
 ·simp only [y9,List.cons.injEq,Vl.b.injEq,Vl.i.injEq,and_true]at hl;obtain⟨rfl,rfl,rfl,rfl,rfl,rfl⟩:=hl
  have MM:∀x∈d1 s a++(d2 s a).take k,lD x=true:=λx hx=>by
   rcases List.mem_append.1 hx with hx|hx
   ·exact AG s a x hx
   ·exact FN s a x (List.mem_of_mem_take hx)
  have Sb:runN lD s a+1<s.length/\(s.getD (runN lD s a) 0).toNat=46/\lD (s.getD (runN lD s a+1) 0)=true:=by simpa [gJ]using hp
  have HF:d2 s a=(s.drop (runN lD s a+1)).takeWhile lD:=by unfold d2;rw [if_pos Sb]
  have hN:cm s a=runN lD s a+1+(d2 s a).length:=by unfold cm;rw [if_pos Sb,HF];rfl
  rintro x6 rfl;by_cases yK:k<(d2 s a).length
  ·have MN:k<((s.drop (runN lD s a+1)).takeWhile lD).length:=by rw [<-HF];exact yK
   obtain⟨g1,g2⟩:=FQ (p:=lD) (s:=s) (n:=runN lD s a+1) MN;have Sc:(d2 s a)[k]=s.getD (runN lD s a+1+k) 0:=by rw [<-g1];simp only [HF]
   have hc:lD (s.getD (runN lD s a+1+k) 0)=true:=by rw [<-Sc];exact FN s a _ (List.getElem_mem yK)
   have lT:td s a (y9 true (d1 s a++(d2 s a).take k ++ [s.getD (runN lD s a+1+k) 0]) (k+1) (runN lD s a+1+k+1)):=by
    refine .inr ⟨hp,k+1,by omega, ?_⟩;rw [List.take_add_one,List.getElem?_eq_getElem yK,Sc,<-List.append_assoc];rfl
   have R_:=(y8 _).1 hc;refine aa (λh => ?_) (λh=>by omega);rintro x7 rfl;refine⟨by omega,by omega, ?_⟩;rintro x8 rfl;simp only [Int.toNat_natCast];refine⟨true,λw' _=>by rw [<-hc];exact Ck _ w',aa (λ_ => ?_) (λh=>(h rfl).elim)⟩;rintro x9 rfl;refine⟨by omega,by omega, ?_⟩;rintro ar rfl;refine aa (λHE=>by omega) (λ_ => ?_)
   have:=FT (a:=a) (b:=true) (kb:=k) hs MM g2 (by rw [List.length_append,List.length_take];omega) (λh=>by cases h) hc lT
   simp only [Int.toNat_natCast]at this;exact this
  ·have Bs:k=(d2 s a).length:=by omega
   subst Bs;rw [List.take_length];have fin:=FU (s:=s) (a:=a) (w:=w) (d1 s a++d2 s a) (d2 s a).length (runN lD s a+1+(d2 s a).length) rfl rfl hN.symm;refine aa (λh => ?_) (λh=>fin);rintro x7 rfl;refine⟨by omega,by omega, ?_⟩;rintro x8 rfl;simp only [Int.toNat_natCast];have hq:runN lD s (runN lD s a+1)=runN lD s a+1+(d2 s a).length:=by rw [HF];rfl
   have mY:=R8 (p:=lD) (s:=s) (n:=runN lD s a+1) (by omega);rw [hq]at mY;exact⟨false,λw' _=>by rw [<-mY];exact Ck _ w',aa (λh=>by cases h) (λ_=>aa (λ_=>fin) (λh=>by simp at h))⟩
end Go.Proofs.YtpfgephckjpcjaaGreatDoor
