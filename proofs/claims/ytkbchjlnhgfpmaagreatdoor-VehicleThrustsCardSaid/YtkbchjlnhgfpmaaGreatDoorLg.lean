import Derived.Test.YtkbchjlnhgfpmaaGreatDoorLf
set_option linter.unusedVariables false
set_option linter.unusedSimpArgs false
set_option maxRecDepth 4000
namespace Go.Proofs.YtkbchjlnhgfpmaaGreatDoor
open Go Go.RowKit Vc
attribute [local irreducible] Go.Calls
theorem VD{p:UInt8->Bool}{s:List UInt8}:∀(m n:Nat),s.length-n<=m->runN p s n<s.length->p (s.getD (runN p s n) 0)=false
  |0,n,hm,h=>by rw [Hg (by omega)]at h;omega
  |m+1,n,hm,h=>by
    by_cases hn:n<s.length
    · cases hp:p (s.getD n 0)with
      |false=>rw [JP hn hp]at h ⊢;exact hp
      |true=>rw [<-O7 hn hp]at h ⊢;exact VD m (n+1) (by omega) h
    · rw [Hg (by omega)]at h;omega
theorem Hq{p:UInt8->Bool}{s:List UInt8}{n:Nat}(h:runN p s n<s.length):p (s.getD (runN p s n) 0)=false:=VD _ n (Nat.le_refl _) h
theorem Hr{p:UInt8->Bool}{s:List UInt8}{n k:Nat}(h:k<((s.drop n).takeWhile p).length):((s.drop n).takeWhile p)[k]=s.getD (n+k) 0/\n+k<s.length:=by
 have h1:=(List.takeWhile_sublist p (l:=s.drop n)).length_le;rw [List.length_drop]at h1;have h2:((s.drop n).takeWhile p)[k]=(s.drop n)[k]'(by rw [List.length_drop];omega):=(List.takeWhile_prefix p (l:=s.drop n)).getElem h;rw [h2,List.getElem_drop];have h3:n+k<s.length:=by omega
 exact⟨by simp [List.getD,h3],h3⟩
def mX(D:List UInt8):Int:=(iV (D.take 18):Nat)
def oo(D:List UInt8):Int:=(min 18 D.length:Nat)
def su(D:List UInt8):Int:=if 18<D.length then 4 else 0
def xS(D:List UInt8)(kb:Nat):Nat:=min 18 D.length-(D.length-kb)
def gB(D:List UInt8)(kb:Nat):Int:=(10:Int) ^ xS D kb
theorem Hs{D:List UInt8}(hd:∀b∈D,lD b=true):0<=mX D/\mX D<1000000000000000000/\(D.length<18->mX D<100000000000000000):=by
 have h1:=JK _ (D.take 18) rfl λb hb=>(Bw b).1 (hd b (List.mem_of_mem_take hb));have h2:=Em (D.take 18).length (by rw [List.length_take];omega);unfold mX;refine⟨by omega,by omega,λh => ?_⟩;have h3:10 ^ (D.take 18).length<=10 ^ 17:=Nat.pow_le_pow_right (by omega) (by rw [List.length_take];omega);have h4:(10:Nat) ^ 17=100000000000000000:=by decide
 omega
theorem P'{D:List UInt8}{c:UInt8}(h:D.length<18):mX (D ++ [c])=10*mX D+((c.toNat-48:Nat):Int):=by
 unfold mX;rw [List.take_of_length_le (by simp;omega),List.take_of_length_le (by omega),O3];simp
theorem Qa{D:List UInt8}{c:UInt8}(h:18<=D.length):mX (D ++ [c])=mX D:=by
 unfold mX;rw [List.take_append_of_le_length h]
theorem Ht(D:List UInt8)(kb:Nat):1<=gB D kb/\gB D kb<=1000000000000000000:=by
 obtain⟨h1,h2⟩:=Hl (n:=xS D kb) (by unfold xS;omega);unfold gB;omega
theorem Qb{D:List UInt8}{c:UInt8}{kb:Nat}(h:D.length<18)(hk:kb<=D.length):gB (D ++ [c]) (kb+1)=10*gB D kb:=by
 have:xS (D ++ [c]) (kb+1)=xS D kb+1:=by unfold xS;simp only [List.length_append,List.length_cons,List.length_nil];omega
 unfold gB;rw [this,Int.pow_succ];omega
theorem Qc{D:List UInt8}{c:UInt8}{kb:Nat}(h:18<=D.length)(hk:kb<=D.length):gB (D ++ [c]) (kb+1)=gB D kb:=by
 have:xS (D ++ [c]) (kb+1)=xS D kb:=by unfold xS;simp only [List.length_append,List.length_cons,List.length_nil];omega
 unfold gB;rw [this]
theorem Hu(D:List UInt8):gB D 0=1:=by
 have:xS D 0=0:=by unfold xS;omega
 unfold gB;rw [this];rfl
theorem Qd{D:List UInt8}{c:UInt8}(h:D.length<18):oo (D ++ [c])=oo D+1/\su (D ++ [c])=su D:=by
 unfold oo su;simp only [List.length_append,List.length_cons,List.length_nil];exact⟨by omega,by rw [if_neg (by omega),if_neg (by omega)]⟩
theorem Qe{D:List UInt8}{c:UInt8}(h:18<=D.length):oo (D ++ [c])=oo D/\su (D ++ [c])=4:=by
 unfold oo su;simp only [List.length_append,List.length_cons,List.length_nil];exact⟨by omega,by rw [if_pos (by omega)]⟩
def Ai(b:Bool)(D:List UInt8)(kb to:Nat):List Vl := [.b b,.i (mX D),.i (gB D kb),.i (oo D),.i (su D),.i (to:Nat)]
def fZ(s:List UInt8)(a:Nat):Bool:=decide (runN lD s a+1<s.length/\(s.getD (runN lD s a) 0).toNat=46/\lD (s.getD (runN lD s a+1) 0)=true)
def tC(s:List UInt8)(a:Nat)(L:List Vl):Prop :=
 (∃k,k<=(d1 s a).length/\L=Ai false ((d1 s a).take k) 0 (a+k))\/(fZ s a=true/\∃k,k<=(d2 s a).length/\L=Ai true (d1 s a++(d2 s a).take k) k (runN lD s a+1+k))
def uC(n:Nat)(L:List Vl):Nat:=match L with
 | [_,_,_,_,_,.i x]=>n-x.toNat
 |_=>0
def Aj(s:List UInt8)(a:Nat):Tk:=⟨2,a,cx s a,[],(iU (mX (d1 s a++d2 s a)) (gB (d1 s a++d2 s a) (d2 s a).length) 0 0 0).q,su (d1 s a++d2 s a)⟩
theorem Hv{s:List UInt8}{a to kb:Nat}{b:Bool}{D:List UInt8}(hs:s.length < 4611686018427387904)(hd:∀ x∈D,lD x=true)(Qf:to < s.length)(VE:kb<=D.length)(hb:b=false->kb=0)
    (hc:lD (s.getD to 0)=true) (lx:tC s a (Ai b (D ++ [s.getD to 0]) (if b=true then kb+1 else 0) (to+1))) :
    ((oo D<18)->(
      ∀aA:Int,aA=IntKind.i64.wrap (10*mX D) ->
      ∀aH:Int,aH=((s.length:Nat):Int) ->
      (0<=((to:Nat):Int)) /\
      (((to:Nat):Int)<aH) /\
      ∀aP:Int,aP=(((s.getD (Int.toNat ((to:Nat):Int)) 0).toNat:Nat):Int) ->
      ∀aL:Int,aL=IntKind.u8.wrap (aP-48) ->
      ∀aS:Int,aS=IntKind.i64.wrap (aL) ->
      ∀aT:Int,aT=IntKind.i64.wrap (aA+aS) ->
      ((b=true)->(
      ∀aZ:Int,aZ=IntKind.i64.wrap (10*gB D kb) ->
      ∀aX:Int,aX=IntKind.i64.wrap (oo D+1) ->
      ∀bc:Int,bc=IntKind.i64.wrap (((to:Nat):Int)+1) ->
      tC s a [.b b,.i aT,.i aZ,.i aX,.i (su D),.i bc]/\uC s.length [.b b,.i aT,.i aZ,.i aX,.i (su D),.i bc]<uC s.length [.b b,.i (mX D),.i (gB D kb),.i (oo D),.i (su D),.i ((to:Nat):Int)]))/\(¬(b=true)->(
      ∀aZ:Int,aZ=IntKind.i64.wrap (oo D+1) ->
      ∀aX:Int,aX=IntKind.i64.wrap (((to:Nat):Int)+1) ->
      tC s a [.b b,.i aT,.i (gB D kb),.i aZ,.i (su D),.i aX]/\uC s.length [.b b,.i aT,.i (gB D kb),.i aZ,.i (su D),.i aX]<uC s.length [.b b,.i (mX D),.i (gB D kb),.i (oo D),.i (su D),.i ((to:Nat):Int)]))))/\(¬(oo D<18)->(
      ∀aA:Int,aA=IntKind.i64.wrap (((to:Nat):Int)+1) ->
      tC s a [.b b,.i (mX D),.i (gB D kb),.i (oo D),.i 4,.i aA]/\uC s.length [.b b,.i (mX D),.i (gB D kb),.i (oo D),.i 4,.i aA]<uC s.length [.b b,.i (mX D),.i (gB D kb),.i (oo D),.i (su D),.i ((to:Nat):Int)])):=by
  have hlen:oo D<18↔D.length<18:=by unfold oo;omega
  obtain⟨n1,n2,n3⟩:=Hs hd;have xU:=(Bw _).1 hc;refine ae (λh => ?_) (λh => ?_)
  · have hl:=hlen.1 h;have n4:=n3 hl;rintro aA rfl aH rfl;refine⟨by omega,by omega, ?_⟩;rintro aP rfl aL rfl aS rfl aT rfl;simp only [Int.toNat_natCast];have w1:IntKind.u8.wrap (((s.getD to 0).toNat:Int)-48)=(((s.getD to 0).toNat-48:Nat):Int):=by rw [IntKind.wrap_u8];omega
    have w2:IntKind.i64.wrap (IntKind.i64.wrap (10*mX D)+IntKind.i64.wrap (IntKind.u8.wrap (((s.getD to 0).toNat:Int)-48)))=mX (D ++ [s.getD to 0]):=by
      have e1:IntKind.i64.wrap (10*mX D)=10*mX D:=zb (by omega);have e2:IntKind.i64.wrap ((((s.getD to 0).toNat-48:Nat):Int))=(((s.getD to 0).toNat-48:Nat):Int):=zb (by omega);rw [w1,e1,e2,zb (by omega),P' hl]
    obtain⟨m1,m2⟩:=Qd (c:=s.getD to 0) hl;have w3:IntKind.i64.wrap (oo D+1)=oo (D ++ [s.getD to 0]):=by rw [zb (by unfold oo;omega),m1]
    have w4:IntKind.i64.wrap ((to:Int)+1)=((to+1:Nat):Int):=by rw [zb (by omega)];omega
    have AX:∀(v1 v2 v3 v4 v5 u1 u2 u3 u4 u5:Vl),uC s.length [v1,v2,v3,v4,v5,.i ((to+1:Nat):Int)]<uC s.length [u1,u2,u3,u4,u5,.i (to:Int)]:=λ_ _ _ _ _ _ _ _ _ _=>by simp only [uC];omega
    refine ae (λiQ => ?_) (λiQ => ?_)
    · subst iQ;rintro aZ rfl aX rfl bc rfl;obtain⟨t1,t2⟩:=Ht (D ++ [s.getD to 0]) (kb+1);have t3:=Qb (c:=s.getD to 0) hl VE;rw [w2,w3,w4,zb (by omega),<-t3,<-m2];rw [if_pos rfl]at lx;exact⟨lx,AX ..⟩
    · have jS:b=false:=by simpa using iQ
      subst jS
      have:=hb rfl
      subst this;rintro aZ rfl aX rfl;rw [w2,w3,w4,Hu,<-Hu (D ++ [s.getD to 0]),<-m2];rw [if_neg (by simp)]at lx;exact⟨lx,AX ..⟩
  · have hl:18<=D.length:=by have:=mt hlen.2 h;omega
    rintro aA rfl;obtain⟨m1,m2⟩:=Qe (c:=s.getD to 0) hl;have w4:IntKind.i64.wrap ((to:Int)+1)=((to+1:Nat):Int):=by rw [zb (by omega)];omega
    have AX:∀(v1 v2 v3 v4 v5 u1 u2 u3 u4 u5:Vl),uC s.length [v1,v2,v3,v4,v5,.i ((to+1:Nat):Int)]<uC s.length [u1,u2,u3,u4,u5,.i (to:Int)]:=λ_ _ _ _ _ _ _ _ _ _=>by simp only [uC];omega
    have t3:gB D kb=gB (D ++ [s.getD to 0]) (if b=true then kb+1 else 0):=by
      cases b with
      |true=>exact (Qc hl VE).symm
      |false=>rw [hb rfl,Hu];exact (Hu _).symm
    rw [w4,t3,<-m2,<-m1,<-Qa (c:=s.getD to 0) hl];exact⟨lx,AX ..⟩
theorem Hw{s:List UInt8}{a:Nat}{w:World}(D:List UInt8)(kb:Nat)(to:Nat)(hD:D=d1 s a++d2 s a)(hk:kb=(d2 s a).length)(ht:to=cx s a) :
    ∃(x9 az aA aH aP aL:Int),(Vq w 31 #[.int .i64 (mX D),.int .i64 (gB D kb),.int .i64 0,.int .i64 0,.int .i64 0] (.tuple #[.agg #[.int .i64 x9,.int .i64 az,.int .i64 aA,.int .i64 aH,.int .i64 aP],.int .i64 aL])) /\
      (.agg #[.int .i64 2,.int .i64 (a:Nat),.int .i64 (to:Nat),.string ⟨(([]:List UInt8)).toArray⟩,.int .i64 x9,.int .i64 az,.int .i64 aA,.int .i64 aH,.int .i64 aP,.int .i64 (su D)]:Value)=oL (Aj s a):=by
  subst hD hk ht
  have Qg:∀b∈d1 s a++d2 s a,lD b=true:=λb hb=>by
    rcases List.mem_append.1 hb with hb|hb
    · exact Dg s a b hb
    · exact Ah s a b hb
  obtain⟨n1,n2,_⟩:=Hs Qg;obtain⟨t1,t2⟩:=Ht (d1 s a++d2 s a) (d2 s a).length;exact⟨_,_,_,_,_,_,λw' _=>OZ _ _ 0 0 0 w' ⟨by omega,by omega⟩ ⟨by omega,by omega⟩ (by omega),rfl⟩
theorem zsy(s:List UInt8)(a:Nat)(ha:a<=s.length)(hs:s.length<4611686018427387904)(w:World):Calls Tryz.prog 185 #[.string ⟨s.toArray⟩,.int .i64 a] w (Vc.aI (oL (Aj s a)) w):=by
 refine Yx _ s w _ ⟨tC s a,uC s.length,.inl ⟨0,by omega, ?_⟩, ?_⟩
 ·simp [Ai,mX,Hu,oo,su,iV]
 have hr:runN lD s a=a+(d1 s a).length:=rfl;have VF:runN lD s a<=s.length:=Da ha;rintro b0 x1 x2 x3 x4 x5 hI;rcases hI with ⟨k,hk,hl⟩|⟨hp,k,hk,hl⟩
 ·simp only [Ai,List.cons.injEq,Vl.b.injEq,Vl.i.injEq,and_true]at hl;obtain⟨rfl,rfl,rfl,rfl,rfl,rfl⟩:=hl;have Qh:∀x∈(d1 s a).take k,lD x=true:=λx hx=>Dg s a x (List.mem_of_mem_take hx);rintro x6 rfl;by_cases j8:k<(d1 s a).length
  ·obtain⟨g1,g2⟩:=Hr (p:=lD) (s:=s) (n:=a) j8;have hc:lD (s.getD (a+k) 0)=true:=by rw [<-g1];exact Dg s a _ (List.getElem_mem j8)
   have lx:tC s a (Ai false ((d1 s a).take k ++ [s.getD (a+k) 0]) 0 (a+k+1)):=by
    refine .inl ⟨k+1,by omega, ?_⟩;rw [List.take_add_one,List.getElem?_eq_getElem j8];rw [show (d1 s a)[k]=s.getD (a+k) 0 from g1];rfl
   have xU:=(Bw _).1 hc;refine ae (λh => ?_) (λh=>by omega);rintro x7 rfl;refine⟨by omega,by omega, ?_⟩;rintro x8 rfl;simp only [Int.toNat_natCast];refine⟨true,λw' _=>by rw [<-hc];exact Dh _ w',ae (λ_ => ?_) (λh=>(h rfl).elim)⟩;rintro x9 rfl;refine⟨by omega,by omega, ?_⟩;rintro az rfl;refine ae (λJW=>by omega) (λ_ => ?_)
   have:=Hv (a:=a) (b:=false) (kb:=0) hs Qh g2 (by omega) (λ_=>rfl) hc lx
   simp only [Int.toNat_natCast]at this;exact this
  ·have Cl:k=(d1 s a).length:=by omega
   subst Cl;rw [List.take_length];rw [<-hr];have fin:fZ s a=false->_:=λhp=>Hw (s:=s) (a:=a) (w:=w) (d1 s a) 0 (runN lD s a) (by unfold d2;rw [if_neg (by simpa [fZ]using hp),List.append_nil]) (by unfold d2;rw [if_neg (by simpa [fZ]using hp)];rfl) (by unfold cx;rw [if_neg (by simpa [fZ]using hp)]);refine ae (λh => ?_) (λh=>fin (by simp only [fZ,decide_eq_false_iff_not];omega));rintro x7 rfl;refine⟨by omega,by omega, ?_⟩;rintro x8 rfl;simp only [Int.toNat_natCast];have mc:=Hq (p:=lD) (s:=s) (n:=a) (by omega);refine⟨false,λw' _=>by rw [<-mc];exact Dh _ w',ae (λh=>by cases h) (λ_=>ae (λh=>by cases h) (λ_ => ?_))⟩;rintro x9 rfl;refine⟨by omega,by omega, ?_⟩;rintro az rfl;refine ae (λJW => ?_) (λJW=>fin (by simp only [fZ,decide_eq_false_iff_not];omega));rintro aA rfl aH rfl;rw [zb (by omega)];refine ae (λh1 => ?_) (λh1=>fin (by simp only [fZ,decide_eq_false_iff_not];omega));rintro aP rfl aL rfl;refine⟨by omega,by omega, ?_⟩;rintro aS rfl;rw [show Int.toNat ((runN lD s a:Nat)+1:Int)=runN lD s a+1 by omega];refine⟨_,λw' _=>Dh _ w',ae (λh2 => ?_) (λh2=>fin (by simp only [fZ,decide_eq_false_iff_not];exact λh=>h2 h.2.2))⟩;rintro aT rfl;refine⟨by omega,by omega, ?_⟩;rintro aZ rfl;refine ae (λ_ => ?_) (λh=>(h JW).elim);rintro aX rfl;have qD:fZ s a=true:=by simp only [fZ,decide_eq_true_eq];exact⟨by omega,by omega,h2⟩
   refine⟨.inr ⟨qD,0,by omega, ?_⟩,by simp only [uC];omega⟩;rw [List.take_zero,List.append_nil];simp [Ai]
 ·simp only [Ai,List.cons.injEq,Vl.b.injEq,Vl.i.injEq,and_true]at hl;obtain⟨rfl,rfl,rfl,rfl,rfl,rfl⟩:=hl
  have Qh:∀x∈d1 s a++(d2 s a).take k,lD x=true:=λx hx=>by
   rcases List.mem_append.1 hx with hx|hx
   ·exact Dg s a x hx
   ·exact Ah s a x (List.mem_of_mem_take hx)
  have VG:runN lD s a+1<s.length/\(s.getD (runN lD s a) 0).toNat=46/\lD (s.getD (runN lD s a+1) 0)=true:=by simpa [fZ]using hp
  have JX:d2 s a=(s.drop (runN lD s a+1)).takeWhile lD:=by unfold d2;rw [if_pos VG]
  have hN:cx s a=runN lD s a+1+(d2 s a).length:=by unfold cx;rw [if_pos VG,JX];rfl
  rintro x6 rfl;by_cases j8:k<(d2 s a).length
  ·have Di:k<((s.drop (runN lD s a+1)).takeWhile lD).length:=by rw [<-JX];exact j8
   obtain⟨g1,g2⟩:=Hr (p:=lD) (s:=s) (n:=runN lD s a+1) Di;have VH:(d2 s a)[k]=s.getD (runN lD s a+1+k) 0:=by rw [<-g1];simp only [JX]
   have hc:lD (s.getD (runN lD s a+1+k) 0)=true:=by rw [<-VH];exact Ah s a _ (List.getElem_mem j8)
   have lx:tC s a (Ai true (d1 s a++(d2 s a).take k ++ [s.getD (runN lD s a+1+k) 0]) (k+1) (runN lD s a+1+k+1)):=by
    refine .inr ⟨hp,k+1,by omega, ?_⟩;rw [List.take_add_one,List.getElem?_eq_getElem j8,VH,<-List.append_assoc];rfl
   have xU:=(Bw _).1 hc;refine ae (λh => ?_) (λh=>by omega);rintro x7 rfl;refine⟨by omega,by omega, ?_⟩;rintro x8 rfl;simp only [Int.toNat_natCast];refine⟨true,λw' _=>by rw [<-hc];exact Dh _ w',ae (λ_ => ?_) (λh=>(h rfl).elim)⟩;rintro x9 rfl;refine⟨by omega,by omega, ?_⟩;rintro az rfl;refine ae (λJW=>by omega) (λ_ => ?_)
   have:=Hv (a:=a) (b:=true) (kb:=k) hs Qh g2 (by rw [List.length_append,List.length_take];omega) (λh=>by cases h) hc lx
   simp only [Int.toNat_natCast]at this;exact this
  ·have Cl:k=(d2 s a).length:=by omega
   subst Cl;rw [List.take_length];have fin:=Hw (s:=s) (a:=a) (w:=w) (d1 s a++d2 s a) (d2 s a).length (runN lD s a+1+(d2 s a).length) rfl rfl hN.symm;refine ae (λh => ?_) (λh=>fin);rintro x7 rfl;refine⟨by omega,by omega, ?_⟩;rintro x8 rfl;simp only [Int.toNat_natCast];have hq:runN lD s (runN lD s a+1)=runN lD s a+1+(d2 s a).length:=by rw [JX];rfl
   have mc:=Hq (p:=lD) (s:=s) (n:=runN lD s a+1) (by omega);rw [hq]at mc;exact⟨false,λw' _=>by rw [<-mc];exact Dh _ w',ae (λh=>by cases h) (λ_=>ae (λ_=>fin) (λh=>by simp at h))⟩
end Go.Proofs.YtkbchjlnhgfpmaaGreatDoor
