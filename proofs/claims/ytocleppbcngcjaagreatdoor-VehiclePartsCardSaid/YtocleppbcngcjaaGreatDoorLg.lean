import Derived.Test.YtocleppbcngcjaaGreatDoorGr
import Derived.Test.YtocleppbcngcjaaGreatDoorCq
section
set_option linter.unusedVariables false
set_option linter.unusedSimpArgs false
set_option maxRecDepth 4000
namespace Go.Proofs.YtocleppbcngcjaaGreatDoor
open Go Go.RowKit Vc
attribute [local irreducible] Go.Calls
theorem S7(c:UInt8)(w:World):Calls Tryz.prog 153 #[.int .u8 (c.toNat:Int)] w (Vc.Ret (.bool (lL c)) w):=by
 refine XJ _ w _ ?_;unfold lL;refine aj (λh=>aj (λh' => ?_) λh'=>aj (λh2 => ?_) λh2 => ?_) λh=>aj (λh2 => ?_) λh2 => ?_
 all_goals (refine pt ?_;rw [Bool.eq_iff_iff];simp;omega)
theorem B0(c:UInt8)(w:World):Calls Tryz.prog 151 #[.int .u8 (c.toNat:Int)] w (Vc.Ret (.bool (lD c)) w):=by
 refine XK _ w _ ?_;unfold lD;refine aj (λh => ?_) λh => ?_
 all_goals (refine pt ?_;rw [Bool.eq_iff_iff];simp;omega)
def idxOf:List (List UInt8)->List UInt8->Int
 | [],_ => -1
 |e::r,s=>if e=s then 0 else if idxOf r s = -1 then -1 else idxOf r s+1
theorem M8:∀(l:List (List UInt8)) (s:List UInt8),-1<=idxOf l s
 | [],s=>Int.le_refl _
 |e::r,s=>by have:=M8 r s;unfold idxOf;split<;>(try split)<;>omega
theorem S8{s:List UInt8}:∀{l:List (List UInt8)} {i:Nat} {e:List UInt8},(∀j e',j<i->l[j]? = some e'->e'≠s)->l[i]? = some e->e=s->idxOf l s=i
  | [],i,e,_,h,_=>by simp at h
  |a::r,0,e,_,h,he=>by
    simp only [List.getElem?_cons_zero,Option.some.injEq]at h;rw [idxOf,if_pos (h.trans he)];rfl
  |a::r,i+1,e,hb,h,he=>by
    have h0:a≠s:=hb 0 a (by omega) rfl;have ih:=S8 (l:=r) (i:=i) (λj e' hj hl=>hb (j+1) e' (by omega) (by simpa using hl)) (by simpa using h) he;rw [idxOf,if_neg h0,ih,if_neg (by omega)];simp
theorem S9{s:List UInt8}:∀{l:List (List UInt8)},(∀(j:Nat) (e':List UInt8),l[j]? = some e'->e'≠s)->idxOf l s = -1
  | [],_=>rfl
  |a::r,hb=>by
    rw [idxOf,if_neg (hb 0 a rfl),if_pos (S9 λj e' hl=>hb (j+1) e' (by simpa using hl))]
def um(s:List UInt8):List Value := [.string ⟨s.toArray⟩]
def M9(l:List (List UInt8))(s:List UInt8)(L:List Vl):Prop:=∃(a:Int) (i:Nat),L=[.i a,.i i]/\i<=l.length/\∀j e',j<i->l[j]? = some e'->e'≠s
def S_(n:Nat)(L:List Vl):Nat:=match L with
 | [_,.i i]=>n-i.toNat
 |_=>0
theorem M_(l:List (List UInt8))(s:List UInt8){w:World}{v:Value}(h:dI w v 1 (l.flatMap um))(hn:l.length<4611686018427387904):Calls Tryz.prog 154 #[v,.string ⟨s.toArray⟩] w (Vc.Ret (.int .i64 (idxOf l s)) w):=by
 obtain⟨b0,p0,x1,rfl,h2,h3⟩:=FQ h (by decide) (zf (f:=um) (c:=1) (λ_=>rfl) l);refine XL p0 (l.length:Nat) x1 b0 s w _ ⟨M9 l s,S_ l.length,⟨_,0,rfl,by omega,λj e' hj=>by omega⟩, ?_⟩;rintro x2 x3 ⟨a,i,hy,hi,hb⟩;simp only [List.cons.injEq,Vc.Vl.i.injEq,and_true]at hy;obtain⟨rfl,rfl⟩:=hy;refine⟨by omega, ?_,aj (λcn => ?_) (λkU => ?_)⟩
 ·by_cases gW:b0=true
  ·right;rw [h2 gW];rfl
  ·exact .inl gW
 ·have nj:i<l.length:=by omega
  have hg:l[i]? = some l[i]:=List.getElem?_eq_getElem nj;have hc:=h3 (i*1+0) _ (zg (f:=um) (c:=1) (λ_=>rfl) hg (by decide));refine⟨λgW=>by have:=h2 gW;omega,by omega,by omega,l[i], ?_,aj (λe => ?_) (λe => ?_)⟩
  ·simp only [Int.toNat_natCast];exact hc
  ·rw [S8 hb hg e]
  ·rintro x4 rfl;rw [zj (by omega)];refine⟨⟨x2,i+1,rfl,by omega,λj e' hj hl => ?_⟩,by simp only [S_];omega⟩;rcases Nat.lt_succ_iff_lt_or_eq.1 hj with hj|rfl
   ·exact hb j e' hj hl
   ·rw [hg]at hl;cases hl;exact e
 ·rw [S9 λj e' hl=>hb j e' (by have:=(List.getElem?_eq_some_iff.1 hl).1;omega) hl]
def pC(s:List UInt8):Int:=idxOf (kH.map (·.1)) s
theorem M'(s:List UInt8)(w:World):Calls Tryz.prog 156 #[.string ⟨s.toArray⟩] w (Vc.Ret (.int .i64 (pC s)) w):=by
 refine XM s w _ ?_;unfold pC kH;simp only [List.map_cons,List.map_nil]
 iterate 14 (refine aj (λh=>by subst h;rfl) (λh => ?_))
 simp only [idxOf,if_false,if_true, *]
theorem Na(s:List UInt8):(0<=pC s)↔(mZ s).isSome=true:=by
  unfold pC mZ;generalize kH=l
  induction l with
  |nil=>simp [idxOf,om]
  |cons e r ih =>
    simp only [List.map_cons,idxOf,om];split
    · simp
    · have:=M8 (r.map (·.1)) s
      split
      · rename_i h;rw [h]at ih;simpa using ih
      · rw [<-ih];omega
theorem FR(l:List (List UInt8))(s:List UInt8):Ai l s=true↔s∈l:=by
  induction l with
  |nil=>simp [Ai]
  |cons e r ih =>
    unfold Ai;split
    · rename_i h;simp [h]
    · rename_i h;simp [h,ih]
theorem Yi(s:List UInt8)(w:World):Calls Tryz.prog 130 #[.string ⟨s.toArray⟩] w (Vc.Ret (.bool (dW s)) w):=by
 refine XN s w _ ?_
 have hw:∀e,e∈qN->e=s->dW s=true:=λe he h=>by
  subst h;unfold dW;rw [(FR _ _).2 he,Bool.or_true]
 iterate 18 (refine aj (λh=>by rw [hw _ (by decide) h]) (λh => ?_))
 refine⟨_,λw' _=>M' s w', ?_⟩;refine pt ?_
 have hn:Ai qN s=false:=Bool.eq_false_iff.2 λhp=>by
  have:=(FR _ _).1 hp
  simp only [qN,List.mem_cons,List.not_mem_nil,or_false,eq_comm (a:=s)]at this;simp_all
 unfold dW;rw [hn,Bool.or_false,Bool.eq_iff_iff,<-Na];simp
end Go.Proofs.YtocleppbcngcjaaGreatDoor
end
section
set_option linter.unusedVariables false
set_option linter.unusedSimpArgs false
set_option maxRecDepth 4000
namespace Go.Proofs.YtocleppbcngcjaaGreatDoor
open Go Go.RowKit Vc
attribute [local irreducible] Go.Calls
theorem Ta{p:UInt8->Bool}{s:List UInt8}:∀(m n:Nat),s.length-n<=m->runN p s n<s.length->p (s.getD (runN p s n) 0)=false
  |0,n,hm,h=>by rw [FN (by omega)]at h;omega
  |m+1,n,hm,h=>by
    by_cases hn:n<s.length
    · cases hp:p (s.getD n 0)with
      |false=>rw [HV hn hp]at h ⊢;exact hp
      |true=>rw [<-MS hn hp]at h ⊢;exact Ta m (n+1) (by omega) h
    · rw [FN (by omega)]at h;omega
theorem Tb{p:UInt8->Bool}{s:List UInt8}{n:Nat}(h:runN p s n<s.length):p (s.getD (runN p s n) 0)=false:=Ta _ n (Nat.le_refl _) h
theorem FT{p:UInt8->Bool}{s:List UInt8}{n k:Nat}(h:k<((s.drop n).takeWhile p).length):((s.drop n).takeWhile p)[k]=s.getD (n+k) 0/\n+k<s.length:=by
 have h1:=(List.takeWhile_sublist p (l:=s.drop n)).length_le;rw [List.length_drop]at h1;have h2:((s.drop n).takeWhile p)[k]=(s.drop n)[k]'(by rw [List.length_drop];omega):=(List.takeWhile_prefix p (l:=s.drop n)).getElem h;rw [h2,List.getElem_drop];have h3:n+k<s.length:=by omega
 exact⟨by simp [List.getD,h3],h3⟩
def mb(D:List UInt8):Int:=(gY (D.take 18):Nat)
def nw(D:List UInt8):Int:=(min 18 D.length:Nat)
def rf(D:List UInt8):Int:=if 18<D.length then 4 else 0
def w5(D:List UInt8)(kb:Nat):Nat:=min 18 D.length-(D.length-kb)
def fK(D:List UInt8)(kb:Nat):Int:=(10:Int) ^ w5 D kb
theorem FU{D:List UInt8}(hd:∀b∈D,lD b=true):0<=mb D/\mb D<1000000000000000000/\(D.length<18->mb D<100000000000000000):=by
 have h1:=HI _ (D.take 18) rfl λb hb=>(Al b).1 (hd b (List.mem_of_mem_take hb));have h2:=Di (D.take 18).length (by rw [List.length_take];omega);unfold mb;refine⟨by omega,by omega,λh => ?_⟩;have h3:10 ^ (D.take 18).length<=10 ^ 17:=Nat.pow_le_pow_right (by omega) (by rw [List.length_take];omega);have h4:(10:Nat) ^ 17=100000000000000000:=by decide
 omega
theorem Nb{D:List UInt8}{c:UInt8}(h:D.length<18):mb (D ++ [c])=10*mb D+((c.toNat-48:Nat):Int):=by
 unfold mb;rw [List.take_of_length_le (by simp;omega),List.take_of_length_le (by omega),LR];simp
theorem Nc{D:List UInt8}{c:UInt8}(h:18<=D.length):mb (D ++ [c])=mb D:=by
 unfold mb;rw [List.take_append_of_le_length h]
theorem FV(D:List UInt8)(kb:Nat):1<=fK D kb/\fK D kb<=1000000000000000000:=by
 obtain⟨h1,h2⟩:=S5 (n:=w5 D kb) (by unfold w5;omega);unfold fK;omega
theorem Nd{D:List UInt8}{c:UInt8}{kb:Nat}(h:D.length<18)(hk:kb<=D.length):fK (D ++ [c]) (kb+1)=10*fK D kb:=by
 have:w5 (D ++ [c]) (kb+1)=w5 D kb+1:=by unfold w5;simp only [List.length_append,List.length_cons,List.length_nil];omega
 unfold fK;rw [this,Int.pow_succ];omega
theorem Nf{D:List UInt8}{c:UInt8}{kb:Nat}(h:18<=D.length)(hk:kb<=D.length):fK (D ++ [c]) (kb+1)=fK D kb:=by
 have:w5 (D ++ [c]) (kb+1)=w5 D kb:=by unfold w5;simp only [List.length_append,List.length_cons,List.length_nil];omega
 unfold fK;rw [this]
theorem FW(D:List UInt8):fK D 0=1:=by
 have:w5 D 0=0:=by unfold w5;omega
 unfold fK;rw [this];rfl
theorem Ng{D:List UInt8}{c:UInt8}(h:D.length<18):nw (D ++ [c])=nw D+1/\rf (D ++ [c])=rf D:=by
 unfold nw rf;simp only [List.length_append,List.length_cons,List.length_nil];exact⟨by omega,by rw [if_neg (by omega),if_neg (by omega)]⟩
theorem Nh{D:List UInt8}{c:UInt8}(h:18<=D.length):nw (D ++ [c])=nw D/\rf (D ++ [c])=4:=by
 unfold nw rf;simp only [List.length_append,List.length_cons,List.length_nil];exact⟨by omega,by rw [if_pos (by omega)]⟩
def yJ(b:Bool)(D:List UInt8)(kb to:Nat):List Vl := [.b b,.i (mb D),.i (fK D kb),.i (nw D),.i (rf D),.i (to:Nat)]
def fv(s:List UInt8)(a:Nat):Bool:=decide (runN lD s a+1<s.length/\(s.getD (runN lD s a) 0).toNat=46/\lD (s.getD (runN lD s a+1) 0)=true)
def sd(s:List UInt8)(a:Nat)(L:List Vl):Prop :=
 (∃k,k<=(d1 s a).length/\L=yJ false ((d1 s a).take k) 0 (a+k))∨(fv s a=true/\∃k,k<=(d2 s a).length/\L=yJ true (d1 s a++(d2 s a).take k) k (runN lD s a+1+k))
def tx(n:Nat)(L:List Vl):Nat:=match L with
 | [_,_,_,_,_,.i x]=>n-x.toNat
 |_=>0
def yK(s:List UInt8)(a:Nat):Tk:=⟨2,a,b_ s a,[],(kG (mb (d1 s a++d2 s a)) (fK (d1 s a++d2 s a) (d2 s a).length) 0 0 0).q,rf (d1 s a++d2 s a)⟩
theorem FX{s:List UInt8}{a to kb:Nat}{b:Bool}{D:List UInt8}(hs:s.length < 4611686018427387904)(hd:∀ x∈D,lD x=true)(Ni:to < s.length)(Tc:kb<=D.length)(hb:b=false->kb=0)
    (hc:lD (s.getD to 0)=true) (kI:sd s a (yJ b (D ++ [s.getD to 0]) (if b=true then kb+1 else 0) (to+1))) :
    ((nw D<18)->(
      ∀aS:Int,aS=IntKind.i64.wrap (10*mb D) ->
      ∀aW:Int,aW=((s.length:Nat):Int) ->
      (0<=((to:Nat):Int)) /\
      (((to:Nat):Int)<aW) /\
      ∀bC:Int,bC=(((s.getD (Int.toNat ((to:Nat):Int)) 0).toNat:Nat):Int) ->
      ∀bn:Int,bn=IntKind.u8.wrap (bC-48) ->
      ∀bJ:Int,bJ=IntKind.i64.wrap (bn) ->
      ∀aY:Int,aY=IntKind.i64.wrap (aS+bJ) ->
      ((b=true)->(
      ∀bE:Int,bE=IntKind.i64.wrap (10*fK D kb) ->
      ∀bx:Int,bx=IntKind.i64.wrap (nw D+1) ->
      ∀bX:Int,bX=IntKind.i64.wrap (((to:Nat):Int)+1) ->
      sd s a [.b b,.i aY,.i bE,.i bx,.i (rf D),.i bX]/\tx s.length [.b b,.i aY,.i bE,.i bx,.i (rf D),.i bX]<tx s.length [.b b,.i (mb D),.i (fK D kb),.i (nw D),.i (rf D),.i ((to:Nat):Int)]))/\(¬(b=true)->(
      ∀bE:Int,bE=IntKind.i64.wrap (nw D+1) ->
      ∀bx:Int,bx=IntKind.i64.wrap (((to:Nat):Int)+1) ->
      sd s a [.b b,.i aY,.i (fK D kb),.i bE,.i (rf D),.i bx]/\tx s.length [.b b,.i aY,.i (fK D kb),.i bE,.i (rf D),.i bx]<tx s.length [.b b,.i (mb D),.i (fK D kb),.i (nw D),.i (rf D),.i ((to:Nat):Int)]))))/\(¬(nw D<18)->(
      ∀aS:Int,aS=IntKind.i64.wrap (((to:Nat):Int)+1) ->
      sd s a [.b b,.i (mb D),.i (fK D kb),.i (nw D),.i 4,.i aS]/\tx s.length [.b b,.i (mb D),.i (fK D kb),.i (nw D),.i 4,.i aS]<tx s.length [.b b,.i (mb D),.i (fK D kb),.i (nw D),.i (rf D),.i ((to:Nat):Int)])):=by
  have hlen:nw D<18↔D.length<18:=by unfold nw;omega
  obtain⟨n1,n2,n3⟩:=FU hd;have Td:=(Al _).1 hc;refine aj (λh => ?_) (λh => ?_)
  · have hl:=hlen.1 h;have n4:=n3 hl;rintro aS rfl aW rfl;refine⟨by omega,by omega, ?_⟩;rintro bC rfl bn rfl bJ rfl aY rfl;simp only [Int.toNat_natCast];have w1:IntKind.u8.wrap (((s.getD to 0).toNat:Int)-48)=(((s.getD to 0).toNat-48:Nat):Int):=by rw [IntKind.wrap_u8];omega
    have w2:IntKind.i64.wrap (IntKind.i64.wrap (10*mb D)+IntKind.i64.wrap (IntKind.u8.wrap (((s.getD to 0).toNat:Int)-48)))=mb (D ++ [s.getD to 0]):=by
      have e1:IntKind.i64.wrap (10*mb D)=10*mb D:=zj (by omega);have e2:IntKind.i64.wrap ((((s.getD to 0).toNat-48:Nat):Int))=(((s.getD to 0).toNat-48:Nat):Int):=zj (by omega);rw [w1,e1,e2,zj (by omega),Nb hl]
    obtain⟨m1,m2⟩:=Ng (c:=s.getD to 0) hl;have w3:IntKind.i64.wrap (nw D+1)=nw (D ++ [s.getD to 0]):=by rw [zj (by unfold nw;omega),m1]
    have w4:IntKind.i64.wrap ((to:Int)+1)=((to+1:Nat):Int):=by rw [zj (by omega)];omega
    have zM:∀(v1 v2 v3 v4 v5 u1 u2 u3 u4 u5:Vl),tx s.length [v1,v2,v3,v4,v5,.i ((to+1:Nat):Int)]<tx s.length [u1,u2,u3,u4,u5,.i (to:Int)]:=λ_ _ _ _ _ _ _ _ _ _=>by simp only [tx];omega
    refine aj (λfy => ?_) (λfy => ?_)
    · subst fy;rintro bE rfl bx rfl bX rfl;obtain⟨t1,t2⟩:=FV (D ++ [s.getD to 0]) (kb+1);have t3:=Nd (c:=s.getD to 0) hl Tc;rw [w2,w3,w4,zj (by omega),<-t3,<-m2];rw [if_pos rfl]at kI;exact⟨kI,zM ..⟩
    · have dL:b=false:=by simpa using fy
      subst dL
      have:=hb rfl
      subst this;rintro bE rfl bx rfl;rw [w2,w3,w4,FW,<-FW (D ++ [s.getD to 0]),<-m2];rw [if_neg (by simp)]at kI;exact⟨kI,zM ..⟩
  · have hl:18<=D.length:=by have:=mt hlen.2 h;omega
    rintro aS rfl;obtain⟨m1,m2⟩:=Nh (c:=s.getD to 0) hl;have w4:IntKind.i64.wrap ((to:Int)+1)=((to+1:Nat):Int):=by rw [zj (by omega)];omega
    have zM:∀(v1 v2 v3 v4 v5 u1 u2 u3 u4 u5:Vl),tx s.length [v1,v2,v3,v4,v5,.i ((to+1:Nat):Int)]<tx s.length [u1,u2,u3,u4,u5,.i (to:Int)]:=λ_ _ _ _ _ _ _ _ _ _=>by simp only [tx];omega
    have t3:fK D kb=fK (D ++ [s.getD to 0]) (if b=true then kb+1 else 0):=by
      cases b with
      |true=>exact (Nf hl Tc).symm
      |false=>rw [hb rfl,FW];exact (FW _).symm
    rw [w4,t3,<-m2,<-m1,<-Nc (c:=s.getD to 0) hl];exact⟨kI,zM ..⟩
theorem FY{s:List UInt8}{a:Nat}{w:World}(D:List UInt8)(kb:Nat)(to:Nat)(hD:D=d1 s a++d2 s a)(hk:kb=(d2 s a).length)(ht:to=b_ s a) :
    ∃(x9 bd aS aW bC bn:Int),(Vq w 170 #[.int .i64 (mb D),.int .i64 (fK D kb),.int .i64 0,.int .i64 0,.int .i64 0] (.tuple #[.agg #[.int .i64 x9,.int .i64 bd,.int .i64 aS,.int .i64 aW,.int .i64 bC],.int .i64 bn])) /\
      (.agg #[.int .i64 2,.int .i64 (a:Nat),.int .i64 (to:Nat),.string ⟨(([]:List UInt8)).toArray⟩,.int .i64 x9,.int .i64 bd,.int .i64 aS,.int .i64 aW,.int .i64 bC,.int .i64 (rf D)]:Value)=nL (yK s a):=by
  subst hD hk ht
  have Nj:∀b∈d1 s a++d2 s a,lD b=true:=λb hb=>by
    rcases List.mem_append.1 hb with hb|hb
    · exact BZ s a b hb
    · exact HX s a b hb
  obtain⟨n1,n2,_⟩:=FU Nj;obtain⟨t1,t2⟩:=FV (d1 s a++d2 s a) (d2 s a).length;exact⟨_,_,_,_,_,_,λw' _=>X9 _ _ 0 0 0 w' ⟨by omega,by omega⟩ ⟨by omega,by omega⟩ (by omega),rfl⟩
theorem Yj(s:List UInt8)(a:Nat)(ha:a<=s.length)(hs:s.length<4611686018427387904)(w:World):Calls Tryz.prog 152 #[.string ⟨s.toArray⟩,.int .i64 a] w (Vc.Ret (nL (yK s a)) w):=by
 refine XO _ s w _ ⟨sd s a,tx s.length,.inl ⟨0,by omega, ?_⟩, ?_⟩
 ·simp [yJ,mb,FW,nw,rf,gY]
 have hr:runN lD s a=a+(d1 s a).length:=rfl;have Tf:runN lD s a<=s.length:=BW ha;rintro b0 x1 x2 x3 x4 x5 hI;rcases hI with ⟨k,hk,hl⟩|⟨hp,k,hk,hl⟩
 ·simp only [yJ,List.cons.injEq,Vl.b.injEq,Vl.i.injEq,and_true]at hl;obtain⟨rfl,rfl,rfl,rfl,rfl,rfl⟩:=hl;have Nk:∀x∈(d1 s a).take k,lD x=true:=λx hx=>BZ s a x (List.mem_of_mem_take hx);rintro x6 rfl;by_cases qG:k<(d1 s a).length
  ·obtain⟨g1,g2⟩:=FT (p:=lD) (s:=s) (n:=a) qG;have hc:lD (s.getD (a+k) 0)=true:=by rw [<-g1];exact BZ s a _ (List.getElem_mem qG)
   have kI:sd s a (yJ false ((d1 s a).take k ++ [s.getD (a+k) 0]) 0 (a+k+1)):=by
    refine .inl ⟨k+1,by omega, ?_⟩;rw [List.take_add_one,List.getElem?_eq_getElem qG];rw [show (d1 s a)[k]=s.getD (a+k) 0 from g1];rfl
   have Td:=(Al _).1 hc;refine aj (λh => ?_) (λh=>by omega);rintro x7 rfl;refine⟨by omega,by omega, ?_⟩;rintro x8 rfl;simp only [Int.toNat_natCast];refine⟨true,λw' _=>by rw [<-hc];exact B0 _ w',aj (λ_ => ?_) (λh=>(h rfl).elim)⟩;rintro x9 rfl;refine⟨by omega,by omega, ?_⟩;rintro bd rfl;refine aj (λHZ=>by omega) (λ_ => ?_)
   have:=FX (a:=a) (b:=false) (kb:=0) hs Nk g2 (by omega) (λ_=>rfl) hc kI
   simp only [Int.toNat_natCast]at this;exact this
  ·have oQ:k=(d1 s a).length:=by omega
   subst oQ;rw [List.take_length];rw [<-hr];have fin:fv s a=false->_:=λhp=>FY (s:=s) (a:=a) (w:=w) (d1 s a) 0 (runN lD s a) (by unfold d2;rw [if_neg (by simpa [fv]using hp),List.append_nil]) (by unfold d2;rw [if_neg (by simpa [fv]using hp)];rfl) (by unfold b_;rw [if_neg (by simpa [fv]using hp)]);refine aj (λh => ?_) (λh=>fin (by simp only [fv,decide_eq_false_iff_not];omega));rintro x7 rfl;refine⟨by omega,by omega, ?_⟩;rintro x8 rfl;simp only [Int.toNat_natCast];have lj:=Tb (p:=lD) (s:=s) (n:=a) (by omega);refine⟨false,λw' _=>by rw [<-lj];exact B0 _ w',aj (λh=>by cases h) (λ_=>aj (λh=>by cases h) (λ_ => ?_))⟩;rintro x9 rfl;refine⟨by omega,by omega, ?_⟩;rintro bd rfl;refine aj (λHZ => ?_) (λHZ=>fin (by simp only [fv,decide_eq_false_iff_not];omega));rintro aS rfl aW rfl;rw [zj (by omega)];refine aj (λh1 => ?_) (λh1=>fin (by simp only [fv,decide_eq_false_iff_not];omega));rintro bC rfl bn rfl;refine⟨by omega,by omega, ?_⟩;rintro bJ rfl;rw [show Int.toNat ((runN lD s a:Nat)+1:Int)=runN lD s a+1 by omega];refine⟨_,λw' _=>B0 _ w',aj (λh2 => ?_) (λh2=>fin (by simp only [fv,decide_eq_false_iff_not];exact λh=>h2 h.2.2))⟩;rintro aY rfl;refine⟨by omega,by omega, ?_⟩;rintro bE rfl;refine aj (λ_ => ?_) (λh=>(h HZ).elim);rintro bx rfl;have oc:fv s a=true:=by simp only [fv,decide_eq_true_eq];exact⟨by omega,by omega,h2⟩
   refine⟨.inr ⟨oc,0,by omega, ?_⟩,by simp only [tx];omega⟩;rw [List.take_zero,List.append_nil];simp [yJ]
 ·simp only [yJ,List.cons.injEq,Vl.b.injEq,Vl.i.injEq,and_true]at hl;obtain⟨rfl,rfl,rfl,rfl,rfl,rfl⟩:=hl
  have Nk:∀x∈d1 s a++(d2 s a).take k,lD x=true:=λx hx=>by
   rcases List.mem_append.1 hx with hx|hx
   ·exact BZ s a x hx
   ·exact HX s a x (List.mem_of_mem_take hx)
  have H0:runN lD s a+1<s.length/\(s.getD (runN lD s a) 0).toNat=46/\lD (s.getD (runN lD s a+1) 0)=true:=by simpa [fv]using hp
  have H2:d2 s a=(s.drop (runN lD s a+1)).takeWhile lD:=by unfold d2;rw [if_pos H0]
  have hN:b_ s a=runN lD s a+1+(d2 s a).length:=by unfold b_;rw [if_pos H0,H2];rfl
  rintro x6 rfl;by_cases qG:k<(d2 s a).length
  ·have B1:k<((s.drop (runN lD s a+1)).takeWhile lD).length:=by rw [<-H2];exact qG
   obtain⟨g1,g2⟩:=FT (p:=lD) (s:=s) (n:=runN lD s a+1) B1;have Tg:(d2 s a)[k]=s.getD (runN lD s a+1+k) 0:=by rw [<-g1];simp only [H2]
   have hc:lD (s.getD (runN lD s a+1+k) 0)=true:=by rw [<-Tg];exact HX s a _ (List.getElem_mem qG)
   have kI:sd s a (yJ true (d1 s a++(d2 s a).take k ++ [s.getD (runN lD s a+1+k) 0]) (k+1) (runN lD s a+1+k+1)):=by
    refine .inr ⟨hp,k+1,by omega, ?_⟩;rw [List.take_add_one,List.getElem?_eq_getElem qG,Tg,<-List.append_assoc];rfl
   have Td:=(Al _).1 hc;refine aj (λh => ?_) (λh=>by omega);rintro x7 rfl;refine⟨by omega,by omega, ?_⟩;rintro x8 rfl;simp only [Int.toNat_natCast];refine⟨true,λw' _=>by rw [<-hc];exact B0 _ w',aj (λ_ => ?_) (λh=>(h rfl).elim)⟩;rintro x9 rfl;refine⟨by omega,by omega, ?_⟩;rintro bd rfl;refine aj (λHZ=>by omega) (λ_ => ?_)
   have:=FX (a:=a) (b:=true) (kb:=k) hs Nk g2 (by rw [List.length_append,List.length_take];omega) (λh=>by cases h) hc kI
   simp only [Int.toNat_natCast]at this;exact this
  ·have oQ:k=(d2 s a).length:=by omega
   subst oQ;rw [List.take_length];have fin:=FY (s:=s) (a:=a) (w:=w) (d1 s a++d2 s a) (d2 s a).length (runN lD s a+1+(d2 s a).length) rfl rfl hN.symm;refine aj (λh => ?_) (λh=>fin);rintro x7 rfl;refine⟨by omega,by omega, ?_⟩;rintro x8 rfl;simp only [Int.toNat_natCast];have hq:runN lD s (runN lD s a+1)=runN lD s a+1+(d2 s a).length:=by rw [H2];rfl
   have lj:=Tb (p:=lD) (s:=s) (n:=runN lD s a+1) (by omega);rw [hq]at lj;exact⟨false,λw' _=>by rw [<-lj];exact B0 _ w',aj (λh=>by cases h) (λ_=>aj (λ_=>fin) (λh=>by simp at h))⟩
end Go.Proofs.YtocleppbcngcjaaGreatDoor
end
