import Derived.Test.YtocleppbcngcjaaGreatDoorLg
import Derived.Test.YtocleppbcngcjaaGreatDoorVcU
section
set_option linter.unusedVariables false
set_option linter.unusedSimpArgs false
set_option maxRecDepth 4000
namespace Go.Proofs.YtocleppbcngcjaaGreatDoor
open Go Go.RowKit Vc
attribute [local irreducible] Go.Calls
theorem Th(l:List (List UInt8))(s:List UInt8):0<=idxOf l s↔s∈l:=by
  induction l with
  |nil=>simp [idxOf]
  |cons e r ih =>
    have:=M8 r s
    unfold idxOf;by_cases h:e=s
    · rw [if_pos h];simp [h]
    · rw [if_neg h];split
      · rename_i h2;rw [h2]at ih;simp only [List.mem_cons];constructor
        · intro h3;omega
        · rintro (rfl|h3)
          · exact (h rfl).elim
          · have:=ih.2 h3;omega
      · have:¬s=e:=λx=>h x.symm
        simp only [List.mem_cons,this,false_or,<-ih];omega
theorem Nn{c d:UInt8}{r:List UInt8}(h:[c,d]∈dt):fE dt (c::d::r)=some [c,d]:=by
 simp only [dt,List.mem_cons,List.cons.injEq,and_true,List.not_mem_nil,or_false,reduceCtorEq,and_false]at h;rcases h with ⟨rfl,rfl⟩|⟨rfl,rfl⟩<;>rfl
theorem Ti{c:UInt8}{r:List UInt8}(h2:∀d t,r=d::t -> [c,d] ∉ dt):fE dt (c::r)=if [c]∈dt then some [c]else none:=by
  have p1:([43,45]:List UInt8).isPrefixOf (c::r)=false:=by
    cases r with
    |nil=>simp [List.isPrefixOf]
    |cons d t =>
      have:=h2 d t rfl
      simp only [dt,List.mem_cons,List.cons.injEq,and_true,List.not_mem_nil,or_false,reduceCtorEq,and_false,not_or]at this;simp only [List.isPrefixOf,Bool.and_true,Bool.and_eq_false_iff,beq_eq_false_iff_ne];by_cases h:c=43
      · right;intro h3;exact this.1 ⟨h,h3.symm⟩
      · left;exact λx=>h x.symm
  have p2:([46,46]:List UInt8).isPrefixOf (c::r)=false:=by
    cases r with
    |nil=>simp [List.isPrefixOf]
    |cons d t =>
      have:=h2 d t rfl
      simp only [dt,List.mem_cons,List.cons.injEq,and_true,List.not_mem_nil,or_false,reduceCtorEq,and_false,not_or]at this;simp only [List.isPrefixOf,Bool.and_true,Bool.and_eq_false_iff,beq_eq_false_iff_ne];by_cases h:c=46
      · right;intro h3;exact this.2 ⟨h,h3.symm⟩
      · left;exact λx=>h x.symm
  have one:∀e:UInt8,([e]:List UInt8).isPrefixOf (c::r)=decide (c=e):=λe=>by
    simp only [List.isPrefixOf,Bool.and_true];rw [Bool.eq_iff_iff];simp only [beq_iff_eq,decide_eq_true_eq];exact eq_comm
  have go:∀l:List UInt8,fE (l.map λe=>[e]) (c::r)=if c∈l then some [c]else none:=by
    intro l
    induction l with
    |nil=>rfl
    |cons e l ih =>
      rw [List.map_cons,fE,one e,ih];by_cases h:c=e
      · simp [h]
      · simp [h]
  have e1:fE dt (c::r)=fE ([123,125,59,58,61,43,45,42,47,40,41].map λe=>[e]) (c::r):=by
    unfold dt;rw [fE,p1,if_neg (by simp),fE,p2,if_neg (by simp)];rfl
  rw [e1,go]
  have:([c]∈dt)↔c∈([123,125,59,58,61,43,45,42,47,40,41]:List UInt8):=by
    simp [dt]
  simp only [this]
def lx(s:List UInt8)(n:Nat):Tk :=
 let a:=runN lB s n
 if a<s.length then
  let c:=s.getD a 0
  if lD c=true then yK s a
  else if lL c=true then
   let t:=dq (cr s a (runN lW s a))
   ⟨1,a,a+t.length,t,q0,if 32<t.length then 5 else 0⟩
  else match fE dt (s.drop a)with
   |some g=>⟨3,a,a+g.length,g,q0,0⟩
   |none=>⟨3,a,a,[],q0,5⟩
 else ⟨0,a,a,[],q0,0⟩
theorem No{s:List UInt8}{a j:Nat}(h1:a<=j)(h2:j<s.length):cr s a (j+1)=cr s a j ++ [s.getD j 0]:=by
 unfold cr;have e:j+1-a=(j-a)+1:=by omega
 have e2:(s.drop a)[j-a]? = some (s.getD j 0):=by
  rw [List.getElem?_drop,show a+(j-a)=j by omega];simp [List.getD,h2]
 rw [e,List.take_add_one,e2];rfl
def Np(s:List UInt8)(a b:Nat)(L:List Vl):Prop:=∃j:Nat,L=[.i j]/\a<j/\j<=b/\dq (cr s a j)=dq (cr s a b)
def Tj(L:List Vl):Nat:=match L with
 | [.i x]=>x.toNat
 |_=>0
theorem Nq{s:List UInt8}{a b:Nat}(hs:s.length < 4611686018427387904)(h1:a < b)(h2:b<=s.length)(hL:lL (s.getD a 0)=true){v:Value}
    (hv:v=nL ⟨1,a,a+(dq (cr s a b)).length,dq (cr s a b),q0,if 32<(dq (cr s a b)).length then 5 else 0⟩) :
    ∃(gL:List Vc.Vl->Prop) (jb:List Vc.Vl->Nat),gL [.i ((b:Nat):Int)]/\∀(bU:Int),gL [.i bU]->(
      ∀cd:Int,cd=IntKind.i64.wrap (bU-1) ->
      ∀cY:Int,cY=((s.length:Nat):Int) ->
      (0<=cd) /\
      (cd<cY) /\
      ∀dX:Int,dX=(((s.getD cd.toNat 0).toNat:Nat):Int) ->
      ((dX=45)->(
      ∀dV:Int,dV=IntKind.i64.wrap (bU-1) ->
      gL [.i dV]/\jb [.i dV]<jb [.i bU]))/\(¬(dX=45)->(
      ((0:Int)<=((a:Nat):Int)/\(((a:Nat):Int):Int)<=bU/\bU<=(List.length s:Int))/\∀s1:List UInt8,s1=List.take (Int.toNat bU-Int.toNat ((a:Nat):Int)) (List.drop (Int.toNat ((a:Nat):Int)) s) ->
      ∀dV:Int,dV=((s1.length:Nat):Int) ->
      ((32<dV)->(
      (.agg #[.int .i64 1,.int .i64 ((a:Nat):Int),.int .i64 bU,.string ⟨s1.toArray⟩,.int .i64 0,.int .i64 0,.int .i64 0,.int .i64 0,.int .i64 0,.int .i64 5]:Value)=v))/\(¬(32<dV)->(
      (.agg #[.int .i64 1,.int .i64 ((a:Nat):Int),.int .i64 bU,.string ⟨s1.toArray⟩,.int .i64 0,.int .i64 0,.int .i64 0,.int .i64 0,.int .i64 0,.int .i64 0]:Value)=v))))):=by
  refine⟨Np s a b,Tj,⟨b,rfl,h1,Nat.le_refl _,rfl⟩, ?_⟩;rintro bU ⟨j,hy,g1,g2,g3⟩;simp only [List.cons.injEq,Vl.i.injEq,and_true]at hy;subst hy;rintro cd rfl cY rfl;rw [zj (by omega)];refine⟨by omega,by omega, ?_⟩;rintro dX rfl;obtain⟨i,rfl⟩:∃i,j=i+1:=⟨j-1,by omega⟩;rw [show Int.toNat (((i+1:Nat):Int)-1)=i by omega];have se:=No (s:=s) (a:=a) (j:=i) (by omega) (by omega);refine aj (λh => ?_) (λh => ?_)
  · rintro dV rfl;rw [se,MT,if_pos (by omega)]at g3
    have cW:a≠i:=by
      rintro rfl
      have:=hL
      simp only [lL,Bool.or_eq_true,decide_eq_true_eq]at this;omega
    exact⟨⟨i,by rw [show ((i+1:Nat):Int)-1=(i:Int) by omega],by omega,by omega,g3⟩,by simp only [Tj];omega⟩
  · have g4:dq (cr s a b)=cr s a (i+1):=by rw [<-g3,se,MT,if_neg (by omega)]
    have hl:(cr s a (i+1)).length=i+1-a:=S0 (by omega);refine⟨⟨by omega,by omega,by omega⟩, ?_⟩;rintro s1 rfl dV rfl;rw [M4,hv,g4];have Ni:a+(cr s a (i+1)).length=i+1:=by omega
    refine aj (λh => ?_) (λh => ?_)
    · rw [if_pos (by omega),Ni];simp only [nL,q0]
    · rw [if_neg (by omega),Ni];simp only [nL,q0]
theorem Nr{w:World}{b:Nat}{t:TypeId}{l:List (List UInt8)}{n:Nat}(h:w.heap[b]? = some (.cells ((l.flatMap um).toArray) t))(hn:l.length=n):dI w (.slice (some ⟨b,0,none⟩) n n) 1 (l.flatMap um):=by
 refine .inr (.inr ⟨b,0,n,n,rfl,by rw [zf (f:=um) (c:=1) (λ_=>rfl),hn],λj u hj => ?_⟩);rw [Nat.zero_add];simp only [World.cell?,h];simpa using hj
def Ns(s:List UInt8)(a:Nat)(L:List Vl):Prop:=∃n:Nat,n<=2/\L=[.i n,.i (a:Nat),.s [],.i 0,.i 0,.i 0,.s [],.i 0,.i 0,.i 0,.i 0,.i 0,.i 0] /\
 (n<2->∀c d r,s.drop a=c::d::r -> [c,d] ∉ dt)/\(n<1->∀c r,s.drop a=c::r -> [c] ∉ dt)
def Nt(L:List Vl):Nat:=match L with
 | .i x::_=>x.toNat
 |_=>0
theorem Nu(s:List UInt8)(n:Nat){w:World}(hn:n<=s.length)(hs:s.length<4611686018427387904) :
  Calls Tryz.prog 129 #[.string ⟨s.toArray⟩,.int .i64 n] w (Vc.Ret (nL (lx s n)) w):=by
 have hR:∀a,a=runN lB s n->lx s n=if a<s.length then
  (if lD (s.getD a 0)=true then yK s a
  else if lL (s.getD a 0)=true then ⟨1,a,a+(dq (cr s a (runN lW s a))).length,dq (cr s a (runN lW s a)),q0,if 32<(dq (cr s a (runN lW s a))).length then 5 else 0⟩
  else match fE dt (s.drop a)with
   |some g=>⟨3,a,a+g.length,g,q0,0⟩
   |none=>⟨3,a,a,[],q0,5⟩)else ⟨0,a,a,[],q0,0⟩:=λa h=>by subst h;rfl
 refine XP _ s w _ ⟨uk lB s n,Aj s,⟨n,rfl,Nat.le_refl _,hn,rfl⟩, ?_⟩;rintro x1 ⟨i,hl,h1,h2,h3⟩;simp only [List.cons.injEq,Vc.Vl.i.injEq,and_true]at hl;subst hl;rintro x2 rfl;refine aj (λcn => ?_) (λkU => ?_);rotate_left
 ·have hi:i=runN lB s n:=by rw [<-h3,FN (by omega)]
  rintro x3 rfl;refine aj (λ_ => ?_) (λh=>by omega);rw [hR i hi,if_neg (by omega)];rfl
 have rT:i<s.length:=by omega
 rintro x3 rfl;refine⟨by omega,by omega, ?_⟩;rintro x4 rfl;simp only [Int.toNat_natCast];refine aj (λe => ?_) (λe => ?_)
 ·rintro x5 rfl;exact wX hs h1 rT h3 (by simp only [lB,decide_eq_true_eq];omega)
 rintro x5 rfl;refine⟨by omega,by omega, ?_⟩;rintro x6 rfl;refine aj (λe' => ?_) (λe' => ?_)
 ·rintro x7 rfl;exact wX hs h1 rT h3 (by simp only [lB,decide_eq_true_eq];omega)
 have hi:i=runN lB s n:=by rw [<-h3,HV rT (by simp only [lB,decide_eq_false_iff_not];omega)]
 rw [hR i hi,if_pos rT];clear hR h1 h2 h3 hi e e';rintro x7 rfl;refine aj (λh=>by omega) (λ_ => ?_);rintro x8 rfl;refine⟨by omega,by omega, ?_⟩;rintro x9 rfl;refine⟨_,λw' _=>B0 _ w',aj (λhD => ?_) (λhD => ?_)⟩
 ·rw [if_pos hD];exact⟨_,_,_,_,_,_,_,_,_,_,λw' _=>Yj s i (by omega) hs w',rfl⟩
 rw [if_neg hD];rintro bd rfl;refine⟨by omega,by omega, ?_⟩;rintro aS rfl;refine⟨_,λw' _=>S7 _ w',aj (λhL => ?_) (λhL => ?_)⟩
 ·rw [if_pos hL];refine⟨uk lW s i,Aj s,⟨i,rfl,Nat.le_refl _,by omega,rfl⟩, ?_⟩;have Kd:lW (s.getD i 0)=true:=by rw [lW,hL,Bool.true_or]
  have yj:i<runN lW s i:=by rw [<-MS rT Kd];have:=Ds lW s (i+1);omega
  have Tf:runN lW s i<=s.length:=BW (by omega);have fin:=Nq hs yj Tf hL rfl;rintro aW ⟨j,hl,g1,g2,g3⟩;simp only [List.cons.injEq,Vc.Vl.i.injEq,and_true]at hl;subst hl;rintro bC rfl;refine aj (λnG => ?_) (λkU => ?_)
  ·have hj:j<s.length:=by omega
   rintro bn rfl;refine⟨by omega,by omega, ?_⟩;rintro bJ rfl;simp only [Int.toNat_natCast];refine⟨_,λw' _=>S7 _ w',aj (λe => ?_) (λe => ?_)⟩
   ·rintro aY rfl;exact wX hs g1 hj g3 (by rw [lW,e,Bool.true_or])
   rintro aY rfl;refine⟨by omega,by omega, ?_⟩;rintro bE rfl;refine⟨_,λw' _=>B0 _ w',aj (λe' => ?_) (λe' => ?_)⟩
   ·rintro bx rfl;exact wX hs g1 hj g3 (by rw [lW,e',Bool.true_or,Bool.or_true])
   rintro bx rfl;refine⟨by omega,by omega, ?_⟩;rintro bX rfl;refine aj (λe2 => ?_) (λe2 => ?_)
   ·rintro bU rfl;exact wX hs g1 hj g3 (by rw [lW,decide_eq_true (by omega),Bool.or_true,Bool.or_true])
   have yz:j=runN lW s i:=by rw [<-g3,HV hj (by rw [lW,Bool.eq_false_iff.2 e,Bool.eq_false_iff.2 e',decide_eq_false (by omega)];rfl)]
   rw [yz];exact fin
  ·have yz:j=runN lW s i:=by rw [<-g3,FN (by omega)]
   rw [yz];exact fin
 rw [if_neg hL];have wV:∃c r,s.drop i=c::r:=⟨_,_,List.drop_eq_getElem_cons rT⟩;obtain⟨c0,r0,wV⟩:=wV;refine⟨Ns s i,Nt,⟨2,by omega,rfl,λh=>by omega,λh=>by omega⟩, ?_⟩;rintro aW bC s1 bn bJ aY s2 bE bx bX bU cd cY ⟨m,hm,hl,hA,hB⟩;simp only [List.cons.injEq,Vc.Vl.i.injEq,Vc.Vl.s.injEq,and_true]at hl;obtain⟨rfl,rfl,rfl,rfl,rfl,rfl,rfl,rfl,rfl,rfl,rfl,rfl,rfl⟩:=hl;refine aj (λFo => ?_) (λFo => ?_);rotate_left
 ·have zN:m=0:=by omega
  rw [wV,Ti (λd t ht=>hA (by omega) c0 d t (by rw [wV,ht])),if_neg (hB (by omega) c0 r0 wV)];rfl
 have dec:∀x:Int,x=IntKind.i64.wrap ((m:Int)-1)->x=((m-1:Nat):Int):=λx hx=>by rw [hx,zj (by omega)];omega
 rintro dX rfl dV rfl;rw [zj (by omega)];refine aj (λhle => ?_) (λhle => ?_);rotate_left
 ·rintro gK hx;rw [dec _ hx];have hlen:(s.drop i).length<m:=by rw [List.length_drop];omega
  refine⟨⟨m-1,by omega,rfl,λ_ c d r hq => ?_,λh1 c r hq => ?_⟩,by simp only [Nt];omega⟩
  ·rw [hq]at hlen;simp at hlen;omega
  ·rw [hq]at hlen;simp at hlen;omega
 rintro gK rfl;rw [zj (by omega)];refine⟨⟨by omega,by omega,by omega⟩, ?_⟩;rintro s3 rfl
 have hcut:List.take (Int.toNat ((i:Int)+(m:Int))-i) (List.drop i s)=(s.drop i).take m:=by
  rw [show Int.toNat ((i:Int)+(m:Int))=i+m by omega,Nat.add_sub_cancel_left]
 refine⟨idxOf dt ((s.drop i).take m),λβ w' hb zN => ?_,aj (λhx => ?_) (λhx => ?_)⟩
 ·rw [hcut];exact M_ dt _ (Nr (l:=dt) zN.1.2 rfl) (by decide)
 ·rw [Th]at hx;rintro gN rfl;refine⟨⟨by omega,by omega,by omega⟩, ?_⟩;rintro s4 rfl;rw [hcut];have C9:((s.drop i).take m).length=m:=by rw [List.length_take,List.length_drop];omega
  have HL:fE dt (s.drop i)=some ((s.drop i).take m):=by
   rcases (show m=1∨m=2 by omega)with rfl|rfl
   ·rw [wV]at hx ⊢;rw [Ti (λd t ht=>hA (by omega) c0 d t (by rw [wV,ht]))];exact if_pos hx
   ·obtain⟨c,d,r,hq⟩:∃c d r,s.drop i=c::d::r:=by
     have h2:2<=(s.drop i).length:=by rw [List.length_drop];omega
     match hq:s.drop i with
     | []=>rw [hq]at h2;simp at h2
     | [c]=>rw [hq]at h2;simp at h2
     |c::d::r=>exact⟨c,d,r,rfl⟩
    rw [hq]at hx ⊢;exact Nn hx
  rw [HL];simp only [nL,q0,C9,Int.natCast_add]
 ·rintro gN xr;rw [show gN=((m-1:Nat):Int) by omega];rw [Th]at hx;refine⟨⟨m-1,by omega,rfl,λh2 c d r hq => ?_,λh1 c r hq => ?_⟩,by simp only [Nt];omega⟩
  ·rcases (show m=1∨m=2 by omega)with rfl|rfl
   ·exact hA (by omega) c d r hq
   ·rw [hq]at hx;exact hx
  ·obtain rfl:m=1:=by omega
   rw [hq]at hx;exact hx
theorem Nv(s:List UInt8)(n:Nat):(lx s n).kind=(fF s n).kind/\(lx s n).fr=(fF s n).fr/\(lx s n).to=(fF s n).to/\(lx s n).text=(fF s n).text/\((fF s n).kind≠2->lx s n=fF s n):=by
 unfold lx fF;simp only [];by_cases h:runN lB s n<s.length
 ·rw [if_pos h,if_pos h];by_cases hD:lD (s.getD (runN lB s n) 0)=true
  ·have hL:¬lL (s.getD (runN lB s n) 0)=true:=by
    have:=(Al _).1 hD
    simp only [lL,Bool.or_eq_true,decide_eq_true_eq];omega
   rw [if_pos hD,if_neg hL,if_pos hD];exact⟨rfl,rfl,rfl,rfl,λh=>(h rfl).elim⟩
  ·rw [if_neg hD,if_neg hD];exact⟨rfl,rfl,rfl,rfl,λ_=>rfl⟩
 ·rw [if_neg h,if_neg h];exact⟨rfl,rfl,rfl,rfl,λ_=>rfl⟩
theorem Nw(s:List UInt8)(hs:s.length<4611686018427387904)(w:World):Calls Tryz.prog 94 #[.string ⟨s.toArray⟩] w (Vc.Ret (.bool (du s)) w):=by
 refine XQ s w _ ⟨_,_,_,_,_,_,_,_,_,_,λw' hb=>Nu s 0 (Nat.zero_le _) hs, ?_⟩;obtain⟨t1,t2,t3,t4,t5⟩:=Nv s 0;unfold du;rw [t1];refine aj (λh1 => ?_) (λh1 => ?_);rotate_left
 ·rw [decide_eq_false (by omega),Bool.false_and]
 rw [t5 (by omega)];generalize fF s 0=t at h1 ⊢;refine aj (λh2=>aj (λh3 => ?_) (λh3 => ?_)) (λh2 => ?_)
 ·rintro x9 rfl;refine aj (λh4=>⟨_,λw' hb=>Yi s w', ?_⟩) (λh4 => ?_)
  ·rw [decide_eq_true ⟨h1,h2,by omega,by omega⟩,Bool.true_and]
  ·rw [decide_eq_false (by omega),Bool.false_and]
 all_goals rw [decide_eq_false (by omega),Bool.false_and]
end Go.Proofs.YtocleppbcngcjaaGreatDoor
end
section
set_option linter.unusedVariables false
set_option linter.unusedSimpArgs false
namespace Vc
open Go
section
variable {α:Type}
theorem H3{dU:α->List Value}{n:Nat}(hn:∀a,(dU a).length=n):∀(l:List α) (i:Nat),(l.flatMap dU).drop (i*n)=(l.drop i).flatMap dU
  |l,0=>by simp
  | [],i+1=>by simp
  |a::r,i+1=>by
    rw [List.flatMap_cons,List.drop_succ_cons,<-H3 hn r i,Nat.succ_mul,Nat.add_comm,<-List.drop_drop];congr 1;rw [<-hn a,List.drop_left]
theorem Tm{dU:α->List Value}{n:Nat}(hn:∀a,(dU a).length=n):∀(l:List α),(l.flatMap dU).length=l.length*n
 | []=>by simp
 |a::r=>by rw [List.flatMap_cons,List.length_append,hn,Tm hn r,List.length_cons,Nat.succ_mul,Nat.add_comm]
theorem Nx{dU:α->List Value}{n:Nat}(hn:∀a,(dU a).length=n){l:List α}{i k:Nat}{a:α}(h:l[i]? = some a)(hk:k<n):(l.flatMap dU)[i*n+k]? = (dU a)[k]? := by
 rw [<-List.getElem?_drop,H3 hn]
 have:l.drop i=a::l.drop (i+1):=by
  obtain⟨h1,h2⟩:=List.getElem?_eq_some_iff.1 h;rw [List.drop_eq_getElem_cons h1,h2]
 rw [this,List.flatMap_cons,List.getElem?_append_left (by rw [hn];exact hk)]
theorem FZ{dU:α->List Value}{n:Nat}(hn:∀a,(dU a).length=n)(h0:0<n){a:α}{r:List α}(h:(a::r).flatMap dU=[]):False:=by
 have:=congrArg List.length h
 rw [List.flatMap_cons,List.length_append,hn,List.length_nil]at this;omega
theorem Tn{dU:α->List Value}{ks:List CK}{n:Nat}(hn:∀a,(dU a).length=n)(h0:0<n)(sR:ks.length<=n)(hk:∀a,eH ks ((dU a).take ks.length)=true):∀(f:Nat) (l:List α),hU ks n f (l.flatMap dU)=true
  |0,_=>rfl
  |f+1,[]=>rfl
  |f+1,a::r=>by
    have e1:((a::r).flatMap dU).take ks.length=(dU a).take ks.length:=by rw [List.flatMap_cons,List.take_append_of_le_length (by rw [hn];exact sR)]
    have e2:((a::r).flatMap dU).drop n=r.flatMap dU:=by have:=H3 hn (a::r) 1;simpa using this
    have cW:(a::r).flatMap dU ≠ []:=λh=>FZ hn h0 h;cases hc:(a::r).flatMap dU with
    |nil=>exact (cW hc).elim
    |cons x y =>
      rw [hU,<-hc,e1,e2,hk,Tn hn h0 sR hk f r]
      · rfl
      · intro h;cases h
theorem Yk{dU:α->List Value}{ks:List CK}{n:Nat}(hn:∀a,(dU a).length=n)(h0:0<n)(sR:ks.length<=n)(hk:∀a,eH ks ((dU a).take ks.length)=true)(l:List α):iS ks n (l.flatMap dU)=true:=Tn hn h0 sR hk _ l
theorem To{dU:α->List Value}{nk n:Nat}(hn:∀a,(dU a).length=n)(h0:0<n)(hk:nk<=n)(key:List Value):∀(f:Nat) (l:List α),l.length<=f->cg nk n key f (l.flatMap dU)=l.findIdx? (λa=>iy key ((dU a).take nk))
  |0,l,h=>by
    have:l=[]:=by cases l with|nil=>rfl|cons a r=>simp at h
    subst this;rfl
  |f+1,[],_=>rfl
  |f+1,a::r,h=>by
    have e1:((a::r).flatMap dU).take nk=(dU a).take nk:=by rw [List.flatMap_cons,List.take_append_of_le_length (by rw [hn];exact hk)]
    have e2:((a::r).flatMap dU).drop n=r.flatMap dU:=by have:=H3 hn (a::r) 1;simpa using this
    have cW:(a::r).flatMap dU ≠ []:=λh=>FZ hn h0 h;rw [List.findIdx?_cons,<-To hn h0 hk key f r (by simpa using h)];cases hc:(a::r).flatMap dU with
    |nil=>exact (cW hc).elim
    |cons x y =>
      rw [cg,<-hc,e1,e2];intro h;cases h
theorem Ym{dU:α->List Value}{nk n:Nat}(hn:∀a,(dU a).length=n)(h0:0<n)(hk:nk<=n)(key:List Value)(l:List α):fC nk n key (l.flatMap dU)=match l.findIdx? (λa=>iy key ((dU a).take nk))with|some i=>(i:Int)|none => -1:=by
 unfold fC;rw [To hn h0 hk key _ l (by rw [Tm hn];exact Nat.le_mul_of_pos_right _ h0)];rfl
end
def sK(s:List UInt8):Value := .string ⟨s.toArray⟩
theorem Ny(a b:List UInt8):nX (sK a) (sK b)=decide (a=b):=by simp [nX,sK]
def jI(s:List UInt8):List Value := [sK s,.bool true]
theorem Nz(s:List UInt8):(jI s).length=2:=rfl
theorem H4(l:List (List UInt8)):iS [.str] 2 (l.flatMap jI)=true:=Yk Nz (by decide) (by decide) (λa=>rfl) l
theorem Tp(s:List UInt8)(l:List (List UInt8)):fC 1 2 [sK s] (l.flatMap jI)=match l.findIdx? (λa=>decide (s=a))with|some i=>(i:Int)|none => -1:=by
 rw [Ym Nz (by decide) (by decide)]
 have:(λa=>iy [sK s] ((jI a).take 1))=λa=>decide (s=a):=by
  funext a;simp only [jI,List.take_succ_cons,List.take_zero,iy,Bool.and_true,Ny]
 rw [this]
theorem B2{s:List UInt8}{l:List (List UInt8)}:(0<=fC 1 2 [sK s] (l.flatMap jI))↔s∈l:=by
  rw [Tp];cases h:l.findIdx? (λa=>decide (s=a))with
  |none =>
    simp only [List.findIdx?_eq_none_iff,decide_eq_false_iff_not]at h;simp only [show ¬(0:Int) <= -1 by decide,false_iff];intro hm;exact h s hm rfl
  |some i =>
    simp only [List.findIdx?_eq_some_iff_getElem,decide_eq_true_eq]at h;obtain⟨h1,h2,_⟩:=h;simp only [Int.natCast_nonneg,true_iff];rw [h2];exact List.getElem_mem h1
theorem Tq{s:List UInt8}{l:List (List UInt8)}(h:s∈l):(l.flatMap jI)[(fC 1 2 [sK s] (l.flatMap jI)).toNat*2+1]? = some (.bool true):=by
  have h0:=B2.2 h;rw [Tp]at h0 ⊢;cases h:l.findIdx? (λa=>decide (s=a))with
  |none=>rw [h]at h0;simp at h0
  |some i =>
    simp only [List.findIdx?_eq_some_iff_getElem,decide_eq_true_eq]at h;obtain⟨h1,h2,_⟩:=h;simp only [Int.toNat_natCast];rw [Nx Nz (List.getElem?_eq_getElem h1) (by decide)];rfl
end Vc
end
section
set_option linter.unusedVariables false
set_option linter.unusedSimpArgs false
namespace Go.Proofs.YtocleppbcngcjaaGreatDoor
open Go Go.RowKit Vc
structure En where
 nm:List UInt8
 n:Int
 (tl th fl fh le sl sh pl ph:Int)
def enc(e:En):List Value := [.string ⟨e.nm.toArray⟩,.int .i64 e.n,.int .i64 e.tl,.int .i64 e.th,.int .i64 e.fl,.int .i64 e.fh,.int .i64 e.le,.int .i64 e.sl,.int .i64 e.sh,.int .i64 e.pl,.int .i64 e.ph]
theorem zm(e:En):(enc e).length=11:=rfl
structure cD where
 nm:List UInt8
 (dl dh pl ph:Int)
 v:Value
 es:List En
def jJ(s:cD):List Value := [.string ⟨s.nm.toArray⟩,.int .i64 s.dl,.int .i64 s.dh,.int .i64 s.pl,.int .i64 s.ph,s.v]
theorem zk(s:cD):(jJ s).length=6:=rfl
structure Pt where
 (a lo hi:Int)
def rh(p:Pt):List Value := [.int .i64 p.a,.int .i64 p.lo,.int .i64 p.hi]
theorem ri(p:Pt):(rh p).length=3:=rfl
structure Vh where
 nm:List UInt8
 sv:Value
 ss:List cD
 (yl yh:Int)
 dv:Value
 dr:List Pt
 (ax be:Int)
def fL(v:Vh):Value := .agg #[.string ⟨v.nm.toArray⟩,v.sv,.int .i64 v.yl,.int .i64 v.yh,v.dv,.int .i64 v.ax,.int .i64 v.be]
structure fZ(w:World)(v:Vh):Prop where
 st:dI w v.sv 6 (v.ss.flatMap jJ)
 es:∀s∈v.ss,dI w s.v 11 (s.es.flatMap enc)
 dr:dI w v.dv 3 (v.dr.flatMap rh)
structure iv(v:Vh):Prop where
 nm:v.nm.length<4611686018427387904
 st:∀s∈v.ss,s.nm.length<4611686018427387904/\s.es.length<4611686018427387904/\∀e∈s.es,e.nm.length<4611686018427387904
 sn:v.ss.length<4611686018427387904
 dn:v.dr.length<4611686018427387904
theorem fZ.below{w w':World}{v:Vh}(hb:Below w.heap.size w w')(h:fZ w v):fZ w' v:=⟨wY hb h.st,λs hs=>wY hb (h.es s hs),wY hb h.dr⟩
def iw(lo hi least:Int):Bool:=decide (least<=lo) && decide (lo<=hi) && decide (hi<=4503599627370496)
def ly(e:En):Bool:=decide (1<=e.n) && decide (e.n<=64) && iw e.tl e.th 1 && iw e.fl e.fh 1 && (decide (0<=e.le) && decide (e.le<=4294967296)) && iw e.sl e.sh 0 && iw e.pl e.ph 0
def e_(prev:List (List UInt8))(e:En):Int:=if du e.nm=false then 2 else if e.nm∈prev then 8 else if ly e=false then 4 else 0
def uo(F:Nat->Int):Nat->Nat->Option (Nat × Int)
 |0,_=>none
 |m+1,i=>if F i=0 then uo F m (i+1)else some (i,F i)
theorem NA{F:Nat->Int}:∀(m i j:Nat),i<=j->j<i+m->(∀t,i<=t->t<j->F t=0)->F j≠0->uo F m i=some (j,F j)
  |0,i,j,h1,h2,_,_=>by omega
  |m+1,i,j,h1,h2,h3,h4=>by
    rcases Nat.eq_or_lt_of_le h1 with rfl|h
    · rw [uo,if_neg h4]
    · rw [uo,if_pos (h3 i (Nat.le_refl _) h)];exact NA m (i+1) j h (by omega) (λt h5 h6=>h3 t (by omega) h6) h4
theorem NB{F:Nat->Int}:∀(m i:Nat),(∀t,i<=t->t<i+m->F t=0)->uo F m i=none
  |0,i,_=>rfl
  |m+1,i,h=>by
    rw [uo,if_pos (h i (Nat.le_refl _) (by omega))];exact NB m (i+1) λt h1 h2=>h t (by omega) (by omega)
def jK(pe:List (List UInt8))(es:List En)(k:Nat):Int:=match es[k]? with
 |some e=>e_ (pe++(es.take k).map (·.nm)) e
 |none=>0
def iE(pe:List (List UInt8))(es:List En):Int:=match uo (jK pe es) es.length 0 with
 |some (_,e)=>e
 |none=>0
def fw(ps pe:List (List UInt8))(s:cD):Int:=if du s.nm=false then 2 else if s.nm∈ps then 8 else if (iw s.dl s.dh 1 && iw s.pl s.ph 0)=false then 4 else if 16<s.es.length then 3 else iE pe s.es
def bZ(ss:List cD):List (List UInt8):=ss.map (·.nm)
def br(ss:List cD):List (List UInt8):=ss.flatMap λs=>s.es.map (·.nm)
def jL(ss:List cD)(i:Nat):Int:=match ss[i]? with
 |some s=>fw (bZ (ss.take i)) (br (ss.take i)) s
 |none=>0
def jM:Int->List Pt->Bool
 |_,[]=>true
 |last,p::r=>decide (last<p.a) && decide (p.a<=4503599627370496) && iw p.lo p.hi 0 && jM p.a r
def jc(l:List Pt):Bool:=jM (-1) l && (decide (1<=l.length) && decide (l.length<=64))
def fx(n:Int):Bool:=decide (1<=n) && decide (n<=4503599627370496)
def dT(v:Vh):Int × Int × Int :=
 if du v.nm=false∨v.ss.length=0 then (0,0,2)
 else if 8<v.ss.length then (0,0,3)
 else match uo (jL v.ss) v.ss.length 0 with
  |some (i,e)=>(1,(i:Int),e)
  |none=>if iw v.yl v.yh 0=false then (2,0,4)else if jc v.dr=false then (3,0,2)else if (fx v.ax && fx v.be)=false then (4,0,4)else (0,0,0)
def CV(r:Int × Int × Int):Value := .tuple #[.int .i64 r.1,.int .i64 r.2.1,.int .i64 r.2.2]
theorem Tr{pe:List (List UInt8)}{es:List En}{k:Nat}{e:En}(he:es[k]? = some e)(h1:∀t,t<k->jK pe es t=0)(h2:e_ (pe++(es.take k).map (·.nm)) e≠0):iE pe es=e_ (pe++(es.take k).map (·.nm)) e:=by
 have hk:k<es.length:=(List.getElem?_eq_some_iff.1 he).1;have hg:jK pe es k=e_ (pe++(es.take k).map (·.nm)) e:=by unfold jK;rw [he]
 unfold iE;rw [NA es.length 0 k (Nat.zero_le _) (by omega) (λt _ h=>h1 t h) (by rw [hg];exact h2)];exact hg
theorem NC{pe:List (List UInt8)}{es:List En}(h1:∀t,t<es.length->jK pe es t=0):iE pe es=0:=by
 unfold iE;rw [NB es.length 0 (λt _ h=>h1 t (by omega))]
theorem Ts{v:Vh}(h1:du v.nm=true)(h2:v.ss.length≠0)(h3:¬8<v.ss.length){i:Nat}{s:cD}(hs:v.ss[i]? = some s)(h4:∀t,t<i->jL v.ss t=0)(h5:fw (bZ (v.ss.take i)) (br (v.ss.take i)) s≠0) :
  CV (1,(i:Int),fw (bZ (v.ss.take i)) (br (v.ss.take i)) s)=CV (dT v):=by
 have hi:i<v.ss.length:=(List.getElem?_eq_some_iff.1 hs).1;have hg:jL v.ss i=fw (bZ (v.ss.take i)) (br (v.ss.take i)) s:=by unfold jL;rw [hs]
 unfold dT;rw [if_neg (by rw [h1];simp [h2]),if_neg h3,NA v.ss.length 0 i (Nat.zero_le _) (by omega) (λt _ h=>h4 t h) (by rw [hg];exact h5),hg]
theorem Tt{v:Vh}(h1:du v.nm=true)(h2:v.ss.length≠0)(h3:¬8<v.ss.length)(h4:∀t,t<v.ss.length->jL v.ss t=0) :
  dT v=if iw v.yl v.yh 0=false then (2,0,4)else if jc v.dr=false then (3,0,2)else if (fx v.ax && fx v.be)=false then (4,0,4)else (0,0,0):=by
 unfold dT;rw [if_neg (by rw [h1];simp [h2]),if_neg h3,NB v.ss.length 0 (λt _ h=>h4 t (by omega))]
theorem Tu{ss:List cD}{i:Nat}{s:cD}(h:ss[i]? = some s):br (ss.take (i+1))=br (ss.take i)++s.es.map (·.nm):=by
 unfold br;rw [List.take_add_one,h];simp
theorem Tv{ss:List cD}{i:Nat}{s:cD}(h:ss[i]? = some s):bZ (ss.take (i+1))=bZ (ss.take i) ++ [s.nm]:=by
 unfold bZ;rw [List.take_add_one,h];simp
end Go.Proofs.YtocleppbcngcjaaGreatDoor
end
