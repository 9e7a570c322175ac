import Derived.Test.YtpfgephckjpcjaaGreatDoorLg
set_option linter.unusedVariables false
set_option linter.unusedSimpArgs false
set_option maxRecDepth 4000
namespace Go.Proofs.YtpfgephckjpcjaaGreatDoor
open Go Go.RowKit Vc
attribute [local irreducible] Go.Calls
theorem Sd(l:List (List UInt8))(s:List UInt8):0<=idxOf l s↔s∈l:=by
  induction l with
  |nil=>simp [idxOf]
  |cons e r ih =>
    have:=MB r s
    unfold idxOf;by_cases h:e=s
    · rw [if_pos h];simp [h]
    · rw [if_neg h];split
      · rename_i h2;rw [h2]at ih;simp only [List.mem_cons];constructor
        · intro h3;omega
        · rintro (rfl|h3)
          · exact (h rfl).elim
          · have:=ih.2 h3;omega
      · have:¬s=e:=λx=>h x.symm
        simp only [List.mem_cons,this,false_or,<-ih];omega
theorem MO{c d:UInt8}{r:List UInt8}(h:[c,d]∈dA):fe dA (c::d::r)=some [c,d]:=by
 simp only [dA,List.mem_cons,List.cons.injEq,and_true,List.not_mem_nil,or_false,reduceCtorEq,and_false]at h;rcases h with ⟨rfl,rfl⟩|⟨rfl,rfl⟩<;>rfl
theorem Se{c:UInt8}{r:List UInt8}(h2:∀d t,r=d::t -> [c,d] ∉ dA):fe dA (c::r)=if [c]∈dA then some [c]else none:=by
  have p1:([43,45]:List UInt8).isPrefixOf (c::r)=false:=by
    cases r with
    |nil=>simp [List.isPrefixOf]
    |cons d t =>
      have:=h2 d t rfl
      simp only [dA,List.mem_cons,List.cons.injEq,and_true,List.not_mem_nil,or_false,reduceCtorEq,and_false,not_or]at this;simp only [List.isPrefixOf,Bool.and_true,Bool.and_eq_false_iff,beq_eq_false_iff_ne];by_cases h:c=43
      · right;intro h3;exact this.1 ⟨h,h3.symm⟩
      · left;exact λx=>h x.symm
  have p2:([46,46]:List UInt8).isPrefixOf (c::r)=false:=by
    cases r with
    |nil=>simp [List.isPrefixOf]
    |cons d t =>
      have:=h2 d t rfl
      simp only [dA,List.mem_cons,List.cons.injEq,and_true,List.not_mem_nil,or_false,reduceCtorEq,and_false,not_or]at this;simp only [List.isPrefixOf,Bool.and_true,Bool.and_eq_false_iff,beq_eq_false_iff_ne];by_cases h:c=46
      · right;intro h3;exact this.2 ⟨h,h3.symm⟩
      · left;exact λx=>h x.symm
  have one:∀e:UInt8,([e]:List UInt8).isPrefixOf (c::r)=decide (c=e):=λe=>by
    simp only [List.isPrefixOf,Bool.and_true];rw [Bool.eq_iff_iff];simp only [beq_iff_eq,decide_eq_true_eq];exact eq_comm
  have go:∀l:List UInt8,fe (l.map λe=>[e]) (c::r)=if c∈l then some [c]else none:=by
    intro l
    induction l with
    |nil=>rfl
    |cons e l ih =>
      rw [List.map_cons,fe,one e,ih];by_cases h:c=e
      · simp [h]
      · simp [h]
  have e1:fe dA (c::r)=fe ([123,125,59,58,61,43,45,42,47,40,41].map λe=>[e]) (c::r):=by
    unfold dA;rw [fe,p1,if_neg (by simp),fe,p2,if_neg (by simp)];rfl
  rw [e1,go]
  have:([c]∈dA)↔c∈([123,125,59,58,61,43,45,42,47,40,41]:List UInt8):=by
    simp [dA]
  simp only [this]
def jl(s:List UInt8)(n:Nat):Tk :=
 let a:=runN lB s n
 if a<s.length then
  let c:=s.getD a 0
  if lD c=true then uR s a
  else if lL c=true then
   let t:=dY (cN s a (runN lW s a))
   ⟨1,a,a+t.length,t,q0,if 32<t.length then 5 else 0⟩
  else match fe dA (s.drop a)with
   |some g=>⟨3,a,a+g.length,g,q0,0⟩
   |none=>⟨3,a,a,[],q0,5⟩
 else ⟨0,a,a,[],q0,0⟩
theorem MP{s:List UInt8}{a j:Nat}(h1:a<=j)(h2:j<s.length):cN s a (j+1)=cN s a j ++ [s.getD j 0]:=by
 unfold cN;have e:j+1-a=(j-a)+1:=by omega
 have e2:(s.drop a)[j-a]? = some (s.getD j 0):=by
  rw [List.getElem?_drop,show a+(j-a)=j by omega];simp [List.getD,h2]
 rw [e,List.take_add_one,e2];rfl
def MQ(s:List UInt8)(a b:Nat)(L:List Vl):Prop:=∃j:Nat,L=[.i j]/\a<j/\j<=b/\dY (cN s a j)=dY (cN s a b)
def Sf(L:List Vl):Nat:=match L with
 | [.i x]=>x.toNat
 |_=>0
theorem MR{s:List UInt8}{a b:Nat}(hs:s.length < 4611686018427387904)(h1:a < b)(h2:b<=s.length)(hL:lL (s.getD a 0)=true){v:Value}
    (hv:v=nh ⟨1,a,a+(dY (cN s a b)).length,dY (cN s a b),q0,if 32<(dY (cN s a b)).length then 5 else 0⟩) :
    ∃(sU:List Vc.Vl->Prop) (w7:List Vc.Vl->Nat),sU [.i ((b:Nat):Int)]/\∀(a_:Int),sU [.i a_]->(
      ∀bC:Int,bC=IntKind.i64.wrap (a_-1) ->
      ∀bI:Int,bI=((s.length:Nat):Int) ->
      (0<=bC) /\
      (bC<bI) /\
      ∀bu:Int,bu=(((s.getD bC.toNat 0).toNat:Nat):Int) ->
      ((bu=45)->(
      ∀bJ:Int,bJ=IntKind.i64.wrap (a_-1) ->
      sU [.i bJ]/\w7 [.i bJ]<w7 [.i a_]))/\(¬(bu=45)->(
      ((0:Int)<=((a:Nat):Int)/\(((a:Nat):Int):Int)<=a_/\a_<=(List.length s:Int))/\∀s1:List UInt8,s1=List.take (Int.toNat a_-Int.toNat ((a:Nat):Int)) (List.drop (Int.toNat ((a:Nat):Int)) s) ->
      ∀bJ:Int,bJ=((s1.length:Nat):Int) ->
      ((32<bJ)->(
      (.agg #[.int .i64 1,.int .i64 ((a:Nat):Int),.int .i64 a_,.string ⟨s1.toArray⟩,.int .i64 0,.int .i64 0,.int .i64 0,.int .i64 0,.int .i64 0,.int .i64 5]:Value)=v))/\(¬(32<bJ)->(
      (.agg #[.int .i64 1,.int .i64 ((a:Nat):Int),.int .i64 a_,.string ⟨s1.toArray⟩,.int .i64 0,.int .i64 0,.int .i64 0,.int .i64 0,.int .i64 0,.int .i64 0]:Value)=v))))):=by
  refine⟨MQ s a b,Sf,⟨b,rfl,h1,Nat.le_refl _,rfl⟩, ?_⟩;rintro a_ ⟨j,hy,g1,g2,g3⟩;simp only [List.cons.injEq,Vl.i.injEq,and_true]at hy;subst hy;rintro bC rfl bI rfl;rw [zk (by omega)];refine⟨by omega,by omega, ?_⟩;rintro bu rfl;obtain⟨i,rfl⟩:∃i,j=i+1:=⟨j-1,by omega⟩;rw [show Int.toNat (((i+1:Nat):Int)-1)=i by omega];have Sh:=MP (s:=s) (a:=a) (j:=i) (by omega) (by omega);refine aa (λh => ?_) (λh => ?_)
  · rintro bJ rfl;rw [Sh,LN,if_pos (by omega)]at g3
    have iS:a≠i:=by
      rintro rfl
      have:=hL
      simp only [lL,Bool.or_eq_true,decide_eq_true_eq]at this;omega
    exact⟨⟨i,by rw [show ((i+1:Nat):Int)-1=(i:Int) by omega],by omega,by omega,g3⟩,by simp only [Sf];omega⟩
  · have g4:dY (cN s a b)=cN s a (i+1):=by rw [<-g3,Sh,LN,if_neg (by omega)]
    have hl:(cN s a (i+1)).length=i+1-a:=LO (by omega);refine⟨⟨by omega,by omega,by omega⟩, ?_⟩;rintro s1 rfl bJ rfl;rw [Mw,hv,g4];have ML:a+(cN s a (i+1)).length=i+1:=by omega
    refine aa (λh => ?_) (λh => ?_)
    · rw [if_pos (by omega),ML];simp only [nh,q0]
    · rw [if_neg (by omega),ML];simp only [nh,q0]
theorem MS{w:World}{b:Nat}{t:TypeId}{l:List (List UInt8)}{n:Nat}(h:w.heap[b]? = some (.cells ((l.flatMap uP).toArray) t))(hn:l.length=n):vT w (.slice (some ⟨b,0,none⟩) n n) 1 (l.flatMap uP):=by
 refine .inr (.inr ⟨b,0,n,n,rfl,by rw [Mz (f:=uP) (c:=1) (λ_=>rfl),hn],λj u hj => ?_⟩);rw [Nat.zero_add];simp only [World.cell?,h];simpa using hj
def MT(s:List UInt8)(a:Nat)(L:List Vl):Prop:=∃n:Nat,n<=2/\L=[.i n,.i (a:Nat),.s [],.i 0,.i 0,.i 0,.s [],.i 0,.i 0,.i 0,.i 0,.i 0,.i 0] /\
 (n<2->∀c d r,s.drop a=c::d::r -> [c,d] ∉ dA)/\(n<1->∀c r,s.drop a=c::r -> [c] ∉ dA)
def MU(L:List Vl):Nat:=match L with
 | .i x::_=>x.toNat
 |_=>0
theorem MV(s:List UInt8)(n:Nat){w:World}(hn:n<=s.length)(hs:s.length<4611686018427387904) :
  Calls Tryz.prog 19 #[.string ⟨s.toArray⟩,.int .i64 n] w (Vc.aR (nh (jl s n)) w):=by
 have hR:∀a,a=runN lB s n->jl s n=if a<s.length then
  (if lD (s.getD a 0)=true then uR s a
  else if lL (s.getD a 0)=true then ⟨1,a,a+(dY (cN s a (runN lW s a))).length,dY (cN s a (runN lW s a)),q0,if 32<(dY (cN s a (runN lW s a))).length then 5 else 0⟩
  else match fe dA (s.drop a)with
   |some g=>⟨3,a,a+g.length,g,q0,0⟩
   |none=>⟨3,a,a,[],q0,5⟩)else ⟨0,a,a,[],q0,0⟩:=λa h=>by subst h;rfl
 refine U2 _ s w _ ⟨uO lB s n,AE s,⟨n,rfl,Nat.le_refl _,hn,rfl⟩, ?_⟩;rintro x1 ⟨i,hl,h1,h2,h3⟩;simp only [List.cons.injEq,Vc.Vl.i.injEq,and_true]at hl;subst hl;rintro x2 rfl;refine aa (λeD => ?_) (λoV => ?_);rotate_left
 ·have hi:i=runN lB s n:=by rw [<-h3,FJ (by omega)]
  rintro x3 rfl;refine aa (λ_ => ?_) (λh=>by omega);rw [hR i hi,if_neg (by omega)];rfl
 have sQ:i<s.length:=by omega
 rintro x3 rfl;refine⟨by omega,by omega, ?_⟩;rintro x4 rfl;simp only [Int.toNat_natCast];refine aa (λe => ?_) (λe => ?_)
 ·rintro x5 rfl;exact xm hs h1 sQ h3 (by simp only [lB,decide_eq_true_eq];omega)
 rintro x5 rfl;refine⟨by omega,by omega, ?_⟩;rintro x6 rfl;refine aa (λe' => ?_) (λe' => ?_)
 ·rintro x7 rfl;exact xm hs h1 sQ h3 (by simp only [lB,decide_eq_true_eq];omega)
 have hi:i=runN lB s n:=by rw [<-h3,Hw sQ (by simp only [lB,decide_eq_false_iff_not];omega)]
 rw [hR i hi,if_pos sQ];clear hR h1 h2 h3 hi e e';rintro x7 rfl;refine aa (λh=>by omega) (λ_ => ?_);rintro x8 rfl;refine⟨by omega,by omega, ?_⟩;rintro x9 rfl;refine⟨_,λw' _=>Ck _ w',aa (λhD => ?_) (λhD => ?_)⟩
 ·rw [if_pos hD];exact⟨_,_,_,_,_,_,_,_,_,_,λw' _=>WC s i (by omega) hs w',rfl⟩
 rw [if_neg hD];rintro ar rfl;refine⟨by omega,by omega, ?_⟩;rintro aC rfl;refine⟨_,λw' _=>RZ _ w',aa (λhL => ?_) (λhL => ?_)⟩
 ·rw [if_pos hL];refine⟨uO lW s i,AE s,⟨i,rfl,Nat.le_refl _,by omega,rfl⟩, ?_⟩;have JK:lW (s.getD i 0)=true:=by rw [lW,hL,Bool.true_or]
  have Aj:i<runN lW s i:=by rw [<-Hx sQ JK];have:=xX lW s (i+1);omega
  have Sa:runN lW s i<=s.length:=yZ (by omega);have fin:=MR hs Aj Sa hL rfl;rintro aA ⟨j,hl,g1,g2,g3⟩;simp only [List.cons.injEq,Vc.Vl.i.injEq,and_true]at hl;subst hl;rintro au rfl;refine aa (λyC => ?_) (λoV => ?_)
  ·have hj:j<s.length:=by omega
   rintro ao rfl;refine⟨by omega,by omega, ?_⟩;rintro aD rfl;simp only [Int.toNat_natCast];refine⟨_,λw' _=>RZ _ w',aa (λe => ?_) (λe => ?_)⟩
   ·rintro az rfl;exact xm hs g1 hj g3 (by rw [lW,e,Bool.true_or])
   rintro az rfl;refine⟨by omega,by omega, ?_⟩;rintro aS rfl;refine⟨_,λw' _=>Ck _ w',aa (λe' => ?_) (λe' => ?_)⟩
   ·rintro aU rfl;exact xm hs g1 hj g3 (by rw [lW,e',Bool.true_or,Bool.or_true])
   rintro aU rfl;refine⟨by omega,by omega, ?_⟩;rintro bh rfl;refine aa (λe2 => ?_) (λe2 => ?_)
   ·rintro a_ rfl;exact xm hs g1 hj g3 (by rw [lW,decide_eq_true (by omega),Bool.or_true,Bool.or_true])
   have FH:j=runN lW s i:=by rw [<-g3,Hw hj (by rw [lW,Bool.eq_false_iff.2 e,Bool.eq_false_iff.2 e',decide_eq_false (by omega)];rfl)]
   rw [FH];exact fin
  ·have FH:j=runN lW s i:=by rw [<-g3,FJ (by omega)]
   rw [FH];exact fin
 rw [if_neg hL];have w_:∃c r,s.drop i=c::r:=⟨_,_,List.drop_eq_getElem_cons sQ⟩;obtain⟨c0,r0,w_⟩:=w_;refine⟨MT s i,MU,⟨2,by omega,rfl,λh=>by omega,λh=>by omega⟩, ?_⟩;rintro aA au s1 ao aD az s2 aS aU bh a_ bC bI ⟨m,hm,hl,hA,hB⟩;simp only [List.cons.injEq,Vc.Vl.i.injEq,Vc.Vl.s.injEq,and_true]at hl;obtain⟨rfl,rfl,rfl,rfl,rfl,rfl,rfl,rfl,rfl,rfl,rfl,rfl,rfl⟩:=hl;refine aa (λRh => ?_) (λRh => ?_);rotate_left
 ·have C0:m=0:=by omega
  rw [w_,Se (λd t ht=>hA (by omega) c0 d t (by rw [w_,ht])),if_neg (hB (by omega) c0 r0 w_)];rfl
 have dec:∀x:Int,x=IntKind.i64.wrap ((m:Int)-1)->x=((m-1:Nat):Int):=λx hx=>by rw [hx,zk (by omega)];omega
 rintro bu rfl bJ rfl;rw [zk (by omega)];refine aa (λhle => ?_) (λhle => ?_);rotate_left
 ·rintro cL hx;rw [dec _ hx];have hlen:(s.drop i).length<m:=by rw [List.length_drop];omega
  refine⟨⟨m-1,by omega,rfl,λ_ c d r hq => ?_,λh1 c r hq => ?_⟩,by simp only [MU];omega⟩
  ·rw [hq]at hlen;simp at hlen;omega
  ·rw [hq]at hlen;simp at hlen;omega
 rintro cL rfl;rw [zk (by omega)];refine⟨⟨by omega,by omega,by omega⟩, ?_⟩;rintro s3 rfl
 have hcut:List.take (Int.toNat ((i:Int)+(m:Int))-i) (List.drop i s)=(s.drop i).take m:=by
  rw [show Int.toNat ((i:Int)+(m:Int))=i+m by omega,Nat.add_sub_cancel_left]
 refine⟨idxOf dA ((s.drop i).take m),λβ w' hb C0 => ?_,aa (λhx => ?_) (λhx => ?_)⟩
 ·rw [hcut];exact MD dA _ (MS (l:=dA) C0.1.2 rfl) (by decide)
 ·rw [Sd]at hx;rintro dO rfl;refine⟨⟨by omega,by omega,by omega⟩, ?_⟩;rintro s4 rfl;rw [hcut];have Ab:((s.drop i).take m).length=m:=by rw [List.length_take,List.length_drop];omega
  have Ht:fe dA (s.drop i)=some ((s.drop i).take m):=by
   rcases (show m=1∨m=2 by omega)with rfl|rfl
   ·rw [w_]at hx ⊢;rw [Se (λd t ht=>hA (by omega) c0 d t (by rw [w_,ht]))];exact if_pos hx
   ·obtain⟨c,d,r,hq⟩:∃c d r,s.drop i=c::d::r:=by
     have h2:2<=(s.drop i).length:=by rw [List.length_drop];omega
     match hq:s.drop i with
     | []=>rw [hq]at h2;simp at h2
     | [c]=>rw [hq]at h2;simp at h2
     |c::d::r=>exact⟨c,d,r,rfl⟩
    rw [hq]at hx ⊢;exact MO hx
  rw [Ht];simp only [nh,q0,Ab,Int.natCast_add]
 ·rintro dO yu;rw [show dO=((m-1:Nat):Int) by omega];rw [Sd]at hx;refine⟨⟨m-1,by omega,rfl,λh2 c d r hq => ?_,λh1 c r hq => ?_⟩,by simp only [MU];omega⟩
  ·rcases (show m=1∨m=2 by omega)with rfl|rfl
   ·exact hA (by omega) c d r hq
   ·rw [hq]at hx;exact hx
  ·obtain rfl:m=1:=by omega
   rw [hq]at hx;exact hx
theorem MW(s:List UInt8)(n:Nat):(jl s n).kind=(af s n).kind/\(jl s n).fr=(af s n).fr/\(jl s n).to=(af s n).to/\(jl s n).text=(af s n).text/\((af s n).kind≠2->jl s n=af s n):=by
 unfold jl af;simp only [];by_cases h:runN lB s n<s.length
 ·rw [if_pos h,if_pos h];by_cases hD:lD (s.getD (runN lB s n) 0)=true
  ·have hL:¬lL (s.getD (runN lB s n) 0)=true:=by
    have:=(y8 _).1 hD
    simp only [lL,Bool.or_eq_true,decide_eq_true_eq];omega
   rw [if_pos hD,if_neg hL,if_pos hD];exact⟨rfl,rfl,rfl,rfl,λh=>(h rfl).elim⟩
  ·rw [if_neg hD,if_neg hD];exact⟨rfl,rfl,rfl,rfl,λ_=>rfl⟩
 ·rw [if_neg h,if_neg h];exact⟨rfl,rfl,rfl,rfl,λ_=>rfl⟩
end Go.Proofs.YtpfgephckjpcjaaGreatDoor
