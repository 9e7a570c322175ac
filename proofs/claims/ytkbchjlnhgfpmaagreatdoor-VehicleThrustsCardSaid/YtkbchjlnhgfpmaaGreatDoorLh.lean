import Derived.Test.YtkbchjlnhgfpmaaGreatDoorLg
set_option linter.unusedVariables false
set_option linter.unusedSimpArgs false
set_option maxRecDepth 4000
namespace Go.Proofs.YtkbchjlnhgfpmaaGreatDoor
open Go Go.RowKit Vc
attribute [local irreducible] Go.Calls
theorem VI(l:List (List UInt8))(s:List UInt8):0<=idxOf l s↔s∈l:=by
  induction l with
  |nil=>simp [idxOf]
  |cons e r ih =>
    have:=P6 r s
    unfold idxOf;by_cases h:e=s
    · rw [if_pos h];simp [h]
    · rw [if_neg h];split
      · rename_i h2;rw [h2]at ih;simp only [List.mem_cons];constructor
        · intro h3;omega
        · rintro (rfl|h3)
          · exact (h rfl).elim
          · have:=ih.2 h3;omega
      · have:¬s=e:=λx=>h x.symm
        simp only [List.mem_cons,this,false_or,<-ih];omega
theorem Qi{c d:UInt8}{r:List UInt8}(h:[c,d]∈dQ):gv dQ (c::d::r)=some [c,d]:=by
 simp only [dQ,List.mem_cons,List.cons.injEq,and_true,List.not_mem_nil,or_false,reduceCtorEq,and_false]at h;rcases h with ⟨rfl,rfl⟩|⟨rfl,rfl⟩<;>rfl
theorem VJ{c:UInt8}{r:List UInt8}(h2:∀d t,r=d::t -> [c,d] ∉ dQ):gv dQ (c::r)=if [c]∈dQ then some [c]else none:=by
  have p1:([43,45]:List UInt8).isPrefixOf (c::r)=false:=by
    cases r with
    |nil=>simp [List.isPrefixOf]
    |cons d t =>
      have:=h2 d t rfl
      simp only [dQ,List.mem_cons,List.cons.injEq,and_true,List.not_mem_nil,or_false,reduceCtorEq,and_false,not_or]at this;simp only [List.isPrefixOf,Bool.and_true,Bool.and_eq_false_iff,beq_eq_false_iff_ne];by_cases h:c=43
      · right;intro h3;exact this.1 ⟨h,h3.symm⟩
      · left;exact λx=>h x.symm
  have p2:([46,46]:List UInt8).isPrefixOf (c::r)=false:=by
    cases r with
    |nil=>simp [List.isPrefixOf]
    |cons d t =>
      have:=h2 d t rfl
      simp only [dQ,List.mem_cons,List.cons.injEq,and_true,List.not_mem_nil,or_false,reduceCtorEq,and_false,not_or]at this;simp only [List.isPrefixOf,Bool.and_true,Bool.and_eq_false_iff,beq_eq_false_iff_ne];by_cases h:c=46
      · right;intro h3;exact this.2 ⟨h,h3.symm⟩
      · left;exact λx=>h x.symm
  have one:∀e:UInt8,([e]:List UInt8).isPrefixOf (c::r)=decide (c=e):=λe=>by
    simp only [List.isPrefixOf,Bool.and_true];rw [Bool.eq_iff_iff];simp only [beq_iff_eq,decide_eq_true_eq];exact eq_comm
  have go:∀l:List UInt8,gv (l.map λe=>[e]) (c::r)=if c∈l then some [c]else none:=by
    intro l
    induction l with
    |nil=>rfl
    |cons e l ih =>
      rw [List.map_cons,gv,one e,ih];by_cases h:c=e
      · simp [h]
      · simp [h]
  have e1:gv dQ (c::r)=gv ([123,125,59,58,61,43,45,42,47,40,41].map λe=>[e]) (c::r):=by
    unfold dQ;rw [gv,p1,if_neg (by simp),gv,p2,if_neg (by simp)];rfl
  rw [e1,go]
  have:([c]∈dQ)↔c∈([123,125,59,58,61,43,45,42,47,40,41]:List UInt8):=by
    simp [dQ]
  simp only [this]
def mr(s:List UInt8)(n:Nat):Tk :=
 let a:=runN lB s n
 if a<s.length then
  let c:=s.getD a 0
  if lD c=true then Aj s a
  else if lL c=true then
   let t:=dP (cK s a (runN lW s a))
   ⟨1,a,a+t.length,t,q0,if 32<t.length then 5 else 0⟩
  else match gv dQ (s.drop a)with
   |some g=>⟨3,a,a+g.length,g,q0,0⟩
   |none=>⟨3,a,a,[],q0,5⟩
 else ⟨0,a,a,[],q0,0⟩
theorem Qj{s:List UInt8}{a j:Nat}(h1:a<=j)(h2:j<s.length):cK s a (j+1)=cK s a j ++ [s.getD j 0]:=by
 unfold cK;have e:j+1-a=(j-a)+1:=by omega
 have e2:(s.drop a)[j-a]? = some (s.getD j 0):=by
  rw [List.getElem?_drop,show a+(j-a)=j by omega];simp [List.getD,h2]
 rw [e,List.take_add_one,e2];rfl
def Qk(s:List UInt8)(a b:Nat)(L:List Vl):Prop:=∃j:Nat,L=[.i j]/\a<j/\j<=b/\dP (cK s a j)=dP (cK s a b)
def VK(L:List Vl):Nat:=match L with
 | [.i x]=>x.toNat
 |_=>0
theorem Ql{s:List UInt8}{a b:Nat}(hs:s.length < 4611686018427387904)(h1:a < b)(h2:b<=s.length)(hL:lL (s.getD a 0)=true){v:Value}
    (hv:v=oL ⟨1,a,a+(dP (cK s a b)).length,dP (cK s a b),q0,if 32<(dP (cK s a b)).length then 5 else 0⟩) :
    ∃(iF:List Vc.Vl->Prop) (jH:List Vc.Vl->Nat),iF [.i ((b:Nat):Int)]/\∀(bn:Int),iF [.i bn]->(
      ∀bz:Int,bz=IntKind.i64.wrap (bn-1) ->
      ∀bg:Int,bg=((s.length:Nat):Int) ->
      (0<=bz) /\
      (bz<bg) /\
      ∀bL:Int,bL=(((s.getD bz.toNat 0).toNat:Nat):Int) ->
      ((bL=45)->(
      ∀bP:Int,bP=IntKind.i64.wrap (bn-1) ->
      iF [.i bP]/\jH [.i bP]<jH [.i bn]))/\(¬(bL=45)->(
      ((0:Int)<=((a:Nat):Int)/\(((a:Nat):Int):Int)<=bn/\bn<=(List.length s:Int))/\∀s1:List UInt8,s1=List.take (Int.toNat bn-Int.toNat ((a:Nat):Int)) (List.drop (Int.toNat ((a:Nat):Int)) s) ->
      ∀bP:Int,bP=((s1.length:Nat):Int) ->
      ((32<bP)->(
      (.agg #[.int .i64 1,.int .i64 ((a:Nat):Int),.int .i64 bn,.string ⟨s1.toArray⟩,.int .i64 0,.int .i64 0,.int .i64 0,.int .i64 0,.int .i64 0,.int .i64 5]:Value)=v))/\(¬(32<bP)->(
      (.agg #[.int .i64 1,.int .i64 ((a:Nat):Int),.int .i64 bn,.string ⟨s1.toArray⟩,.int .i64 0,.int .i64 0,.int .i64 0,.int .i64 0,.int .i64 0,.int .i64 0]:Value)=v))))):=by
  refine⟨Qk s a b,VK,⟨b,rfl,h1,Nat.le_refl _,rfl⟩, ?_⟩;rintro bn ⟨j,hy,g1,g2,g3⟩;simp only [List.cons.injEq,Vl.i.injEq,and_true]at hy;subst hy;rintro bz rfl bg rfl;rw [zb (by omega)];refine⟨by omega,by omega, ?_⟩;rintro bL rfl;obtain⟨i,rfl⟩:∃i,j=i+1:=⟨j-1,by omega⟩;rw [show Int.toNat (((i+1:Nat):Int)-1)=i by omega];have mY:=Qj (s:=s) (a:=a) (j:=i) (by omega) (by omega);refine ae (λh => ?_) (λh => ?_)
  · rintro bP rfl;rw [mY,O8,if_pos (by omega)]at g3
    have dt:a≠i:=by
      rintro rfl
      have:=hL
      simp only [lL,Bool.or_eq_true,decide_eq_true_eq]at this;omega
    exact⟨⟨i,by rw [show ((i+1:Nat):Int)-1=(i:Int) by omega],by omega,by omega,g3⟩,by simp only [VK];omega⟩
  · have g4:dP (cK s a b)=cK s a (i+1):=by rw [<-g3,mY,O8,if_neg (by omega)]
    have hl:(cK s a (i+1)).length=i+1-a:=Hh (by omega);refine⟨⟨by omega,by omega,by omega⟩, ?_⟩;rintro s1 rfl bP rfl;rw [P2,hv,g4];have Qf:a+(cK s a (i+1)).length=i+1:=by omega
    refine ae (λh => ?_) (λh => ?_)
    · rw [if_pos (by omega),Qf];simp only [oL,q0]
    · rw [if_neg (by omega),Qf];simp only [oL,q0]
theorem Qm{w:World}{b:Nat}{t:TypeId}{l:List (List UInt8)}{n:Nat}(h:w.heap[b]? = some (.cells ((l.flatMap vu).toArray) t))(hn:l.length=n):e_ w (.slice (some ⟨b,0,none⟩) n n) 1 (l.flatMap vu):=by
 refine .inr (.inr ⟨b,0,n,n,rfl,by rw [vQ (f:=vu) (c:=1) (λ_=>rfl),hn],λj u hj => ?_⟩);rw [Nat.zero_add];simp only [World.cell?,h];simpa using hj
def Qn(s:List UInt8)(a:Nat)(L:List Vl):Prop:=∃n:Nat,n<=2/\L=[.i n,.i (a:Nat),.s [],.i 0,.i 0,.i 0,.s [],.i 0,.i 0,.i 0,.i 0,.i 0,.i 0] /\
 (n<2->∀c d r,s.drop a=c::d::r -> [c,d] ∉ dQ)/\(n<1->∀c r,s.drop a=c::r -> [c] ∉ dQ)
def Qo(L:List Vl):Nat:=match L with
 | .i x::_=>x.toNat
 |_=>0
theorem Qp(s:List UInt8)(n:Nat){w:World}(hn:n<=s.length)(hs:s.length<4611686018427387904) :
  Calls Tryz.prog 164 #[.string ⟨s.toArray⟩,.int .i64 n] w (Vc.aI (oL (mr s n)) w):=by
 have hR:∀a,a=runN lB s n->mr s n=if a<s.length then
  (if lD (s.getD a 0)=true then Aj s a
  else if lL (s.getD a 0)=true then ⟨1,a,a+(dP (cK s a (runN lW s a))).length,dP (cK s a (runN lW s a)),q0,if 32<(dP (cK s a (runN lW s a))).length then 5 else 0⟩
  else match gv dQ (s.drop a)with
   |some g=>⟨3,a,a+g.length,g,q0,0⟩
   |none=>⟨3,a,a,[],q0,5⟩)else ⟨0,a,a,[],q0,0⟩:=λa h=>by subst h;rfl
 refine Yy _ s w _ ⟨vt lB s n,Bu s,⟨n,rfl,Nat.le_refl _,hn,rfl⟩, ?_⟩;rintro x1 ⟨i,hl,h1,h2,h3⟩;simp only [List.cons.injEq,Vc.Vl.i.injEq,and_true]at hl;subst hl;rintro x2 rfl;refine ae (λct => ?_) (λkq => ?_);rotate_left
 ·have hi:i=runN lB s n:=by rw [<-h3,Hg (by omega)]
  rintro x3 rfl;refine ae (λ_ => ?_) (λh=>by omega);rw [hR i hi,if_neg (by omega)];rfl
 have tm:i<s.length:=by omega
 rintro x3 rfl;refine⟨by omega,by omega, ?_⟩;rintro x4 rfl;simp only [Int.toNat_natCast];refine ae (λe => ?_) (λe => ?_)
 ·rintro x5 rfl;exact xR hs h1 tm h3 (by simp only [lB,decide_eq_true_eq];omega)
 rintro x5 rfl;refine⟨by omega,by omega, ?_⟩;rintro x6 rfl;refine ae (λe' => ?_) (λe' => ?_)
 ·rintro x7 rfl;exact xR hs h1 tm h3 (by simp only [lB,decide_eq_true_eq];omega)
 have hi:i=runN lB s n:=by rw [<-h3,JP tm (by simp only [lB,decide_eq_false_iff_not];omega)]
 rw [hR i hi,if_pos tm];clear hR h1 h2 h3 hi e e';rintro x7 rfl;refine ae (λh=>by omega) (λ_ => ?_);rintro x8 rfl;refine⟨by omega,by omega, ?_⟩;rintro x9 rfl;refine⟨_,λw' _=>Dh _ w',ae (λhD => ?_) (λhD => ?_)⟩
 ·rw [if_pos hD];exact⟨_,_,_,_,_,_,_,_,_,_,λw' _=>zsy s i (by omega) hs w',rfl⟩
 rw [if_neg hD];rintro az rfl;refine⟨by omega,by omega, ?_⟩;rintro aA rfl;refine⟨_,λw' _=>Vz _ w',ae (λhL => ?_) (λhL => ?_)⟩
 ·rw [if_pos hL];refine⟨vt lW s i,Bu s,⟨i,rfl,Nat.le_refl _,by omega,rfl⟩, ?_⟩;have MF:lW (s.getD i 0)=true:=by rw [lW,hL,Bool.true_or]
  have zL:i<runN lW s i:=by rw [<-O7 tm MF];have:=Eo lW s (i+1);omega
  have VF:runN lW s i<=s.length:=Da (by omega);have fin:=Ql hs zL VF hL rfl;rintro aH ⟨j,hl,g1,g2,g3⟩;simp only [List.cons.injEq,Vc.Vl.i.injEq,and_true]at hl;subst hl;rintro aP rfl;refine ae (λtk => ?_) (λkq => ?_)
  ·have hj:j<s.length:=by omega
   rintro aL rfl;refine⟨by omega,by omega, ?_⟩;rintro aS rfl;simp only [Int.toNat_natCast];refine⟨_,λw' _=>Vz _ w',ae (λe => ?_) (λe => ?_)⟩
   ·rintro aT rfl;exact xR hs g1 hj g3 (by rw [lW,e,Bool.true_or])
   rintro aT rfl;refine⟨by omega,by omega, ?_⟩;rintro aZ rfl;refine⟨_,λw' _=>Dh _ w',ae (λe' => ?_) (λe' => ?_)⟩
   ·rintro aX rfl;exact xR hs g1 hj g3 (by rw [lW,e',Bool.true_or,Bool.or_true])
   rintro aX rfl;refine⟨by omega,by omega, ?_⟩;rintro bc rfl;refine ae (λe2 => ?_) (λe2 => ?_)
   ·rintro bn rfl;exact xR hs g1 hj g3 (by rw [lW,decide_eq_true (by omega),Bool.or_true,Bool.or_true])
   have Ae:j=runN lW s i:=by rw [<-g3,JP hj (by rw [lW,Bool.eq_false_iff.2 e,Bool.eq_false_iff.2 e',decide_eq_false (by omega)];rfl)]
   rw [Ae];exact fin
  ·have Ae:j=runN lW s i:=by rw [<-g3,Hg (by omega)]
   rw [Ae];exact fin
 rw [if_neg hL];have mW:∃c r,s.drop i=c::r:=⟨_,_,List.drop_eq_getElem_cons tm⟩;obtain⟨c0,r0,mW⟩:=mW;refine⟨Qn s i,Qo,⟨2,by omega,rfl,λh=>by omega,λh=>by omega⟩, ?_⟩;rintro aH aP s1 aL aS aT s2 aZ aX bc bn bz bg ⟨m,hm,hl,hA,hB⟩;simp only [List.cons.injEq,Vc.Vl.i.injEq,Vc.Vl.s.injEq,and_true]at hl;obtain⟨rfl,rfl,rfl,rfl,rfl,rfl,rfl,rfl,rfl,rfl,rfl,rfl,rfl⟩:=hl;refine ae (λU6 => ?_) (λU6 => ?_);rotate_left
 ·have Eb:m=0:=by omega
  rw [mW,VJ (λd t ht=>hA (by omega) c0 d t (by rw [mW,ht])),if_neg (hB (by omega) c0 r0 mW)];rfl
 have dec:∀x:Int,x=IntKind.i64.wrap ((m:Int)-1)->x=((m-1:Nat):Int):=λx hx=>by rw [hx,zb (by omega)];omega
 rintro bL rfl bP rfl;rw [zb (by omega)];refine ae (λhle => ?_) (λhle => ?_);rotate_left
 ·rintro bR hx;rw [dec _ hx];have hlen:(s.drop i).length<m:=by rw [List.length_drop];omega
  refine⟨⟨m-1,by omega,rfl,λ_ c d r hq => ?_,λh1 c r hq => ?_⟩,by simp only [Qo];omega⟩
  ·rw [hq]at hlen;simp at hlen;omega
  ·rw [hq]at hlen;simp at hlen;omega
 rintro bR rfl;rw [zb (by omega)];refine⟨⟨by omega,by omega,by omega⟩, ?_⟩;rintro s3 rfl
 have hcut:List.take (Int.toNat ((i:Int)+(m:Int))-i) (List.drop i s)=(s.drop i).take m:=by
  rw [show Int.toNat ((i:Int)+(m:Int))=i+m by omega,Nat.add_sub_cancel_left]
 refine⟨idxOf dQ ((s.drop i).take m),λβ w' hb Eb => ?_,ae (λhx => ?_) (λhx => ?_)⟩
 ·rw [hcut];exact P8 dQ _ (Qm (l:=dQ) Eb.1.2 rfl) (by decide)
 ·rw [VI]at hx;rintro dq rfl;refine⟨⟨by omega,by omega,by omega⟩, ?_⟩;rintro s4 rfl;rw [hcut];have D':((s.drop i).take m).length=m:=by rw [List.length_take,List.length_drop];omega
  have JM:gv dQ (s.drop i)=some ((s.drop i).take m):=by
   rcases (show m=1\/m=2 by omega)with rfl|rfl
   ·rw [mW]at hx ⊢;rw [VJ (λd t ht=>hA (by omega) c0 d t (by rw [mW,ht]))];exact if_pos hx
   ·obtain⟨c,d,r,hq⟩:∃c d r,s.drop i=c::d::r:=by
     have h2:2<=(s.drop i).length:=by rw [List.length_drop];omega
     match hq:s.drop i with
     | []=>rw [hq]at h2;simp at h2
     | [c]=>rw [hq]at h2;simp at h2
     |c::d::r=>exact⟨c,d,r,rfl⟩
    rw [hq]at hx ⊢;exact Qi hx
  rw [JM];simp only [oL,q0,D',Int.natCast_add]
 ·rintro dq zA;rw [show dq=((m-1:Nat):Int) by omega];rw [VI]at hx;refine⟨⟨m-1,by omega,rfl,λh2 c d r hq => ?_,λh1 c r hq => ?_⟩,by simp only [Qo];omega⟩
  ·rcases (show m=1\/m=2 by omega)with rfl|rfl
   ·exact hA (by omega) c d r hq
   ·rw [hq]at hx;exact hx
  ·obtain rfl:m=1:=by omega
   rw [hq]at hx;exact hx
theorem Qq(s:List UInt8)(n:Nat):(mr s n).kind=(gN s n).kind/\(mr s n).fr=(gN s n).fr/\(mr s n).to=(gN s n).to/\(mr s n).text=(gN s n).text/\((gN s n).kind≠2->mr s n=gN s n):=by
 unfold mr gN;simp only [];by_cases h:runN lB s n<s.length
 ·rw [if_pos h,if_pos h];by_cases hD:lD (s.getD (runN lB s n) 0)=true
  ·have hL:¬lL (s.getD (runN lB s n) 0)=true:=by
    have:=(Bw _).1 hD
    simp only [lL,Bool.or_eq_true,decide_eq_true_eq];omega
   rw [if_pos hD,if_neg hL,if_pos hD];exact⟨rfl,rfl,rfl,rfl,λh=>(h rfl).elim⟩
  ·rw [if_neg hD,if_neg hD];exact⟨rfl,rfl,rfl,rfl,λ_=>rfl⟩
 ·rw [if_neg h,if_neg h];exact⟨rfl,rfl,rfl,rfl,λ_=>rfl⟩
theorem Qs(s:List UInt8)(hs:s.length<4611686018427387904)(w:World):Calls Tryz.prog 120 #[.string ⟨s.toArray⟩] w (Vc.aI (.bool (fD s)) w):=by
 refine Yz s w _ ⟨_,_,_,_,_,_,_,_,_,_,λw' hb=>Qp s 0 (Nat.zero_le _) hs, ?_⟩;obtain⟨t1,t2,t3,t4,t5⟩:=Qq s 0;unfold fD;rw [t1];refine ae (λh1 => ?_) (λh1 => ?_);rotate_left
 ·rw [decide_eq_false (by omega),Bool.false_and]
 rw [t5 (by omega)];generalize gN s 0=t at h1 ⊢;refine ae (λh2=>ae (λh3 => ?_) (λh3 => ?_)) (λh2 => ?_)
 ·rintro x9 rfl;refine ae (λh4=>⟨_,λw' hb=>zvt s w', ?_⟩) (λh4 => ?_)
  ·rw [decide_eq_true ⟨h1,h2,by omega,by omega⟩,Bool.true_and]
  ·rw [decide_eq_false (by omega),Bool.false_and]
 all_goals rw [decide_eq_false (by omega),Bool.false_and]
end Go.Proofs.YtkbchjlnhgfpmaaGreatDoor
