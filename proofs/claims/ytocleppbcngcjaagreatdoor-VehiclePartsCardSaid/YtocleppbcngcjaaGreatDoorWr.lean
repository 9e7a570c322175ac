import Derived.Test.YtocleppbcngcjaaGreatDoorGa
import Derived.Test.YtocleppbcngcjaaGreatDoorCl
import Derived.Test.YtocleppbcngcjaaGreatDoorWq
section
set_option linter.unusedVariables false
set_option linter.unusedSimpArgs false
set_option linter.unusedSimpArgs false
set_option maxRecDepth 4000
namespace Go.Proofs.YtocleppbcngcjaaGreatDoor
open Go Go.RowKit Vc
attribute [local irreducible] Go.Calls
def Cr(n:Nat)(L:List Vl):Prop:=∃(b:Bool) (k:Nat),L=[.b b,.i k]/\k<=n
def Dw(n:Nat)(L:List Vl):Nat:=match L with
 | [_,.i k]=>n-k.toNat
 |_=>0
theorem YD{w:World}{a b:Value}{l:List Pt}(ha:dI w a 3 (l.flatMap rh))(hb:dI w b 3 (l.flatMap rh))(hn:l.length<4611686018427387904):Calls Tryz.prog 24 #[a,b] w (Vc.Ret (.bool true) w):=by
 obtain⟨b0,p0,c0,e0,f0,g0⟩:=w6 ha;obtain⟨b1,p1,c1,e1,f1,g1⟩:=w6 hb;have n0:=qO f0;have n1:=qO f1;rw [e0,e1];refine Wr p0 p1 (l.length:Nat) c0 (l.length:Nat) c1 b0 b1 w _ ⟨by omega,n0,by omega,n1,aj (λ_ => ?_) (λh=>absurd rfl h)⟩;refine⟨Cr l.length,Dw l.length,⟨false,0,rfl,Nat.zero_le _⟩, ?_⟩;rintro b2 x4 ⟨b,k,hy,hk⟩;simp only [List.cons.injEq,Vl.b.injEq,Vl.i.injEq,and_true]at hy;obtain⟨rfl,rfl⟩:=hy;refine⟨by omega,n0,aj (λcn => ?_) (λ_=>rfl)⟩;have gi:k<l.length:=by omega
 have hs:=List.getElem?_eq_getElem gi;generalize l[k]=s at hs;obtain⟨k0,k1,k2⟩:=g0 k s hs;obtain⟨j0,j1,j2⟩:=g1 k s hs;simp only [Int.toNat_natCast];refine⟨λhb=>by have:=f0 hb;omega,by omega,cn,_,k0,_,k1,_,k2,λhb=>by have:=f1 hb;omega,by omega,cn,_,j0,_,j1,_,j2,aj (λ_ => ?_) (λh=>absurd ⟨rfl,rfl,rfl⟩ h)⟩;rintro aS rfl;rw [zj (by omega)];exact⟨⟨b2,k+1,by simp,by omega⟩,by simp only [Dw];omega⟩
structure fa(v u:Vh):Prop where
 nm:u.nm=v.nm
 ss:u.ss.map cD.er=v.ss.map cD.er
 yl:u.yl=v.yl
 yh:u.yh=v.yh
 dr:u.dr=v.dr
 ax:u.ax=v.ax
 be:u.be=v.be
theorem fa.len{v u:Vh}(h:fa v u):u.ss.length=v.ss.length:=by simpa using congrArg List.length h.ss
theorem fa.at{v u:Vh}(h:fa v u){i:Nat}{s:cD}(hs:v.ss[i]? = some s):∃t,u.ss[i]? = some t/\t.nm=s.nm/\t.dl=s.dl/\t.dh=s.dh/\t.pl=s.pl/\t.ph=s.ph/\t.es=s.es:=by
  have e:=congrArg (·[i]?) h.ss;simp only [List.getElem?_map,hs,Option.map_some]at e;cases ht:u.ss[i]? with
  |none=>rw [ht]at e;simp at e
  |some t =>
    rw [ht]at e;simp only [Option.map_some,Option.some.injEq]at e;exact⟨t,rfl,congrArg (·.nm) e,congrArg (·.dl) e,congrArg (·.dh) e,congrArg (·.pl) e,congrArg (·.ph) e,congrArg (·.es) e⟩
set_option maxHeartbeats 1000000 in
theorem OB{w:World}{v u:Vh}(hv:fZ w v)(hu:fZ w u)(hz:iv v)(h:fa v u):Calls Tryz.prog 8 #[fL v,fL u] w (Vc.Ret (.bool true) w):=by
 obtain⟨b0,p0,c0,e0,f0,g0⟩:=yL hv.st;obtain⟨b1,p1,c1,e1,f1,g1⟩:=w6 hv.dr;obtain⟨b2,p2,c2,e2,f2,g2⟩:=yL hu.st;obtain⟨b3,p3,c3,e3,f3,g3⟩:=w6 hu.dr;have n0:=qO f0;have n2:=qO f2;have se:=hz.sn;have hl:=h.len;have hT:=λw' (hb:Below w.heap.size w w')=>YD (w:=w') (wY hb hv.dr) (by rw [<-h.dr];exact wY hb hu.dr) hz.dn;rw [e1,e3]at hT;unfold fL;rw [e0,e1,e2,e3];refine Wq p0 p1 p2 p3 (v.ss.length:Nat) c0 v.yl v.yh (v.dr.length:Nat) c1 v.ax v.be (u.ss.length:Nat) c2 u.yl u.yh (u.dr.length:Nat) c3 u.ax u.be b0 b1 b2 b3 v.nm u.nm w _ ?_;refine aj (λ_ => ?_) (λk=>absurd h.nm.symm k);refine aj (λ_ => ?_) (λk=>absurd ⟨h.yl.symm,h.yh.symm⟩ k);refine aj (λ_ => ?_) (λk=>absurd h.ax.symm k);refine aj (λ_ => ?_) (λk=>absurd h.be.symm k);refine⟨by omega,n0,by omega,n2,aj (λ_ => ?_) (λk=>absurd (by omega) k)⟩;refine⟨true,hT,aj (λ_ => ?_) (λk=>absurd rfl k)⟩;refine⟨Cr v.ss.length,Dw v.ss.length,⟨false,0,rfl,Nat.zero_le _⟩, ?_⟩;rintro b5 aY ⟨b,k,hy,hk⟩;simp only [List.cons.injEq,Vl.b.injEq,Vl.i.injEq,and_true]at hy;obtain⟨rfl,rfl⟩:=hy;refine⟨by omega,n0,aj (λcn => ?_) (λ_=>rfl)⟩;have gi:k<v.ss.length:=by omega
 have hs:=List.getElem?_eq_getElem gi;have lZ:=List.getElem_mem gi;generalize v.ss[k]=s at hs lZ;obtain⟨t,ht,q0,q1,q2,q3,q4,q5⟩:=h.at hs;have xA:=List.mem_of_getElem? ht;obtain⟨k0,k1,k2,k3,k4,k5⟩:=g0 k s hs;obtain⟨j0,j1,j2,j3,j4,j5⟩:=g2 k t ht;obtain⟨b6,p4,c4,e4,f4,g4⟩:=B3 (hv.es s lZ);obtain⟨b7,p5,c5,e5,f5,g5⟩:=B3 (hu.es t xA);have n4:=qO f4;have n5:=qO f5;have Du:=(hz.st s lZ).2.1;simp only [Int.toNat_natCast];refine⟨λhb=>by have:=f0 hb;omega,by omega,cn,s.nm,k0,s.dl,k1,s.dh,k2,s.pl,k3,s.ph,k4,b6,p4,(s.es.length:Nat),c4,by rw [k5,e4],λhb=>by have:=f2 hb;omega,by omega,by omega,t.nm,j0,t.dl,j1,t.dh,j2,t.pl,j3,t.ph,j4,b7,p5,(t.es.length:Nat),c5,by rw [j5,e5], ?_⟩;refine aj (λ_ => ?_) (λk=>absurd q0.symm k);refine aj (λ_ => ?_) (λk=>absurd ⟨q1.symm,q2.symm⟩ k);refine aj (λ_ => ?_) (λk=>absurd ⟨q3.symm,q4.symm⟩ k);refine⟨by omega,n4,by omega,n5,aj (λ_ => ?_) (λk=>absurd (by rw [q5]) k)⟩;refine⟨Cr s.es.length,Dw s.es.length,⟨_,0,rfl,Nat.zero_le _⟩, ?_⟩;rintro b8 eC ⟨b',m,hy,hm⟩;simp only [List.cons.injEq,Vl.b.injEq,Vl.i.injEq,and_true]at hy;obtain⟨rfl,rfl⟩:=hy;refine⟨by omega,n4,aj (λnG => ?_) (λ_ => ?_)⟩
 ·have zN:m<s.es.length:=by omega
  have he:=List.getElem?_eq_getElem zN;generalize s.es[m]=e at he;have iU:t.es[m]? = some e:=by rw [q5];exact he
  obtain⟨a0,a1,a2,a3,a4,a5,a6,a7,a8,a9,YE⟩:=g4 m e he;obtain⟨z0,z1,z2,z3,z4,z5,z6,z7,z8,z9,YF⟩:=g5 m e iU;simp only [Int.toNat_natCast];refine⟨λhb=>by have:=f4 hb;omega,by omega,nG,_,a0,_,a1,_,a2,_,a3,_,a4,_,a5,_,a6,_,a7,_,a8,_,a9,_,YE,λhb=>by have:=f5 hb;rw [q5]at this;omega,by omega,by rw [q5];exact nG,_,z0,_,z1,_,z2,_,z3,_,z4,_,z5,_,z6,_,z7,_,z8,_,z9,_,YF,aj (λ_ => ?_) (λk=>absurd ⟨rfl,rfl,rfl,rfl,rfl,rfl,rfl,rfl,rfl,rfl,rfl⟩ k)⟩;rintro HD rfl;rw [zj (by omega)];exact⟨⟨b8,m+1,by simp,by omega⟩,by simp only [Dw];omega⟩
 ·rintro iB rfl;rw [zj (by omega)];exact⟨⟨b8,k+1,by simp,by omega⟩,by simp only [Dw];omega⟩
end Go.Proofs.YtocleppbcngcjaaGreatDoor
end
section
set_option linter.unusedVariables false
set_option linter.unusedSimpArgs false
set_option linter.unusedSimpArgs false
namespace Go.Proofs.YtocleppbcngcjaaGreatDoor
open Go Go.RowKit Go.Proofs Wk
theorem OC:∀(l:List Pt),∀u∈l.flatMap rh,u.oneCell'=true:=λl u hu=>by
 obtain⟨p,_,hp⟩:=List.mem_flatMap.1 hu;simp only [rh,List.mem_cons,List.not_mem_nil,or_false]at hp;rcases hp with rfl|rfl|rfl<;>rfl
theorem Gq{w:World}{v:Value}{sz:Nat}{xs:List Value}(h:Vc.dI w v sz xs):v.oneCell'=true:=by
 rcases h with ⟨rfl,_⟩|⟨_,rfl,_⟩|⟨_,_,_,_,rfl,_⟩<;>rfl
theorem OD{w:World}{l:List cD}(hl:∀s∈l,Vc.dI w s.v 11 (s.es.flatMap enc)):∀u∈l.flatMap jJ,u.oneCell'=true:=λu hu=>by
 obtain⟨p,hm,hp⟩:=List.mem_flatMap.1 hu;simp only [jJ,List.mem_cons,List.not_mem_nil,or_false]at hp;rcases hp with rfl|rfl|rfl|rfl|rfl|rfl<;>first|rfl|exact Gq (hl p hm)
theorem OE:∀(l:List En),∀u∈l.flatMap enc,u.oneCell'=true:=λl u hu=>by
 obtain⟨p,_,hp⟩:=List.mem_flatMap.1 hu;simp only [enc,List.mem_cons,List.not_mem_nil,or_false]at hp;rcases hp with rfl|rfl|rfl|rfl|rfl|rfl|rfl|rfl|rfl|rfl|rfl<;>rfl
theorem OF(b o k j:Nat):(⟨b,o+k,none⟩:Addr).add j=⟨b,o+(k+j),none⟩:=by simp [Addr.add,Nat.add_assoc]
theorem Gr{w w':World}{p:Addr}{u:Value}(hb:Below w.heap.size w w')(h:w.cell? p=some u):w'.cell? p=some u:=by
 rw [hb.cell (World.block_lt_of_cell? _ _ h)];exact h
theorem _root_.Wk.Kn.more{w0 w:World}{L:List (Nat × Array Value × TypeId)}(h:Kn w0 w L){b:Nat}{C:Array Value}{T:TypeId}(hb:w.heap[b]? = some (.cells C T)):Kn w0 w ((b,C,T)::L) :=
 ⟨h.below,λp hp=>by
  rcases List.mem_cons.1 hp with rfl|hp
  ·exact hb
  ·exact h.all p hp⟩
def eD(w:World)(lo:Nat)(v:Value)(xs:List Value):Prop:=(v=.slice none 0 0/\xs=[])∨∃g len cap C T,v=.slice (some ⟨g,0,none⟩) len cap/\lo<=g/\xs.length=len*11/\w.heap[g]? = some (.cells C T)/\∀(j:Nat) u,xs[j]? = some u->C[j]? = some u
theorem eD.sl{w:World}{lo:Nat}{v:Value}{xs:List Value}(h:eD w lo v xs):Vc.dI w v 11 xs:=by
 rcases h with h|⟨g,len,cap,C,T,h1,_,h2,h4,h3⟩
 ·exact .inl h
 ·exact .inr (.inr ⟨g,0,len,cap,h1,h2,λj u hj=>by rw [Nat.zero_add];simp only [World.cell?,h4];simpa using h3 j u hj⟩)
theorem eD.mono{w w':World}{lo uE:Nat}{v:Value}{xs:List Value}(hl:uE<=lo)(hw:∀(g:Nat) o,lo<=g->w.heap[g]? = some o->w'.heap[g]? = some o)(h:eD w lo v xs):eD w' uE v xs:=by
 rcases h with h|⟨g,len,cap,C,T,h1,h0,h2,h4,h3⟩
 ·exact .inl h
 ·exact .inr ⟨g,len,cap,C,T,h1,by omega,h2,hw g _ h0 h4,h3⟩
theorem eD.slice{w:World}{lo:Nat}{v:Value}{xs:List Value}(h:eD w lo v xs):∃a l c,v=.slice a l c:=by
 rcases h with ⟨rfl,_⟩|⟨g,len,cap,C,T,rfl,_⟩
 ·exact⟨_,_,_,rfl⟩
 ·exact⟨_,_,_,rfl⟩
theorem eD.one{w:World}{lo:Nat}{v:Value}{xs:List Value}(h:eD w lo v xs):v.oneCell'=true:=Gq h.sl
theorem OG{w:World}{lo:Nat}{ty:TypeId}{v:Value}{n:Nat}{xs:List Value}(h:w.ownsRow lo ty 11 v n xs):eD w lo v xs:=by
 obtain⟨h1,⟨h2,h3⟩|⟨g,cap,cur,h2,h3,h4,h5,h6,h7,h8⟩⟩:=h
 ·exact .inl ⟨h2,List.eq_nil_of_length_eq_zero (by rw [h1,h3])⟩
 ·refine .inr ⟨g,n,cap,cur,ty,h2,h3,h1,h4,λj u hj => ?_⟩;have ti:=(List.getElem?_eq_some_iff.1 hj).1;rw [<-h8,List.getElem?_take_of_lt (by omega)]at hj;simpa using hj
structure jd(lo:Nat)(w:World)(u:Vh):Prop where
 st:(u.sv=.slice none 0 0/\u.ss=[])∨∃g c C T,u.sv=.slice (some ⟨g,0,none⟩) u.ss.length c/\lo<=g/\w.heap[g]? = some (.cells C T)/\C.toList.take (u.ss.length*6)=u.ss.flatMap jJ/\∀s∈u.ss,eD w (g+1) s.v (s.es.flatMap enc)
 dr:(u.dv=.slice none 0 0/\u.dr=[])∨∃g c C T,u.dv=.slice (some ⟨g,0,none⟩) u.dr.length c/\lo<=g/\w.heap[g]? = some (.cells C T)/\C.toList.take (u.dr.length*3)=u.dr.flatMap rh
theorem OH{w w':World}{s:cD}(h:Vc.dI w s.v 11 (s.es.flatMap enc))(hl:s.es.length<=16)(hb:Below w.heap.size w w') :
  Calls Tryz.prog 21 #[s.v] w' λe iV=>∃v',e=.returned v'/\eD iV w'.heap.size v' (s.es.flatMap enc)/\Below w'.heap.size w' iV:=by
 have hlen:=Vc.zf zm s.es
 have ou:∀d n c,s.v=.slice (some d) n c->(s.es.flatMap enc).length=n*11->(∀j u,(s.es.flatMap enc)[j]? = some u->w'.cell? (d.add j)=some u)->Calls Tryz.prog 21 #[s.v] w' λe iV=>∃v',e=.returned v'/\eD iV w'.heap.size v' (s.es.flatMap enc)/\Below w'.heap.size w' iV:=λd n c h1 h2 h3=>by
  rw [h1];refine (Oe d n c _ w' h2 (by omega) (OE _) h3).mono ?_;rintro e iV ⟨v',he,h4,_,h5⟩;exact⟨v',he,OG h4,h5⟩
 rcases h with ⟨h1,h2⟩|⟨a,h1,h2⟩|⟨b,o,len,cap,h1,h2,h3⟩
 ·rw [h1,h2];refine (Yx 0 0 w').mono ?_;rintro e iV ⟨he,rfl⟩;exact⟨_,he,.inl ⟨rfl,rfl⟩,Below.refl _ _⟩
 ·exact ou a 0 0 h1 (by rw [h2];rfl) λj u hj=>by rw [h2]at hj;simp at hj
 ·refine ou _ _ _ h1 h2 λj u hj => ?_;rw [show (⟨b,o,none⟩:Addr).add j=⟨b,o+j,none⟩ by simp [Addr.add]];exact Gr hb (h3 j u hj)
theorem OI{ts r:List cD}{s:cD}(x:Value):((ts++s::r).flatMap jJ).set (ts.length*6+5) x=((ts ++ [{s with v:=x}])++r).flatMap jJ:=by
 have hl:=Vc.zf zk ts;rw [List.flatMap_append,List.flatMap_cons,List.set_append_right _ _ (by omega),hl,Nat.add_sub_cancel_left];simp only [List.flatMap_append,List.flatMap_cons,List.flatMap_nil,List.append_nil,List.append_assoc];rfl
theorem OJ{wr F:World}{u:Vh}{lo A g2 c2 g1 c1:Nat}{cur pG:Array Value}{T2 T1:TypeId}(hk:∀g,g≠A->F.heap[g]? = wr.heap[g]?)(nh:lo<=A)(h2:u.sv=.slice (some ⟨g2,0,none⟩) u.ss.length c2)(BI:A<g2)(iI:wr.heap[g2]? = some (.cells cur T2))(Dv:cur.toList.take (u.ss.length*6)=u.ss.flatMap jJ)
  (h1:u.dv=.slice (some ⟨g1,0,none⟩) u.dr.length c1) (zH:A<g1) (kV:wr.heap[g1]? = some (.cells pG T1)) (OK:pG.toList.take (u.dr.length*3)=u.dr.flatMap rh) (fP:∀s∈u.ss,eD wr (g2+1) s.v (s.es.flatMap enc)):jd lo F u:=by
 refine⟨.inr ⟨g2,c2,cur,T2,h2,by omega,by rw [hk g2 (by omega)];exact iI,Dv,λs hs => ?_⟩,.inr ⟨g1,c1,pG,T1,h1,by omega,by rw [hk g1 (by omega)];exact kV,OK⟩⟩;exact eD.mono (w':=F) (Nat.le_refl _) (λg o hg hx=>by rw [hk g (by omega)];exact hx) (fP s hs)
theorem Gt{w:World}{v:Value}{g c n sz:Nat}{C:Array Value}{T:TypeId}{xs:List Value}(h:v=.slice (some ⟨g,0,none⟩) n c)(hg:w.heap[g]? = some (.cells C T))(ht:C.toList.take (n*sz)=xs)(hl:xs.length=n*sz):Vc.dI w v sz xs:=by
 refine .inr (.inr ⟨g,0,n,c,h,hl,λj u hj => ?_⟩);have ti:=(List.getElem?_eq_some_iff.1 hj).1;rw [<-ht,List.getElem?_take_of_lt (by omega)]at hj;rw [Nat.zero_add];simp only [World.cell?,hg];simpa using hj
theorem jd.at{lo:Nat}{w:World}{u:Vh}(h:jd lo w u):fZ w u:=by
 refine⟨?_,λs hs => ?_, ?_⟩
 ·rcases h.st with ⟨h1,h2⟩|⟨g,c,C,T,h1,_,h2,h3,_⟩
  ·exact .inl ⟨h1,by rw [h2];rfl⟩
  ·exact Gt h1 h2 h3 (Vc.zf zk _)
 ·rcases h.st with ⟨h1,h2⟩|⟨g,c,C,T,h1,_,h2,h3,h4⟩
  ·rw [h2]at hs;cases hs
  ·exact (h4 s hs).sl
 ·rcases h.dr with ⟨h1,h2⟩|⟨g,c,C,T,h1,_,h2,h3⟩
  ·exact .inl ⟨h1,by rw [h2];rfl⟩
  ·exact Gt h1 h2 h3 (Vc.zf ri _)
set_option maxHeartbeats 8000000 in
set_option maxRecDepth 100000 in
theorem YG{w:World}{v:Vh}(hG:nu w)(h:fZ w v)(hz:iv v)(gV:lz v.sv)(n:Nat)(hv:ng v=true)(hn:n < v.ss.length) :
    Calls Tryz.prog 6 #[fL v,.int .i64 (n:Int)] w λe w'=>∃u:Vh,e=.returned (.tuple #[fL u,.int .i64 0])/\Below w.heap.size w w'/\jd w.heap.size w' u/\u.nm=v.nm/\u.ss.map cD.er=(v.ss.drop n).map cD.er/\u.yl=v.yl/\u.yh=v.yh/\u.dr=v.dr/\u.ax=v.ax/\u.be=v.be:=by
  have dA:∀w',Below w.heap.size w w'->Calls Tryz.prog 17 #[fL v] w' (Vc.Ret (.bool true) w'):=λw' hb=>by
    rw [<-hv];exact Gj (hG.cA hb) (h.below hb) hz
  have ok:=Ca hv;have h0:=ok.s0;have h8:=ok.s8;have hd:=ok.dr;obtain⟨b,o,len,cap,e1,e2,e3⟩:=Oh h.st (by intro hh;have:=congrArg List.length hh;rw [Vc.zf zk]at this;simp at this;omega);rw [Vc.zf zk]at e2;have el:len=v.ss.length:=by omega
  subst el;obtain⟨db,H9,OL,Gu,d1,d2,d3⟩:=Oh h.dr (by intro hh;have:=congrArg List.length hh;rw [Vc.zf ri]at this;simp at this;omega);rw [Vc.zf ri]at d2;have el:OL=v.dr.length:=by omega
  subst el;have iz:v.ss.length<=cap:=by rw [e1]at gV;exact gV
  have uK:∀w',Calls Tryz.prog 18 #[.int .i64 (n:Int),.int .i64 0,.int .i64 ((v.ss.length:Int)-1)] w' (Vc.Ret (.bool true) w'):=λw'=>by
    have e:(decide (0<=(n:Int)) && decide ((n:Int)<=(v.ss.length:Int)-1))=true:=by
      rw [Bool.and_eq_true];simp only [decide_eq_true_eq];omega
    rw [<-e];exact TK _ _ _ _
  have qX:IntKind.i64.wrap ((v.ss.length:Int)-1)=(v.ss.length:Int)-1:=Vc.zj (by omega)
  have TL:∀w',Below w.heap.size w w'->Calls Tryz.prog 19 #[.slice (some ⟨db,H9,none⟩) v.dr.length Gu] w' λe iV=>∃v',e=.returned v'/\iV.ownsRow w'.heap.size 42 3 v' v.dr.length (v.dr.flatMap rh)/\v' ≠ .slice none 0 0/\Below w'.heap.size w' iV:=λw' hb =>
    Og ⟨db,H9,none⟩ v.dr.length Gu (v.dr.flatMap rh) w' (Vc.zf ri _) (by omega) (OC _) λj u hj=>by
      rw [show (⟨db,H9,none⟩:Addr).add j=⟨db,H9+j,none⟩ by simp [Addr.add]];exact Gr hb (d3 j u hj)
  have Ha:∀w',Below w.heap.size w w'->Calls Tryz.prog 20 #[.slice (some ⟨b,o+n*6,none⟩) (v.ss.length-n) (cap-n)] w' λe iV=>∃v',e=.returned v'/\iV.ownsRow w'.heap.size 38 6 v' (v.ss.length-n) ((v.ss.drop n).flatMap jJ)/\v' ≠ .slice none 0 0/\Below w'.heap.size w' iV:=λw' hb =>
    Oc ⟨b,o+n*6,none⟩ (v.ss.length-n) (cap-n) ((v.ss.drop n).flatMap jJ) w' (by rw [Vc.zf zk,List.length_drop]) (by omega) (OD λs hs=>h.es s (List.mem_of_mem_drop hs)) λj u hj=>by
      rw [OF];have jS:v.ss.flatMap jJ=(v.ss.take n).flatMap jJ++(v.ss.drop n).flatMap jJ:=by rw [<-List.flatMap_append,List.take_append_drop]
      refine Gr hb (e3 (n*6+j) u ?_);have cn:((v.ss.take n).flatMap jJ).length=n*6:=by rw [Vc.zf zk,List.length_take];omega
      rw [jS,List.getElem?_append_right (by omega),cn,Nat.add_sub_cancel_left];exact hj
  have hD:Aside (∀j u,(v.ss.flatMap jJ)[j]? = some u->w.cell? ⟨b,o+j,none⟩=some u):=e3;clear e3 d3 e2 d2;unfold fL at dA ⊢;rw [e1,d1]at dA ⊢;have K:=Kn.start w
  go_enter Tryz.func6,Tryz.ntmps6
  go_wp2_with (go_at_call 17;refine via (by repeat (first|exact K|apply Kn.push|apply Kn.drew)) (dA _ (by have B:=K.below;go_grown)) ?_;clear K;(try clear hO);intro wN K hO;simp only [aN,World.size_alloc,World.size_drew,World.size_setCell]at hO)
  go_wp2_with (go_at_call 18;refine via (by repeat (first|exact K|apply Kn.push|apply Kn.drew)) (uK _) ?_;clear K;(try clear hO);intro wN K hO;simp only [aN,World.size_alloc,World.size_drew,World.size_setCell]at hO)
  go_wp2_with (go_at_call 19;refine (TL _ (by have B:=K.below;go_grown)).mono ?_)
  rintro e w1 ⟨v1,rfl,⟨l1,⟨rfl,_⟩|⟨g1,c1,pG,rfl,zH,YH,kV,Rx,wS,OK⟩⟩,TR,b1⟩
  · exact (TR rfl).elim
  have hA:w.heap.size+1<wN.heap.size:=by have h1:=hO.2.2.2.1;omega
  replace K:=(K.next b1).more YH;clear hO b1 TR;have hO:=Kn.aK K.all;simp only [aN,World.size_alloc,World.size_drew,World.size_setCell]at hO
  go_wp2_with (go_at_call 20;refine (Ha _ (by have B:=K.below;go_grown)).mono ?_)
  rintro e w2 ⟨v2,rfl,⟨l2,⟨rfl,_⟩|⟨g2,c2,OM,rfl,BI,YI,iI,KA,C5,Dv⟩⟩,TS,b2⟩
  · exact (TS rfl).elim
  simp only [World.size_setCell]at BI;have hB:g1<w1.heap.size:=hO.2.2.2.1;replace K:=((Kn.of (w0:=w) (L := [(w.heap.size,#[.string ⟨v.nm.toArray⟩,.slice (some ⟨b,o,none⟩) v.ss.length cap,.int .i64 v.yl,.int .i64 v.yh,.slice (some ⟨g1,0,none⟩) v.dr.length c1,.int .i64 v.ax,.int .i64 v.be],28),(w.heap.size+1,#[.string ⟨#[]⟩,.slice none 0 0,.int .i64 0,.int .i64 0,.slice none 0 0,.int .i64 0,.int .i64 0],28),(g1,pG,42)]) (by have B:=K.below;go_grown) (by simp only [wI,heap_alloc,yp,Sj,World.size_alloc,World.size_drew,World.size_setCell,IntWalk.iteOmega,Wk.setObj,hO,Option.map_some,↓reduceIte,if_true,if_false,List.setIfInBounds_toArray,List.set_cons_zero,List.set_cons_succ,and_self,and_true])).next b2).more YI;clear hO b2 TS;have hO:=Kn.aK K.all;simp only [aN,World.size_alloc,World.size_drew,World.size_setCell]at hO;have hC:g1<g2:=by omega
  have hE:g2<w2.heap.size:=hO.2.2.2.1;have YJ:((v.ss.drop n).flatMap jJ).length=(v.ss.length-n)*6:=l2;obtain⟨m,hm⟩:∃m,m=v.ss.length-n:=⟨_,rfl⟩;rw [<-hm]at iI Dv YJ ⊢
  go_wp2
  go_loopw [34] (λi wr=>∃(k:Nat) (ts:List cD) (cur:Array Value),k<=m/\i=.int .i64 (k:Int)/\ts.length=k/\ts.map cD.er=((v.ss.drop n).take k).map cD.er/\cur.size=c2*6/\cur.toList.take (m*6)=(ts++(v.ss.drop n).drop k).flatMap jJ/\(∀s∈ts,eD wr (g2+1) s.v (s.es.flatMap enc)) /\
    Kn w wr [(g2,cur,38),(w.heap.size,#[.string ⟨v.nm.toArray⟩,.slice (some ⟨g2,0,none⟩) m c2,.int .i64 v.yl,.int .i64 v.yh,.slice (some ⟨g1,0,none⟩) v.dr.length c1,.int .i64 v.ax,.int .i64 v.be],28),(w.heap.size+1,#[.string ⟨#[]⟩,.slice none 0 0,.int .i64 0,.int .i64 0,.slice none 0 0,.int .i64 0,.int .i64 0],28),(g1,pG,42)]) (λi _=>m-(intOf i).toNat)
  case atStart =>
    refine⟨0,[],OM,Nat.zero_le _,rfl,rfl,rfl,C5,by simpa using Dv,(λs hs=>by cases hs), ?_⟩;exact Kn.of (w0:=w) (by have B:=K.below;go_grown) (by simp only [wI,heap_alloc,yp,Sj,World.size_alloc,World.size_drew,World.size_setCell,IntWalk.iteOmega,Wk.setObj,hO,Option.map_some,↓reduceIte,if_true,if_false,List.setIfInBounds_toArray,List.set_cons_zero,List.set_cons_succ,and_self,and_true,hm])
  case round =>
    obtain⟨k,ts,cur,hk,rfl,H_,TT,mJ,H',iM,K⟩:=hrel;have hO:=Kn.aK K.all;simp only [aN,World.size_alloc,World.size_drew,World.size_setCell]at hO;by_cases E1:k<m
    · have qG:k<(v.ss.drop n).length:=by rw [List.length_drop];omega
      obtain⟨s,hs⟩:∃s,(v.ss.drop n)[k]? = some s:=⟨_,List.getElem?_eq_getElem qG⟩;have lZ:s∈v.ss:=List.mem_of_mem_drop (List.mem_of_getElem? hs);have ON:=λw' hb=>OH (w:=w) (w':=w') (h.es s lZ) (ok.es lZ) hb
      have Gv:∀j,j<6->cur[k*6+j]? = (jJ s)[j]? := λj hj=>by
        have e:(cur.toList.take (m*6))[k*6+j]? = cur.toList[k*6+j]? := List.getElem?_take_of_lt (by omega);rw [<-Array.getElem?_toList,<-e,H'];refine Vc.zg zk ?_ hj;rw [List.getElem?_append_right (by omega),H_,Nat.sub_self,List.getElem?_drop];exact hs
      have px:wr.cell? ⟨g2,k*6+5,none⟩=some s.v:=by rw [hO.2.1,Gv 5 (by omega)];rfl
      have g8:(k:Int)<(m:Int):=by omega
      have pz:cur[k*6+5]? = some s.v:=by rw [Gv 5 (by omega)];rfl
      have k0:(0:Int)<=(k:Int):=by omega
      have YK:wr.cell? ⟨w.heap.size,1,none⟩=some (.slice (some ⟨g2,0,none⟩) m c2):=by rw [hO.2.2.2.2.2.2.1];rfl
      have fin:∀ (w3:World) (a3:Option Addr) (l3 c3:Nat),Kn w w3 [(g2,cur,38),(w.heap.size,#[.string ⟨v.nm.toArray⟩,.slice (some ⟨g2,0,none⟩) m c2,.int .i64 v.yl,.int .i64 v.yh,.slice (some ⟨g1,0,none⟩) v.dr.length c1,.int .i64 v.ax,.int .i64 v.be],28),(w.heap.size + 1,#[.string ⟨#[]⟩,.slice none 0 0,.int .i64 0,.int .i64 0,.slice none 0 0,.int .i64 0,.int .i64 0],28),(g1,pG,42)] ->
          eD w3 wr.heap.size (.slice a3 l3 c3) (s.es.flatMap enc)->(∀(g:Nat) o,wr.heap[g]? = some o->w3.heap[g]? = some o) ->
          ∃(k':Nat) (ts:List cD) (cur:Array Value),k'<=m/\(Value.int .i64 ((k:Int)+1))=.int .i64 (k':Int)/\ts.length=k'/\ts.map cD.er=((v.ss.drop n).take k').map cD.er/\cur.size=c2*6/\cur.toList.take (m*6)=(ts++(v.ss.drop n).drop k').flatMap jJ/\(∀s∈ts,eD (w3.setCell ⟨g2,k*6+5,none⟩ (.slice a3 l3 c3)) (g2+1) s.v (s.es.flatMap enc)) /\
            Kn w (w3.setCell ⟨g2,k*6+5,none⟩ (.slice a3 l3 c3)) [(g2,cur,38),(w.heap.size,#[.string ⟨v.nm.toArray⟩,.slice (some ⟨g2,0,none⟩) m c2,.int .i64 v.yl,.int .i64 v.yh,.slice (some ⟨g1,0,none⟩) v.dr.length c1,.int .i64 v.ax,.int .i64 v.be],28),(w.heap.size+1,#[.string ⟨#[]⟩,.slice none 0 0,.int .i64 0,.int .i64 0,.slice none 0 0,.int .i64 0,.int .i64 0],28),(g1,pG,42)]:=by
        intro w3 a3 l3 c3 K3 C_ b3;have hg:g2<wr.heap.size:=hO.2.2.2.1
        have other:∀(g:Nat) o,g≠g2->w3.heap[g]? = some o->(w3.setCell ⟨g2,k*6+5,none⟩ (.slice a3 l3 c3)).heap[g]? = some o:=λg o cW hu=>by
          rw [<-hu,yp,if_neg (λe=>cW e.symm)]
        have jS:(v.ss.drop n).drop k=s::(v.ss.drop n).drop (k+1):=by
          rw [<-List.getElem_cons_drop qG];congr 1;rw [List.getElem?_eq_getElem qG]at hs;exact Option.some.inj hs
        refine⟨k+1,ts ++ [{s with v := .slice a3 l3 c3}],cur.setIfInBounds (k*6+5) (.slice a3 l3 c3),by omega,rfl,by simp [H_], ?_,by simp [mJ], ?_, ?_, ?_⟩
        · rw [List.map_append,TT,List.take_add_one,hs,List.map_append];rfl
        · rw [Array.toList_setIfInBounds,List.take_set,H',jS,<-H_,OI]
        · intro z hz;rcases List.mem_append.1 hz with hz|hz
          · exact (iM z hz).mono (Nat.le_refl _) λg o hg hu=>other g o (by omega) (b3 _ _ hu)
          · rw [List.mem_singleton]at hz;subst hz;exact eD.mono (by omega) (λg o hg hu=>other g o (by omega) hu) C_
        · have hO:=Kn.aK K3.all;simp only [aN]at hO;have ep:w.heap.size+1<g2:=by omega
          exact Kn.of (w0:=w) (by have B:=K3.below;go_grown) (by simp only [wI,yp,IntWalk.iteOmega,Wk.setObj,hO,Option.map_some,↓reduceIte,if_true,if_false,and_self,and_true])
      have mixed:Tryz.prog.follows Departure.mixedOrders=true:=by kernel_rfl
      go_wp2
      clear pz;clear hO
      go_region_with_o ((go_at_call 21;refine (ON _ (by have B:=K.below;go_grown)).mono ?_;rintro e w3 ⟨v3,rfl,C_,b3⟩;obtain⟨a3,l3,c3,rfl⟩:=C_.slice;replace K:=K.drew.next b3;have x1:=Gr b3 YK;have y1:=Gr b3 px;have y2:w3.frozen? ⟨g2,k*6+5,none⟩=false:=(Kn.aK K.all).2.2.1 _))
      all_goals go_wp2
      all_goals go_roundw
      all_goals first|exact fin _ _ _ _ K C_ (λg o hu=>(b3.block g (bM hu)).trans hu) | (simp only [intOf];omega)
    · have oQ:k=m:=by omega
      subst oQ;have g8:¬((k:Int)<(k:Int)):=by omega
      go_wp2
      refine bodyPost_ret (by simp [results,Tryz.results6,go_sem,hO];try rfl) rfl ?_;have uT:(v.ss.drop n).drop k=[]:=List.drop_of_length_le (by rw [List.length_drop];omega);rw [uT,List.append_nil]at H';have cn:(ts.flatMap jJ).length=(v.ss.length-n)*6:=by rw [Vc.zf zk,H_,hm]
      have A9:v.ss.length-n=ts.length:=by omega
      refine⟨⟨v.nm,.slice (some ⟨g2,0,none⟩) (v.ss.length-n) c2,ts,v.yl,v.yh,.slice (some ⟨g1,0,none⟩) v.dr.length c1,v.dr,v.ax,v.be⟩,rfl,by have B:=K.below;go_grown, ?_,rfl, ?_,rfl,rfl,rfl,rfl,rfl⟩
      · refine OJ (A:=w.heap.size+1) (wr:=wr) (λg hg => ?_) (by omega) (by rw [A9]) (by omega) (K.all (g2,cur,38) (by simp)) (by rw [<-A9,<-hm];exact H') rfl (by omega) (K.all (g1,pG,42) (by simp)) OK iM;simp only [yp,if_neg (Ne.symm hg)]
      · rw [TT,List.take_of_length_le (by rw [List.length_drop];omega)]
        try simp
def gM(v:Vh)(n:Int):Int:=if ng v=false then 2 else if 0<=n/\n<=(v.ss.length:Int)-1 then 0 else 7
def lA(v:Vh)(n:Int):Vh:=if gM v n=0 then {v with ss:=v.ss.drop n.toNat}else ⟨[],.slice none 0 0,[],0,0,.slice none 0 0,[],0,0⟩
theorem drop_zero{v:Vh}{n:Int}(h:gM v n≠0):lA v n=⟨[],.slice none 0 0,[],0,0,.slice none 0 0,[],0,0⟩:=if_neg h
theorem YL{w:World}{v:Vh}(hG:nu w)(h:fZ w v)(hz:iv v)(gV:lz v.sv)(n:Int) :
  Calls Tryz.prog 6 #[fL v,.int .i64 n] w λe w'=>∃u:Vh,e=.returned (.tuple #[fL u,.int .i64 (gM v n)])/\Below w.heap.size w w'/\jd w.heap.size w' u/\fa (lA v n) u:=by
 have zero:∀w',gM v n≠0->∃u:Vh,(Ending.returned (.tuple #[zeroV,.int .i64 (gM v n)])=.returned (.tuple #[fL u,.int .i64 (gM v n)]))/\jd w.heap.size w' u/\fa (lA v n) u:=λw' he =>
  ⟨⟨[],.slice none 0 0,[],0,0,.slice none 0 0,[],0,0⟩,rfl,⟨.inl ⟨rfl,rfl⟩,.inl ⟨rfl,rfl⟩⟩,by rw [drop_zero he];exact⟨rfl,rfl,rfl,rfl,rfl,rfl,rfl⟩⟩
 by_cases hv:ng v=false
 ·have e:gM v n=2:=if_pos hv;refine (Yy hG h hz n hv).mono ?_;rintro e' w' ⟨rfl,hb⟩;obtain⟨u,h1,h2⟩:=zero w' (by rw [e];decide);rw [e]at h1 ⊢;exact⟨u,h1,hb,h2⟩
 ·have mQ:ng v=true:=by cases hh:ng v<;>simp_all
  by_cases hn:0<=n/\n<=(v.ss.length:Int)-1
  ·have e:gM v n=0:=by unfold gM;rw [if_neg hv,if_pos hn]
   obtain⟨k,rfl⟩:=Int.eq_ofNat_of_zero_le hn.1;have hk:k<v.ss.length:=by omega
   refine (YG hG h hz gV k mQ hk).mono ?_;rintro e' w' ⟨u,h1,hb,h2,e1,e2,e3,e4,e5,e6,e7⟩;have ed:lA v (k:Int) = {v with ss:=v.ss.drop k}:=if_pos e;exact⟨u,by rw [e];exact h1,hb,h2,by rw [ed];exact⟨e1,e2,e3,e4,e5,e6,e7⟩⟩
  ·have e:gM v n=7:=by unfold gM;rw [if_neg hv,if_neg hn]
   refine (Yz hG h hz n mQ hn).mono ?_;rintro e' w' ⟨rfl,hb⟩;obtain⟨u,h1,h2⟩:=zero w' (by rw [e];decide);rw [e]at h1 ⊢;exact⟨u,h1,hb,h2⟩
end Go.Proofs.YtocleppbcngcjaaGreatDoor
end
