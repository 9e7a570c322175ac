import Derived.Test.YtocleppbcngcjaaGreatDoorPz
import Derived.Test.YtocleppbcngcjaaGreatDoorPp
import Derived.Test.YtocleppbcngcjaaGreatDoorWq
set_option linter.unusedVariables false
set_option linter.unusedSimpArgs false
set_option linter.unusedSimpArgs false
namespace Go.Proofs.YtocleppbcngcjaaGreatDoor
open Go Go.RowKit Go.Proofs Wk
theorem Co{w:World}{v:Value}{sz n:Nat}{xs:List Value}(h:Vc.dI w v sz xs)(hz:0<sz)(hn:xs.length=n*sz) :
  ∃(a:Option Addr) (c:Nat),v=.slice a n c/\(0<n->∃b o,a=some ⟨b,o,none⟩/\∀j u,xs[j]? = some u->w.cell? ⟨b,o+j,none⟩=some u):=by
 have zero:xs=[]->n=0:=λh0=>by
  rw [h0]at hn;rcases Nat.mul_eq_zero.1 hn.symm with h|h<;>omega
 rcases h with ⟨rfl,h⟩|⟨a,rfl,h⟩|⟨b,o,len,cap,rfl,h2,h3⟩
 ·have:=zero h;subst this
  exact⟨none,0,rfl,λh=>absurd h (by omega)⟩
 ·have:=zero h;subst this
  exact⟨some a,0,rfl,λh=>absurd h (by omega)⟩
 ·have hl:len=n:=Nat.eq_of_mul_eq_mul_right hz (by rw [<-h2,hn]);subst hl;exact⟨_,cap,rfl,λ_=>⟨b,o,rfl,h3⟩⟩
theorem Cp{B b:Nat}{w0 w w':World}{L:List (Nat × Array Value × TypeId)}(h:Kn w0 w L)(hb:Below w0.heap.size w w')(ho:Lib.OthersKept 5 (some b) w w')(hL:∀p∈L,p.1≠b/\p.2.2≠5):Kn w0 w' L :=
 ⟨h.below.trans hb,λp hp=>ho p.1 _ (h.all p hp) (by simpa using (hL p hp).1) (λc fz e=>by injection e with _ e _;exact (hL p hp).2 e)⟩
theorem _root_.Wk.Kn.self{w0 w:World}{L:List (Nat × Array Value × TypeId)}(h:Kn w0 w L):Kn w w L:=⟨Below.refl _ _,h.all⟩
theorem Gk{B b b1:Nat}{C1:Array Value}{T1:TypeId}{w0 w w':World}(h:Kn w0 w [(b1,C1,T1)])(hb:Below w0.heap.size w w')(ho:Lib.OthersKept 5 (some b) w w')(n1:b1≠b)(t1:T1≠5):Kn w0 w' [(b1,C1,T1)] :=
 Cp (B:=B) h hb ho λp hp=>by
  simp only [List.mem_cons,List.not_mem_nil,or_false]at hp;subst hp;exact⟨n1,t1⟩
theorem Gl{B b b1 b2:Nat}{C1 C2:Array Value}{T1 T2:TypeId}{w0 w w':World}(h:Kn w0 w [(b1,C1,T1),(b2,C2,T2)])(hb:Below w0.heap.size w w')(ho:Lib.OthersKept 5 (some b) w w')(n1:b1≠b)(n2:b2≠b)(t1:T1≠5)(t2:T2≠5):Kn w0 w' [(b1,C1,T1),(b2,C2,T2)] :=
 Cp (B:=B) h hb ho λp hp=>by
  simp only [List.mem_cons,List.not_mem_nil,or_false]at hp;rcases hp with rfl|rfl
  ·exact⟨n1,t1⟩
  ·exact⟨n2,t2⟩
theorem Gm{B b b1 b2 b3:Nat}{C1 C2 C3:Array Value}{T1 T2 T3:TypeId}{w0 w w':World}(h:Kn w0 w [(b1,C1,T1),(b2,C2,T2),(b3,C3,T3)])(hb:Below w0.heap.size w w')(ho:Lib.OthersKept 5 (some b) w w')(n1:b1≠b)(n2:b2≠b)(n3:b3≠b)(t1:T1≠5)(t2:T2≠5)(t3:T3≠5):Kn w0 w' [(b1,C1,T1),(b2,C2,T2),(b3,C3,T3)] :=
 Cp (B:=B) h hb ho λp hp=>by
  simp only [List.mem_cons,List.not_mem_nil,or_false]at hp;rcases hp with rfl|rfl|rfl
  ·exact⟨n1,t1⟩
  ·exact⟨n2,t2⟩
  ·exact⟨n3,t3⟩
theorem xf{B b:Nat}{bs:List Value}{w:World}(h:ux B b bs w):b<w.heap.size:=by rcases h with h|h<;>exact h.lt
theorem Cq{B b g n:Nat}{bs:List UInt8}(l:List (List UInt8))(W:World)(hg:g=W.heap.size)(h:ux B b (Lib.byteCells bs) W)(Cx:B<=W.heap.size)(hn:l.length=n)(CY:n<=100)(hlen:bs.length+l.flatten.length<=1000000000) :
  Calls Tryz.prog 25 #[.slice (some ⟨g,0,none⟩) n n,.pointer (some ⟨b,0,none⟩)] (W.alloc (.cells (qF l).toArray 9)) λe w'=>e=.returned (.tuple #[])/\ux B b (Lib.byteCells (bs++l.flatten)) w'/\Below B W w'/\Lib.OthersKept 5 (some b) W w':=by
 subst hg;have hb:b<W.heap.size:=by rcases h with h|h<;>exact h.lt
 have Oi:Below W.heap.size W (W.alloc (.cells (qF l).toArray 9)):=(Below.refl _ W).alloc (Nat.le_refl _) _;refine (Ld B b W.heap.size n bs l _ (h.below Oi) (by have:=Oi.size;omega) (by rw [heap_alloc,if_pos rfl]) (by omega) hn CY hlen).mono ?_;rintro e w' ⟨he,h1,h2,h3⟩;exact⟨he,h1,(Oi.mono Cx).trans h2,((Lib.OthersKept.refl _ _ W).alloc _).trans h3⟩
set_option maxHeartbeats 8000000 in
set_option maxRecDepth 100000 in
theorem Oj{w:World}{v:Vh}(hV:uS w)(h:fZ w v)(hz:iv v)(hv:ng v=true):Calls Tryz.prog 9 #[fL v] w (Vc.Ret (.string ⟨(mc v).toArray⟩) w):=by
 have mixed:Tryz.prog.follows Departure.mixedOrders=true:=by kernel_rfl
 have G:=(Ca hv).g;have Ha:=G.sc;have TL:=G.pc
 have dA:∀w',Below w.heap.size w w'->Calls Tryz.prog 17 #[fL v] w' (Vc.Ret (.bool true) w'):=λw' hb=>by
  rw [<-hv];exact Gj (hV.g.cA hb) (h.below hb) hz
 obtain⟨sa,sc,es,hs⟩:=Co h.st (by decide) (Vc.zf zk v.ss);obtain⟨da,dc,ed,hd⟩:=Co h.dr (by decide) (Vc.zf ri v.dr);unfold fL at dA ⊢;rw [es,ed]at dA ⊢;have K:=Kn.start w
 go_enter Tryz.func9,Tryz.ntmps9
 go_wp2_with (go_at_call 17;refine via (by repeat (first|exact K|apply Kn.push|apply Kn.drew)) (dA _ (by have B:=K.below;go_grown)) ?_;clear K;(try clear hO);intro wN K hO;simp only [aN,World.size_alloc,World.size_drew,World.size_setCell]at hO)
 obtain⟨wZ,YA⟩:∃wZ,wZ=wN:=⟨_,rfl⟩;subst YA;have ZG:w.heap.size<wZ.heap.size:=hO.2.2.2.1;have Hl:ux wZ.heap.size wZ.heap.size (Lib.byteCells []) (wZ.alloc (.cells #[.pointer none,.slice none 0 0] 68)):=Lib.IsBuilderF.of (Lib.fresh_isBuilder 68 5 wZ);have Gn:Below wZ.heap.size wZ (wZ.alloc (.cells #[.pointer none,.slice none 0 0] 68)):=(Below.refl _ wZ).alloc (Nat.le_refl _) _;have Sw:=TF G;refine (Cq (n:=3) (iF v) _ (by rw [World.size_alloc]) Hl (by rw [World.size_alloc];omega) rfl (by decide) (by rw [List.length_nil];omega)).mono ?_;rintro e w1 ⟨rfl,Ol,fy,Kz⟩;replace fy:=Gn.trans fy;replace K:=K.next fy;have wS:wZ.heap.size<=w1.heap.size:=fy.size;rw [List.nil_append]at Ol;clear hO Hl Gn Kz;have hO:=Kn.aK K.all;simp only [aN,World.size_alloc,World.size_drew,World.size_setCell]at hO
 go_wp2
 have lj:∀(k:Nat) (s:cD) (W:World),v.ss[k]? = some s->Below w.heap.size w W->∃b o,sa=some ⟨b,o,none⟩/\W.cell? ⟨b,o+k*6,none⟩=some (.string ⟨s.nm.toArray⟩)/\W.cell? ⟨b,o+k*6+1,none⟩=some (.int .i64 s.dl)/\W.cell? ⟨b,o+k*6+2,none⟩=some (.int .i64 s.dh)/\W.cell? ⟨b,o+k*6+3,none⟩=some (.int .i64 s.pl)/\W.cell? ⟨b,o+k*6+4,none⟩=some (.int .i64 s.ph)/\W.cell? ⟨b,o+k*6+5,none⟩=some (s.v):=by
  intro k s W hk hB;obtain⟨b,o,e,hc⟩:=hs (by have:=(List.getElem?_eq_some_iff.1 hk).1;omega);have c0:=hc (k*6+0) _ (Vc.zg zk hk (by decide));have c1:=hc (k*6+1) _ (Vc.zg zk hk (by decide));have c2:=hc (k*6+2) _ (Vc.zg zk hk (by decide));have c3:=hc (k*6+3) _ (Vc.zg zk hk (by decide));have c4:=hc (k*6+4) _ (Vc.zg zk hk (by decide));have c5:=hc (k*6+5) _ (Vc.zg zk hk (by decide));simp only [Nat.add_zero,<-Nat.add_assoc]at c0 c1 c2 c3 c4 c5;have q:∀p u,w.cell? p=some u->W.cell? p=some u:=λp u hu=>(hB.cell (World.block_lt_of_cell? _ _ hu)).trans hu;exact⟨b,o,e,q _ _ c0,q _ _ c1,q _ _ c2,q _ _ c3,q _ _ c4,q _ _ c5⟩
 go_loopw [23] (λi wr=>∃k:Nat,k<=v.ss.length/\i=.int .i64 (k:Int)/\ux wZ.heap.size wZ.heap.size (Lib.byteCells ((iF v).flatten++(v.ss.take k).flatMap k9)) wr/\Kn w wr [(w.heap.size,#[.string ⟨v.nm.toArray⟩,.slice sa v.ss.length sc,.int .i64 v.yl,.int .i64 v.yh,.slice da v.dr.length dc,.int .i64 v.ax,.int .i64 v.be],28)]/\wZ.heap.size<=wr.heap.size) (λi _=>v.ss.length-(intOf i).toNat)
 case atStart=>exact⟨0,Nat.zero_le _,rfl,by simpa using Ol,K,wS⟩
 case round =>
  clear K hO Ol fy wS;obtain⟨k,hk,rfl,hI,K,fW⟩:=hrel;obtain⟨wO,YB⟩:∃wO,wO=wr:=⟨_,rfl⟩;subst YB
  have hlen:((iF v).flatten++(v.ss.take k).flatMap k9).length<=1000+8*40000:=by
   have h1:=Gb (l:=v.ss.take k) (f:=k9) (M:=40000) λs hs=>NX (G.ss s (List.mem_of_mem_take hs));have h2:=G.sc;have h3:=List.length_take_le k v.ss;have h4:=TF G;rw [List.length_append];omega
  by_cases eR:k<v.ss.length
  ·obtain⟨s,xD⟩:∃s,v.ss[k]? = some s:=⟨_,List.getElem?_eq_getElem eR⟩;have lZ:=List.mem_of_getElem? xD;have Gs:=G.ss s lZ;have ZH:=Gs.ec;obtain⟨b,o,rfl,c0,c1,c2,c3,c4,c5⟩:=lj k s wO xD K.below;have g8:(k:Int)<(v.ss.length:Int):=by omega
   have k0:(0:Int)<=(k:Int):=by omega
   obtain⟨ea,ec,YC,fP⟩:=Co (h.es s lZ) (by decide) (Vc.zf zm s.es);rw [YC]at c5;have s_:=TD Gs;have r0:=Gs.dl;have Om:=r0.1;have On:=r0.2;have r1:=Gs.dh;have Oo:=r1.1;have Oq:=r1.2;have r2:=Gs.pl;have Ot:=r2.1;have Ou:=r2.2;have r3:=Gs.ph;have TM:=r3.1;have TN:=r3.2;have hO:=Kn.aK K.all;simp only [aN,World.size_alloc,World.size_drew,World.size_setCell]at hO
   go_wp2
   have qR:Below wO.heap.size wO (wO.alloc (.cells #[.string ⟨s.nm.toArray⟩,.int .i64 s.dl,.int .i64 s.dh,.int .i64 s.pl,.int .i64 s.ph,.slice ea s.es.length ec] 38)):=(Below.refl _ wO).alloc (Nat.le_refl _) _;have tD:=hV.cA (K.below.trans (qR.mono K.below.size));have qU:=K.below.trans (qR.mono K.below.size);have tE:=hI.below qR;have yQ:wZ.heap.size<wO.heap.size:=xf hI;have kJ:wZ.heap.size<=(wO.alloc (.cells #[.string ⟨s.nm.toArray⟩,.int .i64 s.dl,.int .i64 s.dh,.int .i64 s.pl,.int .i64 s.ph,.slice ea s.es.length ec] 38)).heap.size:=by have:=qR.size;omega
   replace K:Kn (wO.alloc (.cells #[.string ⟨s.nm.toArray⟩,.int .i64 s.dl,.int .i64 s.dh,.int .i64 s.pl,.int .i64 s.ph,.slice ea s.es.length ec] 38)) (wO.alloc (.cells #[.string ⟨s.nm.toArray⟩,.int .i64 s.dl,.int .i64 s.dh,.int .i64 s.pl,.int .i64 s.ph,.slice ea s.es.length ec] 38)) [(wO.heap.size,#[.string ⟨s.nm.toArray⟩,.int .i64 s.dl,.int .i64 s.dh,.int .i64 s.pl,.int .i64 s.ph,.slice ea s.es.length ec],38),(w.heap.size,#[.string ⟨v.nm.toArray⟩,.slice (some ⟨b,o,none⟩) v.ss.length sc,.int .i64 v.yl,.int .i64 v.yh,.slice da v.dr.length dc,.int .i64 v.ax,.int .i64 v.be],28)]:=⟨Below.refl _ _,(Kn.push K _ _).all⟩;clear hO hI;have hO:=Kn.aK K.all;simp only [aN,World.size_alloc,World.size_drew,World.size_setCell]at hO
   go_region_held3 (λw'=>w'.cell? ⟨wO.heap.size,0,none⟩=some (.string ⟨s.nm.toArray⟩)/\w'.cell? ⟨wO.heap.size,1,none⟩=some (.int .i64 s.dl)/\w'.cell? ⟨wO.heap.size,2,none⟩=some (.int .i64 s.dh)/\w'.cell? ⟨wO.heap.size,3,none⟩=some (.int .i64 s.pl)/\w'.cell? ⟨wO.heap.size,4,none⟩=some (.int .i64 s.ph)/\w'.cell? ⟨wO.heap.size,5,none⟩=some (.slice ea s.es.length ec)) (simp [go_sem, *]) (first
    | (go_at_call 27;refine via (by repeat (first|exact K|apply Kn.push|apply Kn.drew)) (FH tD (by assumption) (by assumption) _ (by decide) _ (by have B:=K.below;go_grown)) ?_;clear K;(try clear hO);intro wN K hO;simp only [aN,World.size_alloc,World.size_drew,World.size_setCell]at hO)
    | (go_at_call 25;refine (Cq (n:=7) (sf s) _ rfl (tE.below K.below) (by have:=K.below.size;omega) rfl (by decide) (by omega)).mono ?_;have kK:=Nat.le_trans kJ K.below.size;rintro e w2 ⟨rfl,pF,dL,oU⟩;replace K:=Gl (B:=wZ.heap.size) (Kn.trans' qU K) (dL.mono (by omega)) oU (by omega) (by omega) (by decide) (by decide);have jN:=Nat.le_trans kK dL.size;clear hO;have hO:=Kn.aK K.all;simp only [aN,World.size_alloc,World.size_drew,World.size_setCell]at hO;dsimp only))
   clear c0 c1 c2 c3 c4 c5 tE kJ kK dL oU qR
   go_wp2
   have Ov:∀(k:Nat) (x:En) (W:World),s.es[k]? = some x->Below w.heap.size w W->∃b o,ea=some ⟨b,o,none⟩/\W.cell? ⟨b,o+k*11,none⟩=some (.string ⟨x.nm.toArray⟩)/\W.cell? ⟨b,o+k*11+1,none⟩=some (.int .i64 x.n)/\W.cell? ⟨b,o+k*11+2,none⟩=some (.int .i64 x.tl)/\W.cell? ⟨b,o+k*11+3,none⟩=some (.int .i64 x.th)/\W.cell? ⟨b,o+k*11+4,none⟩=some (.int .i64 x.fl)/\W.cell? ⟨b,o+k*11+5,none⟩=some (.int .i64 x.fh)/\W.cell? ⟨b,o+k*11+6,none⟩=some (.int .i64 x.le)/\W.cell? ⟨b,o+k*11+7,none⟩=some (.int .i64 x.sl)/\W.cell? ⟨b,o+k*11+8,none⟩=some (.int .i64 x.sh)/\W.cell? ⟨b,o+k*11+9,none⟩=some (.int .i64 x.pl)/\W.cell? ⟨b,o+k*11+10,none⟩=some (.int .i64 x.ph):=by
    intro k x W hk hB;obtain⟨b,o,e,hc⟩:=fP (by have:=(List.getElem?_eq_some_iff.1 hk).1;omega);have c0:=hc (k*11+0) _ (Vc.zg zm hk (by decide));have c1:=hc (k*11+1) _ (Vc.zg zm hk (by decide));have c2:=hc (k*11+2) _ (Vc.zg zm hk (by decide));have c3:=hc (k*11+3) _ (Vc.zg zm hk (by decide));have c4:=hc (k*11+4) _ (Vc.zg zm hk (by decide));have c5:=hc (k*11+5) _ (Vc.zg zm hk (by decide));have c6:=hc (k*11+6) _ (Vc.zg zm hk (by decide));have c7:=hc (k*11+7) _ (Vc.zg zm hk (by decide));have c8:=hc (k*11+8) _ (Vc.zg zm hk (by decide));have c9:=hc (k*11+9) _ (Vc.zg zm hk (by decide));have B5:=hc (k*11+10) _ (Vc.zg zm hk (by decide));simp only [Nat.add_zero,<-Nat.add_assoc]at c0 c1 c2 c3 c4 c5 c6 c7 c8 c9 B5;have q:∀p u,w.cell? p=some u->W.cell? p=some u:=λp u hu=>(hB.cell (World.block_lt_of_cell? _ _ hu)).trans hu;exact⟨b,o,e,q _ _ c0,q _ _ c1,q _ _ c2,q _ _ c3,q _ _ c4,q _ _ c5,q _ _ c6,q _ _ c7,q _ _ c8,q _ _ c9,q _ _ B5⟩
   go_loopw [41] (λi wi=>∃m:Nat,m<=s.es.length/\i=.int .i64 (m:Int)/\ux wZ.heap.size wZ.heap.size (Lib.byteCells ((iF v).flatten++(v.ss.take k).flatMap k9++(sf s).flatten++(s.es.take m).flatMap (pD s))) wi/\Kn w wi [(wO.heap.size,#[.string ⟨s.nm.toArray⟩,.int .i64 s.dl,.int .i64 s.dh,.int .i64 s.pl,.int .i64 s.ph,.slice ea s.es.length ec],38),(w.heap.size,#[.string ⟨v.nm.toArray⟩,.slice (some ⟨b,o,none⟩) v.ss.length sc,.int .i64 v.yl,.int .i64 v.yh,.slice da v.dr.length dc,.int .i64 v.ax,.int .i64 v.be],28)]/\wZ.heap.size<=wi.heap.size) (λi _=>s.es.length-(intOf i).toNat)
   case atStart=>exact⟨0,Nat.zero_le _,rfl,by simpa using pF,K,jN⟩
   case round =>
    clear K hO pF jN;obtain⟨m,hm,rfl,hI,K,fW⟩:=hrel
    have xg:((iF v).flatten++(v.ss.take k).flatMap k9++(sf s).flatten++(s.es.take m).flatMap (pD s)).length<=1000+8*40000+1000+16*2000:=by
     have h1:=Gb (l:=s.es.take m) (f:=pD s) (M:=2000) λx hx=>TE Gs (Gs.es x (List.mem_of_mem_take hx));have h2:=Gs.ec;have h3:=List.length_take_le m s.es;rw [List.length_append,List.length_append];omega
    by_cases kA:m<s.es.length
    ·obtain⟨x,Ow⟩:∃x,s.es[m]? = some x:=⟨_,List.getElem?_eq_getElem kA⟩;have Gx:=Gs.es x (List.mem_of_getElem? Ow);obtain⟨b',o',rfl,c0,c1,c2,c3,c4,c5,c6,c7,c8,c9,B5⟩:=Ov m x wr Ow K.below;have Au:(m:Int)<(s.es.length:Int):=by omega
     have m0:(0:Int)<=(m:Int):=by omega
     have TO:=TB Gs Gx;have TP:=TC Gx;have r0:=Gx.n;have Om:=r0.1;have On:=r0.2;have r1:=Gx.tl;have Oo:=r1.1;have Oq:=r1.2;have r2:=Gx.th;have Ot:=r2.1;have Ou:=r2.2;have r3:=Gx.fl;have TM:=r3.1;have TN:=r3.2;have r4:=Gx.fh;have ZI:=r4.1;have ZJ:=r4.2;have r5:=Gx.le;have ZK:=r5.1;have ZL:=r5.2;have r6:=Gx.sl;have ZM:=r6.1;have ZN:=r6.2;have r7:=Gx.sh;have ZO:=r7.1;have ZP:=r7.2;have r8:=Gx.pl;have ZQ:=r8.1;have ZR:=r8.2;have r9:=Gx.ph;have ZS:=r9.1;have ZT:=r9.2;have hO:=Kn.aK K.all;simp only [aN,World.size_alloc,World.size_drew,World.size_setCell]at hO
     go_wp2
     have qR:Below wr.heap.size wr (wr.alloc (.cells #[.string ⟨x.nm.toArray⟩,.int .i64 x.n,.int .i64 x.tl,.int .i64 x.th,.int .i64 x.fl,.int .i64 x.fh,.int .i64 x.le,.int .i64 x.sl,.int .i64 x.sh,.int .i64 x.pl,.int .i64 x.ph] 40)):=(Below.refl _ wr).alloc (Nat.le_refl _) _;have tD:=hV.cA (K.below.trans (qR.mono K.below.size));have qU:=K.below.trans (qR.mono K.below.size);have tE:=hI.below qR;have yQ:wZ.heap.size<wr.heap.size:=xf hI;have kJ:wZ.heap.size<=(wr.alloc (.cells #[.string ⟨x.nm.toArray⟩,.int .i64 x.n,.int .i64 x.tl,.int .i64 x.th,.int .i64 x.fl,.int .i64 x.fh,.int .i64 x.le,.int .i64 x.sl,.int .i64 x.sh,.int .i64 x.pl,.int .i64 x.ph] 40)).heap.size:=by have:=qR.size;omega
     replace K:Kn (wr.alloc (.cells #[.string ⟨x.nm.toArray⟩,.int .i64 x.n,.int .i64 x.tl,.int .i64 x.th,.int .i64 x.fl,.int .i64 x.fh,.int .i64 x.le,.int .i64 x.sl,.int .i64 x.sh,.int .i64 x.pl,.int .i64 x.ph] 40)) (wr.alloc (.cells #[.string ⟨x.nm.toArray⟩,.int .i64 x.n,.int .i64 x.tl,.int .i64 x.th,.int .i64 x.fl,.int .i64 x.fh,.int .i64 x.le,.int .i64 x.sl,.int .i64 x.sh,.int .i64 x.pl,.int .i64 x.ph] 40)) [(wr.heap.size,#[.string ⟨x.nm.toArray⟩,.int .i64 x.n,.int .i64 x.tl,.int .i64 x.th,.int .i64 x.fl,.int .i64 x.fh,.int .i64 x.le,.int .i64 x.sl,.int .i64 x.sh,.int .i64 x.pl,.int .i64 x.ph],40),(wO.heap.size,#[.string ⟨s.nm.toArray⟩,.int .i64 s.dl,.int .i64 s.dh,.int .i64 s.pl,.int .i64 s.ph,.slice (some ⟨b',o',none⟩) s.es.length ec],38),(w.heap.size,#[.string ⟨v.nm.toArray⟩,.slice (some ⟨b,o,none⟩) v.ss.length sc,.int .i64 v.yl,.int .i64 v.yh,.slice da v.dr.length dc,.int .i64 v.ax,.int .i64 v.be],28)]:=⟨Below.refl _ _,(Kn.push K _ _).all⟩;clear hO hI;have hO:=Kn.aK K.all;simp only [aN,World.size_alloc,World.size_drew,World.size_setCell]at hO
     go_region_held3 (λw'=>w'.cell? ⟨wr.heap.size,0,none⟩=some (.string ⟨x.nm.toArray⟩)/\w'.cell? ⟨wr.heap.size,1,none⟩=some (.int .i64 x.n)/\w'.cell? ⟨wr.heap.size,2,none⟩=some (.int .i64 x.tl)/\w'.cell? ⟨wr.heap.size,3,none⟩=some (.int .i64 x.th)/\w'.cell? ⟨wr.heap.size,4,none⟩=some (.int .i64 x.fl)/\w'.cell? ⟨wr.heap.size,5,none⟩=some (.int .i64 x.fh)/\w'.cell? ⟨wr.heap.size,6,none⟩=some (.int .i64 x.le)/\w'.cell? ⟨wr.heap.size,7,none⟩=some (.int .i64 x.sl)/\w'.cell? ⟨wr.heap.size,8,none⟩=some (.int .i64 x.sh)/\w'.cell? ⟨wr.heap.size,9,none⟩=some (.int .i64 x.pl)/\w'.cell? ⟨wr.heap.size,10,none⟩=some (.int .i64 x.ph)/\w'.cell? ⟨wO.heap.size,0,none⟩=some (.string ⟨s.nm.toArray⟩)) (simp [go_sem, *]) (first
      | (go_at_call 27;refine via (by repeat (first|exact K|apply Kn.push|apply Kn.drew)) (FH tD (by assumption) (by assumption) _ (by decide) _ (by have B:=K.below;go_grown)) ?_;clear K;(try clear hO);intro wN K hO;simp only [aN,World.size_alloc,World.size_drew,World.size_setCell]at hO)
      | (go_at_call 28;refine via (by repeat (first|exact K|apply Kn.push|apply Kn.drew)) (SK tD (by assumption) (by assumption) _ (by have B:=K.below;go_grown)) ?_;clear K;(try clear hO);intro wN K hO;simp only [aN,World.size_alloc,World.size_drew,World.size_setCell]at hO)
      | (go_at_call 25;refine (Cq (n:=10) (qQ s x) _ rfl (tE.below K.below) (by have:=K.below.size;omega) rfl (by decide) (by omega)).mono ?_;have kK:=Nat.le_trans kJ K.below.size;rintro e w2 ⟨rfl,pF,dL,oU⟩;replace K:=Gm (B:=wZ.heap.size) (Kn.trans' qU K) (dL.mono (by omega)) oU (by omega) (by omega) (by omega) (by decide) (by decide) (by decide);have jN:=Nat.le_trans kK dL.size;clear hO;have hO:=Kn.aK K.all;simp only [aN,World.size_alloc,World.size_drew,World.size_setCell]at hO;dsimp only))
     clear c0 c1 c2 c3 c4 c5 c6 c7 c8 c9 B5 tE kJ kK dL oU qR tD qU
     have TQ:((iF v).flatten++(v.ss.take k).flatMap k9++(sf s).flatten++(s.es.take m).flatMap (pD s)++(qQ s x).flatten).length<=400000:=by
      rw [List.length_append];omega
     go_wp2
     have tD:=hV.cA K.below;have qU:=K.below;have tE:=pF;have yQ:wZ.heap.size<_:=xf pF;have kJ:=jN;replace K:=Kn.self K;clear hO pF;have hO:=Kn.aK K.all;simp only [aN,World.size_alloc,World.size_drew,World.size_setCell]at hO
     go_region_held3 (λw'=>w'.cell? ⟨wr.heap.size,0,none⟩=some (.string ⟨x.nm.toArray⟩)/\w'.cell? ⟨wr.heap.size,1,none⟩=some (.int .i64 x.n)/\w'.cell? ⟨wr.heap.size,2,none⟩=some (.int .i64 x.tl)/\w'.cell? ⟨wr.heap.size,3,none⟩=some (.int .i64 x.th)/\w'.cell? ⟨wr.heap.size,4,none⟩=some (.int .i64 x.fl)/\w'.cell? ⟨wr.heap.size,5,none⟩=some (.int .i64 x.fh)/\w'.cell? ⟨wr.heap.size,6,none⟩=some (.int .i64 x.le)/\w'.cell? ⟨wr.heap.size,7,none⟩=some (.int .i64 x.sl)/\w'.cell? ⟨wr.heap.size,8,none⟩=some (.int .i64 x.sh)/\w'.cell? ⟨wr.heap.size,9,none⟩=some (.int .i64 x.pl)/\w'.cell? ⟨wr.heap.size,10,none⟩=some (.int .i64 x.ph)) (simp [go_sem, *]) (first
      | (go_at_call 29;refine via (by repeat (first|exact K|apply Kn.push|apply Kn.drew)) (FG tD (by assumption) (by assumption) _ (by decide) _ (by have B:=K.below;go_grown)) ?_;clear K;(try clear hO);intro wN K hO;simp only [aN,World.size_alloc,World.size_drew,World.size_setCell]at hO)
      | (go_at_call 27;refine via (by repeat (first|exact K|apply Kn.push|apply Kn.drew)) (FH tD (by assumption) (by assumption) _ (by decide) _ (by have B:=K.below;go_grown)) ?_;clear K;(try clear hO);intro wN K hO;simp only [aN,World.size_alloc,World.size_drew,World.size_setCell]at hO)
      | (go_at_call 25;refine (Cq (n:=7) (tC x) _ rfl (tE.below K.below) (by have:=K.below.size;omega) rfl (by decide) (by omega)).mono ?_;have kK:=Nat.le_trans kJ K.below.size;rintro e w2 ⟨rfl,pF,dL,oU⟩;replace K:=Gm (B:=wZ.heap.size) (Kn.trans' qU K) (dL.mono (by omega)) oU (by omega) (by omega) (by omega) (by decide) (by decide) (by decide);have jN:=Nat.le_trans kK dL.size;clear hO;have hO:=Kn.aK K.all;simp only [aN,World.size_alloc,World.size_drew,World.size_setCell]at hO;dsimp only))
     clear tE kJ kK dL oU qU
     go_wp2
     go_roundw
     case rel =>
      refine⟨m+1,by omega,by go_num, ?_,⟨K.below,λp hp=>K.all p (List.mem_cons_of_mem _ hp)⟩,jN⟩;rw [List.take_add_one,Ow];simpa [pD]using pF
     case measure=>simp only [intOf];omega
    ·have Ox:m=s.es.length:=by omega
     subst Ox;have Au:¬((s.es.length:Int)<(s.es.length:Int)):=by omega
     go_wp2
     go_roundw
     case rel =>
      refine⟨k+1,by omega,by go_num, ?_,⟨K.below,λp hp=>K.all p (List.mem_cons_of_mem _ hp)⟩,fW⟩;rw [List.take_add_one,xD];rw [List.take_length]at hI;simpa [k9]using hI
     case measure=>simp only [intOf];omega
  ·have oQ:k=v.ss.length:=by omega
   subst oQ;have g8:¬((v.ss.length:Int)<(v.ss.length:Int)):=by omega
   rw [List.take_length]at hI hlen;have qY:oo.flatten.length=6:=by decide
   have wy:=Cq (n:=1) (g:=wO.heap.size) oo wO rfl hI fW rfl (by decide) (by omega);have hO:=Kn.aK K.all;simp only [aN,World.size_alloc,World.size_drew,World.size_setCell]at hO
   go_wp2_with (go_at_call 25;refine wy.mono ?_;clear wy;rintro e w2 ⟨rfl,pF,dL,oU⟩;replace K:=Gk (B:=wZ.heap.size) K (dL.mono (by omega)) oU (by omega) (by decide);have jN:=Nat.le_trans fW dL.size;clear hO hI dL oU;have hO:=Kn.aK K.all;simp only [aN,World.size_alloc,World.size_drew,World.size_setCell]at hO)
   have oc:∀(k:Nat) (p:Pt) (W:World),v.dr[k]? = some p->Below w.heap.size w W->∃b o,da=some ⟨b,o,none⟩/\W.cell? ⟨b,o+k*3,none⟩=some (.int .i64 p.a)/\W.cell? ⟨b,o+k*3+1,none⟩=some (.int .i64 p.lo)/\W.cell? ⟨b,o+k*3+2,none⟩=some (.int .i64 p.hi):=by
    intro k p W hk hB;obtain⟨b,o,e,hc⟩:=hd (by have:=(List.getElem?_eq_some_iff.1 hk).1;omega);have c0:=hc (k*3+0) _ (Vc.zg ri hk (by decide));have c1:=hc (k*3+1) _ (Vc.zg ri hk (by decide));have c2:=hc (k*3+2) _ (Vc.zg ri hk (by decide));simp only [Nat.add_zero,<-Nat.add_assoc]at c0 c1 c2;have q:∀p u,w.cell? p=some u->W.cell? p=some u:=λp u hu=>(hB.cell (World.block_lt_of_cell? _ _ hu)).trans hu;exact⟨b,o,e,q _ _ c0,q _ _ c1,q _ _ c2⟩
   go_loopw [81] (λi wr=>∃k:Nat,k<=v.dr.length/\i=.int .i64 (k:Int)/\ux wZ.heap.size wZ.heap.size (Lib.byteCells ((iF v).flatten++v.ss.flatMap k9++oo.flatten++(v.dr.take k).flatMap yO)) wr/\Kn w wr [(w.heap.size,#[.string ⟨v.nm.toArray⟩,.slice sa v.ss.length sc,.int .i64 v.yl,.int .i64 v.yh,.slice da v.dr.length dc,.int .i64 v.ax,.int .i64 v.be],28)]/\wZ.heap.size<=wr.heap.size) (λi _=>v.dr.length-(intOf i).toNat)
   case atStart=>exact⟨0,Nat.zero_le _,rfl,by simpa using pF,K,jN⟩
   case round =>
    clear K hO pF jN;obtain⟨k,hk,rfl,hI,K,fW⟩:=hrel
    have s_:((iF v).flatten++v.ss.flatMap k9++oo.flatten++(v.dr.take k).flatMap yO).length<=1000+8*40000+6+64*1000:=by
     have h1:=Gb (l:=v.dr.take k) (f:=yO) (M:=1000) λp hp=>Gc (G.dr p (List.mem_of_mem_take hp));have h2:=G.pc;have h3:=List.length_take_le k v.dr;rw [List.length_append,List.length_append];omega
    by_cases eR:k<v.dr.length
    ·obtain⟨p,Oy⟩:∃p,v.dr[k]? = some p:=⟨_,List.getElem?_eq_getElem eR⟩;have Gp:=G.dr p (List.mem_of_getElem? Oy);obtain⟨b,o,rfl,c0,c1,c2⟩:=oc k p wr Oy K.below;have Au:(k:Int)<(v.dr.length:Int):=by omega
     have k0:(0:Int)<=(k:Int):=by omega
     have xg:=Gc Gp;unfold yO at xg;have r0:=Gp.a;have Om:=r0.1;have On:=r0.2;have r1:=Gp.lo;have Oo:=r1.1;have Oq:=r1.2;have r2:=Gp.hi;have Ot:=r2.1;have Ou:=r2.2;have hO:=Kn.aK K.all;simp only [aN,World.size_alloc,World.size_drew,World.size_setCell]at hO
     go_wp2
     have qR:Below wr.heap.size wr (wr.alloc (.cells #[.int .i64 p.a,.int .i64 p.lo,.int .i64 p.hi] 42)):=(Below.refl _ wr).alloc (Nat.le_refl _) _;have tD:=hV.cA (K.below.trans (qR.mono K.below.size));have qU:=K.below.trans (qR.mono K.below.size);have tE:=hI.below qR;have yQ:wZ.heap.size<wr.heap.size:=xf hI;have kJ:wZ.heap.size<=(wr.alloc (.cells #[.int .i64 p.a,.int .i64 p.lo,.int .i64 p.hi] 42)).heap.size:=by have:=qR.size;omega
     replace K:Kn (wr.alloc (.cells #[.int .i64 p.a,.int .i64 p.lo,.int .i64 p.hi] 42)) (wr.alloc (.cells #[.int .i64 p.a,.int .i64 p.lo,.int .i64 p.hi] 42)) [(wr.heap.size,#[.int .i64 p.a,.int .i64 p.lo,.int .i64 p.hi],42),(w.heap.size,#[.string ⟨v.nm.toArray⟩,.slice sa v.ss.length sc,.int .i64 v.yl,.int .i64 v.yh,.slice (some ⟨b,o,none⟩) v.dr.length dc,.int .i64 v.ax,.int .i64 v.be],28)]:=⟨Below.refl _ _,(Kn.push K _ _).all⟩;clear hO hI;have hO:=Kn.aK K.all;simp only [aN,World.size_alloc,World.size_drew,World.size_setCell]at hO
     go_region_held3 (λw'=>w'.cell? ⟨wr.heap.size,0,none⟩=some (.int .i64 p.a)/\w'.cell? ⟨wr.heap.size,1,none⟩=some (.int .i64 p.lo)/\w'.cell? ⟨wr.heap.size,2,none⟩=some (.int .i64 p.hi)) (simp [go_sem, *]) (first
      | (go_at_call 29;refine via (by repeat (first|exact K|apply Kn.push|apply Kn.drew)) (FG tD (by assumption) (by assumption) _ (by decide) _ (by have B:=K.below;go_grown)) ?_;clear K;(try clear hO);intro wN K hO;simp only [aN,World.size_alloc,World.size_drew,World.size_setCell]at hO)
      | (go_at_call 27;refine via (by repeat (first|exact K|apply Kn.push|apply Kn.drew)) (FH tD (by assumption) (by assumption) _ (by decide) _ (by have B:=K.below;go_grown)) ?_;clear K;(try clear hO);intro wN K hO;simp only [aN,World.size_alloc,World.size_drew,World.size_setCell]at hO)
      | (go_at_call 25;refine (Cq (n:=5) (NU p) _ rfl (tE.below K.below) (by have:=K.below.size;omega) rfl (by decide) (by omega)).mono ?_;have kK:=Nat.le_trans kJ K.below.size;rintro e w2 ⟨rfl,pF,dL,oU⟩;replace K:=Gl (B:=wZ.heap.size) (Kn.trans' qU K) (dL.mono (by omega)) oU (by omega) (by omega) (by decide) (by decide);have jN:=Nat.le_trans kK dL.size;clear hO;have hO:=Kn.aK K.all;simp only [aN,World.size_alloc,World.size_drew,World.size_setCell]at hO;dsimp only))
     clear c0 c1 c2 tE kJ kK dL oU qR qU
     go_wp2
     go_roundw
     case rel =>
      refine⟨k+1,by omega,by go_num, ?_,⟨K.below,λp hp=>K.all p (List.mem_cons_of_mem _ hp)⟩,jN⟩;rw [List.take_add_one,Oy];simpa [yO]using pF
     case measure=>simp only [intOf];omega
    ·have oQ:k=v.dr.length:=by omega
     subst oQ;have Au:¬((v.dr.length:Int)<(v.dr.length:Int)):=by omega
     rw [List.take_length]at hI s_;have xg:=NY G;have r0:=G.ax;have Om:=r0.1;have On:=r0.2;have r1:=G.be;have Oo:=r1.1;have Oq:=r1.2;have r2:=G.yl;have Ot:=r2.1;have Ou:=r2.2;have r3:=G.yh;have TM:=r3.1;have TN:=r3.2;have hO:=Kn.aK K.all;simp only [aN,World.size_alloc,World.size_drew,World.size_setCell]at hO
     go_wp2
     have pF:=hI;have jN:=fW;clear hI fW;have tD:=hV.cA K.below;have qU:=K.below;have tE:=pF;have yQ:wZ.heap.size<_:=xf pF;have kJ:=jN;replace K:=Kn.self K;clear hO pF;have hO:=Kn.aK K.all;simp only [aN,World.size_alloc,World.size_drew,World.size_setCell]at hO
     go_region_held3 (λw'=>w'.cell? ⟨w.heap.size,0,none⟩=some (.string ⟨v.nm.toArray⟩)/\w'.cell? ⟨w.heap.size,1,none⟩=some (.slice sa v.ss.length sc)/\w'.cell? ⟨w.heap.size,2,none⟩=some (.int .i64 v.yl)/\w'.cell? ⟨w.heap.size,3,none⟩=some (.int .i64 v.yh)/\w'.cell? ⟨w.heap.size,4,none⟩=some (.slice da v.dr.length dc)/\w'.cell? ⟨w.heap.size,5,none⟩=some (.int .i64 v.ax)/\w'.cell? ⟨w.heap.size,6,none⟩=some (.int .i64 v.be)) (simp [go_sem, *]) (first
      | (go_at_call 29;refine via (by repeat (first|exact K|apply Kn.push|apply Kn.drew)) (FG tD (by assumption) (by assumption) _ (by decide) _ (by have B:=K.below;go_grown)) ?_;clear K;(try clear hO);intro wN K hO;simp only [aN,World.size_alloc,World.size_drew,World.size_setCell]at hO)
      | (go_at_call 27;refine via (by repeat (first|exact K|apply Kn.push|apply Kn.drew)) (FH tD (by assumption) (by assumption) _ (by decide) _ (by have B:=K.below;go_grown)) ?_;clear K;(try clear hO);intro wN K hO;simp only [aN,World.size_alloc,World.size_drew,World.size_setCell]at hO)
      | (go_at_call 25;refine (Cq (n:=7) (xe v) _ rfl (tE.below K.below) (by have:=K.below.size;omega) rfl (by decide) (by omega)).mono ?_;have kK:=Nat.le_trans kJ K.below.size;rintro e w2 ⟨rfl,pF,dL,oU⟩;replace K:=Gk (B:=wZ.heap.size) (Kn.trans' qU K) (dL.mono (by omega)) oU (by omega) (by decide);have jN:=Nat.le_trans kK dL.size;clear hO;have hO:=Kn.aK K.all;simp only [aN,World.size_alloc,World.size_drew,World.size_setCell]at hO;dsimp only))
     clear tE kJ kK oU qU
     go_wp2_with (go_at_call 30;refine (Tryz.Builder_String_any_k wZ.heap.size wZ.heap.size _ _ pF jN).mono ?_;rintro e w4 ⟨rfl,h4,b4,k4⟩)
     go_wp2
     go_ret
     refine⟨?_,K.below.trans (b4.mono (by omega))⟩;rw [show mc v=(iF v).flatten++(v.ss.flatMap k9++(oo.flatten++(v.dr.flatMap yO++(xe v).flatten))) by unfold mc;simp only [List.append_assoc]];rfl
set_option maxHeartbeats 4000000 in
set_option maxRecDepth 100000 in
theorem Oz{w:World}{v:Vh}(hG:nu w)(h:fZ w v)(hz:iv v)(hv:ng v=false):Calls Tryz.prog 9 #[fL v] w (Vc.Ret (.string ⟨#[]⟩) w):=by
 have dA:∀w',Below w.heap.size w w'->Calls Tryz.prog 17 #[fL v] w' (Vc.Ret (.bool false) w'):=λw' hb=>by
  rw [<-hv];exact Gj (hG.cA hb) (h.below hb) hz
 unfold fL at dA ⊢;generalize v.sv=sv at *;generalize v.dv=dv at *;have K:=Kn.start w
 go_enter Tryz.func9,Tryz.ntmps9
 go_wp2_with (go_at_call 17;refine via (by repeat (first|exact K|apply Kn.push|apply Kn.drew)) (dA _ (by have B:=K.below;go_grown)) ?_;clear K;(try clear hO);intro wN K hO;simp only [aN,World.size_alloc,World.size_drew,World.size_setCell]at hO)
 go_ret
 exact⟨rfl,by have B:=K.below;go_grown⟩
theorem OA{w:World}{v:Vh}(hV:uS w)(h:fZ w v)(hz:iv v):Calls Tryz.prog 9 #[fL v] w (Vc.Ret (.string ⟨(pE v).toArray⟩) w):=by
 unfold pE;cases hv:ng v with
 |true=>rw [if_pos rfl];exact Oj hV h hz hv
 |false=>rw [if_neg (by decide)];exact Oz hV.g h hz hv
end Go.Proofs.YtocleppbcngcjaaGreatDoor
