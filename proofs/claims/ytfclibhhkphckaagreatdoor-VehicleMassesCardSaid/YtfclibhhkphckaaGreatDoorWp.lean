import Derived.Test.YtfclibhhkphckaaGreatDoorWo
set_option linter.unusedVariables false
set_option linter.unusedSimpArgs false
set_option linter.unusedSimpArgs false
namespace Go.Proofs.YtfclibhhkphckaaGreatDoor
open Go Go.RowKit Go.Proofs Wk
theorem zcfa:∀ (l:List Pt),∀ u∈l.flatMap ptc,u.oneCell'=true:=fun l u hu=>by
 obtain⟨p,_,hp⟩:=List.mem_flatMap.1 hu;simp only [ptc,List.mem_cons,List.not_mem_nil,or_false]at hp;rcases hp with rfl | rfl | rfl <;> rfl
theorem zida{w:World}{v:Value}{sz:Nat}{xs:List Value}(h:Vc.SlAt w v sz xs):v.oneCell'=true:=by
 rcases h with ⟨rfl,_⟩ | ⟨_,rfl,_⟩ | ⟨_,_,_,_,rfl,_⟩ <;> rfl
theorem zdfa{w:World}{l:List Stg}(hl:∀ s∈l,Vc.SlAt w s.v 11 (s.es.flatMap enc)):∀ u∈l.flatMap stc,u.oneCell'=true:=fun u hu=>by
 obtain⟨p,hm,hp⟩:=List.mem_flatMap.1 hu;simp only [stc,List.mem_cons,List.not_mem_nil,or_false]at hp;rcases hp with rfl | rfl | rfl | rfl | rfl | rfl <;> first | rfl | exact zida (hl p hm)
theorem zefa:∀ (l:List En),∀ u∈l.flatMap enc,u.oneCell'=true:=fun l u hu=>by
 obtain⟨p,_,hp⟩:=List.mem_flatMap.1 hu;simp only [enc,List.mem_cons,List.not_mem_nil,or_false]at hp;rcases hp with rfl | rfl | rfl | rfl | rfl | rfl | rfl | rfl | rfl | rfl | rfl <;> rfl
theorem zmca(b o k j:Nat):(⟨b,o + k,none⟩:Addr).add j=⟨b,o + (k + j),none⟩:=by simp [Addr.add,Nat.add_assoc]
theorem zzd{w w':World}{p:Addr}{u:Value}(hb:Below w.heap.size w w')(h:w.cell? p=some u):w'.cell? p=some u:=by
 rw [hb.cell (World.block_lt_of_cell? _ _ h)];exact h
theorem _root_.Wk.Kn.more{w0 w:World}{L:List (Nat × Array Value × TypeId)}(h:Kn w0 w L){b:Nat}{C:Array Value}{T:TypeId}(hb:w.heap[b]? = some (.cells C T)):Kn w0 w ((b,C,T)::L) :=
 ⟨h.below,fun p hp=>by
  rcases List.mem_cons.1 hp with rfl | hp
  ·exact hb
  ·exact h.all p hp⟩
def OwnAt(w:World)(lo:Nat)(v:Value)(xs:List Value):Prop:=(v=.slice none 0 0∧xs=[])∨∃ g len cap,v=.slice (some ⟨g,0,none⟩) len cap∧lo≤g∧xs.length=len * 11∧∀ j u,xs[j]? = some u→w.cell? ⟨g,j,none⟩=some u
theorem OwnAt.sl{w:World}{lo:Nat}{v:Value}{xs:List Value}(h:OwnAt w lo v xs):Vc.SlAt w v 11 xs:=by
 rcases h with h | ⟨g,len,cap,h1,_,h2,h3⟩
 ·exact .inl h
 ·exact .inr (.inr ⟨g,0,len,cap,h1,h2,fun j u hj=>by rw [Nat.zero_add];exact h3 j u hj⟩)
theorem OwnAt.mono{w w':World}{lo lo':Nat}{v:Value}{xs:List Value}(hl:lo'≤lo)(hw:∀ g j u,lo≤g→w.cell? ⟨g,j,none⟩=some u→w'.cell? ⟨g,j,none⟩=some u)(h:OwnAt w lo v xs):OwnAt w' lo' v xs:=by
 rcases h with h | ⟨g,len,cap,h1,h0,h2,h3⟩
 ·exact .inl h
 ·exact .inr ⟨g,len,cap,h1,by omega,h2,fun j u hj=>hw g j u h0 (h3 j u hj)⟩
theorem OwnAt.slice{w:World}{lo:Nat}{v:Value}{xs:List Value}(h:OwnAt w lo v xs):∃ a l c,v=.slice a l c:=by
 rcases h with ⟨rfl,_⟩ | ⟨g,len,cap,rfl,_⟩
 ·exact⟨_,_,_,rfl⟩
 ·exact⟨_,_,_,rfl⟩
theorem OwnAt.one{w:World}{lo:Nat}{v:Value}{xs:List Value}(h:OwnAt w lo v xs):v.oneCell'=true:=zida h.sl
theorem zffa{w:World}{lo:Nat}{ty:TypeId}{v:Value}{n:Nat}{xs:List Value}(h:w.ownsRow lo ty 11 v n xs):OwnAt w lo v xs:=by
 obtain⟨h1,⟨h2,h3⟩ | ⟨g,cap,cur,h2,h3,h4,h5,h6,h7,h8⟩⟩:=h
 ·exact .inl ⟨h2,List.eq_nil_of_length_eq_zero (by rw [h1,h3])⟩
 ·refine .inr ⟨g,n,cap,h2,h3,h1,fun j u hj => ?_⟩;have hjl:=(List.getElem?_eq_some_iff.1 hj).1;rw [← h8,List.getElem?_take_of_lt (by omega)]at hj;simp only [World.cell?,h4];simpa using hj
theorem znca{w w':World}{s:Stg}(h:Vc.SlAt w s.v 11 (s.es.flatMap enc))(hl:s.es.length≤16)(hb:Below w.heap.size w w') :
  Calls Tryz.prog 25 #[s.v] w' fun e w''=>∃ v',e=.returned v'∧OwnAt w'' w'.heap.size v' (s.es.flatMap enc)∧Below w'.heap.size w' w'':=by
 have hlen:=Vc.zm zqb s.es
 have some_case:∀ d n c,s.v=.slice (some d) n c→(s.es.flatMap enc).length=n * 11→(∀ j u,(s.es.flatMap enc)[j]? = some u→w'.cell? (d.add j)=some u)→Calls Tryz.prog 25 #[s.v] w' fun e w''=>∃ v',e=.returned v'∧OwnAt w'' w'.heap.size v' (s.es.flatMap enc)∧Below w'.heap.size w' w'':=fun d n c h1 h2 h3=>by
  rw [h1];refine (zzea d n c _ w' h2 (by omega) (zefa _) h3).mono ?_;rintro e w'' ⟨v',he,h4,_,h5⟩;exact⟨v',he,zffa h4,h5⟩
 rcases h with ⟨h1,h2⟩ | ⟨a,h1,h2⟩ | ⟨b,o,len,cap,h1,h2,h3⟩
 ·rw [h1,h2];refine (zlu 0 0 w').mono ?_;rintro e w'' ⟨he,rfl⟩;exact⟨_,he,.inl ⟨rfl,rfl⟩,Below.refl _ _⟩
 ·exact some_case a 0 0 h1 (by rw [h2];rfl) fun j u hj=>by rw [h2]at hj;simp at hj
 ·refine some_case _ _ _ h1 h2 fun j u hj => ?_;rw [show (⟨b,o,none⟩:Addr).add j=⟨b,o + j,none⟩ by simp [Addr.add]];exact zzd hb (h3 j u hj)
theorem zgaa{ts r:List Stg}{s:Stg}(x:Value):((ts++s::r).flatMap stc).set (ts.length * 6 + 5) x=((ts ++ [{s with v:=x}])++r).flatMap stc:=by
 have hl:=Vc.zm zxa ts;rw [List.flatMap_append,List.flatMap_cons,List.set_append_right _ _ (by omega),hl,Nat.add_sub_cancel_left];simp only [List.flatMap_append,List.flatMap_cons,List.flatMap_nil,List.append_nil,List.append_assoc];rfl
theorem zgfa{wr F:World}{u:Vh}{A g2 c2 m g1 c1 d:Nat}{cur cur1:Array Value}(hk:∀ g,g≠A→F.heap[g]? = wr.heap[g]?)(h2:u.sv=.slice (some ⟨g2,0,none⟩) m c2)(hg2:A < g2)(hl2:(u.ss.flatMap stc).length=m * 6)(hc2:∀ o,wr.cell? ⟨g2,o,none⟩=cur[o]?)(ht2:cur.toList.take (m * 6)=u.ss.flatMap stc)
  (h1:u.dv=.slice (some ⟨g1,0,none⟩) d c1) (hg1:A < g1) (hl1:(u.dr.flatMap ptc).length=d * 3) (hc1:∀ o,wr.cell? ⟨g1,o,none⟩=cur1[o]?) (ht1:cur1.toList.take (d * 3)=u.dr.flatMap ptc) (hes:∀ s∈u.ss,OwnAt wr (g2 + 1) s.v (s.es.flatMap enc)):VhAt F u:=by
 have row:∀ (g:Nat) (c:Array Value) (xs:List Value) (n:Nat),A < g→(∀ o,wr.cell? ⟨g,o,none⟩=c[o]?)→c.toList.take n=xs→∀ j x,xs[j]? = some x→F.cell? ⟨g,0 + j,none⟩=some x:=fun g c xs n hg hc ht j x hj=>by
  rw [World.cell?_of_block (w:=wr) (hk g (by omega)),Nat.zero_add,hc]
  have hjn:j < n:=by
   have:=(List.getElem?_eq_some_iff.1 hj).1
   rw [← ht,List.length_take]at this;omega
  rw [← ht,List.getElem?_take_of_lt hjn]at hj;simpa using hj
 refine⟨.inr (.inr ⟨g2,0,m,c2,h2,hl2,row g2 cur _ _ hg2 hc2 ht2⟩),fun s hs => ?_,.inr (.inr ⟨g1,0,d,c1,h1,hl1,row g1 cur1 _ _ hg1 hc1 ht1⟩)⟩;refine (OwnAt.mono (w':=F) (Nat.le_refl _) (fun g j x hg hx => ?_) (hes s hs)).sl;rw [World.cell?_of_block (w:=wr) (hk g (by omega))];exact hx
set_option maxHeartbeats 8000000 in
set_option maxRecDepth 100000 in
theorem zex{w:World}{v:Vh}(hG:VGs w)(h:VhAt w v)(hz:VhSz v)(hcap:CapOk v.sv)(n:Nat)(hv:okC v=true)(hn:n < v.ss.length) :
    Calls Tryz.prog 10 #[VHV v,.int .i64 (n:Int)] w fun e w'=>∃ u:Vh,e=.returned (.tuple #[VHV u,.int .i64 0])∧Below w.heap.size w w'∧VhAt w' u∧CapOk u.sv∧u.nm=v.nm∧u.ss.map Stg.er=(v.ss.drop n).map Stg.er∧u.yl=v.yl∧u.yh=v.yh∧u.dr=v.dr∧u.ax=v.ax∧u.be=v.be:=by
  have hval:∀ w',Below w.heap.size w w'→Calls Tryz.prog 16 #[VHV v] w' (Vc.Ret (.bool true) w'):=fun w' hb=>by
    rw [← hv];exact zzj (hG.keep hb) (h.below hb) hz
  have ok:=zwea hv;have h0:=ok.s0;have h8:=ok.s8;have hd:=ok.dr;obtain⟨b,o,len,cap,e1,e2,e3⟩:=znu h.st (by intro hh;have:=congrArg List.length hh;rw [Vc.zm zxa]at this;simp at this;omega);rw [Vc.zm zxa]at e2;have el:len=v.ss.length:=by omega
  subst el;obtain⟨db,dof,dlen,dcap,d1,d2,d3⟩:=znu h.dr (by intro hh;have:=congrArg List.length hh;rw [Vc.zm zkf]at this;simp at this;omega);rw [Vc.zm zkf]at d2;have el:dlen=v.dr.length:=by omega
  subst el;have hcl:v.ss.length≤cap:=by rw [e1]at hcap;exact hcap
  have hwi:∀ w',Calls Tryz.prog 17 #[.int .i64 (n:Int),.int .i64 0,.int .i64 ((v.ss.length:Int) - 1)] w' (Vc.Ret (.bool true) w'):=fun w'=>by
    have e:(decide (0≤(n:Int)) && decide ((n:Int)≤(v.ss.length:Int) - 1))=true:=by
      rw [Bool.and_eq_true];simp only [decide_eq_true_eq];omega
    rw [← e];exact zin _ _ _ _
  have hw1:IntKind.i64.wrap ((v.ss.length:Int) - 1)=(v.ss.length:Int) - 1:=Vc.zh (by omega)
  have hpc:∀ w',Below w.heap.size w w'→Calls Tryz.prog 23 #[.slice (some ⟨db,dof,none⟩) v.dr.length dcap] w' fun e w''=>∃ v',e=.returned v'∧w''.ownsRow w'.heap.size 60 3 v' v.dr.length (v.dr.flatMap ptc)∧v' ≠ .slice none 0 0∧Below w'.heap.size w' w'':=fun w' hb =>
    zbfa ⟨db,dof,none⟩ v.dr.length dcap (v.dr.flatMap ptc) w' (Vc.zm zkf _) (by omega) (zcfa _) fun j u hj=>by
      rw [show (⟨db,dof,none⟩:Addr).add j=⟨db,dof + j,none⟩ by simp [Addr.add]];exact zzd hb (d3 j u hj)
  have hsc:∀ w',Below w.heap.size w w'→Calls Tryz.prog 24 #[.slice (some ⟨b,o + n * 6,none⟩) (v.ss.length - n) (cap - n)] w' fun e w''=>∃ v',e=.returned v'∧w''.ownsRow w'.heap.size 40 6 v' (v.ss.length - n) ((v.ss.drop n).flatMap stc)∧v' ≠ .slice none 0 0∧Below w'.heap.size w' w'':=fun w' hb =>
    zyea ⟨b,o + n * 6,none⟩ (v.ss.length - n) (cap - n) ((v.ss.drop n).flatMap stc) w' (by rw [Vc.zm zxa,List.length_drop]) (by omega) (zdfa fun s hs=>h.es s (List.mem_of_mem_drop hs)) fun j u hj=>by
      rw [zmca];have hsp:v.ss.flatMap stc=(v.ss.take n).flatMap stc++(v.ss.drop n).flatMap stc:=by rw [← List.flatMap_append,List.take_append_drop]
      refine zzd hb (e3 (n * 6 + j) u ?_);have hlt:((v.ss.take n).flatMap stc).length=n * 6:=by rw [Vc.zm zxa,List.length_take];omega
      rw [hsp,List.getElem?_append_right (by omega),hlt,Nat.add_sub_cancel_left];exact hj
  have hD:Aside (∀ j u,(v.ss.flatMap stc)[j]? = some u→w.cell? ⟨b,o + j,none⟩=some u):=e3;clear e3 d3 e2 d2;unfold VHV at hval ⊢;rw [e1,d1]at hval ⊢;have K:=Kn.start w
  go_enter Tryz.func10,Tryz.ntmps10
  go_wp2_with (go_at_call 16;refine via (by repeat (first | exact K | apply Kn.push | apply Kn.drew)) (hval _ (by have B:=K.below;go_grown)) ?_;clear K;(try clear hO);intro wN K hO;simp only [Opened,World.size_alloc,World.size_drew,World.size_setCell]at hO)
  go_wp2_with (go_at_call 17;refine via (by repeat (first | exact K | apply Kn.push | apply Kn.drew)) (hwi _) ?_;clear K;(try clear hO);intro wN K hO;simp only [Opened,World.size_alloc,World.size_drew,World.size_setCell]at hO)
  go_wp2_with (go_at_call 23;refine (hpc _ (by have B:=K.below;go_grown)).mono ?_)
  rintro e w1 ⟨v1,rfl,⟨l1,⟨rfl,_⟩ | ⟨g1,c1,cur1,rfl,hg1,hh1,hc1,hm1,hs1,ht1⟩⟩,nn1,b1⟩
  · exact (nn1 rfl).elim
  have hA:w.heap.size + 1 < wN.heap.size:=by have h1:=hO.2.2.2.1;omega
  replace K:=(K.next b1).more hh1;clear hO b1 nn1;have hO:=Kn.opened_of K.all;simp only [Opened,World.size_alloc,World.size_drew,World.size_setCell]at hO
  go_wp2_with (go_at_call 24;refine (hsc _ (by have B:=K.below;go_grown)).mono ?_)
  rintro e w2 ⟨v2,rfl,⟨l2,⟨rfl,_⟩ | ⟨g2,c2,cur2,rfl,hg2,hh2,hc2,hm2,hs2,ht2⟩⟩,nn2,b2⟩
  · exact (nn2 rfl).elim
  simp only [World.size_setCell]at hg2;have hB:g1 < w1.heap.size:=hO.2.2.2.1;replace K:=((Kn.of (w0:=w) (L := [(w.heap.size,#[.string ⟨v.nm.toArray⟩,.slice (some ⟨b,o,none⟩) v.ss.length cap,.int .i64 v.yl,.int .i64 v.yh,.slice (some ⟨g1,0,none⟩) v.dr.length c1,.int .i64 v.ax,.int .i64 v.be],28),(w.heap.size + 1,#[.string ⟨#[]⟩,.slice none 0 0,.int .i64 0,.int .i64 0,.slice none 0 0,.int .i64 0,.int .i64 0],28),(g1,cur1,60)]) (by have B:=K.below;go_grown) (by simp only [Held,heap_alloc,zsi,zws,World.size_alloc,World.size_drew,World.size_setCell,IntWalk.iteOmega,Wk.setObj,hO,Option.map_some,↓reduceIte,if_true,if_false,List.setIfInBounds_toArray,List.set_cons_zero,List.set_cons_succ,and_self,and_true])).next b2).more hh2;clear hO b2 nn2;have hO:=Kn.opened_of K.all;simp only [Opened,World.size_alloc,World.size_drew,World.size_setCell]at hO;have hC:g1 < g2:=by omega
  have hE:g2 < w2.heap.size:=hO.2.2.2.1;have hL2:((v.ss.drop n).flatMap stc).length=(v.ss.length - n) * 6:=l2;obtain⟨m,hm⟩:∃ m,m=v.ss.length - n:=⟨_,rfl⟩;rw [← hm]at hc2 ht2 hL2 ⊢
  go_wp2
  go_loopw [34] (fun i wr=>∃ (k:Nat) (ts:List Stg) (cur:Array Value),k≤m∧i=.int .i64 (k:Int)∧ts.length=k∧ts.map Stg.er=((v.ss.drop n).take k).map Stg.er∧cur.size=c2 * 6∧cur.toList.take (m * 6)=(ts++(v.ss.drop n).drop k).flatMap stc∧(∀ s∈ts,OwnAt wr (g2 + 1) s.v (s.es.flatMap enc)) ∧
    Kn w wr [(g2,cur,40),(w.heap.size,#[.string ⟨v.nm.toArray⟩,.slice (some ⟨g2,0,none⟩) m c2,.int .i64 v.yl,.int .i64 v.yh,.slice (some ⟨g1,0,none⟩) v.dr.length c1,.int .i64 v.ax,.int .i64 v.be],28),(w.heap.size + 1,#[.string ⟨#[]⟩,.slice none 0 0,.int .i64 0,.int .i64 0,.slice none 0 0,.int .i64 0,.int .i64 0],28),(g1,cur1,60)]) (fun i _=>m - (intOf i).toNat)
  case atStart =>
    refine⟨0,[],cur2,Nat.zero_le _,rfl,rfl,rfl,hs2,by simpa using ht2,(fun s hs=>by cases hs), ?_⟩;exact Kn.of (w0:=w) (by have B:=K.below;go_grown) (by simp only [Held,heap_alloc,zsi,zws,World.size_alloc,World.size_drew,World.size_setCell,IntWalk.iteOmega,Wk.setObj,hO,Option.map_some,↓reduceIte,if_true,if_false,List.setIfInBounds_toArray,List.set_cons_zero,List.set_cons_succ,and_self,and_true,hm])
  case round =>
    obtain⟨k,ts,cur,hk,rfl,hts,her,hcs,htk,hown,K⟩:=hrel;have hO:=Kn.opened_of K.all;simp only [Opened,World.size_alloc,World.size_drew,World.size_setCell]at hO;by_cases hkm:k < m
    · have hkl:k < (v.ss.drop n).length:=by rw [List.length_drop];omega
      obtain⟨s,hs⟩:∃ s,(v.ss.drop n)[k]? = some s:=⟨_,List.getElem?_eq_getElem hkl⟩;have hsm:s∈v.ss:=List.mem_of_mem_drop (List.mem_of_getElem? hs);have hcl2:=fun w' hb=>znca (w:=w) (w':=w') (h.es s hsm) (ok.es hsm) hb
      have hcur:∀ j,j < 6→cur[k * 6 + j]? = (stc s)[j]? := fun j hj=>by
        have e:(cur.toList.take (m * 6))[k * 6 + j]? = cur.toList[k * 6 + j]? := List.getElem?_take_of_lt (by omega);rw [← Array.getElem?_toList,← e,htk];refine Vc.zp zxa ?_ hj;rw [List.getElem?_append_right (by omega),hts,Nat.sub_self,List.getElem?_drop];exact hs
      have hc5:wr.cell? ⟨g2,k * 6 + 5,none⟩=some s.v:=by rw [hO.2.1,hcur 5 (by omega)];rfl
      have g8:(k:Int) < (m:Int):=by omega
      have hc6:cur[k * 6 + 5]? = some s.v:=by rw [hcur 5 (by omega)];rfl
      have k0:(0:Int)≤(k:Int):=by omega
      have hA1:wr.cell? ⟨w.heap.size,1,none⟩=some (.slice (some ⟨g2,0,none⟩) m c2):=by rw [hO.2.2.2.2.2.2.1];rfl
      have fin:∀ (w3:World) (a3:Option Addr) (l3 c3:Nat),Kn w w3 [(g2,cur,40),(w.heap.size,#[.string ⟨v.nm.toArray⟩,.slice (some ⟨g2,0,none⟩) m c2,.int .i64 v.yl,.int .i64 v.yh,.slice (some ⟨g1,0,none⟩) v.dr.length c1,.int .i64 v.ax,.int .i64 v.be],28),(w.heap.size + 1,#[.string ⟨#[]⟩,.slice none 0 0,.int .i64 0,.int .i64 0,.slice none 0 0,.int .i64 0,.int .i64 0],28),(g1,cur1,60)] →
          OwnAt w3 wr.heap.size (.slice a3 l3 c3) (s.es.flatMap enc)→(∀ p u,wr.cell? p=some u→w3.cell? p=some u) →
          ∃ (k':Nat) (ts:List Stg) (cur:Array Value),k'≤m∧(Value.int .i64 ((k:Int) + 1))=.int .i64 (k':Int)∧ts.length=k'∧ts.map Stg.er=((v.ss.drop n).take k').map Stg.er∧cur.size=c2 * 6∧cur.toList.take (m * 6)=(ts++(v.ss.drop n).drop k').flatMap stc∧(∀ s∈ts,OwnAt (w3.setCell ⟨g2,k * 6 + 5,none⟩ (.slice a3 l3 c3)) (g2 + 1) s.v (s.es.flatMap enc)) ∧
            Kn w (w3.setCell ⟨g2,k * 6 + 5,none⟩ (.slice a3 l3 c3)) [(g2,cur,40),(w.heap.size,#[.string ⟨v.nm.toArray⟩,.slice (some ⟨g2,0,none⟩) m c2,.int .i64 v.yl,.int .i64 v.yh,.slice (some ⟨g1,0,none⟩) v.dr.length c1,.int .i64 v.ax,.int .i64 v.be],28),(w.heap.size + 1,#[.string ⟨#[]⟩,.slice none 0 0,.int .i64 0,.int .i64 0,.slice none 0 0,.int .i64 0,.int .i64 0],28),(g1,cur1,60)]:=by
        intro w3 a3 l3 c3 K3 ho3 b3;have hg:g2 < wr.heap.size:=hO.2.2.2.1
        have other:∀ (g j:Nat) (u:Value),g≠g2→w3.cell? ⟨g,j,none⟩=some u→(w3.setCell ⟨g2,k * 6 + 5,none⟩ (.slice a3 l3 c3)).cell? ⟨g,j,none⟩=some u:=fun g j u hne hu=>by
          rw [← hu];refine World.cell?_of_block ?_;rw [zsi,if_neg (fun e=>hne e.symm)]
        have hsp:(v.ss.drop n).drop k=s::(v.ss.drop n).drop (k + 1):=by
          rw [← List.getElem_cons_drop hkl];congr 1;rw [List.getElem?_eq_getElem hkl]at hs;exact Option.some.inj hs
        refine⟨k + 1,ts ++ [{s with v := .slice a3 l3 c3}],cur.setIfInBounds (k * 6 + 5) (.slice a3 l3 c3),by omega,rfl,by simp [hts], ?_,by simp [hcs], ?_, ?_, ?_⟩
        · rw [List.map_append,her,List.take_add_one,hs,List.map_append];rfl
        · rw [Array.toList_setIfInBounds,List.take_set,htk,hsp,← hts,zgaa]
        · intro z hz;rcases List.mem_append.1 hz with hz | hz
          · exact (hown z hz).mono (Nat.le_refl _) fun g j u hg hu=>other g j u (by omega) (b3 _ _ hu)
          · rw [List.mem_singleton]at hz;subst hz;exact OwnAt.mono (by omega) (fun g j u hg hu=>other g j u (by omega) hu) ho3
        · have hO:=Kn.opened_of K3.all;simp only [Opened]at hO;have hg':w.heap.size + 1 < g2:=by omega
          exact Kn.of (w0:=w) (by have B:=K3.below;go_grown) (by simp only [Held,zsi,IntWalk.iteOmega,Wk.setObj,hO,Option.map_some,↓reduceIte,if_true,if_false,and_self,and_true])
      have mixed:Tryz.prog.follows Departure.mixedOrders=true:=by kernel_rfl
      go_wp2
      clear hc6;clear hO
      go_region_with_o ((go_at_call 25;refine (hcl2 _ (by have B:=K.below;go_grown)).mono ?_;rintro e w3 ⟨v3,rfl,ho3,b3⟩;obtain⟨a3,l3,c3,rfl⟩:=ho3.slice;replace K:=K.drew.next b3;have x1:=zzd b3 hA1;have y1:=zzd b3 hc5;have y2:w3.frozen? ⟨g2,k * 6 + 5,none⟩=false:=(Kn.opened_of K.all).2.2.1 _))
      all_goals go_wp2
      all_goals go_roundw
      all_goals first | exact fin _ _ _ _ K ho3 (fun p u hu=>zzd b3 hu) | (simp only [intOf];omega)
    · have hke:k=m:=by omega
      subst hke;have g8:¬ ((k:Int) < (k:Int)):=by omega
      go_wp2
      refine bodyPost_ret (by simp [results,Tryz.results10,go_sem,hO];try rfl) rfl ?_;have hdr:(v.ss.drop n).drop k=[]:=List.drop_of_length_le (by rw [List.length_drop];omega);rw [hdr,List.append_nil]at htk;have hlt:(ts.flatMap stc).length=(v.ss.length - n) * 6:=by rw [Vc.zm zxa,hts,hm]
      refine⟨⟨v.nm,.slice (some ⟨g2,0,none⟩) (v.ss.length - n) c2,ts,v.yl,v.yh,.slice (some ⟨g1,0,none⟩) v.dr.length c1,v.dr,v.ax,v.be⟩,rfl,by have B:=K.below;go_grown, ?_, ?_,rfl, ?_,rfl,rfl,rfl,rfl,rfl⟩
      · refine zgfa (A:=w.heap.size + 1) (wr:=wr) (fun g hg => ?_) rfl (by omega) hlt hO.2.1 (by rw [← hm];exact htk) rfl (by omega) l1 hO.2.2.2.2.2.2.2.2.2.2.2.2.2.2.2.2.1 ht1 hown;simp only [zsi,if_neg (Ne.symm hg)]
      · show _≤_;omega
      · rw [her,List.take_of_length_le (by rw [List.length_drop];omega)]
        try simp
def wErr(v:Vh)(n:Int):Int:=if okC v=false then 2 else if 0≤n∧n≤(v.ss.length:Int) - 1 then 0 else 7
theorem zou{w:World}{v:Vh}(hG:VGs w)(h:VhAt w v)(hz:VhSz v)(hcap:CapOk v.sv)(n:Int) :
  Calls Tryz.prog 10 #[VHV v,.int .i64 n] w fun e w'=>∃ u:Vh,e=.returned (.tuple #[VHV u,.int .i64 (wErr v n)])∧Below w.heap.size w w'∧VhAt w' u∧CapOk u.sv∧VhSz u∧(wErr v n=0→pMass u 0 0 0=pMass v n 0 0∧(pMass v n 0 0).2.2=0):=by
 have zero:∀ w' e',e'≠0→∃ u:Vh,(Ending.returned (.tuple #[zeroV,.int .i64 e'])=.returned (.tuple #[VHV u,.int .i64 e']))∧VhAt w' u∧CapOk u.sv∧VhSz u∧(e'=0→pMass u 0 0 0=pMass v n 0 0∧(pMass v n 0 0).2.2=0):=fun w' e' he =>
  ⟨⟨[],.slice none 0 0,[],0,0,.slice none 0 0,[],0,0⟩,rfl,⟨.inl ⟨rfl,rfl⟩,(fun s hs=>by cases hs),.inl ⟨rfl,rfl⟩⟩,Nat.le_refl _,⟨by decide,(fun s hs=>by cases hs),by decide,by decide⟩,fun h0=>(he h0).elim⟩
 unfold wErr;by_cases hv:okC v=false
 ·rw [if_pos hv];refine (zmu hG h hz n hv).mono ?_;rintro e w' ⟨rfl,hb⟩;obtain⟨u,h1,h2⟩:=zero w' 2 (by decide);exact⟨u,h1,hb,h2⟩
 ·have hv':okC v=true:=by cases hh:okC v <;> simp_all
  rw [if_neg hv];by_cases hn:0≤n∧n≤(v.ss.length:Int) - 1
  ·rw [if_pos hn];obtain⟨k,rfl⟩:=Int.eq_ofNat_of_zero_le hn.1;have hk:k < v.ss.length:=by omega
   refine (zex hG h hz hcap k hv' hk).mono ?_;rintro e w' ⟨u,h1,hb,h2,h3,e1,e2,e3,e4,e5,e6,e7⟩
   have hl:u.ss.length=v.ss.length - k:=by
    have:=congrArg List.length e2
    simpa using this
   refine⟨u,h1,hb,h2,h3,⟨by rw [e1];exact hz.nm,fun s hs => ?_,by have:=hz.sn;omega,by rw [e5];exact hz.dn⟩,fun _=>zfaa hv' hk e1 e2 e3 e4 e5 e6 e7⟩;have hm:=List.mem_map_of_mem (f:=Stg.er) hs;rw [e2]at hm;obtain⟨s',hs',he'⟩:=List.mem_map.1 hm
   have:=hz.st s' (List.mem_of_mem_drop hs')
   have q1:s'.nm=s.nm:=congrArg (·.nm) he';have q2:s'.es=s.es:=congrArg (·.es) he';rw [← q1,← q2];exact this
  ·rw [if_neg hn];refine (zxs hG h hz n hv' hn).mono ?_;rintro e w' ⟨rfl,hb⟩;obtain⟨u,h1,h2⟩:=zero w' 7 (by decide);exact⟨u,h1,hb,h2⟩
end Go.Proofs.YtfclibhhkphckaaGreatDoor
