import Derived.Test.YtocleppbcngcjaaGreatDoorWr
import Derived.Test.YtocleppbcngcjaaGreatDoorPp
import Derived.Test.YtocleppbcngcjaaGreatDoorTz
import Derived.Shelf.RegionOpenPlain
import Derived.WalkKit
import Derived.Deep.LoopGhost
import Derived.Lib.Walk
import Derived.Lib.SliceRun
import Derived.Lib.LazyBuf
import Derived.Below
import Derived.Test.YtocleppbcngcjaaGreatDoorG0
import Derived.Test.YtocleppbcngcjaaGreatDoorOkv
section
set_option linter.unusedVariables false
set_option linter.unusedSimpArgs false
set_option linter.unusedSimpArgs false
set_option maxRecDepth 4000
namespace Go.Proofs.YtocleppbcngcjaaGreatDoor
open Go Go.RowKit Vc
attribute [local irreducible] Go.Calls
theorem fa.both{d v u:Vh}(h:fa d v)(k:fa d u):fa v u:=⟨k.nm.trans h.nm.symm,k.ss.trans h.ss.symm,k.yl.trans h.yl.symm,k.yh.trans h.yh.symm,k.dr.trans h.dr.symm,k.ax.trans h.ax.symm,k.be.trans h.be.symm⟩
theorem fa.refl(v:Vh):fa v v:=⟨rfl,rfl,rfl,rfl,rfl,rfl,rfl⟩
theorem fa.sz{d u:Vh}(h:fa d u)(hz:iv d):iv u:=by
 refine⟨by rw [h.nm];exact hz.nm,λs hs => ?_,by rw [h.len];exact hz.sn,by rw [h.dr];exact hz.dn⟩;have hm:=List.mem_map_of_mem (f:=cD.er) hs;rw [h.ss]at hm;obtain⟨s',uf,iU⟩:=List.mem_map.1 hm
 have:=hz.st s' uf
 have q1:s'.nm=s.nm:=congrArg (·.nm) iU;have q2:s'.es=s.es:=congrArg (·.es) iU;rw [<-q1,<-q2];exact this
theorem OO{v:Vh}{n:Int}(hz:iv v):iv (lA v n):=by
 unfold lA;split
 ·exact⟨hz.nm,λs hs=>hz.st s (List.mem_of_mem_drop hs),by have:=hz.sn;simp;omega,hz.dn⟩
 ·exact⟨by decide,(λs hs=>by cases hs),by decide,by decide⟩
set_option maxHeartbeats 1000000 in
theorem YM{w:World}{v:Vh}(h:fZ w v)(hz:iv v)(gV:lz v.sv)(n:Int) :
  ∃u:Vh,fZ w u/\fa (lA v n) u/\∀w',Below w.heap.size w w'->Calls Tryz.prog 7 #[fL v,.int .i64 n] w' (Vc.Ret (.tuple #[fL u,.int .i64 (gM v n)]) w'):=by
 obtain⟨b0,p0,c0,e0,f0,g0⟩:=yL h.st;obtain⟨b1,p1,c1,e1,f1,g1⟩:=w6 h.dr;have n0:=qO f0;have se:=hz.sn;have E:fL v=.agg #[.string ⟨v.nm.toArray⟩,(if b0=true then .slice none 0 0 else .slice (some (Vc.dJ p0 (Int.toNat ((v.ss.length:Nat):Int)) c0.toNat)) (Int.toNat ((v.ss.length:Nat):Int)) c0.toNat:Value),.int .i64 v.yl,.int .i64 v.yh,(if b1=true then .slice none 0 0 else .slice (some (Vc.dJ p1 (Int.toNat ((v.dr.length:Nat):Int)) c1.toNat)) (Int.toNat ((v.dr.length:Nat):Int)) c1.toNat:Value),.int .i64 v.ax,.int .i64 v.be]:=by unfold fL;rw [e0,e1]
 have zF:∀w1,Below w.heap.size w w1->∀w',Below w1.heap.size w1 w'->Calls Tryz.prog 46 #[fL v] w' (Vc.Ret (CV (dT v)) w'):=λw1 h1 w' h2=>NR ((h.below h1).below h2) hz;by_cases he:gM v n=0
 ·have hv:ng v=true:=by
   cases hh:ng v with
   |true=>rfl
   |false=>unfold gM at he;rw [if_pos hh]at he;simp at he
  have hn:0<=n/\n<=(v.ss.length:Int)-1:=by
   refine Decidable.byContradiction λk => ?_;unfold gM at he;rw [if_neg (by rw [hv];decide),if_neg k]at he;simp at he
  have cR:¬b0=true:=λhb=>by have:=f0 hb;omega
  have gW:b0=false:=by cases b0<;>simp_all
  subst gW
  have iz:v.ss.length<=c0.toNat:=by
   rw [e0]at gV;simpa [lz]using gV
  obtain⟨k,rfl⟩:=Int.eq_ofNat_of_zero_le hn.1;have uT:lA v (k:Int) = {v with ss:=v.ss.drop k}:=if_pos he;refine⟨{v with sv := .slice (some ⟨p0.1,p0.2+k*6,none⟩) (v.ss.length-k) (c0.toNat-k),ss:=v.ss.drop k},⟨.inr (.inr ⟨_,_,_,_,rfl,by rw [Vc.zf zk,List.length_drop],λj u hj => ?_⟩),λs hs=>h.es s (List.mem_of_mem_drop hs),h.dr⟩,by rw [uT];exact⟨rfl,rfl,rfl,rfl,rfl,rfl,rfl⟩,λw' hb => ?_⟩
  ·have jS:v.ss.flatMap jJ=(v.ss.take k).flatMap jJ++(v.ss.drop k).flatMap jJ:=by rw [<-List.flatMap_append,List.take_append_drop]
   have cn:((v.ss.take k).flatMap jJ).length=k*6:=by rw [Vc.zf zk,List.length_take];omega
   obtain⟨bb,pp,cc,q1,q2,q3⟩:=FQ h.st (by decide) (Vc.zf zk v.ss)
   have Kr:bb=false:=by cases bb with
    |false=>rfl
    |true=>have:=q2 rfl;omega
   subst Kr;rw [e0]at q1;simp only [Bool.false_eq_true,if_false,Int.toNat_natCast,Value.slice.injEq]at q1
   have H0:p0=pp:=by
    have:=q1.1
    rw [DB (by omega),DB (by omega)]at this;simp only [Option.some.injEq,Addr.mk.injEq,and_true]at this;exact Prod.ext this.1 this.2
   rw [H0,Nat.add_assoc];refine q3 (k*6+j) u ?_;rw [jS,List.getElem?_append_right (by omega),cn,Nat.add_sub_cancel_left];exact hj
  ·rw [he,E];refine Sk p0 p1 (v.ss.length:Nat) c0 v.yl v.yh (v.dr.length:Nat) c1 v.ax v.be (k:Int) false b1 v.nm w' _ ⟨_,_,_,λw2 h2=>by rw [<-E];exact zF w' hb w2 h2, ?_⟩;refine aj (λ_ => ?_) (λkk=>absurd (of_decide_eq_true hv) kk);refine⟨by omega,.inl (by decide), ?_⟩;rintro aW rfl;rw [zj (by omega)];refine aj (λ_=>aj (λ_ => ?_) (λkk=>absurd hn.2 kk)) (λkk=>absurd hn.1 kk);refine⟨by decide,by omega,by omega,by omega,by omega,by omega,by omega, ?_⟩;rintro bC rfl bn rfl;refine aj (λ_ => ?_) (λkk=>absurd (by omega) kk);rintro bJ rfl;unfold fL;rw [e1];have t1:((v.ss.length:Nat)-(k:Int)).toNat=v.ss.length-k:=by omega
   have t2:(c0-(k:Int)).toNat=c0.toNat-k:=by omega
   have t3:(0+(k:Int)).toNat=k:=by omega
   rw [t1,t2,t3]
 ·refine⟨_, ?_,by rw [drop_zero he];exact fa.refl _,λw' hb => ?_⟩
  ·exact⟨.inl ⟨rfl,rfl⟩,(λs hs=>by cases hs),.inl ⟨rfl,rfl⟩⟩
  ·rw [E];refine Sk p0 p1 (v.ss.length:Nat) c0 v.yl v.yh (v.dr.length:Nat) c1 v.ax v.be n b0 b1 v.nm w' _ ⟨_,_,_,λw2 h2=>by rw [<-E];exact zF w' hb w2 h2, ?_⟩;refine aj (λhc => ?_) (λhc => ?_)
   ·have hv:ng v=true:=decide_eq_true hc;have hn:¬(0<=n/\n<=(v.ss.length:Int)-1):=λk=>he (by unfold gM;rw [if_neg (by rw [hv];decide),if_pos k]);have e7:gM v n=7:=by unfold gM;rw [if_neg (by rw [hv];decide),if_neg hn]
    rw [e7];refine⟨by omega,n0, ?_⟩;rintro aW rfl;rw [zj (by omega)];refine aj (λk1=>aj (λk2=>absurd ⟨k1,k2⟩ hn) (λ_=>rfl)) (λ_=>rfl)
   ·have hv:ng v=false:=decide_eq_false hc;have e2:gM v n=2:=if_pos hv;rw [e2];rfl
end Go.Proofs.YtocleppbcngcjaaGreatDoor
end
section
set_option linter.unusedVariables false
set_option linter.unusedSimpArgs false
set_option linter.unusedSimpArgs false
namespace Go.Proofs.YtocleppbcngcjaaGreatDoor
open Go Go.RowKit Go.Proofs Wk
def rk(lo hi:Nat)(W:World)(g k:Nat):Prop:=lo<=g/\g<hi/\∃C T,W.heap[g]? = some (.cells C T)/\k<=C.size
theorem rk.set{lo hi g k b o:Nat}{W:World}{x:Value}(h:rk lo hi W g k):rk lo hi (W.setCell ⟨b,o,none⟩ x) g k:=by
 obtain⟨h1,h2,C,T,h3,h4⟩:=h;by_cases e:b=g
 ·subst e;exact⟨h1,h2,C.setIfInBounds o x,T,by rw [yp,if_pos rfl,h3];rfl,by simpa using h4⟩
 ·exact⟨h1,h2,C,T,by rw [yp,if_neg e];exact h3,h4⟩
theorem rk.cell{lo hi g k j:Nat}{W:World}(h:rk lo hi W g k)(hj:j<k):(∃x,W.cell? ⟨g,j,none⟩=some x)/\W.frozen? ⟨g,j,none⟩=false:=by
 obtain⟨h1,h2,C,T,h3,h4⟩:=h;refine⟨⟨C[j]'(by omega), ?_⟩, ?_⟩
 ·simp only [World.cell?,h3];simp [Array.getElem?_eq_getElem (show j<C.size by omega)]
 ·simp [World.frozen?,h3]
theorem rk.cA{lo hi g k:Nat}{W W':World}(h:rk lo hi W g k)(hb:Below hi W W'):rk lo hi W' g k:=by
 obtain⟨h1,h2,C,T,h3,h4⟩:=h;exact⟨h1,h2,C,T,by rw [hb.block g h2];exact h3,h4⟩
theorem OP{W:World}{g j b o:Nat}{x u:Value}(h:W.cell? ⟨g,j,none⟩=some u)(cW:b=g->o≠j):(W.setCell ⟨b,o,none⟩ x).cell? ⟨g,j,none⟩=some u:=by
  by_cases e:b=g
  · subst e;have hj:=cW rfl;cases hb:W.heap[b]? with
    |none=>simp [World.cell?,hb]at h
    |some ob =>
      have h2:(W.setCell ⟨b,o,none⟩ x).heap[b]? = some (Wk.setObj o x ob):=by rw [yp,if_pos rfl,hb];rfl
      cases ob<;>simp_all [World.cell?,Wk.setObj,Array.getElem?_setIfInBounds]
  · rw [<-h];exact World.cell?_of_block (by rw [yp,if_neg e])
structure xh(lo hi:Nat)(W:World)(u:Vh)(sa da:Option Addr):Prop where
 st:∀k s,u.ss[k]? = some s->∃g,sa=some ⟨g,0,none⟩/\rk lo hi W g (u.ss.length*6)/\W.cell? ⟨g,k*6+5,none⟩=some s.v/\∃ea ec,s.v=.slice ea s.es.length ec/\(0<s.es.length->∃ge,ea=some ⟨ge,0,none⟩/\g<ge/\rk lo hi W ge (s.es.length*11))
 dr:0<u.dr.length->∃g,da=some ⟨g,0,none⟩/\rk lo hi W g (u.dr.length*3)
theorem xh.set{lo hi b o:Nat}{W:World}{u:Vh}{sa da:Option Addr}{x:Value}(h:xh lo hi W u sa da)(cW:∀g,sa=some ⟨g,0,none⟩->b=g->∀k,o≠k*6+5):xh lo hi (W.setCell ⟨b,o,none⟩ x) u sa da:=by
 refine⟨λk s hk => ?_,λhd => ?_⟩
 ·obtain⟨g,e1,e2,e3,ea,ec,e4,e5⟩:=h.st k s hk;refine⟨g,e1,e2.set,OP e3 λe=>cW g e1 e k,ea,ec,e4,λhe => ?_⟩;obtain⟨ge,f1,f2,f3⟩:=e5 he;exact⟨ge,f1,f2,f3.set⟩
 ·obtain⟨g,e1,e2⟩:=h.dr hd;exact⟨g,e1,e2.set⟩
theorem xh.cA{lo hi:Nat}{W W':World}{u:Vh}{sa da:Option Addr}(h:xh lo hi W u sa da)(hb:Below hi W W'):xh lo hi W' u sa da:=by
 refine⟨λk s hk => ?_,λhd => ?_⟩
 ·obtain⟨g,e1,e2,e3,ea,ec,e4,e5⟩:=h.st k s hk;refine⟨g,e1,e2.cA hb,by rw [<-e3];exact World.cell?_of_block (hb.block g e2.2.1),ea,ec,e4,λhe => ?_⟩;obtain⟨ge,f1,f2,f3⟩:=e5 he;exact⟨ge,f1,f2,f3.cA hb⟩
 ·obtain⟨g,e1,e2⟩:=h.dr hd;exact⟨g,e1,e2.cA hb⟩
theorem jd.mut{lo:Nat}{W:World}{u:Vh}(h:jd lo W u):∃(sa:Option Addr) (sc:Nat) (da:Option Addr) (dc:Nat),u.sv=.slice sa u.ss.length sc/\u.dv=.slice da u.dr.length dc/\xh lo W.heap.size W u sa da:=by
 have st:∃(sa:Option Addr) (sc:Nat),u.sv=.slice sa u.ss.length sc/\∀k s,u.ss[k]? = some s->∃g,sa=some ⟨g,0,none⟩/\rk lo W.heap.size W g (u.ss.length*6)/\W.cell? ⟨g,k*6+5,none⟩=some s.v/\∃ea ec,s.v=.slice ea s.es.length ec/\(0<s.es.length->∃ge,ea=some ⟨ge,0,none⟩/\g<ge/\rk lo W.heap.size W ge (s.es.length*11)):=by
  rcases h.st with ⟨h1,h2⟩|⟨g,c,C,T,h1,nh,h2,h3,h4⟩
  ·refine⟨none,0,by rw [h1,h2];rfl,λk s hk => ?_⟩;rw [h2]at hk;simp at hk
  ·refine⟨_,c,h1,λk s hk => ?_⟩;have hl:=Vc.zf zk u.ss
   have mJ:u.ss.length*6<=C.size:=by
    have:=congrArg List.length h3
    rw [hl,List.length_take,Array.length_toList]at this;omega
   refine⟨g,rfl,⟨nh,bM h2,C,T,h2,mJ⟩, ?_, ?_⟩
   ·have hj:=Vc.zg zk (o:=5) hk (by decide);have ti:=(List.getElem?_eq_some_iff.1 (hj.trans rfl)).1;rw [<-h3,List.getElem?_take_of_lt (by rw [hl]at ti;omega)]at hj;simp only [World.cell?,h2];simpa [jJ]using hj
   ·rcases h4 s (List.mem_of_getElem? hk)with ⟨q1,q2⟩|⟨ge,len,cap,Ce,Te,q1,q2,q3,q4,q5⟩
    ·have:s.es=[]:=by
      have:=congrArg List.length q2
      rw [Vc.zf zm]at this;exact List.eq_nil_of_length_eq_zero (by simp at this;omega)
     exact⟨none,0,by rw [q1,this];rfl,λhp=>by rw [this]at hp;simp at hp⟩
    ·rw [Vc.zf zm]at q3;have hle:len=s.es.length:=by omega
     subst hle;refine⟨_,cap,q1,λhp=>⟨ge,rfl,by omega,by omega,bM q4,Ce,Te,q4, ?_⟩⟩;have hz:=q5 (s.es.length*11-1) ((s.es.flatMap enc)[s.es.length*11-1]'(by rw [Vc.zf zm];omega)) (List.getElem?_eq_getElem _)
     have:=(Array.getElem?_eq_some_iff.1 hz).1
     omega
 have dr:∃(da:Option Addr) (dc:Nat),u.dv=.slice da u.dr.length dc/\(0<u.dr.length->∃g,da=some ⟨g,0,none⟩/\rk lo W.heap.size W g (u.dr.length*3)):=by
  rcases h.dr with ⟨h1,h2⟩|⟨g,c,C,T,h1,nh,h2,h3⟩
  ·exact⟨none,0,by rw [h1,h2];rfl,λhp=>by rw [h2]at hp;simp at hp⟩
  ·refine⟨_,c,h1,λhp=>⟨g,rfl,nh,bM h2,C,T,h2, ?_⟩⟩
   have:=congrArg List.length h3
   rw [Vc.zf ri,List.length_take,Array.length_toList]at this;omega
 obtain⟨sa,sc,e1,e2⟩:=st;obtain⟨da,dc,e3,e4⟩:=dr;exact⟨sa,sc,da,dc,e1,e3,e2,e4⟩
end Go.Proofs.YtocleppbcngcjaaGreatDoor
end
section
set_option linter.unusedVariables false
set_option linter.unusedSimpArgs false
set_option linter.unusedSimpArgs false
namespace Go.Proofs.YtocleppbcngcjaaGreatDoor
open Go Go.RowKit Go.Proofs Go.Shelf Go.Lib
theorem OQ:Tryz.prog.underlying 43=some (.slice 48):=by kernel_rfl
theorem OR:(Tryz.prog.info? 48).map (λi=>(i.zero,i.size,i.bytes))=some (some (.agg #[.string ⟨#[]⟩,.int .i64 0,.int .i64 0,.int .i64 0,.int .i64 0,.int .i64 0]),6,56):=by kernel_rfl
set_option maxHeartbeats 2000000 in
set_option maxRecDepth 100000 in
theorem OS(w:World)(cs:List Value)(hl:cs.length=14*6)(h1:∀u∈cs,u.oneCell'=true)(hc:∀j u,cs[j]? = some u->w.cell? ((⟨0,0,none⟩:Addr).add j)=some u)(cn:0<w.heap.size) :
  Calls Tryz.prog 10 #[] w λe w'=>∃v',e=.returned v'/\w'.ownsRow w.heap.size 48 6 v' 14 cs/\Below w.heap.size w w':=by
 have mixed:Tryz.prog.follows Departure.mixedOrders=true:=by kernel_rfl
 obtain⟨i0,hi,ln⟩:=Option.map_eq_some_iff.1 OR;have uV:i0.zero=some (.agg #[.string ⟨#[]⟩,.int .i64 0,.int .i64 0,.int .i64 0,.int .i64 0,.int .i64 0]):=by injection ln
 have uy:i0.size=6:=by injection ln with _ h;injection h
 have uW:i0.bytes=56:=by injection ln with _ h;injection h
 have A:Aside (∀j u,cs[j]? = some u->w.cell? ((⟨0,0,none⟩:Addr).add j)=some u):=hc;clear hc
 go_enter Tryz.func10,Tryz.ntmps10
 go_wp2_with (at_builtin;refine wpList_append_own _ rfl _ _ 43 rfl w.heap.size 48 i0 (.agg #[.string ⟨#[]⟩,.int .i64 0,.int .i64 0,.int .i64 0,.int .i64 0,.int .i64 0]) 6 56 OQ hi uV uy uW rfl (by decide) _ _ _ rfl (World.ownsRow_made w #[] 0 (Nat.le_refl _) (Nat.zero_le _) rfl) ⟨0,0,none⟩ 14 14 cs rfl ?Cg ?Ch ?Ci ?Cj ?Ck ?Cm ?_)
 case Cg=>exact hl
 case Ch =>
  intro j u hj;exact Lib.cell?_alloc_some _ (A.out j u hj)
 case Ci=>exact h1
 case Cj=>unfold maxLen;omega
 case Ck=>omega
 case Cm=>simp
 intro v' w1 iM iN cR
 go_wp2
 go_ret
 refine⟨v',rfl,by simpa using iM, ?_⟩;exact ((Below.refl _ w).alloc (Nat.le_refl _) _).grown iN (by simp) (by intro k hk;simp [Value.ownBlock]at hk;omega)
theorem OT{w:World}(hG:nu w):∀w',Below w.heap.size w w'->Calls Tryz.prog 10 #[] w' λe iV=>∃g c,e=.returned (.slice (some ⟨g,0,none⟩) 14 c)/\w'.heap.size<=g/\(∃C T,iV.heap[g]? = some (.cells C T)/\84<=C.size)/\Below w'.heap.size w' iV:=by
 intro w' hb;obtain⟨ty,mk,hh⟩:=zp hG.g0 hb
 have key:∀C:Array Value,w'.heap[0]? = some (.cells C ty mk)->C.toList.length=14*6->(C.toList.all λu=>u.oneCell')=true->Calls Tryz.prog 10 #[] w' λe iV=>∃g c,e=.returned (.slice (some ⟨g,0,none⟩) 14 c)/\w'.heap.size<=g/\(∃C T,iV.heap[g]? = some (.cells C T)/\84<=C.size)/\Below w'.heap.size w' iV:=by
  intro C hC hl ha;refine (OS w' C.toList hl (List.all_eq_true.1 ha) (λj u hj => ?_) ((Array.getElem?_eq_some_iff.1 hC).1)).mono ?_
  ·rw [show (⟨0,0,none⟩:Addr).add j=⟨0,0+j,none⟩ by unfold Addr.add;split<;>simp_all,Nat.zero_add];simp only [World.cell?,hC];rw [<-Array.getElem?_toList];exact hj
  ·rintro e iV ⟨v',rfl,⟨h1,⟨_,h3⟩|⟨g,cap,cur,h2,h3,h4,h5,h6,h7,h8⟩⟩,dL⟩
   ·simp at h3
   ·exact⟨g,cap,by rw [h2],h3,⟨cur,_,h4,by omega⟩,dL⟩
 exact key _ hh (by kernel_rfl) (by kernel_rfl)
end Go.Proofs.YtocleppbcngcjaaGreatDoor
end
section
set_option linter.unusedVariables false
set_option maxRecDepth 100000
namespace Go.Proofs.YtocleppbcngcjaaGreatDoor
open Go Go.RowKit
theorem YN(p0 p1:Nat × Nat)(x0 x1 x2 x3 x4 x5 x6 x7:Int)(b0 b1:Bool)(s0:List UInt8)(w:World)(v:Value)(h :
 ∀x8:Int,x8=((s0.length:Nat):Int) ->
 ∃(Ia:List Vc.Vl->Prop) (Ib:List Vc.Vl->Nat),Ia [.i x8,.b false,.i 0]/\∀(x9:Int) (b2:Bool) (bd:Int),Ia [.i x9,.b b2,.i bd]->(
 (0<=x0) /\
 ((¬(b0=true))∨(x0=0)) /\
 ((bd<x0)->(
 ((bd<12)->(
 (¬(b0=true)) /\
 (0<=bd) /\
 (bd<x0) /\
 ∃(s1:List UInt8),w.cell? ⟨p0.1,p0.2+bd.toNat*6+0,none⟩=some (.string ⟨s1.toArray⟩) /\
 ∀aS:Int,aS=((s1.length:Nat):Int) ->
 ∀aW:Int,aW=IntKind.i64.wrap (x9+aS) ->
 ∃(Cs:List Vc.Vl->Prop) (Gw:List Vc.Vl->Nat),Cs [.i aW,.i 0]/\∀(bC:Int) (bn:Int),Cs [.i bC,.i bn]->(
 (¬(b0=true)) /\
 (0<=bd) /\
 (bd<x0) /\
 ∃(b3:Bool) (p2:Nat × Nat) (bJ aY:Int),w.cell? ⟨p0.1,p0.2+bd.toNat*6+5,none⟩=some ((if b3=true then .slice none 0 0 else .slice (some (Vc.dJ p2 bJ.toNat aY.toNat)) bJ.toNat aY.toNat:Value)) /\
 (0<=bJ) /\
 ((¬(b3=true))∨(bJ=0)) /\
 ((bn<bJ)->(
 ((bn<20)->(
 (¬(b0=true)) /\
 (0<=bd) /\
 (bd<x0) /\
 ∃(b4:Bool) (p3:Nat × Nat) (bE bx:Int),w.cell? ⟨p0.1,p0.2+bd.toNat*6+5,none⟩=some ((if b4=true then .slice none 0 0 else .slice (some (Vc.dJ p3 bE.toNat bx.toNat)) bE.toNat bx.toNat:Value)) /\
 (¬(b4=true)) /\
 (0<=bn) /\
 (bn<bE) /\
 ∃(s2:List UInt8),w.cell? ⟨p3.1,p3.2+bn.toNat*11+0,none⟩=some (.string ⟨s2.toArray⟩) /\
 ∀bX:Int,bX=((s2.length:Nat):Int) ->
 ∀bU:Int,bU=IntKind.i64.wrap (bC+bX) ->
 ∀cd:Int,cd=IntKind.i64.wrap (bn+1) ->
 Cs [.i bU,.i cd]/\Gw [.i bU,.i cd]<Gw [.i bC,.i bn]))/\(¬(bn<20)->(
 (¬(b0=true)) /\
 (0<=bd) /\
 (bd<x0) /\
 ∃(b4:Bool) (p3:Nat × Nat) (bE bx:Int),w.cell? ⟨p0.1,p0.2+bd.toNat*6+5,none⟩=some ((if b4=true then .slice none 0 0 else .slice (some (Vc.dJ p3 bE.toNat bx.toNat)) bE.toNat bx.toNat:Value)) /\
 (0<=bE) /\
 ((¬(b4=true))∨(bE=0)) /\
 ((20<bE)->(
 (.bool true:Value)=v))/\(¬(20<bE)->(
 ∀bX:Int,bX=IntKind.i64.wrap (bd+1) ->
 Ia [.i bC,.b b2,.i bX]/\Ib [.i bC,.b b2,.i bX]<Ib [.i x9,.b b2,.i bd]))))))/\(¬(bn<bJ)->(
 (¬(b0=true)) /\
 (0<=bd) /\
 (bd<x0) /\
 ∃(b4:Bool) (p3:Nat × Nat) (bE bx:Int),w.cell? ⟨p0.1,p0.2+bd.toNat*6+5,none⟩=some ((if b4=true then .slice none 0 0 else .slice (some (Vc.dJ p3 bE.toNat bx.toNat)) bE.toNat bx.toNat:Value)) /\
 (0<=bE) /\
 ((¬(b4=true))∨(bE=0)) /\
 ((20<bE)->(
 (.bool true:Value)=v))/\(¬(20<bE)->(
 ∀bX:Int,bX=IntKind.i64.wrap (bd+1) ->
 Ia [.i bC,.b b2,.i bX]/\Ib [.i bC,.b b2,.i bX]<Ib [.i x9,.b b2,.i bd])))))))/\(¬(bd<12)->(
 (0<=x0) /\
 ((¬(b0=true))∨(x0=0)) /\
 ((12<x0)->(
 (.bool true:Value)=v))/\(¬(12<x0)->(
 (0<=x4) /\
 ((¬(b1=true))∨(x4=0)) /\
 ((70<x4)->(
 (.bool true:Value)=v))/\(¬(70<x4)->(
 (.bool (decide (x9 > 2000)):Value)=v))))))))/\(¬(bd<x0)->(
 (0<=x0) /\
 ((¬(b0=true))∨(x0=0)) /\
 ((12<x0)->(
 (.bool true:Value)=v))/\(¬(12<x0)->(
 (0<=x4) /\
 ((¬(b1=true))∨(x4=0)) /\
 ((70<x4)->(
 (.bool true:Value)=v))/\(¬(70<x4)->(
 (.bool (decide (x9 > 2000)):Value)=v)))))))):Calls Tryz.prog 4 #[.agg #[.string ⟨s0.toArray⟩,(if b0=true then .slice none 0 0 else .slice (some (Vc.dJ p0 x0.toNat x1.toNat)) x0.toNat x1.toNat:Value),.int .i64 x2,.int .i64 x3,(if b1=true then .slice none 0 0 else .slice (some (Vc.dJ p1 x4.toNat x5.toNat)) x4.toNat x5.toNat:Value),.int .i64 x6,.int .i64 x7]] w (Vc.Ret v w) :=
 Vc.zb base [(9000000000003,.inv [] [3,2,4] [9,10,11,12,13,14,15,16,17,20,21,22,23,24,25,26,27,28,5,29,30,31,32,33,34,35,36,37,38,39,40,41,44,45,46,47,48,49,50,51,52,53,54,55,56,42,43,57,58,59,60,61,62,63,64,18,19]),(13000000000007,.inv [] [3,5] [29,30,31,32,33,34,35,36,37,38,39,40,41,44,45,46,47,48,49,50,51,52,53,54,55,56,42,43])] [] 200 Tryz.func4 (b:=(Tryz.f4.body).getD .skip) (by kernel_rfl) [.cv (.agg [.sv 0,.fG 0 0 6 (.var 0) (.var 1),.int .i64 (.var 2),.int .i64 (.var 3),.fG 1 1 3 (.var 4) (.var 5),.int .i64 (.var 6),.int .i64 (.var 7)])] ⟨8,2,0,2,0,1,0⟩ [] (Vc.aI [x0,x1,x2,x3,x4,x5,x6,x7] [b0,b1] [] [p0,p1] [s0]) (by kernel_rfl) Vc.zc (by kernel_rfl) (by kernel_rfl) h
end Go.Proofs.YtocleppbcngcjaaGreatDoor
end
section
set_option linter.unusedVariables false
set_option linter.unusedSimpArgs false
set_option maxRecDepth 4000
namespace Go.Proofs.YtocleppbcngcjaaGreatDoor
open Go Go.RowKit Vc
attribute [local irreducible] Go.Calls
def gI(n:Int)(es:List En):Int:=es.foldl (λn e=>IntKind.i64.wrap (n+(e.nm.length:Nat))) n
def gO(n:Int)(ss:List cD):Int:=ss.foldl (λn s=>gI (IntKind.i64.wrap (n+(s.nm.length:Nat))) (s.es.take 20)) n
def f_(v:Vh):Bool:=(v.ss.take 12).any (λs=>decide (20<s.es.length)) || (decide (12<v.ss.length) || (decide (70<v.dr.length) || decide (gO (v.nm.length:Nat) (v.ss.take 12) > 2000)))
theorem OU(n:Int){es:List En}{k:Nat}{e:En}(h:es[k]? = some e):gI n (es.take (k+1))=IntKind.i64.wrap (gI n (es.take k)+(e.nm.length:Nat)):=by
 unfold gI;rw [List.take_add_one,h];simp
theorem OW(n:Int){ss:List cD}{k:Nat}{s:cD}(h:ss[k]? = some s):gO n (ss.take (k+1))=gI (IntKind.i64.wrap (gO n (ss.take k)+(s.nm.length:Nat))) (s.es.take 20):=by
 unfold gO;rw [List.take_add_one,h];simp
def Gy(n:Int)(es:List En)(L:List Vl):Prop:=∃k:Nat,L=[.i (gI n (es.take k)),.i k]/\k<=es.length/\k<=20
def Av(n:Int)(ss:List cD)(L:List Vl):Prop:=∃(b:Bool) (i:Nat),L=[.i (gO n (ss.take i)),.b b,.i i]/\i<=ss.length/\i<=12/\∀s∈ss.take i,s.es.length<=20
def yR(n:Nat)(L:List Vl):Nat:=match L with
 | [_,_,.i i]=>n-i.toNat
 |_=>0
theorem OX{w:World}{v:Vh}(h:fZ w v)(hz:iv v):Calls Tryz.prog 4 #[fL v] w (Vc.Ret (.bool (f_ v)) w):=by
 obtain⟨b0,p0,c0,e0,f0,g0⟩:=yL h.st;obtain⟨b1,p1,c1,e1,f1,g1⟩:=w6 h.dr;have mV:=qO f0;have yN:=qO f1;unfold fL;rw [e0,e1];refine YN p0 p1 (v.ss.length:Nat) c0 v.yl v.yh (v.dr.length:Nat) c1 v.ax v.be b0 b1 v.nm w _ ?_;rintro x8 rfl;refine⟨Av (v.nm.length:Nat) v.ss,yR v.ss.length,⟨false,0,rfl,Nat.zero_le _,by omega,λs hs=>by simp at hs⟩, ?_⟩;rintro x9 b2 bd ⟨b,i,hy,hi,YO,hA⟩;simp only [List.cons.injEq,Vl.i.injEq,Vl.b.injEq,and_true]at hy;obtain⟨rfl,rfl,rfl⟩:=hy;have se:=hz.sn
 have fin:(i=v.ss.length∨i=12)->(0<=((v.ss.length:Nat):Int))/\((¬(b0=true))∨(((v.ss.length:Nat):Int)=0)) /\
   ((12<((v.ss.length:Nat):Int))->((.bool true:Value)=.bool (f_ v)))/\(¬(12<((v.ss.length:Nat):Int))->((0<=((v.dr.length:Nat):Int))/\((¬(b1=true))∨(((v.dr.length:Nat):Int)=0)) /\
   ((70<((v.dr.length:Nat):Int))->((.bool true:Value)=.bool (f_ v)))/\(¬(70<((v.dr.length:Nat):Int))->((.bool (decide (gO (v.nm.length:Nat) (v.ss.take i) > 2000)):Value)=.bool (f_ v))))):=λCt=>by
  refine⟨by omega,mV,aj (λBP => ?_) (λBP=>⟨by omega,yN,aj (λYP => ?_) (λYP => ?_)⟩)⟩
  ·refine pt ?_;unfold f_
   rw [decide_eq_true (show 12<v.ss.length by omega)];simp
  ·refine pt ?_;unfold f_
   rw [decide_eq_true (show 70<v.dr.length by omega)];simp
  ·refine pt ?_
   have ht:v.ss.take 12=v.ss.take i:=by
    rcases Ct with h|h
    ·rw [h,List.take_length,List.take_of_length_le (by omega)]
    ·rw [h]
   unfold f_
   rw [decide_eq_false (show ¬12<v.ss.length by omega),decide_eq_false (show ¬70<v.dr.length by omega),ht]
   have:(v.ss.take i).any (λs=>decide (20<s.es.length))=false:=by
    rw [List.any_eq_false];intro s hs
    have:=hA s hs
    simp;omega
   rw [this];simp
 refine⟨by omega,mV,aj (λcn=>aj (λTU => ?_) (λkU=>fin (.inr (by omega)))) (λkU=>fin (.inl (by omega)))⟩;have nj:i<v.ss.length:=by omega
 have hs:v.ss[i]? = some v.ss[i]:=List.getElem?_eq_getElem nj;have hm:v.ss[i]∈v.ss:=List.getElem_mem nj;generalize v.ss[i]=s at hs hm;obtain⟨k0,_,_,_,_,k5⟩:=g0 i s hs;obtain⟨z1,z2,z3⟩:=hz.st s hm;obtain⟨b3,p2,c3,e3,f3,g3⟩:=B3 (h.es s hm);have w_:=qO f3;have cR:¬b0=true:=λhb=>by have:=f0 hb;omega
 have bY:w.cell? ⟨p0.1,p0.2+i*6+5,none⟩=some ((if b3=true then .slice none 0 0 else .slice (some (Vc.dJ p2 (Int.toNat ((s.es.length:Nat):Int)) c3.toNat)) (Int.toNat ((s.es.length:Nat):Int)) c3.toNat:Value)):=by rw [k5,e3]
 simp only [Int.toNat_natCast]at bY ⊢;refine⟨cR,by omega,by omega,s.nm,k0, ?_⟩;rintro aS rfl aW OY;refine⟨Gy aW s.es,tz 21,⟨0,rfl,by omega,by omega⟩, ?_⟩;rintro bC bn ⟨k,ue,hk,YQ⟩;simp only [List.cons.injEq,Vl.i.injEq,and_true]at ue;obtain⟨rfl,rfl⟩:=ue
 have Gz:(k=s.es.length∨k=20)->(¬(b0=true))/\(0<=((i:Nat):Int))/\(((i:Nat):Int)<((v.ss.length:Nat):Int)) /\
   ∃(b4:Bool) (p3:Nat × Nat) (bE bx:Int),w.cell? ⟨p0.1,p0.2+i*6+5,none⟩=some ((if b4=true then .slice none 0 0 else .slice (some (Vc.dJ p3 bE.toNat bx.toNat)) bE.toNat bx.toNat:Value)) /\
   (0<=bE)/\((¬(b4=true))∨(bE=0))/\((20<bE)->((.bool true:Value)=.bool (f_ v)))/\(¬(20<bE)->(
   ∀bX:Int,bX=IntKind.i64.wrap (((i:Nat):Int)+1) ->
   Av (v.nm.length:Nat) v.ss [.i (gI aW (s.es.take k)),.b b2,.i bX]/\yR v.ss.length [.i (gI aW (s.es.take k)),.b b2,.i bX]<yR v.ss.length [.i (gO (v.nm.length:Nat) (v.ss.take i)),.b b2,.i ((i:Nat):Int)])):=λCt=>by
  refine⟨cR,by omega,by omega,b3,p2,(s.es.length:Nat),c3,bY,by omega,w_,aj (λYR => ?_) (λYR => ?_)⟩
  ·refine pt ?_;unfold f_
   have:(v.ss.take 12).any (λs=>decide (20<s.es.length))=true:=by
    rw [List.any_eq_true];exact⟨s,List.mem_of_getElem? (show (v.ss.take 12)[i]? = some s by rw [List.getElem?_take_of_lt (by omega),hs]),by simp;omega⟩
   rw [this];rfl
  ·rintro bX rfl;rw [zj (by omega)];refine⟨⟨b2,i+1, ?_,by omega,by omega,λs' uf => ?_⟩,by simp only [yR];omega⟩
   ·rw [OW _ hs,<-OY]
    have:s.es.take k=s.es.take 20:=by
     rcases Ct with h|h
     ·rw [h,List.take_length,List.take_of_length_le (by omega)]
     ·rw [h]
    rw [this];rfl
   ·rw [List.take_add_one,hs]at uf;rcases List.mem_append.1 uf with uf|uf
    ·exact hA s' uf
    ·simp only [Option.toList_some,List.mem_singleton]at uf;subst uf;omega
 simp only [Int.toNat_natCast];refine⟨cR,by omega,by omega,b3,p2,(s.es.length:Nat),c3,bY,by omega,w_,aj (λqG=>aj (λjk => ?_) (λjk=>Gz (.inr (by omega)))) (λqG=>Gz (.inl (by omega)))⟩;have B1:k<s.es.length:=by omega
 have he:s.es[k]? = some s.es[k]:=List.getElem?_eq_getElem B1;generalize s.es[k]=e at he;obtain⟨q0,_⟩:=g3 k e he;have tA:¬b3=true:=λhb=>by have:=f3 hb;omega
 refine⟨cR,by omega,by omega,b3,p2,(s.es.length:Nat),c3,bY,tA,by omega,by omega,e.nm,q0, ?_⟩;rintro bX rfl bU rfl cd rfl;rw [<-OU aW he,zj (by omega)];exact⟨⟨k+1,rfl,by omega,by omega⟩,by simp only [tz];omega⟩
end Go.Proofs.YtocleppbcngcjaaGreatDoor
end
