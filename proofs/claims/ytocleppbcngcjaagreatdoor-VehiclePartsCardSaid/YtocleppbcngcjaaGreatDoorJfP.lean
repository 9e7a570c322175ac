import Derived.Test.YtocleppbcngcjaaGreatDoorPq
import Derived.Test.YtocleppbcngcjaaGreatDoorGt
import Derived.Test.YtocleppbcngcjaaGreatDoorTz
import Derived.Test.YtocleppbcngcjaaGreatDoorQp
import Derived.Lib.LaidU8
import Derived.Lib.LaidTab
import Derived.WalkKit
import Derived.ProofKit
import Derived.OpenShut
import Derived.Lib.SmallJoins
import Derived.Test.YtocleppbcngcjaaGreatDoorProg
import Derived.Test.YtocleppbcngcjaaGreatDoorRows
import Derived.JoinedOf
section
set_option linter.unusedVariables false
set_option linter.unusedSimpArgs false
set_option linter.unusedSimpArgs false
namespace Go.Proofs.YtocleppbcngcjaaGreatDoor
open Go Go.RowKit Go.Proofs Wk
theorem _root_.Wk.Kn.tail{w0 w:World}{x:Nat × Array Value × TypeId}{L:List (Nat × Array Value × TypeId)}(h:Kn w0 w (x::L)):Kn w0 w L:=⟨h.below,λp hp=>h.all p (List.mem_cons_of_mem _ hp)⟩
theorem Dx{w0 w:World}{b o:Nat}{C1:Array Value}{T1:TypeId}{x:Value}(h:Kn w0 w [(w0.heap.size,C1,T1)])(hb:w0.heap.size<b):Kn w0 (w.setCell ⟨b,o,none⟩ x) [(w0.heap.size,C1,T1)] :=
 h.put b o x (by omega) λp hp=>by
  simp only [List.mem_cons,List.not_mem_nil,or_false]at hp;subst hp;exact Nat.ne_of_lt hb
theorem OZ{w0 w:World}{b b1 b2 o:Nat}{C1 C2:Array Value}{T1 T2:TypeId}{x:Value}(h:Kn w0 w [(b1,C1,T1),(b2,C2,T2)])(hb:w0.heap.size<=b)(h1:b<b1)(h2:b2<b):Kn w0 (w.setCell ⟨b,o,none⟩ x) [(b1,C1,T1),(b2,C2,T2)] :=
 h.put b o x hb λp hp=>by
  simp only [List.mem_cons,List.not_mem_nil,or_false]at hp;rcases hp with rfl|rfl
  ·exact Nat.ne_of_gt h1
  ·exact Nat.ne_of_lt h2
set_option maxHeartbeats 8000000 in
set_option maxRecDepth 100000 in
theorem YS{w:World}{v:Vh}(hz:iv v)(gV:lz v.sv)(h:fZ w v)(hV:uS w)(n:Int) :
    Calls Tryz.prog 3 #[fL v,.int .i64 n] w (Vc.Ret (.bool true) w):=by
  have mixed:Tryz.prog.follows Departure.mixedOrders=true:=by kernel_rfl
  have pQ:∀w',Below w.heap.size w w'->Calls Tryz.prog 4 #[fL v] w' (Vc.Ret (.bool (f_ v)) w'):=λw' hb=>OX (h.below hb) hz;have O0:∀w',Below w.heap.size w w'->Calls Tryz.prog 5 #[] w' (Vc.Ret (.bool true) w'):=λw' hb=>Xw w' (hV.g.cA hb);have Ic:∀w',Below w.heap.size w w'->Calls Tryz.prog 9 #[fL v] w' (Vc.Ret (.string ⟨(pE v).toArray⟩) w'):=λw' hb=>OA (hV.cA hb) (h.below hb) hz;obtain⟨u',Ie,uf,vM⟩:=YM h hz gV n;have fb:=OT hV.g
  have xV:∀ w',Below w.heap.size w w'->Calls Tryz.prog 6 #[fL v,.int .i64 n] w' fun e iV=>∃ (u:Vh) (sa:Option Addr) (sc:Nat) (da:Option Addr) (dc:Nat),e=.returned (.tuple #[.agg #[.string ⟨u.nm.toArray⟩,.slice sa u.ss.length sc,.int .i64 u.yl,.int .i64 u.yh,.slice da u.dr.length dc,.int .i64 u.ax,.int .i64 u.be],.int .i64 (gM v n)])/\Below w'.heap.size w' iV/\xh w'.heap.size iV.heap.size iV u sa da/\u.ss.length < 4611686018427387904/\(∀ s∈u.ss,s.es.length < 4611686018427387904)/\u.dr.length < 4611686018427387904 /\
      (∀w3,Below iV.heap.size iV w3->Calls Tryz.prog 8 #[.agg #[.string ⟨u.nm.toArray⟩,.slice sa u.ss.length sc,.int .i64 u.yl,.int .i64 u.yh,.slice da u.dr.length dc,.int .i64 u.ax,.int .i64 u.be],fL u'] w3 (Vc.Ret (.bool true) w3)):=λw' hb=>by
    refine (YL (hV.g.cA hb) (h.below hb) hz gV n).mono ?_;rintro e iV ⟨u,rfl,b2,hf,lZ⟩;obtain⟨sa,sc,da,dc,e1,e2,hm⟩:=hf.mut;have Ig:=lZ.sz (OO hz);refine⟨u,sa,sc,da,dc,by unfold fL;rw [e1,e2],b2,hm,Ig.sn,λs hs=>(Ig.st s hs).2.1,Ig.dn,λw3 h3 => ?_⟩
    have:=OB (w:=w3) (hf.at.below h3) (Ie.below ((hb.trans (b2.mono hb.size)).trans (h3.mono (Nat.le_trans hb.size b2.size)))) Ig (lZ.both uf)
    unfold fL at this ⊢
    rwa [e1,e2]at this
  obtain⟨ua,uc,YT,_⟩:=Co Ie.st (by decide) (Vc.zf zk u'.ss);obtain⟨ZU,ZV,YU,_⟩:=Co Ie.dr (by decide) (Vc.zf ri u'.dr);obtain⟨va,vc,YV,_⟩:=Co h.st (by decide) (Vc.zf zk v.ss);obtain⟨GA,GB,YW,_⟩:=Co h.dr (by decide) (Vc.zf ri v.dr);clear hz gV h hV Ie uf;unfold fL at pQ Ic xV vM ⊢;rw [YT,YU]at xV vM;rw [YV,YW]at pQ Ic xV vM ⊢;generalize pE v=P at *;generalize gM v n=we at *;have K:=Kn.start w;cases C0:f_ v with
  |true =>
    rw [C0]at pQ
    go_enter Tryz.func3,Tryz.ntmps3
    go_wp2_with (first | (go_at_call 4;refine via (by repeat (first|exact K|apply Kn.push|apply Kn.drew)) (pQ _ (by have B:=K.below;go_grown)) ?_;clear K;(try clear hO);intro wN K hO;simp only [aN,World.size_alloc,World.size_drew,World.size_setCell]at hO) | (go_at_call 5;refine via (by repeat (first|exact K|apply Kn.push|apply Kn.drew)) (O0 _ (by have B:=K.below;go_grown)) ?_;clear K;(try clear hO);intro wN K hO;simp only [aN,World.size_alloc,World.size_drew,World.size_setCell]at hO))
    go_ret
    exact⟨rfl,K.below⟩
  |false =>
    rw [C0]at pQ
    go_enter Tryz.func3,Tryz.ntmps3
    go_wp2_with (first | (go_at_call 4;refine via (by repeat (first|exact K|apply Kn.push|apply Kn.drew)) (pQ _ (by have B:=K.below;go_grown)) ?_;clear K;(try clear hO);intro wN K hO;simp only [aN,World.size_alloc,World.size_drew,World.size_setCell]at hO))
    go_wp2_with (go_at_call 6;refine (xV _ (by have B:=K.below;go_grown)).mono ?_;rintro e w9 ⟨u,sa,sc,da,dc,rfl,b9,hm,se,Ov,Kb,eA⟩;replace K:=K.next b9;have xi:=K.below;have O1:=b9.size;have YX:=hO.2.2.2.1;replace K:=K.self;clear hO;have hO:=Kn.aK K.all;simp only [aN,World.size_alloc,World.size_drew,World.size_setCell]at hO;have GC:=λw' (hb:Below w9.heap.size w9 w')=>vM w' (xi.trans (hb.mono xi.size));have GD:=λw' (hb:Below w9.heap.size w9 w')=>Ic w' (xi.trans (hb.mono xi.size));have O2:=λw' (hb:Below w9.heap.size w9 w')=>O0 w' (xi.trans (hb.mono xi.size));have O3:=λw' (hb:Below w9.heap.size w9 w')=>fb w' (xi.trans (hb.mono xi.size));obtain⟨lo,nh⟩:∃lo,lo=wN.heap.size:=⟨_,rfl⟩;rw [<-nh]at hm O1 YX;clear vM nh b9)
    go_wp2_with (go_at_call 7;refine via (by repeat (first|exact K|apply Kn.push|apply Kn.drew)) (GC _ (by have B:=K.below;go_grown)) ?_;clear K;(try clear hO);intro wN K hO;simp only [aN,World.size_alloc,World.size_drew,World.size_setCell]at hO)
    go_wp2_with (go_at_call 8;refine via (by repeat (first|exact K|apply Kn.push|apply Kn.drew)) (eA _ (by have B:=K.below;go_grown)) ?_;clear K;(try clear hO);intro wN K hO;simp only [aN,World.size_alloc,World.size_drew,World.size_setCell]at hO)
    go_wp2_with (go_at_call 9;refine via (by repeat (first|exact K|apply Kn.push|apply Kn.drew)) (GD _ (by have B:=K.below;go_grown)) ?_;clear K;(try clear hO);intro wN K hO;simp only [aN,World.size_alloc,World.size_drew,World.size_setCell]at hO)
    clear GC GD O2 O3 eA;have Fo:=hm.cA K.below;have O4:=K.below.size;replace K:Kn w wN [(w9.heap.size,#[.string ⟨u.nm.toArray⟩,.slice sa u.ss.length sc,.int .i64 u.yl,.int .i64 u.yh,.slice da u.dr.length dc,.int .i64 u.ax,.int .i64 u.be],28),(w.heap.size,#[.string ⟨v.nm.toArray⟩,.slice va v.ss.length vc,.int .i64 v.yl,.int .i64 v.yh,.slice GA v.dr.length GB,.int .i64 v.ax,.int .i64 v.be],28)]:=⟨(Kn.trans' xi K).below,λp hp=>K.all p (List.mem_cons_of_mem _ hp)⟩;have ZW:=xi.size;clear xi hO hm
    go_loopw [10] (λi wr=>∃k:Nat,k<=u.ss.length/\i=.int .i64 (k:Int)/\xh lo w9.heap.size wr u sa da/\Kn w wr [(w9.heap.size,#[.string ⟨u.nm.toArray⟩,.slice sa u.ss.length sc,.int .i64 u.yl,.int .i64 u.yh,.slice da u.dr.length dc,.int .i64 u.ax,.int .i64 u.be],28),(w.heap.size,#[.string ⟨v.nm.toArray⟩,.slice va v.ss.length vc,.int .i64 v.yl,.int .i64 v.yh,.slice GA v.dr.length GB,.int .i64 v.ax,.int .i64 v.be],28)]) (λi _=>u.ss.length-(intOf i).toNat)
    case atStart=>exact⟨0,Nat.zero_le _,rfl,Fo,K⟩
    case round =>
      clear K Fo O4;obtain⟨k,hk,rfl,hm,K⟩:=hrel;by_cases eR:k<u.ss.length
      · obtain⟨s,xD⟩:∃s,u.ss[k]? = some s:=⟨_,List.getElem?_eq_getElem eR⟩;obtain⟨g,rfl,m_,bY,ea,ec,zS,fP⟩:=hm.st k s xD;have Du:=Ov s (List.mem_of_getElem? xD);have g8:(k:Int)<(u.ss.length:Int):=by omega
        have k0:(0:Int)<=(k:Int):=by omega
        have hO:=Kn.aK K.all;simp only [aN,World.size_alloc,World.size_drew,World.size_setCell]at hO
        go_wp2
        go_loopw [11] (λi wr=>∃m:Nat,m<=s.es.length/\i=.int .i64 (m:Int)/\xh lo w9.heap.size wr u (some ⟨g,0,none⟩) da/\Kn w wr [(w9.heap.size,#[.string ⟨u.nm.toArray⟩,.slice (some ⟨g,0,none⟩) u.ss.length sc,.int .i64 u.yl,.int .i64 u.yh,.slice da u.dr.length dc,.int .i64 u.ax,.int .i64 u.be],28),(w.heap.size,#[.string ⟨v.nm.toArray⟩,.slice va v.ss.length vc,.int .i64 v.yl,.int .i64 v.yh,.slice GA v.dr.length GB,.int .i64 v.ax,.int .i64 v.be],28)]) (λi _=>s.es.length-(intOf i).toNat)
        case atStart=>exact⟨0,Nat.zero_le _,rfl,hm,K⟩
        case round =>
          clear K hO hm m_ bY fP;obtain⟨m,qW,rfl,hm,K⟩:=hrel;obtain⟨g',ep,m_,bY,ZX,ZY,Cu,O5⟩:=hm.st k s xD;rw [zS]at Cu;simp only [Value.slice.injEq,true_and]at Cu;obtain⟨rfl,rfl⟩:=Cu;obtain rfl:g=g':=by simpa using ep
          rw [zS]at bY;obtain⟨⟨x0,yd⟩,TV⟩:=m_.cell (j:=k*6) (by omega);by_cases kA:m<s.es.length
          · obtain⟨ge,rfl,cn,Ih⟩:=O5 (by omega);obtain⟨⟨x1,zI⟩,CR⟩:=Ih.cell (j:=m*11+1) (by omega);have Au:(m:Int)<(s.es.length:Int):=by omega
            have m0:(0:Int)<=(m:Int):=by omega
            have hO:=Kn.aK K.all;simp only [aN,World.size_alloc,World.size_drew,World.size_setCell]at hO
            go_wp2
            go_roundw
            case rel =>
              refine⟨m+1,by omega,by go_num,hm.set (λg2 e1 e2 => ?_),OZ K (by have:=Ih.1;omega) (by have:=Ih.2.1;omega) (by have:=Ih.1;omega)⟩
              have:g=g2:=by injection e1 with e1;injection e1
              omega
            case measure=>simp only [intOf];omega
          · have Ox:m=s.es.length:=by omega
            subst Ox;have Au:¬((s.es.length:Int)<(s.es.length:Int)):=by omega
            have hO:=Kn.aK K.all;simp only [aN,World.size_alloc,World.size_drew,World.size_setCell]at hO
            go_wp2
            go_roundw
            case rel =>
              exact⟨k+1,by omega,by go_num,hm.set (λg2 e1 e2 k'=>by omega),OZ K (by have:=m_.1;omega) (by have:=m_.2.1;omega) (by have:=m_.1;omega)⟩
            case measure=>simp only [intOf];omega
      · have oQ:k=u.ss.length:=by omega
        subst oQ;have g8:¬((u.ss.length:Int)<(u.ss.length:Int)):=by omega
        have hO:=Kn.aK K.all;simp only [aN,World.size_alloc,World.size_drew,World.size_setCell]at hO
        go_wp2
        go_loopw [12] (λi wr=>∃k:Nat,k<=u.dr.length/\i=.int .i64 (k:Int)/\xh lo w9.heap.size wr u sa da/\Kn w wr [(w9.heap.size,#[.string ⟨u.nm.toArray⟩,.slice sa u.ss.length sc,.int .i64 u.yl,.int .i64 u.yh,.slice da u.dr.length dc,.int .i64 u.ax,.int .i64 u.be],28),(w.heap.size,#[.string ⟨v.nm.toArray⟩,.slice va v.ss.length vc,.int .i64 v.yl,.int .i64 v.yh,.slice GA v.dr.length GB,.int .i64 v.ax,.int .i64 v.be],28)]) (λi _=>u.dr.length-(intOf i).toNat)
        case atStart=>exact⟨0,Nat.zero_le _,rfl,hm,K⟩
        case round =>
          clear K hO hm;obtain⟨k,hk,rfl,hm,K⟩:=hrel;by_cases eR:k<u.dr.length
          · obtain⟨g,rfl,m_⟩:=hm.dr (by omega);obtain⟨⟨x0,yd⟩,TV⟩:=m_.cell (j:=k*3) (by omega);have Au:(k:Int)<(u.dr.length:Int):=by omega
            have k0:(0:Int)<=(k:Int):=by omega
            have hO:=Kn.aK K.all;simp only [aN,World.size_alloc,World.size_drew,World.size_setCell]at hO
            go_wp2
            go_roundw
            case rel =>
              exact⟨k+1,by omega,by go_num,hm.set (λg2 e1 e2 k'=>by omega),OZ K (by have:=m_.1;omega) (by have:=m_.2.1;omega) (by have:=m_.1;omega)⟩
            case measure=>simp only [intOf];omega
          · have oQ:k=u.dr.length:=by omega
            subst oQ;have Au:¬((u.dr.length:Int)<(u.dr.length:Int)):=by omega
            clear hm;have hO:=Kn.aK K.all;simp only [aN,World.size_alloc,World.size_drew,World.size_setCell]at hO
            go_wp2_with (go_at_call 10;refine (fb _ K.below).mono ?_;rintro e w3 ⟨gl,cl,rfl,oO,⟨Cl,Tl,O6,TW⟩,Eh⟩;have xX:w.heap.size<wr.heap.size:=bM (K.tail.all _ (List.mem_cons_self ..));replace K:=Kn.next (Kn.tail K) Eh;clear hO;have hO:=Kn.aK K.all;simp only [aN,World.size_alloc,World.size_drew,World.size_setCell]at hO)
            have YY:gl<w3.heap.size:=bM O6;have HJ:rk wr.heap.size w3.heap.size w3 gl 84:=⟨oO,YY,Cl,Tl,O6,TW⟩;obtain⟨O7,fX⟩:∃O7,O7=wr.heap.size:=⟨_,rfl⟩;rw [<-fX]at HJ xX;clear O6 TW oO Eh
            go_loopw [14] (λi wr=>∃k:Nat,k<=14/\i=.int .i64 (k:Int)/\rk O7 w3.heap.size wr gl 84/\Kn w wr [(w.heap.size,#[.string ⟨v.nm.toArray⟩,.slice va v.ss.length vc,.int .i64 v.yl,.int .i64 v.yh,.slice GA v.dr.length GB,.int .i64 v.ax,.int .i64 v.be],28)]) (λi _=>14-(intOf i).toNat)
            case atStart=>exact⟨0,Nat.zero_le _,rfl,HJ,K⟩
            case round =>
              clear K hO HJ;obtain⟨k,hk,rfl,hB,K⟩:=hrel;by_cases eR:k<14
              · obtain⟨⟨x0,yd⟩,TV⟩:=hB.cell (j:=k*6) (by omega);obtain⟨⟨x1,zI⟩,CR⟩:=hB.cell (j:=k*6+1) (by omega);obtain⟨⟨x2,xr⟩,Ey⟩:=hB.cell (j:=k*6+2) (by omega);obtain⟨⟨x3,ZZ⟩,Z0⟩:=hB.cell (j:=k*6+3) (by omega);obtain⟨⟨x4,Z1⟩,Z2⟩:=hB.cell (j:=k*6+4) (by omega);obtain⟨⟨x5,Z3⟩,Z4⟩:=hB.cell (j:=k*6+5) (by omega);have Au:(k:Int)<14:=by omega
                have k0:(0:Int)<=(k:Int):=by omega
                have hO:=Kn.aK K.all;simp only [aN,World.size_alloc,World.size_drew,World.size_setCell]at hO
                go_wp2
                go_roundw
                case rel =>
                  have cn:=hB.1;exact⟨k+1,by omega,by go_num,hB.set.set.set.set.set.set,Dx (Dx (Dx (Dx (Dx (Dx K (by omega)) (by omega)) (by omega)) (by omega)) (by omega)) (by omega)⟩
                case measure=>simp only [intOf];omega
              · have oQ:k=14:=by omega
                subst oQ;have hO:=Kn.aK K.all;simp only [aN,World.size_alloc,World.size_drew,World.size_setCell]at hO
                go_wp2_with (first | (go_at_call 9;refine via (by repeat (first|exact K|apply Kn.push|apply Kn.drew)) (Ic _ (by have B:=K.below;go_grown)) ?_;clear K;(try clear hO);intro wN K hO;simp only [aN,World.size_alloc,World.size_drew,World.size_setCell]at hO) | (go_at_call 5;refine via (by repeat (first|exact K|apply Kn.push|apply Kn.drew)) (O0 _ (by have B:=K.below;go_grown)) ?_;clear K;(try clear hO);intro wN K hO;simp only [aN,World.size_alloc,World.size_drew,World.size_setCell]at hO))
                go_ret
                exact⟨rfl,by have B:=K.below;go_grown⟩
end Go.Proofs.YtocleppbcngcjaaGreatDoor
end
section
set_option linter.unusedVariables false
set_option linter.unusedSimpArgs false
namespace Go.Proofs.YtocleppbcngcjaaGreatDoor
open Go Go.RowKit Go.ChangeShapes Go.WideShapes Go.ChangeAt Go.Joins Vc
theorem TX{α:Type}(c:Nat):∀(ls:List (List α)) (cs:List α),cs.length=ls.length*c->(∀i l,ls[i]? = some l->(cs.drop (i*c)).take c=l)->cs=ls.flatten
  | [],cs,h,_=>by simpa using h
  |l::r,cs,h,hi=>by
    have h0:=hi 0 l rfl;simp only [Nat.zero_mul,List.drop_zero]at h0
    have hr:=TX c r (cs.drop c) (by rw [List.length_drop,h,List.length_cons,Nat.add_mul];omega) λi l' hl=>by
      have:=hi (i+1) l' (by simpa using hl)
      rw [List.drop_drop];rw [show c+i*c=(i+1)*c by rw [Nat.add_mul];omega];exact this
    rw [List.flatten_cons,<-hr,<-h0,List.take_append_drop]
theorem TY{P:Program}{w:World}{sp:Nat->Bool}{held:Bool}{fuel:Nat}{t e:TypeId}{n:Nat}{cs:List Value}{ds:List (DataW Unit)}{ls:List (List Value)}{p:List MemPlace}
    (ht:P.underlying t=some (.array n e)) (Cv:P.cellsOf t=n*P.cellsOf e) (hn:ds.length=n) (C9:ls.length=n)
    (Du:∀(fuel:Nat) (cs:List Value) (d:DataW Unit) (p:List MemPlace),DataW.trod (λ_=>()) P w 0 sp held fuel e cs=some (d,p)->∀i:Nat,ds[i]? = some d->ls[i]? = some cs)
    (h:DataW.trod (λ_=>()) P w 0 sp held fuel t cs=some (.agg ds,p)):cs=ls.flatten:=by
  cases fuel with
  |zero=>simp [DataW.trod]at h
  |succ fuel =>
    simp only [DataW.trod,ht]at h;split at h
    · rename_i hl;obtain⟨xs,hm,hx⟩:=Option.map_eq_some_iff.1 h
      have pO:xs.map (·.1)=ds:=by
        have:=congrArg Prod.fst hx
        simpa using this
      refine TX (P.cellsOf e) ls cs (by rw [hl,Cv,C9]) λi l hi => ?_;have pM:i<n:=by rw [<-C9];exact (List.getElem?_eq_some_iff.1 hi).1
      obtain⟨b,hb,hf⟩:=Lib.mapM_at hm i i (by simp [pM]);have hd:ds[i]? = some b.1:=by rw [<-pO];simp [hb]
      have:=Du fuel _ b.1 b.2 hf i hd
      rw [hi]at this;exact (Option.some.inj this).symm
    · cases h
theorem O8{P:Program}{w:World}{n:String}{d:DataW Unit}(h:Lib.VarReads P w n d){g:Nat}(hg:P.globalNamed n=some g){t:TypeId}(ht:(P.globals[g]?).map (·.type)=some t) :
  ∃(cs:List Value) (fuel:Nat) (p:List MemPlace),(∃ty mk,w.heap[g]? = some (.cells cs.toArray ty mk))/\DataW.trod (λ_=>()) P w 0 (λ_=>true) false fuel t cs=some (d,p):=by
 obtain⟨g',t',cs,fuel,p,ep,YZ,qv,hd⟩:=h;obtain rfl:=Option.some.inj (hg.symm.trans ep);obtain rfl:=Option.some.inj (ht.symm.trans YZ);refine⟨cs.toList,fuel,p, ?_,hd⟩;unfold World.var? at qv;rw [hg]at qv;simp only [Option.bind_some]at qv;split at qv
 ·rename_i iK ty mk hh;cases qv;exact⟨ty,mk,by rw [hh]⟩
 ·cases qv
def Aw:DataW Unit->List Int
  | .agg l=>l.map λx=>match x with
    | .lit (.int _ z)=>z
    |_=>0
  |_=>[]
def tF:DataW Unit->List (List UInt8)
  | .agg l=>l.map λx=>match x with
    | .lit (.string z)=>z
    |_=>[]
  |_=>[]
def yS:DataW Unit->List (DataW Unit)
 | .agg l=>l
 |_=>[]
theorem uU{P:Program}{w:World}{n:String}{k:IntKind}{d:DataW Unit}(h:Lib.VarReads P w n d)(hd:d=Lib.tabData k (Aw d)){g:Nat}(hg:P.globalNamed n=some g){t e:TypeId}{m:Nat}(ht:(P.globals[g]?).map (·.type)=some t)
  (hu:P.underlying t=some (.array m e)) (he:P.underlying e=some (.int k)) (qo:P.cellsOf e=1) (Cv:P.cellsOf t=m) {C:Array Value} (hC:((Aw d).map λz=>Value.int k z).toArray=C):∃ty mk,w.heap[g]? = some (.cells C ty mk):=by
 obtain⟨cs,fuel,p,h1,h2⟩:=O8 h hg ht;rw [hd]at h2;rw [Lib.cells_of_tab hu he qo Cv h2,hC]at h1;exact h1
theorem O9{P:Program}{w:World}{n:String}{d:DataW Unit}(h:Lib.VarReads P w n d)(hd:d=.agg ((tF d).map λs=>.lit (.string s))){g:Nat}(hg:P.globalNamed n=some g){t e:TypeId}{m:Nat}(ht:(P.globals[g]?).map (·.type)=some t)
  (hu:P.underlying t=some (.array m e)) (he:P.underlying e=some .string) (Cv:P.cellsOf t=m*P.cellsOf e) (hm:(tF d).length=m) {C:Array Value} (hC:(((tF d).map λs=>[Value.string ⟨s.toArray⟩]).flatten).toArray=C):∃ty mk,w.heap[g]? = some (.cells C ty mk):=by
 obtain⟨cs,fuel,p,h1,h2⟩:=O8 h hg ht;rw [hd]at h2
 rw [TY hu Cv (by simpa using hm) (ls:=(tF d).map λs=>[Value.string ⟨s.toArray⟩]) (by simpa using hm) (λfuel cs d' p pR i hi=>by
  obtain⟨s,hs,hx,_⟩:=DataW.trod_string he pR;obtain⟨rfl,rfl⟩:=Prod.mk.inj hx;simp only [List.getElem?_map,Option.map_eq_some_iff,DataW.lit.injEq,Lit.string.injEq]at hi;obtain⟨s',hi,rfl⟩:=hi;subst hs;simp [hi]) h2,hC]at h1
 exact h1
section
variable {H:Type} {enc:TypeId × Value->H} {w:World} {base:Nat} {sp:Nat->Bool} {held:Bool}
set_option maxRecDepth 100000 in
theorem O_{fuel:Nat}{cs:List Value}{x:DataW H × List MemPlace}(h:DataW.trod enc Tryz.prog w base sp held fuel 46 cs=some x) :
    ∃a b c d e:Int,cs=[.int .i64 a,.int .i64 b,.int .i64 c,.int .i64 d,.int .i64 e]/\x.1=.agg [.lit (.int .i64 a),.lit (.int .i64 b),.lit (.int .i64 c),.lit (.int .i64 d),.lit (.int .i64 e)]:=by
  obtain⟨xs,n,_,hx,hl,hlen,hf⟩:=DataW.trod_struct Tryz.underlying46 h;have e1:Tryz.prog.cellsOf 3=1:=by kernel_rfl
  have e3:Tryz.prog.cellsOf 46=5:=by kernel_rfl
  rw [e3]at hl
  match xs,hlen with
  | [y0,y1,y2,y3,y4],_ =>
    match cs,hl with
    | [c0,c1,c2,c3,c4],_ =>
      have g0:=hf 0 _ rfl;have g1:=hf 1 _ rfl;have g2:=hf 2 _ rfl;have g3:=hf 3 _ rfl;have g4:=hf 4 _ rfl;simp [e1]at g0 g1 g2 g3 g4;obtain⟨a0,q0,z0,_⟩:=DataW.trod_int Tryz.underlying3 g0;obtain⟨a1,q1,z1,_⟩:=DataW.trod_int Tryz.underlying3 g1;obtain⟨a2,q2,z2,_⟩:=DataW.trod_int Tryz.underlying3 g2;obtain⟨a3,q3,z3,_⟩:=DataW.trod_int Tryz.underlying3 g3;obtain⟨a4,q4,z4,_⟩:=DataW.trod_int Tryz.underlying3 g4;simp at q0 q1 q2 q3 q4;subst q0 q1 q2 q3 q4 z0 z1 z2 z3 z4;exact⟨a0,a1,a2,a3,a4,rfl,by rw [hx];rfl⟩
set_option maxRecDepth 100000 in
theorem Y0{fuel:Nat}{cs:List Value}{x:DataW H × List MemPlace}(h:DataW.trod enc Tryz.prog w base sp held fuel 48 cs=some x) :
    ∃(s:ByteArray) (a b c d e:Int),cs=[.string s,.int .i64 a,.int .i64 b,.int .i64 c,.int .i64 d,.int .i64 e]/\x.1=.agg [.lit (.string s.data.toList),.agg [.lit (.int .i64 a),.lit (.int .i64 b),.lit (.int .i64 c),.lit (.int .i64 d),.lit (.int .i64 e)]]:=by
  obtain⟨xs,n,_,hx,hl,hlen,hf⟩:=DataW.trod_struct Tryz.underlying48 h;have e1:Tryz.prog.cellsOf 9=1:=by kernel_rfl
  have e2:Tryz.prog.cellsOf 46=5:=by kernel_rfl
  have e3:Tryz.prog.cellsOf 48=6:=by kernel_rfl
  rw [e3]at hl
  match xs,hlen with
  | [y0,y1],_ =>
    match cs,hl with
    | [c0,c1,c2,c3,c4,c5],_ =>
      have g0:=hf 0 _ rfl;have g1:=hf 1 _ rfl;simp [e1,e2]at g0 g1;obtain⟨s,q0,z0,_⟩:=DataW.trod_string Tryz.underlying9 g0;obtain⟨a0,a1,a2,a3,a4,q1,z1⟩:=O_ g1;simp at q0 q1;obtain⟨rfl,rfl,rfl,rfl,rfl⟩:=q1;subst q0;exact⟨s,a0,a1,a2,a3,a4,rfl,by rw [hx];simp [z0,z1]⟩
end
def na:DataW Unit->List Value
 | .agg [.lit (.string s),.agg [.lit (.int .i64 a),.lit (.int .i64 b),.lit (.int .i64 c),.lit (.int .i64 d),.lit (.int .i64 e)]]=>[.string ⟨s.toArray⟩,.int .i64 a,.int .i64 b,.int .i64 c,.int .i64 d,.int .i64 e]
 |_=>[]
theorem O'{w:World}{n:String}{d:DataW Unit}(h:Lib.VarReads Tryz.prog w n d)(hd:d=.agg (yS d)){g:Nat}(hg:Tryz.prog.globalNamed n=some g){t:TypeId}{m:Nat}(ht:(Tryz.prog.globals[g]?).map (·.type)=some t)
  (hu:Tryz.prog.underlying t=some (.array m 48)) (Cv:Tryz.prog.cellsOf t=m*Tryz.prog.cellsOf 48) (hm:(yS d).length=m) {C:Array Value} (hC:(((yS d).map na).flatten).toArray=C):∃ty mk,w.heap[g]? = some (.cells C ty mk):=by
 obtain⟨cs,fuel,p,h1,h2⟩:=O8 h hg ht;rw [hd]at h2
 rw [TY hu Cv hm (ls:=(yS d).map na) (by simpa using hm) (λfuel cs d' p pR i hi=>by
  obtain⟨s,a,b,c,d2,e,hs,hx⟩:=Y0 pR;simp only at hx;subst hs hx;simp [hi,na]) h2,hC]at h1
 exact h1
set_option maxRecDepth 100000 in
theorem Pb{W:World}(hr:∀n d,(n,d)∈Rows.vehiclePartsRow.laid->Lib.VarReads Tryz.prog W n d):nu W where
 g0:=O' (t:=79) (hr _ _ (List.mem_of_getElem? (i:=7) rfl)) (by kernel_rfl) (by kernel_rfl) (by kernel_rfl) (m:=14) (by kernel_rfl) (by kernel_rfl) (by kernel_rfl) (by kernel_rfl)
 g3:=O9 (t:=119) (hr _ _ (List.mem_of_getElem? (i:=6) rfl)) (by kernel_rfl) (by kernel_rfl) (by kernel_rfl) (m:=13) (e:=9) (by kernel_rfl) (by kernel_rfl) (by kernel_rfl) (by kernel_rfl) (by kernel_rfl)
 g4:=uU (t:=104) (k := .i64) (e:=3) (m:=3) (hr _ _ (List.mem_of_getElem? (i:=8) rfl)) (by kernel_rfl) (by kernel_rfl) (by kernel_rfl) (by kernel_rfl) (by kernel_rfl) (by kernel_rfl) (by kernel_rfl) (by kernel_rfl)
 g5:=uU (t:=104) (k := .i64) (e:=3) (m:=3) (hr _ _ (List.mem_of_getElem? (i:=9) rfl)) (by kernel_rfl) (by kernel_rfl) (by kernel_rfl) (by kernel_rfl) (by kernel_rfl) (by kernel_rfl) (by kernel_rfl) (by kernel_rfl)
 g6:=uU (t:=104) (k := .i64) (e:=3) (m:=3) (hr _ _ (List.mem_of_getElem? (i:=10) rfl)) (by kernel_rfl) (by kernel_rfl) (by kernel_rfl) (by kernel_rfl) (by kernel_rfl) (by kernel_rfl) (by kernel_rfl) (by kernel_rfl)
 g7:=uU (t:=104) (k := .i64) (e:=3) (m:=3) (hr _ _ (List.mem_of_getElem? (i:=11) rfl)) (by kernel_rfl) (by kernel_rfl) (by kernel_rfl) (by kernel_rfl) (by kernel_rfl) (by kernel_rfl) (by kernel_rfl) (by kernel_rfl)
 g8:=uU (t:=104) (k := .i64) (e:=3) (m:=3) (hr _ _ (List.mem_of_getElem? (i:=12) rfl)) (by kernel_rfl) (by kernel_rfl) (by kernel_rfl) (by kernel_rfl) (by kernel_rfl) (by kernel_rfl) (by kernel_rfl) (by kernel_rfl)
 g9:=uU (t:=104) (k := .i64) (e:=3) (m:=3) (hr _ _ (List.mem_of_getElem? (i:=13) rfl)) (by kernel_rfl) (by kernel_rfl) (by kernel_rfl) (by kernel_rfl) (by kernel_rfl) (by kernel_rfl) (by kernel_rfl) (by kernel_rfl)
 g10:=uU (t:=104) (k := .i64) (e:=3) (m:=3) (hr _ _ (List.mem_of_getElem? (i:=14) rfl)) (by kernel_rfl) (by kernel_rfl) (by kernel_rfl) (by kernel_rfl) (by kernel_rfl) (by kernel_rfl) (by kernel_rfl) (by kernel_rfl)
 g11:=uU (t:=104) (k := .i64) (e:=3) (m:=3) (hr _ _ (List.mem_of_getElem? (i:=15) rfl)) (by kernel_rfl) (by kernel_rfl) (by kernel_rfl) (by kernel_rfl) (by kernel_rfl) (by kernel_rfl) (by kernel_rfl) (by kernel_rfl)
 g12:=uU (t:=104) (k := .i64) (e:=3) (m:=3) (hr _ _ (List.mem_of_getElem? (i:=16) rfl)) (by kernel_rfl) (by kernel_rfl) (by kernel_rfl) (by kernel_rfl) (by kernel_rfl) (by kernel_rfl) (by kernel_rfl) (by kernel_rfl)
 g14:=uU (t:=216) (k := .u8) (e:=5) (m:=256) (hr _ _ (List.mem_of_getElem? (i:=5) rfl)) (by kernel_rfl) (by kernel_rfl) (by kernel_rfl) (by kernel_rfl) (by kernel_rfl) (by kernel_rfl) (by kernel_rfl) (by kernel_rfl)
 g15:=uU (t:=209) (k := .u64) (e:=91) (m:=20) (hr _ _ (List.mem_of_getElem? (i:=2) rfl)) (by kernel_rfl) (by kernel_rfl) (by kernel_rfl) (by kernel_rfl) (by kernel_rfl) (by kernel_rfl) (by kernel_rfl) (by kernel_rfl)
end Go.Proofs.YtocleppbcngcjaaGreatDoor
end
section
set_option linter.unusedVariables false
set_option linter.unusedSimpArgs false
namespace Go.Proofs.YtocleppbcngcjaaGreatDoor
open Go Go.RowKit
set_option maxRecDepth 100000 in
theorem Pc{W:World}(hr:∀n d,(n,d)∈Rows.vehiclePartsRow.laid->Lib.VarReads Tryz.prog W n d):uS W where
 g:=Pb hr
 d:=uU (t:=153) (k := .u8) (e:=5) (m:=64) (hr _ _ (List.mem_of_getElem? (i:=1) rfl)) (by kernel_rfl) (by kernel_rfl) (by kernel_rfl) (by kernel_rfl) (by kernel_rfl) (by kernel_rfl) (by kernel_rfl) (by kernel_rfl)
end Go.Proofs.YtocleppbcngcjaaGreatDoor
end
section
set_option linter.unusedVariables false
set_option linter.unusedSimpArgs false
namespace Go.Proofs.YtocleppbcngcjaaGreatDoor
open Go
theorem Y1:laidOutB Tryz.pinned.checked.prog=true:=by kernel_rfl
theorem Y2:mapsRowed Tryz.pinned.checked.prog=true:=by kernel_rfl
theorem Y3:(Rows.vehiclePartsRow.inPlace == Tryz.pinned.checked.prog.inPlace 3)=true:=by kernel_rfl
theorem Y4:(Rows.vehiclePartsRow.unfollowed == Tryz.pinned.checked.prog.unfollowed 3)=true:=by kernel_rfl
theorem Y5:(Rows.vehiclePartsRow.recurses == Tryz.pinned.checked.prog.recurses 3)=true:=by kernel_rfl
theorem Pd:(Rows.vehiclePartsRow.named == Tryz.pinned.checked.prog.varsNamed 3)=true:=by kernel_rfl
theorem Pe:(Tryz.pinned.checked.prog.stops == [])=true:=by kernel_rfl
theorem Pf:(Tryz.pinned.checked.prog.stopKnobs == [])=true:=by kernel_rfl
theorem Pg:Tryz.pinned.checked.prog.stopsHeard=true:=by kernel_rfl
theorem Ph:Tryz.pinned.checked.prog.mayEnter=true:=by kernel_rfl
theorem Pj:(Rows.vehiclePartsRow.lifted == Tryz.pinned.checked.prog.liftsFinal)=true:=by kernel_rfl
theorem Pk:(Tryz.pinned.checked.prog.make == some Rows.vehiclePartsRow.make)=true:=by kernel_rfl
theorem Pl:(Rows.vehiclePartsRow.plainKeys == Tryz.pinned.checked.prog.plainKeys)=true:=by kernel_rfl
end Go.Proofs.YtocleppbcngcjaaGreatDoor
end
