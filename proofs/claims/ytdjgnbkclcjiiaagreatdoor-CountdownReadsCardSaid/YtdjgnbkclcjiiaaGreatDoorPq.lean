import Derived.Test.YtdjgnbkclcjiiaaGreatDoorGx
import Derived.Test.YtdjgnbkclcjiiaaGreatDoorSf
import Derived.Test.YtdjgnbkclcjiiaaGreatDoorSe
import Derived.Test.YtdjgnbkclcjiiaaGreatDoorG0
import Derived.Test.YtdjgnbkclcjiiaaGreatDoorPn
section
set_option linter.unusedVariables false
set_option linter.unusedSimpArgs false
namespace Go.Proofs.YtdjgnbkclcjiiaaGreatDoor
open Go Go.RowKit
theorem zzr{N bk ck nk ak vb:Nat}{xs vs:List Value}{w:World}(hr:Vc.RowOk N bk ck nk ak xs 3 61 w)(hv:w.heap[vb]? = some (.cells vs.toArray 61 (0,0)))(hvl:vs.length=3)(hxl:xs.length=3)(hne:vs≠xs)
  (h1x:∀ v∈xs,v.oneCell'=true) (h1v:∀ v∈vs,v.oneCell'=true) :
  Calls Tryz.prog 154 #[Vc.ownV bk ck nk ak,.int .i64 0,.slice (some ⟨vb,0,none⟩) 1 1] w (Vc.Give bk ck (vs++xs) 3 61 w):=by
 obtain⟨e1,_,h⟩:=Vc.RowOkP.old hr (by omega);rw [hxl]at e1;obtain rfl:nk=1:=by omega
 rcases h with ⟨_,h⟩ | ⟨hc2,rfl,hN,hn,hm,cur,hcur,hcs,hct⟩
 ·omega
 have hxs:cur.toList.take 3=xs:=hct
 have hvb:vb≠bk:=fun e=>by
  subst e;rw [hv]at hcur;injection hcur with hcur;injection hcur with hcur;subst hcur
  have:vs.take 3=xs:=hxs
  rw [← hvl,List.take_length]at this;exact hne this
 obtain⟨c,rfl⟩:∃ c,ck=c + 1:=⟨ck - 1,by omega⟩;have hov:Vc.ownV bk (c + 1) 1 0=.slice (some ⟨bk,0,none⟩) 1 c:=by unfold Vc.ownV;rw [if_neg (by omega)];rfl
 rw [hov];rw [Nat.add_sub_cancel]at hm hcs hn;by_cases hc:2≤c
 ·refine (zmq bk c vb cur xs vs w hc hm hcur hcs hxs hv hvl hvb h1x h1v).mono ?_;rintro e w' ⟨rfl,rfl⟩;have hl:(vs++xs++cur.toList.drop 6).length=c * 3:=by simp [hvl,hxl,hcs];omega
  refine⟨bk,c + 1,2,0, ?_,.inl ⟨by simp [hvl,hxl],by omega,.inr ⟨by omega,rfl,trivial,by omega,by omega,(vs++xs++cur.toList.drop 6).toArray, ?_, ?_, ?_⟩⟩,⟨rfl,rfl,rfl, ?_⟩,fun x hx h => ?_,fun _=>.inr ⟨by omega,rfl⟩⟩
  ·unfold Vc.ownV;rw [if_neg (by omega)];rfl
  ·exact setRow_heap w.drew bk cur _ _ _ hcur
  ·simpa using hl
  ·show (vs++xs++cur.toList.drop 6).take 6=_;rw [List.take_append_of_le_length (by simp [hvl,hxl]),List.take_of_length_le (by simp [hvl,hxl])]
  ·simp [World.setRow]
  ·exact setRow_other w.drew bk x _ (h (by omega))
 ·obtain rfl:c=1:=by omega
  have hxs2:cur.toList=xs:=by rw [← hxs,List.take_of_length_le (by rw [Array.length_toList,hcs];omega)]
  refine (zyr bk vb cur xs vs w hcur (by simpa using hcs) hxs2 hv hvl h1x h1v).mono ?_;rintro e w' ⟨G,cur',g1,g2,g3,g4,rfl,g5,g6,g7,g8,g9,g10⟩;refine⟨w.heap.size,G + 1,2,0, ?_,.inl ⟨by simp [hvl,hxl],by omega,.inr ⟨by omega,rfl,trivial,by omega,by omega,cur'.toArray,g5,by simpa using g3,g4⟩⟩,⟨g6,g7,g8,by omega⟩,fun x hx _=>g10 x hx,fun _=>.inl (Nat.le_refl _)⟩;unfold Vc.ownV;rw [if_neg (by omega)];rfl
theorem zvw(w:World)(h0:Vg_0 w)(h1:Vg_1 w)(h2:Vg_2 w)(h3:Vg_3 w):Calls Tryz.prog 16 #[] w (Vc.Ret (.bool true) w):=by
 refine zkg w _ ?_
 have give:∀ (β:Nat→Nat) (w':World) (a b c d e:Nat),w'.heap[a]? = some (.cells #[.string ⟨(([119,105,110,100]:List UInt8)).toArray⟩,.int .i64 0,.int .i64 10] 61)→Vc.RowOk w.heap.size b c d e (([.string ⟨(([119,105,110,100]:List UInt8)).toArray⟩,.int .i64 6,.int .i64 20]:List Value)) 3 61 w' →
   Calls Tryz.prog 154 #[Vc.ownV b c d e,.int .i64 0,.slice (some ⟨a,0,none⟩) 1 1] w' (Vc.Give b c (([.string ⟨(([119,105,110,100]:List UInt8)).toArray⟩,.int .i64 0,.int .i64 10,.string ⟨(([119,105,110,100]:List UInt8)).toArray⟩,.int .i64 6,.int .i64 20]:List Value)) 3 61 w'):=fun β w' a b c d e ha hr =>
  zzr (vs := [.string ⟨(([119,105,110,100]:List UInt8)).toArray⟩,.int .i64 0,.int .i64 10]) hr ha rfl rfl (by simp) (by simp [Value.oneCell']) (by simp [Value.oneCell'])
 repeat first
  | exact rfl
  | refine⟨h0, ?_⟩
  | refine⟨h1, ?_⟩
  | refine⟨h2, ?_⟩
  | refine⟨h3, ?_⟩
  | refine⟨fun β w' hb hm=>give β w' _ _ _ _ _ hm.1.2 hm.2.1, ?_⟩
  | intro _ _
end Go.Proofs.YtdjgnbkclcjiiaaGreatDoor
end
section
set_option linter.unusedVariables false
set_option linter.unusedSimpArgs false
namespace Go.Proofs.YtdjgnbkclcjiiaaGreatDoor
open Go Go.RowKit Vc
def VG(w:World):Prop:=Vg_0 w∧Vg_1 w∧Vg_2 w∧Vg_3 w
theorem VG.below{w w':World}(hb:Below w.heap.size w w')(h:VG w):VG w':=by
 have k:∀ {g:Nat} {cs:Array Value},(∃ ty mk,w.heap[g]? = some (.cells cs ty mk))→∃ ty mk,w'.heap[g]? = some (.cells cs ty mk):=fun⟨ty,mk,hg⟩=>⟨ty,mk,by rw [hb.block _ (Array.getElem?_eq_some_iff.1 hg).1];exact hg⟩;exact⟨k h.1,k h.2.1,k h.2.2.1,k h.2.2.2⟩
end Go.Proofs.YtdjgnbkclcjiiaaGreatDoor
end
section
set_option linter.unusedVariables false
set_option linter.unusedSimpArgs false
set_option maxRecDepth 100000
namespace Go.Proofs.YtdjgnbkclcjiiaaGreatDoor
open Go Go.RowKit Go.Proofs Wk
open Vc (SlAt OV iteI Vl zfb zh zyn)
attribute [local irreducible] Go.Calls
theorem vgk{w w':World}{g:Nat}{cs:Array Value}(hb:Below w.heap.size w w')(h:∃ ty mk,w.heap[g]? = some (.cells cs ty mk)):∃ ty mk,w'.heap[g]? = some (.cells cs ty mk):=by
 obtain⟨ty,mk,hg⟩:=h;exact⟨ty,mk,by rw [hb.block _ (Array.getElem?_eq_some_iff.1 hg).1];exact hg⟩
end Go.Proofs.YtdjgnbkclcjiiaaGreatDoor
end
section
set_option linter.unusedVariables false
set_option linter.unusedSimpArgs false
set_option maxRecDepth 100000
namespace Go.Proofs.YtdjgnbkclcjiiaaGreatDoor
open Go Go.RowKit Go.Proofs Wk
open Vc (SlAt OV iteI Vl zfb zh zyn)
attribute [local irreducible] Go.Calls
theorem zww:∀ {l l':List Rl},erL l=erL l'→∀ i (h:i < l.length) (h':i < l'.length),erR l[i]=erR l'[i]
  | [],_,_,i,h,_=>absurd h (by simp)
  | a::l,[],he,i,h,h'=>absurd h' (by simp)
  | a::l,b::l',he,i,h,h'=>by
    simp only [erL,List.cons.injEq]at he;cases i with
    | zero=>exact he.1
    | succ i=>exact zww he.2 i (by simpa using h) (by simpa using h')
theorem zxw{a b:Rl}(h:erR a=erR b):a.op=b.op∧a.ask=b.ask∧a.nm=b.nm∧a.wi=b.wi∧a.cm=b.cm∧a.n=b.n∧a.ks.length=b.ks.length∧erL a.ks=erL b.ks:=by
 cases a;cases b;simp only [erR,Rl.mk.injEq]at h;obtain⟨h1,h2,h3,h4,h5,h6,_,h8⟩:=h;refine⟨h1,h2,h3,h4,h5,h6, ?_,h8⟩
 have:=congrArg List.length h8
 rwa [zdj,zdj]at this
theorem znda:∀ (m:Nat) {w:World} {a b:Rl},nodesR a≤m→RlAt w a→RlAt w b→RlSz a→erR a=erR b→Calls Tryz.prog 27 #[RV7 a,RV7 b] w (Vc.Ret (.bool true) w):=by
 intro m
 induction m with
 | zero=>intro w a b hm;have:=zci a;omega
 | succ m ih =>
 intro w a b hm ha hb hsz he;have hsz:=zfw hsz;rw [zet]at hm;obtain⟨e1,e2,e3,e4,e5,e6,e7,e8⟩:=zxw he;have hka:=zwd ha;obtain⟨b0,p0,c0,x0,f0,g0⟩:=zkc hka.1;have hno0:=zhq f0;have hkb:=zwd hb;obtain⟨b1,p1,c1,x1,f1,g1⟩:=zkc hkb.1;have hno1:=zhq f1;unfold RV7;rw [x0,x1];refine zfh p0 p1 a.op a.ask a.wi a.cm a.n (a.ks.length:Nat) c0 b.op b.ask b.wi b.cm b.n (b.ks.length:Nat) c1 b0 b1 a.nm b.nm w _ ?_;refine iteI (fun _=>iteI (fun _=>iteI (fun _=>iteI (fun _=>iteI (fun _=>iteI (fun _=>⟨by omega,hno0,by omega,hno1,iteI (fun _ => ?_) (fun h=>absurd (by rw [e7]) h)⟩) (fun h=>absurd e6 h)) (fun h=>absurd e5 h)) (fun h=>absurd e4 h)) (fun h=>absurd e3 h)) (fun h=>absurd e2 h)) (fun h=>absurd e1 h);refine⟨fun L=>∃ (bb:Bool) (i:Nat),L=[.b bb,.i i]∧i≤a.ks.length,msN a.ks.length,⟨false,0,rfl,Nat.zero_le _⟩, ?_⟩;rintro bb x14 ⟨bb',i,hy,hi⟩;simp only [List.cons.injEq,Vl.i.injEq,Vl.b.injEq,and_true]at hy;obtain⟨rfl,rfl⟩:=hy;refine⟨by omega,hno0,iteI (fun hlt => ?_) (fun _=>rfl)⟩;have hia:i < a.ks.length:=by omega
 have hib:i < b.ks.length:=by omega
 have hn0:¬ b0=true:=fun hb=>by have:=f0 hb;omega
 have hn1:¬ b1=true:=fun hb=>by have:=f1 hb;omega
 have hke:=zww e8 i hia hib;have hk0:a.ks[i]? = some a.ks[i]:=List.getElem?_eq_getElem hia;have hm0:a.ks[i]∈a.ks:=List.getElem_mem hia;have hk1:b.ks[i]? = some b.ks[i]:=List.getElem?_eq_getElem hib;have hm1:b.ks[i]∈b.ks:=List.getElem_mem hib;generalize a.ks[i]=k0 at hk0 hm0 hke;generalize b.ks[i]=k1 at hk1 hm1 hke;have hat0:=zpf hka.2 k0 hm0;have hat1:=zpf hkb.2 k1 hm1;have hsz':=zsl hsz.2.2 k0 hm0;have hsub:=zgi hm0;obtain⟨q0,q1,q2,q3,q4,q5,q6⟩:=g0 i k0 hk0;obtain⟨r0,r1,r2,r3,r4,r5,r6⟩:=g1 i k1 hk1;obtain⟨b8,p8,c8,x8,f8,_⟩:=zkc (zwd hat0).1;obtain⟨b9,p9,c9,x9,f9,_⟩:=zkc (zwd hat1).1;rw [x8]at q6;rw [x9]at r6;simp only [Int.toNat_natCast]at q6 r6 ⊢;refine⟨hn0,by omega,hlt,k0.op,q0,k0.ask,q1,k0.nm,q2,k0.wi,q3,k0.cm,q4,k0.n,q5,b8,p8,(k0.ks.length:Nat),c8,q6,hn1,by omega,by omega,k1.op,r0,k1.ask,r1,k1.nm,r2,k1.wi,r3,k1.cm,r4,k1.n,r5,b9,p9,(k1.ks.length:Nat),c9,r6, ?_⟩;refine⟨true,fun w' hb=>by have h:=ih (w:=w') (a:=k0) (b:=k1) (by omega) (hat0.below hb) (hat1.below hb) hsz' hke;unfold RV7 at h;rw [x8,x9]at h;exact h,iteI (fun _ => ?_) (fun h=>absurd rfl h)⟩;rintro x29 rfl;rw [zh (by omega)];exact⟨⟨bb,i + 1,rfl,by omega⟩,by simp only [msN];omega⟩
mutual
theorem zst:∀ (r:Rl),rightR r=true→RlSz r
  | .mk op ask nm wi cm n v ks=>fun h=>by
    rw [rightR]at h;simp only [RlSz];by_cases ho:op=1
    · rw [if_pos ho]at h;obtain⟨_,h2,_,_,_,_,h7⟩:=zwj.1 h;have h3:=zmt h2;have h0:ks=[]:=List.eq_nil_of_length_eq_zero h7;subst h0;exact⟨by omega,by simp,trivial⟩
    · rw [if_neg ho]at h;simp only [Bool.and_eq_true]at h;obtain⟨⟨hb,hk⟩,hl⟩:=h;obtain⟨_,rfl,_⟩:=zxj.1 hb
      have hkl:ks.length≤2:=by
        simp only [kidsB,Bool.or_eq_true,Bool.and_eq_true,decide_eq_true_eq]at hk;rcases hk with ⟨_,hk⟩ | ⟨_,hk⟩ <;> omega
      exact⟨by simp,by omega,zuq ks hl⟩
theorem zuq:∀ (l:List Rl),rightL l=true→RlSzL l
  | [],_=>trivial
  | r::l,h=>by
    rw [rightL,Bool.and_eq_true]at h;exact⟨zst r h.1,zuq l h.2⟩
end
theorem zsy(s:List UInt8):RlSz (parseS s).1:=by
  have hz:RlSz zR:=⟨by simp,by simp,trivial⟩;have hin:=(p_in s (4 * s.length + 3)).2.2.2.1 0 (Nat.zero_le _);unfold parseS;split
  · exact hz
  · cases hr:pOr s (4 * s.length + 3) 0 with
    | ok r k =>
      rw [hr]at hin;dsimp only;split
      · exact hz
      · split
        · exact zst r hin.2.2
        · exact hz
    | err a e=>exact hz
    | out=>exact hz
set_option maxHeartbeats 4000000 in
theorem zmi{w:World}(sb:ByteArray)(hV:VG w):Calls Tryz.prog 5 #[.string sb] w (Vc.Ret (.bool true) w):=by
 obtain⟨s,rfl⟩:∃ s:List UInt8,sb=⟨s.toArray⟩:=⟨sb.data.toList,by cases sb;simp⟩;have haw:∀ w',Below w.heap.size w w'→Calls Tryz.prog 16 #[] w' (Vc.Ret (.bool true) w'):=fun w' hb=>zvw w' (hV.below hb).1 (hV.below hb).2.1 (hV.below hb).2.2.1 (hV.below hb).2.2.2;have K:=Kn.start w;by_cases hlen:2200 < s.length
 ·go_enter Tryz.func5,Tryz.ntmps5
  go_wp2_with (go_at_call 16;refine via (by repeat (first | exact K | apply Kn.push | apply Kn.drew)) (haw _ (by have B:=K.below;go_grown)) ?_;clear K;(try clear hO);intro wN K hO;simp only [Opened,World.size_alloc,World.size_drew,World.size_setCell]at hO)
  (refine bodyPost_ret (by simp [results,Tryz.results5,go_sem,hO];try rfl) rfl ⟨?_,by have B:=K.below;go_grown⟩)
  try rfl
 have A:∀ w',Below w.heap.size w w'→Calls Tryz.prog 26 #[.string ⟨s.toArray⟩] w' (PrP (parseS s) w'):=fun w' hb=>zgca (by omega) (vgk hb hV.1) (vgk hb hV.2.1) (vgk hb hV.2.2.1);have B':∀ w',Calls Tryz.prog 28 #[.string ⟨s.toArray⟩] w' (PrP (parseS s) w'):=fun w'=>zdca (by omega);have hsz:=zsy s;clear hV;generalize parseS s=z at A B' hsz
 go_enter Tryz.func5,Tryz.ntmps5
 go_upto_region 3 with fail
 have hO:=Kn.opened_of K.all;simp only [Opened,World.size_alloc,World.size_drew,World.size_setCell]at hO
 go_cut [3,4,5] (fun s3 s4 s5 wx=>∃ (b3:Nat) (R:Rl) (xa:Option Addr) (xl xc:Nat),s3=.pointer (some ⟨b3,0,none⟩)∧s4=.int .i64 (z.2.1:Nat)∧s5=.int .i64 z.2.2∧w.heap.size≤b3∧R.v=.slice xa xl xc∧erR R=z.1∧Rw (fun k=>w.heap.size≤k∧k≠b3) wx R∧Kn w wx [(b3,#[.int .i64 R.op,.int .i64 R.ask,.string ⟨R.nm.toArray⟩,.int .i64 R.wi,.int .i64 R.cm,.int .i64 R.n,.slice xa xl xc],30)])
 case first =>
  go_wp2_with (go_at_call 26;refine via2 (by repeat (first | exact K | apply Kn.push | apply Kn.skip | apply Kn.drew)) (A _ (by have B:=K.below;go_grown)) ?_;have hs0:=K.below.size;clear K hO;rintro _ wN ⟨R,xa,xl,xc,rfl,hv,hR,he⟩ K hO;simp only [Opened,World.size_alloc,World.size_drew,World.size_setCell]at hO)
  have hge:=K.below.size
  go_meet
  refine⟨_,R,xa,xl,xc,rfl,rfl,rfl,hge,hv,he, ?_, ?_⟩
  ·refine (hR.mono (S':=fun k=>w.heap.size≤k∧k≠wN.heap.size) (fun k hk h=>⟨h,by omega⟩)).next (by simp only [World.size_alloc,World.size_setCell];omega) (fun k h1 h2 => ?_);simp only [heap_alloc,zc,World.size_alloc,World.size_setCell]
   repeat rw [if_neg (by omega)]
  ·exact (Kn.of (w0:=w) (by have B:=K.below;go_grown) (by simp only [Held,heap_alloc,zc,ze,World.size_alloc,World.size_drew,World.size_setCell,IntWalk.iteOmega,Wk.setObj,hO,Option.map_some,↓reduceIte,if_true,if_false,List.setIfInBounds_toArray,List.set_cons_zero,List.set_cons_succ,and_self,and_true] <;> (try trivial)))
 case rest =>
 obtain⟨b3,R,xa,xl,xc,rfl,rfl,rfl,hb3,hv,he,hR,K⟩:=hcut;clear A;have hO:=Kn.opened_of K.all;simp only [Opened,World.size_alloc,World.size_drew,World.size_setCell]at hO
 go_upto_region 4 with fail
 have hlt3:=zr (K.all _ (List.mem_cons_self ..))
 go_cut [6,7,8] (fun s6 s7 s8 wx=>∃ (b6:Nat) (R2:Rl) (ya:Option Addr) (yl yc:Nat),s6=.pointer (some ⟨b6,0,none⟩)∧s7=.int .i64 (z.2.1:Nat)∧s8=.int .i64 z.2.2∧R2.v=.slice ya yl yc∧erR R2=z.1∧RlAt wx R∧RlAt wx R2∧Kn w wx [(b6,#[.int .i64 R2.op,.int .i64 R2.ask,.string ⟨R2.nm.toArray⟩,.int .i64 R2.wi,.int .i64 R2.cm,.int .i64 R2.n,.slice ya yl yc],30),(b3,#[.int .i64 R.op,.int .i64 R.ask,.string ⟨R.nm.toArray⟩,.int .i64 R.wi,.int .i64 R.cm,.int .i64 R.n,.slice xa xl xc],30)])
 case first =>
  have hRh:=Hd.mk hR;clear hR
  go_wp2_with (go_at_call 28;refine via3 K (B' _) ?_;clear K hO;rintro _ wN ⟨R2,ya,yl,yc,rfl,hv2,hR2,he2⟩ hB K hO;simp only [Opened,World.size_alloc,World.size_drew,World.size_setCell]at hO)
  have hz:=hB.size
  go_meet
  refine⟨_,R2,ya,yl,yc,rfl,rfl,rfl,hv2,he2, ?_, ?_, ?_⟩
  ·refine Rw.at_ ((hRh.out.next hB.size (fun k _ hk=>hB.block k hk)).next ?_ (fun k h1 h2 => ?_))
   ·simp only [World.size_alloc,World.size_setCell];omega
   ·simp only [heap_alloc,zc,World.size_alloc,World.size_setCell]
    repeat rw [if_neg (by omega)]
  ·refine Rw.at_ (hR2.next ?_ (fun k h1 h2 => ?_))
   ·simp only [World.size_alloc,World.size_setCell];omega
   ·simp only [heap_alloc,zc,World.size_alloc,World.size_setCell]
    repeat rw [if_neg (by omega)]
  ·exact (Kn.of (w0:=w) (by have B:=K.below;go_grown) (by simp only [Held,heap_alloc,zc,ze,World.size_alloc,World.size_drew,World.size_setCell,IntWalk.iteOmega,Wk.setObj,hO,Option.map_some,↓reduceIte,if_true,if_false,List.setIfInBounds_toArray,List.set_cons_zero,List.set_cons_succ,and_self,and_true] <;> (try trivial)))
 case rest =>
 obtain⟨b6,R2,ya,yl,yc,rfl,rfl,rfl,hv2,he2,hat,hat2,K⟩:=hcut;clear B'
 have SM:∀ w',Below wc.heap.size wc w'→Calls Tryz.prog 27 #[.agg #[.int .i64 R.op,.int .i64 R.ask,.string ⟨R.nm.toArray⟩,.int .i64 R.wi,.int .i64 R.cm,.int .i64 R.n,.slice xa xl xc],.agg #[.int .i64 R2.op,.int .i64 R2.ask,.string ⟨R2.nm.toArray⟩,.int .i64 R2.wi,.int .i64 R2.cm,.int .i64 R2.n,.slice ya yl yc]] w' (Vc.Ret (.bool true) w'):=fun w' hb=>by
  have h:=znda _ (Nat.le_refl _) (hat.below hb) (hat2.below hb) (zqw R (by rw [he];exact hsz)) (by rw [he,he2]);unfold RV7 at h;rw [hv,hv2]at h;exact h
 have hSM:=SM wc (Below.refl _ _);have hSMh:=Hd.mk hSM;have hath:=Hd.mk haw;clear SM hSM hat hat2 hR haw hsz;have hO:=Kn.opened_of K.all;simp only [Opened,World.size_alloc,World.size_drew,World.size_setCell]at hO
 go_wp2_with (first | (go_at_call 27;refine via (by repeat (first | exact K | apply Kn.push | apply Kn.drew)) (hSMh.out) ?_;clear K;(try clear hO);intro wN K hO;simp only [Opened,World.size_alloc,World.size_drew,World.size_setCell]at hO) | (go_at_call 16;refine via (by repeat (first | exact K | apply Kn.push | apply Kn.drew)) (hath.out _ (by have B:=K.below;go_grown)) ?_;clear K;(try clear hO);intro wN K hO;simp only [Opened,World.size_alloc,World.size_drew,World.size_setCell]at hO))
 (refine bodyPost_ret (by simp [results,Tryz.results5,go_sem,hO];try rfl) rfl ⟨?_,by have B:=K.below;go_grown⟩)
 try rfl
end Go.Proofs.YtdjgnbkclcjiiaaGreatDoor
end
