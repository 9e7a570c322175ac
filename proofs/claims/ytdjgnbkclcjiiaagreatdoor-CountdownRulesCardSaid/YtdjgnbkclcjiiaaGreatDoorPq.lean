import Derived.Test.YtdjgnbkclcjiiaaGreatDoorGx
import Derived.Test.YtdjgnbkclcjiiaaGreatDoorPj
import Derived.Test.YtdjgnbkclcjiiaaGreatDoorG0
import Derived.Test.YtdjgnbkclcjiiaaGreatDoorPm
import Derived.Test.YtdjgnbkclcjiiaaGreatDoorPs
section
set_option linter.unusedVariables false
set_option linter.unusedSimpArgs false
namespace Go.Proofs.YtdjgnbkclcjiiaaGreatDoor
open Go Go.RowKit
theorem zvs{N bk ck nk ak vb:Nat}{xs vs:List Value}{w:World}(hr:Vc.RowOk N bk ck nk ak xs 3 61 w)(hv:w.heap[vb]? = some (.cells vs.toArray 61 (0,0)))(hvl:vs.length=3)(hxl:xs.length=3)(hne:vs≠xs)
  (h1x:∀ v∈xs,v.oneCell'=true) (h1v:∀ v∈vs,v.oneCell'=true) :
  Calls Tryz.prog 154 #[Vc.ownV bk ck nk ak,.int .i64 0,.slice (some ⟨vb,0,none⟩) 1 1] w (Vc.Give bk ck (vs++xs) 3 61 w):=by
 obtain⟨e1,_,h⟩:=Vc.RowOkP.old hr (by omega);rw [hxl]at e1;obtain rfl:nk=1:=by omega
 rcases h with ⟨_,h⟩ | ⟨hc2,rfl,hN,hn,hm,cur,hcur,hcs,hct⟩
 ·omega
 have hxs:cur.toList.take 3=xs:=hct
 have hvb:vb≠bk:=fun e=>by
  subst e;rw [hv]at hcur;injection hcur with hcur;injection hcur with hcur;subst hcur
  have:vs.take 3=xs:=hxs
  rw [← hvl,List.take_length]at this;exact hne this
 obtain⟨c,rfl⟩:∃ c,ck=c + 1:=⟨ck - 1,by omega⟩;have hov:Vc.ownV bk (c + 1) 1 0=.slice (some ⟨bk,0,none⟩) 1 c:=by unfold Vc.ownV;rw [if_neg (by omega)];rfl
 rw [hov];rw [Nat.add_sub_cancel]at hm hcs hn;by_cases hc:2≤c
 ·refine (zgr bk c vb cur xs vs w hc hm hcur hcs hxs hv hvl hvb h1x h1v).mono ?_;rintro e w' ⟨rfl,rfl⟩;have hl:(vs++xs++cur.toList.drop 6).length=c * 3:=by simp [hvl,hxl,hcs];omega
  refine⟨bk,c + 1,2,0, ?_,.inl ⟨by simp [hvl,hxl],by omega,.inr ⟨by omega,rfl,trivial,by omega,by omega,(vs++xs++cur.toList.drop 6).toArray, ?_, ?_, ?_⟩⟩,⟨rfl,rfl,rfl, ?_⟩,fun x hx h => ?_,fun _=>.inr ⟨by omega,rfl⟩⟩
  ·unfold Vc.ownV;rw [if_neg (by omega)];rfl
  ·exact setRow_heap w.drew bk cur _ _ _ hcur
  ·simpa using hl
  ·show (vs++xs++cur.toList.drop 6).take 6=_;rw [List.take_append_of_le_length (by simp [hvl,hxl]),List.take_of_length_le (by simp [hvl,hxl])]
  ·simp [World.setRow]
  ·exact setRow_other w.drew bk x _ (h (by omega))
 ·obtain rfl:c=1:=by omega
  have hxs2:cur.toList=xs:=by rw [← hxs,List.take_of_length_le (by rw [Array.length_toList,hcs];omega)]
  refine (zss bk vb cur xs vs w hcur (by simpa using hcs) hxs2 hv hvl h1x h1v).mono ?_;rintro e w' ⟨G,cur',g1,g2,g3,g4,rfl,g5,g6,g7,g8,g9,g10⟩;refine⟨w.heap.size,G + 1,2,0, ?_,.inl ⟨by simp [hvl,hxl],by omega,.inr ⟨by omega,rfl,trivial,by omega,by omega,cur'.toArray,g5,by simpa using g3,g4⟩⟩,⟨g6,g7,g8,by omega⟩,fun x hx _=>g10 x hx,fun _=>.inl (Nat.le_refl _)⟩;unfold Vc.ownV;rw [if_neg (by omega)];rfl
theorem zux(w:World)(h0:Vg_0 w)(h1:Vg_1 w)(h2:Vg_2 w)(h3:Vg_3 w):Calls Tryz.prog 16 #[] w (Vc.Ret (.bool true) w):=by
 refine zbh w _ ?_
 have give:∀ (β:Nat→Nat) (w':World) (a b c d e:Nat),w'.heap[a]? = some (.cells #[.string ⟨(([119,105,110,100]:List UInt8)).toArray⟩,.int .i64 0,.int .i64 10] 61)→Vc.RowOk w.heap.size b c d e (([.string ⟨(([119,105,110,100]:List UInt8)).toArray⟩,.int .i64 6,.int .i64 20]:List Value)) 3 61 w' →
   Calls Tryz.prog 154 #[Vc.ownV b c d e,.int .i64 0,.slice (some ⟨a,0,none⟩) 1 1] w' (Vc.Give b c (([.string ⟨(([119,105,110,100]:List UInt8)).toArray⟩,.int .i64 0,.int .i64 10,.string ⟨(([119,105,110,100]:List UInt8)).toArray⟩,.int .i64 6,.int .i64 20]:List Value)) 3 61 w'):=fun β w' a b c d e ha hr =>
  zvs (vs := [.string ⟨(([119,105,110,100]:List UInt8)).toArray⟩,.int .i64 0,.int .i64 10]) hr ha rfl rfl (by simp) (by simp [Value.oneCell']) (by simp [Value.oneCell'])
 repeat first
  | exact rfl
  | refine⟨h0, ?_⟩
  | refine⟨h1, ?_⟩
  | refine⟨h2, ?_⟩
  | refine⟨h3, ?_⟩
  | refine⟨fun β w' hb hm=>give β w' _ _ _ _ _ hm.1.2 hm.2.1, ?_⟩
  | intro _ _
end Go.Proofs.YtdjgnbkclcjiiaaGreatDoor
end
section
set_option linter.unusedVariables false
set_option linter.unusedSimpArgs false
namespace Go.Proofs.YtdjgnbkclcjiiaaGreatDoor
open Go Go.RowKit Vc
def VG(w:World):Prop:=Vg_0 w∧Vg_1 w∧Vg_2 w∧Vg_3 w
theorem VG.below{w w':World}(hb:Below w.heap.size w w')(h:VG w):VG w':=by
 have k:∀ {g:Nat} {cs:Array Value},(∃ ty mk,w.heap[g]? = some (.cells cs ty mk))→∃ ty mk,w'.heap[g]? = some (.cells cs ty mk):=fun⟨ty,mk,hg⟩=>⟨ty,mk,by rw [hb.block _ (Array.getElem?_eq_some_iff.1 hg).1];exact hg⟩;exact⟨k h.1,k h.2.1,k h.2.2.1,k h.2.2.2⟩
end Go.Proofs.YtdjgnbkclcjiiaaGreatDoor
end
section
set_option linter.unusedVariables false
set_option linter.unusedSimpArgs false
set_option maxRecDepth 100000
namespace Go.Proofs.YtdjgnbkclcjiiaaGreatDoor
open Go Go.RowKit Go.Proofs Wk
open Vc (SlAt OV iteI Vl zwa ze zug)
attribute [local irreducible] Go.Calls
theorem vgk{w w':World}{g:Nat}{cs:Array Value}(hb:Below w.heap.size w w')(h:∃ ty mk,w.heap[g]? = some (.cells cs ty mk)):∃ ty mk,w'.heap[g]? = some (.cells cs ty mk):=by
 obtain⟨ty,mk,hg⟩:=h;exact⟨ty,mk,by rw [hb.block _ (Array.getElem?_eq_some_iff.1 hg).1];exact hg⟩
end Go.Proofs.YtdjgnbkclcjiiaaGreatDoor
end
section
set_option linter.unusedVariables false
set_option linter.unusedSimpArgs false
set_option maxRecDepth 100000
namespace Go.Proofs.YtdjgnbkclcjiiaaGreatDoor
open Go Go.RowKit Go.Proofs Wk
open Vc (SlAt OV iteI Vl zwa ze zug)
attribute [local irreducible] Go.Calls
theorem zvx:∀ {l l':List Rl},erL l=erL l'→∀ i (h:i < l.length) (h':i < l'.length),erR l[i]=erR l'[i]
  | [],_,_,i,h,_=>absurd h (by simp)
  | a::l,[],he,i,h,h'=>absurd h' (by simp)
  | a::l,b::l',he,i,h,h'=>by
    simp only [erL,List.cons.injEq]at he;cases i with
    | zero=>exact he.1
    | succ i=>exact zvx he.2 i (by simpa using h) (by simpa using h')
theorem zwx{a b:Rl}(h:erR a=erR b):a.op=b.op∧a.ask=b.ask∧a.nm=b.nm∧a.wi=b.wi∧a.cm=b.cm∧a.n=b.n∧a.ks.length=b.ks.length∧erL a.ks=erL b.ks:=by
 cases a;cases b;simp only [erR,Rl.mk.injEq]at h;obtain⟨h1,h2,h3,h4,h5,h6,_,h8⟩:=h;refine⟨h1,h2,h3,h4,h5,h6, ?_,h8⟩
 have:=congrArg List.length h8
 rwa [zek,zek]at this
theorem zkfa:∀ (m:Nat) {w:World} {a b:Rl},nodesR a≤m→RlAt w a→RlAt w b→RlSz a→erR a=erR b→Calls Tryz.prog 27 #[RV7 a,RV7 b] w (Vc.Ret (.bool true) w):=by
 intro m
 induction m with
 | zero=>intro w a b hm;have:=zcb a;omega
 | succ m ih =>
 intro w a b hm ha hb hsz he;have hsz:=zcp hsz;rw [zij]at hm;obtain⟨e1,e2,e3,e4,e5,e6,e7,e8⟩:=zwx he;have hka:=zm ha;obtain⟨b0,p0,c0,x0,f0,g0⟩:=zk hka.1;have hno0:=zbe f0;have hkb:=zm hb;obtain⟨b1,p1,c1,x1,f1,g1⟩:=zk hkb.1;have hno1:=zbe f1;unfold RV7;rw [x0,x1];refine zwh p0 p1 a.op a.ask a.wi a.cm a.n (a.ks.length:Nat) c0 b.op b.ask b.wi b.cm b.n (b.ks.length:Nat) c1 b0 b1 a.nm b.nm w _ ?_;refine iteI (fun _=>iteI (fun _=>iteI (fun _=>iteI (fun _=>iteI (fun _=>iteI (fun _=>⟨by omega,hno0,by omega,hno1,iteI (fun _ => ?_) (fun h=>absurd (by rw [e7]) h)⟩) (fun h=>absurd e6 h)) (fun h=>absurd e5 h)) (fun h=>absurd e4 h)) (fun h=>absurd e3 h)) (fun h=>absurd e2 h)) (fun h=>absurd e1 h);refine⟨fun L=>∃ (bb:Bool) (i:Nat),L=[.b bb,.i i]∧i≤a.ks.length,msN a.ks.length,⟨false,0,rfl,Nat.zero_le _⟩, ?_⟩;rintro bb x14 ⟨bb',i,hy,hi⟩;simp only [List.cons.injEq,Vl.i.injEq,Vl.b.injEq,and_true]at hy;obtain⟨rfl,rfl⟩:=hy;refine⟨by omega,hno0,iteI (fun hlt => ?_) (fun _=>rfl)⟩;have hia:i < a.ks.length:=by omega
 have hib:i < b.ks.length:=by omega
 have hn0:¬ b0=true:=fun hb=>by have:=f0 hb;omega
 have hn1:¬ b1=true:=fun hb=>by have:=f1 hb;omega
 have hke:=zvx e8 i hia hib;have hk0:a.ks[i]? = some a.ks[i]:=List.getElem?_eq_getElem hia;have hm0:a.ks[i]∈a.ks:=List.getElem_mem hia;have hk1:b.ks[i]? = some b.ks[i]:=List.getElem?_eq_getElem hib;have hm1:b.ks[i]∈b.ks:=List.getElem_mem hib;generalize a.ks[i]=k0 at hk0 hm0 hke;generalize b.ks[i]=k1 at hk1 hm1 hke;have hat0:=zva hka.2 k0 hm0;have hat1:=zva hkb.2 k1 hm1;have hsz':=zdg hsz.2.2 k0 hm0;have hsub:=zpd hm0;obtain⟨q0,q1,q2,q3,q4,q5,q6⟩:=g0 i k0 hk0;obtain⟨r0,r1,r2,r3,r4,r5,r6⟩:=g1 i k1 hk1;obtain⟨b8,p8,c8,x8,f8,_⟩:=zk (zm hat0).1;obtain⟨b9,p9,c9,x9,f9,_⟩:=zk (zm hat1).1;rw [x8]at q6;rw [x9]at r6;simp only [Int.toNat_natCast]at q6 r6 ⊢;refine⟨hn0,by omega,hlt,k0.op,q0,k0.ask,q1,k0.nm,q2,k0.wi,q3,k0.cm,q4,k0.n,q5,b8,p8,(k0.ks.length:Nat),c8,q6,hn1,by omega,by omega,k1.op,r0,k1.ask,r1,k1.nm,r2,k1.wi,r3,k1.cm,r4,k1.n,r5,b9,p9,(k1.ks.length:Nat),c9,r6, ?_⟩;refine⟨true,fun w' hb=>by have h:=ih (w:=w') (a:=k0) (b:=k1) (by omega) (hat0.below hb) (hat1.below hb) hsz' hke;unfold RV7 at h;rw [x8,x9]at h;exact h,iteI (fun _ => ?_) (fun h=>absurd rfl h)⟩;rintro x29 rfl;rw [ze (by omega)];exact⟨⟨bb,i + 1,rfl,by omega⟩,by simp only [msN];omega⟩
mutual
theorem zou:∀ (r:Rl),rightR r=true→RlSz r
  | .mk op ask nm wi cm n v ks=>fun h=>by
    rw [rightR]at h;simp only [RlSz];by_cases ho:op=1
    · rw [if_pos ho]at h;obtain⟨_,h2,_,_,_,_,h7⟩:=zhb.1 h;have h3:=zkj h2;have h0:ks=[]:=List.eq_nil_of_length_eq_zero h7;subst h0;exact⟨by omega,by simp,trivial⟩
    · rw [if_neg ho]at h;simp only [Bool.and_eq_true]at h;obtain⟨⟨hb,hk⟩,hl⟩:=h;obtain⟨_,rfl,_⟩:=zif.1 hb
      have hkl:ks.length≤2:=by
        simp only [kidsB,Bool.or_eq_true,Bool.and_eq_true,decide_eq_true_eq]at hk;rcases hk with ⟨_,hk⟩ | ⟨_,hk⟩ <;> omega
      exact⟨by simp,by omega,zmr ks hl⟩
theorem zmr:∀ (l:List Rl),rightL l=true→RlSzL l
  | [],_=>trivial
  | r::l,h=>by
    rw [rightL,Bool.and_eq_true]at h;exact⟨zou r h.1,zmr l h.2⟩
end
theorem zxz(s:List UInt8):RlSz (parseS s).1:=by
  have hz:RlSz zR:=⟨by simp,by simp,trivial⟩;have hin:=(p_in s (4 * s.length + 3)).2.2.2.1 0 (Nat.zero_le _);unfold parseS;split
  · exact hz
  · cases hr:pOr s (4 * s.length + 3) 0 with
    | ok r k =>
      rw [hr]at hin;dsimp only;split
      · exact hz
      · split
        · exact zou r hin.2.2
        · exact hz
    | err a e=>exact hz
    | out=>exact hz
end Go.Proofs.YtdjgnbkclcjiiaaGreatDoor
end
