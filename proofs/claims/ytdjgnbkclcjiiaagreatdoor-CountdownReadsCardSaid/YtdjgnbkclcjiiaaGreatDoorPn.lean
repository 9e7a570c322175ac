import Derived.Test.YtdjgnbkclcjiiaaGreatDoorM17
import Derived.Test.YtdjgnbkclcjiiaaGreatDoorPm
section
set_option linter.unusedVariables false
set_option linter.unusedSimpArgs false
set_option maxRecDepth 100000
namespace Go.Proofs.YtdjgnbkclcjiiaaGreatDoor
open Go Go.RowKit Go.Proofs Wk
open Vc (SlAt OV iteI Vl zfb zh)
attribute [local irreducible] Go.Calls
attribute [local irreducible] wpQuiet
def q1S(s:List UInt8)(q:Sx):Sx:=if kindB (tokS s q.i)=0 then q else failS q (tokS s q.i).a 5
def q2S(s:List UInt8)(q:Sx)(R:Rl):Sx:=if (shR 1 R).1 > 200∨(shR 1 R).2 > 20 then failS (q1S s q) s.length 3 else q1S s q
theorem zbca{s:List UInt8}{i:Nat}:kindB (tokS s i)=0↔¬ ((tokS s i).bad=true∨(tokS s i).x ≠ []):=by
 by_cases hn:(tokS s i).num=true
 ·have h2:kindB (tokS s i)=2:=(zyj _).2 hn;rw [h2];refine⟨fun h=>absurd h (by decide),fun h=>absurd ?_ h⟩;by_cases hb:(tokS s i).bad=true
  ·exact .inl hb
  ·right
   have:=(zah hn (Bool.eq_false_iff.2 hb)).1
   intro e;rw [e]at this;simp at this
 ·unfold kindB;rw [if_neg hn];by_cases hx:(tokS s i).x=[]
  ·rw [if_pos hx];by_cases hb:(tokS s i).bad=true
   ·simp [hb]
   ·simp [hb,hx]
  ·rw [if_neg hx];refine⟨fun h => ?_,fun h=>absurd (.inr hx) h⟩;by_cases h3:hdL (tokS s i).x=true
   ·rw [if_pos h3]at h;cases h
   ·rw [if_neg h3]at h;cases h
theorem zcca(R:Rl):((shR 1 R).1 > 200∨(shR 1 R).2 > 20)↔¬ (nodesR R≤200∧depthR R≤20):=by
 have h:=zay R;rw [Bool.eq_iff_iff]at h;simp only [Bool.and_eq_true,decide_eq_true_eq]at h;rw [← h];omega
theorem zqy{s:List UInt8}{q:Sx}{R:Rl}(hlen:¬ 2000 < s.length)(h:RelR s (pOr s (4 * s.length + 3) 0) q R):((q2S s q R).e≠0→parseS s=(zR,(q2S s q R).a,(q2S s q R).e))∧((q2S s q R).e=0→parseS s=(erR R,0,0)):=by
  have hin:=(p_in s (4 * s.length + 3)).2.2.2.1 0 (Nat.zero_le _);have hdead:∀ (p:Sx) a e,p.e≠0→failS p a e=p:=fun p a e h=>by unfold failS;rw [if_neg h]
  cases hr:pOr s (4 * s.length + 3) 0 with
  | out=>rw [hr]at h;exact h.2.elim
  | err a e =>
    rw [hr]at h;obtain⟨h1,h2,h3,h4⟩:=h.2;have hp:parseS s=(zR,a,e):=by unfold parseS;rw [if_neg hlen,hr]
    have hq:q.e≠0:=by rw [h2];exact h3
    have e1:q1S s q=q:=by unfold q1S;split;rfl;exact hdead _ _ _ hq
    have e2:q2S s q R=q:=by unfold q2S;rw [e1];split;exact hdead _ _ _ hq;rfl
    rw [e2,hp,h1,h2];exact⟨fun _=>rfl,fun h=>absurd h h3⟩
  | ok r k =>
    rw [hr]at h hin;obtain⟨h1,h2⟩:=h.2
    have hv:(nodesR R≤200∧depthR R≤20)↔validR r=true:=by
      have hR':rightR R=true:=by rw [← zfo,h2];exact hin.2.2
      rw [← h2,zrt];unfold validR;rw [hR'];simp
    by_cases hj:(tokS s k).bad=true∨(tokS s k).x ≠ []
    · have hp:parseS s=(zR,(tokS s k).a,5):=by
        unfold parseS;rw [if_neg hlen,hr];dsimp only;rw [if_pos hj]
      have e1:q1S s q=⟨k,(tokS s k).a,5⟩:=by
        unfold q1S;rw [h1,if_neg (fun hk=>(zbca.1 hk) hj)];rfl
      have e2:q2S s q R=⟨k,(tokS s k).a,5⟩:=by
        unfold q2S;rw [e1];split
        · exact hdead _ _ _ (show (5:Int)≠0 by decide)
        · rfl
      rw [e2,hp];exact⟨fun _=>rfl,fun h=>absurd h (show ¬ (5:Int)=0 by decide)⟩
    · have e1:q1S s q=⟨k,0,0⟩:=by
        unfold q1S;rw [h1,if_pos (zbca.2 hj)]
      have hp:parseS s=if validR r=true then (r,0,0)else (zR,s.length,3):=by
        unfold parseS;rw [if_neg hlen,hr];dsimp only;rw [if_neg hj]
      by_cases hval:validR r=true
      · have e2:q2S s q R=⟨k,0,0⟩:=by
          unfold q2S;rw [e1,if_neg (fun hh=>(zcca R).1 hh (hv.2 hval))]
        rw [e2,hp,if_pos hval,h2];exact⟨fun h=>absurd rfl h,fun _=>rfl⟩
      · have e2:q2S s q R=⟨k,s.length,3⟩:=by
          unfold q2S;rw [e1,if_pos ((zcca R).2 (fun hh=>hval (hv.1 hh)))];rfl
        rw [e2,hp,if_neg hval];exact⟨fun _=>rfl,fun h=>absurd h (show ¬ (3:Int)=0 by decide)⟩
set_option maxHeartbeats 4000000 in
theorem zdca{w:World}{s:List UInt8}(hl:s.length < 4611686018427387904):Calls Tryz.prog 28 #[.string ⟨s.toArray⟩] w (PrP (parseS s) w):=by
  suffices hq:∀ Q:Ending→World→Prop,Hd (∀ e w',PrP (parseS s) w e w'→Q e w')→Calls Tryz.prog 28 #[.string ⟨s.toArray⟩] w Q from hq _ ⟨fun _ _ h=>h⟩
  intro Q hQ;have K:=Kn.start w;by_cases hlen:2000 < s.length
  · have hp:parseS s=(zR,0,3):=by unfold parseS;rw [if_pos hlen]
    rw [hp]at hQ
    go_enter Tryz.func28,Tryz.ntmps28
    repeat go_step
    refine bodyPost_ret (by simp [results,Tryz.results28,go_sem];try rfl) rfl (hQ.out _ _ ⟨?_,by have B:=K.below;go_grown⟩);exact⟨zR,none,0,0,rfl,rfl,fun w'' _=>⟨.inl ⟨rfl,rfl⟩,trivial⟩,rfl⟩
  have OR:∀ w',Calls Tryz.prog 63 #[.agg #[.string ⟨s.toArray⟩,.int .i64 0,.int .i64 0,.int .i64 0]] w' (RcP s w' (RelR s (pOr s (4 * s.length + 3) 0))):=fun w'=>(zpy s hl _ _ (Nat.le_refl _)).2.2 (i:=0) (Nat.zero_le _) (zlaa s _ |>.2.2.2.1 0 (Nat.zero_le _) (by omega))
  go_enter Tryz.func28,Tryz.ntmps28
  go_upto_region 3 with fail
  have hO:=Kn.opened_of K.all;simp only [Opened,World.size_alloc,World.size_drew,World.size_setCell]at hO
  go_cut [5,6] (fun s5 s6 wx=>∃ (b5 b6:Nat) (q:Sx) (R:Rl) (xa:Option Addr) (xl xc:Nat),s5=.pointer (some ⟨b5,0,none⟩)∧s6=.pointer (some ⟨b6,0,none⟩)∧w.heap.size < b5∧b5 < b6∧R.v=.slice xa xl xc∧RelR s (pOr s (4 * s.length + 3) 0) q R∧Rw (fun k=>w.heap.size + 1≤k∧k≠b5∧k≠b6) wx R∧Kn w wx [(b6,#[.int .i64 R.op,.int .i64 R.ask,.string ⟨R.nm.toArray⟩,.int .i64 R.wi,.int .i64 R.cm,.int .i64 R.n,.slice xa xl xc],30),(b5,#[.string ⟨s.toArray⟩,.int .i64 (q.i:Nat),.int .i64 (q.a:Nat),.int .i64 q.e],118),(w.heap.size,#[.int .i64 0,.int .i64 0,.string ⟨#[]⟩,.int .i64 0,.int .i64 0,.int .i64 0,.slice none 0 0],30)])
  case first =>
    go_wp2_with (go_at_call 63;refine via2 (by repeat (first | exact K | apply Kn.push | apply Kn.skip | apply Kn.drew)) (OR _) ?_;have hsz:=K.below.size;clear K hO;rintro _ wN ⟨q,R,xa,xl,xc,rfl,hv,hR,hP⟩ K hO;(try simp only [World.size_alloc,World.size_drew,World.size_setCell]at hR);simp only [Opened,World.size_alloc,World.size_drew,World.size_setCell]at hO)
    have hge:=zr (K.all _ (List.mem_cons_self ..))
    go_meet
    refine⟨_,_,q,R,xa,xl,xc,rfl,rfl,by omega,by omega,hv,hP, ?_, ?_⟩
    · refine (hR.mono (S':=fun k=>w.heap.size + 1≤k∧k≠wN.heap.size∧k≠wN.heap.size + 1) (fun k hk h=>⟨h,by omega,by omega⟩)).next (by simp only [World.size_alloc,World.size_setCell];omega) (fun k h1 h2 => ?_);simp only [heap_alloc,zc,World.size_alloc,World.size_setCell]
      repeat rw [if_neg (by omega)]
    · exact (Kn.of (w0:=w) (by have B:=K.below;go_grown) (by simp only [Held,heap_alloc,zc,ze,World.size_alloc,World.size_drew,World.size_setCell,IntWalk.iteOmega,Wk.setObj,hO,Option.map_some,↓reduceIte,if_true,if_false,List.setIfInBounds_toArray,List.set_cons_zero,List.set_cons_succ,and_self,and_true] <;> (try trivial)))
  case rest =>
    obtain⟨b5,b6,q,R,xa,xl,xc,rfl,rfl,hb5,hb6,hv,hP,hR,K⟩:=hcut
    have hqi:q.i≤s.length:=by
      cases hr:pOr s (4 * s.length + 3) 0 with
      | ok r k =>
        have hin:=(p_in s (4 * s.length + 3)).2.2.2.1 0 (Nat.zero_le _);rw [hr]at hin hP;rw [hP.2.1];exact hin.2.1
      | err a e=>rw [hr]at hP;exact hP.2.2.2.2
      | out=>rw [hr]at hP;exact hP.2.elim
    have hRsz:RlSz R:=zqw R hP.1;have N0:∀ w',Calls Tryz.prog 64 #[.string ⟨s.toArray⟩,.int .i64 (q.i:Nat)] w' (Vc.Ret (.agg #[.int .i64 (kindB (tokS s q.i)),.int .i64 ((tokS s q.i).a:Nat),.int .i64 ((tokS s q.i).t:Nat),.int .i64 (numB (tokS s q.i)),.string ⟨(rtx (tokS s q.i)).toArray⟩,.bool (tokS s q.i).bad]) w'):=fun w'=>zyl hl hqi;have F1:∀ w',Calls Tryz.prog 65 #[.agg #[.string ⟨s.toArray⟩,.int .i64 (q.i:Nat),.int .i64 (q.a:Nat),.int .i64 q.e],.int .i64 ((tokS s q.i).a:Nat),.int .i64 5] w' (Vc.Ret (.agg #[.string ⟨s.toArray⟩,.int .i64 ((failS q (tokS s q.i).a 5).i:Nat),.int .i64 ((failS q (tokS s q.i).a 5).a:Nat),.int .i64 (failS q (tokS s q.i).a 5).e]) w'):=fun w'=>zgm s q _ 5;have F2:∀ w',Calls Tryz.prog 65 #[.agg #[.string ⟨s.toArray⟩,.int .i64 ((q1S s q).i:Nat),.int .i64 ((q1S s q).a:Nat),.int .i64 (q1S s q).e],.int .i64 (s.length:Nat),.int .i64 3] w' (Vc.Ret (.agg #[.string ⟨s.toArray⟩,.int .i64 ((failS (q1S s q) s.length 3).i:Nat),.int .i64 ((failS (q1S s q) s.length 3).a:Nat),.int .i64 (failS (q1S s q) s.length 3).e]) w'):=fun w'=>zgm s (q1S s q) _ 3
    have HS:∀ w':World,RlAt w' R→Calls Tryz.prog 56 #[.agg #[.int .i64 R.op,.int .i64 R.ask,.string ⟨R.nm.toArray⟩,.int .i64 R.wi,.int .i64 R.cm,.int .i64 R.n,.slice xa xl xc],.int .i64 1] w' (Vc.Ret (.tuple #[.int .i64 (shR 1 R).1,.int .i64 (shR 1 R).2]) w'):=fun w' h=>by
      have h2:=zpba _ (d:=1) (Nat.le_refl _) h hRsz (by omega) (by omega);unfold RV7 at h2;rw [hv]at h2;exact h2
    obtain⟨P1,P2⟩:=zqy hlen hP;have hP1:=Hd.mk P1;have hP2:=Hd.mk P2;have hvh:=Hd.mk hv;have hsb:=(zdq R 1 (by omega) (by omega));clear P1 P2 hv hP OR hRsz hqi;have hgeb:b6 < wc.heap.size:=zr (K.all _ (List.mem_cons_self ..))
    go_upto_region 4 with fail
    go_cut [7] (fun s7 wx=>∃ b7,s7=.pointer (some ⟨b7,0,none⟩)∧b6 < b7∧Rw (fun k=>w.heap.size + 1≤k∧k≠b5∧k≠b6) wx R∧Kn w wx [(b7,#[.int .i64 (kindB (tokS s q.i)),.int .i64 ((tokS s q.i).a:Nat),.int .i64 ((tokS s q.i).t:Nat),.int .i64 (numB (tokS s q.i)),.string ⟨(rtx (tokS s q.i)).toArray⟩,.bool (tokS s q.i).bad],122),(b6,#[.int .i64 R.op,.int .i64 R.ask,.string ⟨R.nm.toArray⟩,.int .i64 R.wi,.int .i64 R.cm,.int .i64 R.n,.slice xa xl xc],30),(b5,#[.string ⟨s.toArray⟩,.int .i64 (q.i:Nat),.int .i64 (q.a:Nat),.int .i64 q.e],118),(w.heap.size,#[.int .i64 0,.int .i64 0,.string ⟨#[]⟩,.int .i64 0,.int .i64 0,.int .i64 0,.slice none 0 0],30)])
    case first =>
      have hRh:=Hd.mk hR;clear hR;have hB0:=Hd.mk K.below;have K:=(⟨Below.refl wc.heap.size wc,K.all⟩:Kn wc wc _);have hKw:=zr (K.all _ (List.mem_cons_self ..));have hO:=Kn.opened_of K.all;simp only [Opened,World.size_alloc,World.size_drew,World.size_setCell]at hO
      go_wp2_with (go_at_call 64;refine via (by repeat (first | exact K | apply Kn.push | apply Kn.drew)) (N0 _) ?_;clear K;(try clear hO);intro wN K hO;simp only [Opened,World.size_alloc,World.size_drew,World.size_setCell]at hO)
      have hge:=K.below.size
      go_meet
      refine⟨_,rfl,by omega, ?_, ?_⟩
      · refine hRh.out.next ?_ (fun k h1 h2 => ?_)
        · have:=K.below.size;(try simp only [World.size_alloc,World.size_setCell,World.size_drew]);omega
        · (try simp only [heap_alloc,zc,ze,World.size_alloc,World.size_setCell,World.size_drew]);(have:=K.below.size);(repeat rw [if_neg (by omega)]);exact K.below.block k h2
      · exact (Kn.of (w0:=w) (by have B:=hB0.out.trans (K.below.mono hB0.out.size);go_grown) (by simp only [Held,heap_alloc,zc,ze,World.size_alloc,World.size_drew,World.size_setCell,IntWalk.iteOmega,Wk.setObj,hO,Option.map_some,↓reduceIte,if_true,if_false,List.setIfInBounds_toArray,List.set_cons_zero,List.set_cons_succ,and_self,and_true] <;> (try trivial)))
    case rest =>
    obtain⟨b7,rfl,hb7,hR,K⟩:=hcut;clear N0;have hO:=Kn.opened_of K.all;simp only [Opened,World.size_alloc,World.size_drew,World.size_setCell]at hO
    go_upto_if 26 with fail
    go_cut [] (fun wx=>Rw (fun k=>w.heap.size + 1≤k∧k≠b5∧k≠b6) wx R∧Kn w wx [(b6,#[.int .i64 R.op,.int .i64 R.ask,.string ⟨R.nm.toArray⟩,.int .i64 R.wi,.int .i64 R.cm,.int .i64 R.n,.slice xa xl xc],30),(b5,#[.string ⟨s.toArray⟩,.int .i64 ((q1S s q).i:Nat),.int .i64 ((q1S s q).a:Nat),.int .i64 (q1S s q).e],118),(w.heap.size,#[.int .i64 0,.int .i64 0,.string ⟨#[]⟩,.int .i64 0,.int .i64 0,.int .i64 0,.slice none 0 0],30)])
    case first =>
      have hRh:=Hd.mk hR;clear hR;have hB0:=Hd.mk K.below;have K:=(⟨Below.refl wc.heap.size wc,K.all⟩:Kn wc wc _);have hKw:=zr (K.all _ (List.mem_cons_self ..));have hO:=Kn.opened_of K.all;simp only [Opened,World.size_alloc,World.size_drew,World.size_setCell]at hO;by_cases hk:kindB (tokS s q.i)=0
      · have e1:q1S s q=q:=by unfold q1S;rw [if_pos hk]
        go_wp2_with fail
        go_meet
        rw [e1];refine⟨?_, ?_⟩
        · exact hRh.out
        · exact (Kn.of (w0:=w) (by have B:=hB0.out.trans (K.below.mono hB0.out.size);go_grown) (by simp only [Held,heap_alloc,zc,ze,World.size_alloc,World.size_drew,World.size_setCell,IntWalk.iteOmega,Wk.setObj,hO,Option.map_some,↓reduceIte,if_true,if_false,List.setIfInBounds_toArray,List.set_cons_zero,List.set_cons_succ,and_self,and_true] <;> (try trivial)))
      · have e1:q1S s q=failS q (tokS s q.i).a 5:=by unfold q1S;rw [if_neg hk]
        go_wp2_with (go_at_call 65;refine via (by repeat (first | exact K | apply Kn.push | apply Kn.drew)) (F1 _) ?_;clear K;(try clear hO);intro wN K hO;simp only [Opened,World.size_alloc,World.size_drew,World.size_setCell]at hO)
        go_meet
        rw [e1];refine⟨?_, ?_⟩
        · refine hRh.out.next ?_ (fun k h1 h2 => ?_)
          · have:=K.below.size;(try simp only [World.size_alloc,World.size_setCell,World.size_drew]);omega
          · (try simp only [heap_alloc,zc,ze,World.size_alloc,World.size_setCell,World.size_drew]);(have:=K.below.size);(repeat rw [if_neg (by omega)]);exact K.below.block k h2
        · exact (Kn.of (w0:=w) (by have B:=hB0.out.trans (K.below.mono hB0.out.size);go_grown) (by simp only [Held,heap_alloc,zc,ze,World.size_alloc,World.size_drew,World.size_setCell,IntWalk.iteOmega,Wk.setObj,hO,Option.map_some,↓reduceIte,if_true,if_false,List.setIfInBounds_toArray,List.set_cons_zero,List.set_cons_succ,and_self,and_true] <;> (try trivial)))
    case rest =>
    obtain⟨hR,K⟩:=hcut;clear F1;have hO:=Kn.opened_of K.all;simp only [Opened,World.size_alloc,World.size_drew,World.size_setCell]at hO
    go_upto_region 7 with fail
    go_cut [8,9] (fun s8 s9 wx=>s8=.int .i64 (shR 1 R).1∧s9=.int .i64 (shR 1 R).2∧Rw (fun k=>w.heap.size + 1≤k∧k≠b5∧k≠b6) wx R∧Kn w wx [(b6,#[.int .i64 R.op,.int .i64 R.ask,.string ⟨R.nm.toArray⟩,.int .i64 R.wi,.int .i64 R.cm,.int .i64 R.n,.slice xa xl xc],30),(b5,#[.string ⟨s.toArray⟩,.int .i64 ((q1S s q).i:Nat),.int .i64 ((q1S s q).a:Nat),.int .i64 (q1S s q).e],118),(w.heap.size,#[.int .i64 0,.int .i64 0,.string ⟨#[]⟩,.int .i64 0,.int .i64 0,.int .i64 0,.slice none 0 0],30)])
    case first =>
      have hsR:=Hd.mk (fun W (hb:Below wc.heap.size wc W)=>hR W (fun k _ hk=>hb.block k hk));have hRh:=Hd.mk hR;clear hR;have hB0:=Hd.mk K.below;have K:=(⟨Below.refl wc.heap.size wc,K.all⟩:Kn wc wc _);have hKw:=zr (K.all _ (List.mem_cons_self ..));have hO:=Kn.opened_of K.all;simp only [Opened,World.size_alloc,World.size_drew,World.size_setCell]at hO
      go_wp2_with (go_at_call 56;refine via (by repeat (first | exact K | apply Kn.push | apply Kn.drew)) (HS _ (hsR.out _ (by have B:=K.below;go_grown))) ?_;clear K;(try clear hO);intro wN K hO;simp only [Opened,World.size_alloc,World.size_drew,World.size_setCell]at hO)
      go_meet
      refine⟨rfl,rfl, ?_, ?_⟩
      · refine hRh.out.next ?_ (fun k h1 h2 => ?_)
        · have:=K.below.size;(try simp only [World.size_alloc,World.size_setCell,World.size_drew]);omega
        · (try simp only [heap_alloc,zc,ze,World.size_alloc,World.size_setCell,World.size_drew]);(have:=K.below.size);(repeat rw [if_neg (by omega)]);exact K.below.block k h2
      · exact (Kn.of (w0:=w) (by have B:=hB0.out.trans (K.below.mono hB0.out.size);go_grown) (by simp only [Held,heap_alloc,zc,ze,World.size_alloc,World.size_drew,World.size_setCell,IntWalk.iteOmega,Wk.setObj,hO,Option.map_some,↓reduceIte,if_true,if_false,List.setIfInBounds_toArray,List.set_cons_zero,List.set_cons_succ,and_self,and_true] <;> (try trivial)))
    case rest =>
    obtain⟨rfl,rfl,hR,K⟩:=hcut;clear HS;have hO:=Kn.opened_of K.all;simp only [Opened,World.size_alloc,World.size_drew,World.size_setCell]at hO
    go_upto_region 8 with fail
    go_cut [41] (fun s41 wx=>s41=.bool (decide ((shR 1 R).1 > 200∨(shR 1 R).2 > 20))∧wx=wc)
    case first =>
      have hRh:=Hd.mk hR;clear hR hO K;by_cases hk1:(shR 1 R).1 > 200
      · go_wp2_with fail
        all_goals go_meet
        all_goals exact⟨by first | (simp;done) | (simp;omega),rfl⟩
      · by_cases hk2:(shR 1 R).2 > 20
        · go_wp2_with fail
          all_goals go_meet
          all_goals exact⟨by first | (simp;done) | (simp;omega),rfl⟩
        · go_wp2_with fail
          all_goals go_meet
          all_goals exact⟨by first | (simp;done) | (simp;omega),rfl⟩
    case rest =>
    obtain⟨rfl,rfl⟩:=hcut
    go_upto_if 41 with fail
    go_cut [] (fun wx=>Rw (fun k=>w.heap.size + 1≤k∧k≠b5∧k≠b6) wx R∧Kn w wx [(b6,#[.int .i64 R.op,.int .i64 R.ask,.string ⟨R.nm.toArray⟩,.int .i64 R.wi,.int .i64 R.cm,.int .i64 R.n,.slice xa xl xc],30),(b5,#[.string ⟨s.toArray⟩,.int .i64 ((q2S s q R).i:Nat),.int .i64 ((q2S s q R).a:Nat),.int .i64 (q2S s q R).e],118),(w.heap.size,#[.int .i64 0,.int .i64 0,.string ⟨#[]⟩,.int .i64 0,.int .i64 0,.int .i64 0,.slice none 0 0],30)])
    case first =>
      have hRh:=Hd.mk hR;clear hR;have hB0:=Hd.mk K.below;have K:=(⟨Below.refl wc.heap.size wc,K.all⟩:Kn wc wc _);have hKw:=zr (K.all _ (List.mem_cons_self ..));have hO:=Kn.opened_of K.all;simp only [Opened,World.size_alloc,World.size_drew,World.size_setCell]at hO;by_cases hk:(shR 1 R).1 > 200∨(shR 1 R).2 > 20
      · have e1:q2S s q R=failS (q1S s q) s.length 3:=by unfold q2S;rw [if_pos hk]
        go_wp2_with (go_at_call 65;refine via (by repeat (first | exact K | apply Kn.push | apply Kn.drew)) (F2 _) ?_;clear K;(try clear hO);intro wN K hO;simp only [Opened,World.size_alloc,World.size_drew,World.size_setCell]at hO)
        all_goals go_meet
        all_goals rw [e1]
        all_goals refine⟨?_, ?_⟩
        · refine hRh.out.next ?_ (fun k h1 h2 => ?_)
          · have:=K.below.size;(try simp only [World.size_alloc,World.size_setCell,World.size_drew]);omega
          · (try simp only [heap_alloc,zc,ze,World.size_alloc,World.size_setCell,World.size_drew]);(have:=K.below.size);(repeat rw [if_neg (by omega)]);exact K.below.block k h2
        · exact (Kn.of (w0:=w) (by have B:=hB0.out.trans (K.below.mono hB0.out.size);go_grown) (by simp only [Held,heap_alloc,zc,ze,World.size_alloc,World.size_drew,World.size_setCell,IntWalk.iteOmega,Wk.setObj,hO,Option.map_some,↓reduceIte,if_true,if_false,List.setIfInBounds_toArray,List.set_cons_zero,List.set_cons_succ,and_self,and_true] <;> (try trivial)))
      · have e1:q2S s q R=q1S s q:=by unfold q2S;rw [if_neg hk]
        go_wp2_with fail
        all_goals go_meet
        all_goals rw [e1]
        all_goals refine⟨?_, ?_⟩
        · exact hRh.out
        · exact (Kn.of (w0:=w) (by have B:=hB0.out.trans (K.below.mono hB0.out.size);go_grown) (by simp only [Held,heap_alloc,zc,ze,World.size_alloc,World.size_drew,World.size_setCell,IntWalk.iteOmega,Wk.setObj,hO,Option.map_some,↓reduceIte,if_true,if_false,List.setIfInBounds_toArray,List.set_cons_zero,List.set_cons_succ,and_self,and_true] <;> (try trivial)))
    case rest =>
    obtain⟨hR,K⟩:=hcut;clear F2 hsb;generalize q2S s q R=q2 at hP1 hP2 K;have hRh:=Hd.mk hR;clear hR;have hB0:=Hd.mk K.below;have K:=(⟨Below.refl wc.heap.size wc,K.all⟩:Kn wc wc _);have hKw:=zr (K.all _ (List.mem_cons_self ..));have hO:=Kn.opened_of K.all;simp only [Opened,World.size_alloc,World.size_drew,World.size_setCell]at hO;by_cases he:q2.e=0
    · have hp:=hP2.out he;rw [hp]at hQ;clear hP1 hP2
      go_upto_region 12 with fail
      repeat go_step
      refine bodyPost_ret (by simp [results,Tryz.results28,go_sem,hO];try rfl) rfl (hQ.out _ _ ⟨?_,by have B:=hB0.out.trans (K.below.mono hB0.out.size);go_grown⟩);refine⟨R,xa,xl,xc,rfl,hvh.out, ?_,rfl⟩;refine (hRh.out.next ?_ (fun k h1 h2 => ?_)).mono (fun k _ h=>by omega)
      · simp only [World.size_alloc,World.size_setCell,World.size_drew];omega
      · simp only [heap_alloc,zc,ze,World.size_alloc,World.size_setCell,World.size_drew];repeat rw [if_neg (by omega)]
    · have hp:=hP1.out he;rw [hp]at hQ;clear hP1 hP2;have n1:b5≠w.heap.size:=by omega
      have n2:w.heap.size≠b5:=by omega
      go_upto_region 11 with fail
      go_region_held3 (fun w'=>w'.cell? ⟨b5,0,none⟩=some (.string ⟨s.toArray⟩)∧w'.cell? ⟨b5,1,none⟩=some (.int .i64 (q2.i:Nat))∧w'.cell? ⟨b5,2,none⟩=some (.int .i64 (q2.a:Nat))∧w'.cell? ⟨b5,3,none⟩=some (.int .i64 q2.e)) (simp [go_sem, *]) (fail)
      all_goals (repeat go_step)
      all_goals (refine bodyPost_ret (by simp [results,Tryz.results28,go_sem,hO];try rfl) rfl (hQ.out _ _ ⟨?_,by have B:=hB0.out.trans (K.below.mono hB0.out.size);go_grown⟩))
      all_goals exact⟨zR,none,0,0,rfl,rfl,fun w'' _=>⟨.inl ⟨rfl,rfl⟩,trivial⟩,rfl⟩
end Go.Proofs.YtdjgnbkclcjiiaaGreatDoor
end
section
set_option linter.unusedVariables false
set_option linter.unusedSimpArgs false
set_option maxRecDepth 100000
namespace Go.Proofs.YtdjgnbkclcjiiaaGreatDoor
open Go Go.RowKit Go.Proofs Wk
open Vc (SlAt OV iteI Vl zfb zh)
attribute [local irreducible] Go.Calls
def ErB(r:Rl):Prop:=erR r=r
theorem ztw{s:List UInt8}{i:Nat}(hi:i≤s.length)(ask wi:Int)(nm:List UInt8):(pCmp s ask nm wi i).In ErB s i:=by
 obtain⟨h1,h2,h3,_⟩:=zg s hi;unfold pCmp;split
 ·exact ((zed h3 _ _).lower (Nat.le_trans h1 h2)).bind (Q:=ErB) fun n k hk hk' hn'=>⟨Nat.le_refl _,hk',rfl⟩
 ·split
  ·exact⟨Nat.le_refl _,hi,rfl⟩
  ·exact⟨Nat.le_trans h2 h3,by decide⟩
theorem zuw{s:List UInt8}{i:Nat}(hi:i≤s.length)(ask:Int):(pAsk s ask i).In ErB s i:=by
 unfold pAsk;exact (zl hi _).bind fun _ j _ hj _=>(zab hj).bind fun nm j _ hj hn=>(zl hj _).bind fun _ j _ hj _=>(zed hj _ _).bind fun wi j _ hj hw=>(zl hj _).bind fun _ j _ hj _=>ztw hj ..
theorem zry{s:List UInt8}{i:Nat}(hi:i≤s.length):(pAtom s i).In ErB s i:=by
 unfold pAtom;split
 ·rename_i h;obtain⟨h1,h2⟩:=zmb hi (by decide) h;exact (zuw h2 _).lower (Nat.le_of_lt h1)
 split
 ·rename_i h;obtain⟨h1,h2⟩:=zmb hi (by decide) h;exact (zuw h2 _).lower (Nat.le_of_lt h1)
 ·exact (zab hi).bind fun nm j _ hj hn=>ztw hj ..
theorem zeca{r:Rl}(h:ErB r):ErB (nR r):=by unfold ErB at *;simp only [nR,erR,erL,h]
theorem zoz{op:Int}{r q:Rl}(h:ErB r)(h':ErB q):ErB (.mk op 0 [] 0 0 0 nilV [r,q]):=by unfold ErB at *;simp only [erR,erL,h,h']
theorem p_er(s:List UInt8):∀ n,(∀ i,i≤s.length→(pNot s n i).In ErB s i)∧(∀ i,i≤s.length→(pAnd s n i).In ErB s i)∧(∀ i r,i≤s.length→ErB r→(andL s n r i).In ErB s i)∧(∀ i,i≤s.length→(pOr s n i).In ErB s i)∧(∀ i r,i≤s.length→ErB r→(orL s n r i).In ErB s i)
  | 0=>⟨fun _ _=>by simp only [pNot];trivial,fun _ _=>by simp only [pAnd];trivial,fun _ _ _ _=>by simp only [andL];trivial,fun _ _=>by simp only [pOr];trivial,fun _ _ _ _=>by simp only [orL];trivial⟩
  | n + 1=>by
    obtain⟨h1,h2,h3,h4,h5⟩:=p_er s n;refine⟨fun i hi => ?_,fun i hi => ?_,fun i r hi hr => ?_,fun i hi => ?_,fun i r hi hr => ?_⟩
    · rw [pNot];split
      · rename_i h;obtain⟨g1,g2⟩:=zmb hi (by decide) h;exact ((h1 _ g2).bind (Q:=ErB) (k:=fun r k=>Pr.ok (nR r) k) fun r k _ hk hr=>⟨Nat.le_refl _,hk,zeca hr⟩).lower (Nat.le_of_lt g1)
      split
      · rename_i h;obtain⟨g1,g2⟩:=zmb hi (by decide) h;exact ((h4 _ g2).bind (Q:=ErB) fun r k _ hk hr=>(zl hk _).bind (k:=fun _ k=>Pr.ok r k) fun _ k _ hk _=>⟨Nat.le_refl _,hk,hr⟩).lower (Nat.le_of_lt g1)
      · exact zry hi
    · rw [pAnd];exact (h1 _ hi).bind fun r k _ hk hr=>h3 _ _ hk hr
    · rw [andL];split
      · rename_i h;obtain⟨g1,g2⟩:=zmb hi (by decide) h;exact ((h1 _ g2).bind fun q k _ hk hq=>h3 _ _ hk (zoz hr hq)).lower (Nat.le_of_lt g1)
      · exact⟨Nat.le_refl _,hi,hr⟩
    · rw [pOr];exact (h2 _ hi).bind fun r k _ hk hr=>h5 _ _ hk hr
    · rw [orL];split
      · rename_i h;obtain⟨g1,g2⟩:=zmb hi (by decide) h;exact ((h2 _ g2).bind fun q k _ hk hq=>h5 _ _ hk (zoz hr hq)).lower (Nat.le_of_lt g1)
      · exact⟨Nat.le_refl _,hi,hr⟩
theorem zfca(s:List UInt8):(pOr s (4 * s.length + 3) 0).fed:=(zlaa s _).2.2.2.1 0 (Nat.zero_le _) (by omega)
theorem zgca{w:World}{s:List UInt8}(hl:s.length < 4611686018427387904)(v0:Vg_0 w)(v1:Vg_1 w)(v2:Vg_2 w) :
    Calls Tryz.prog 26 #[.string ⟨s.toArray⟩] w (PrP (parseS s) w):=by
  have hszs:3≤w.heap.size:=by
    obtain⟨_,_,h2⟩:=v2;exact (Array.getElem?_eq_some_iff.1 h2).1
  have out:∀ (a:Nat) (e:Int),parseS s=(zR,a,e)→Calls Tryz.prog 26 #[.string ⟨s.toArray⟩] w (fun e' w'=>∃ v,e'=.returned v∧Below w.heap.size w w'∧(v=.tuple #[.agg #[.int .i64 0,.int .i64 0,.string ⟨(([]:List UInt8)).toArray⟩,.int .i64 0,.int .i64 0,.int .i64 0,.slice none 0 0],.int .i64 (a:Nat),.int .i64 e]∨False))→Calls Tryz.prog 26 #[.string ⟨s.toArray⟩] w (PrP (parseS s) w):=fun a e hp h=>h.mono fun e' w' hh=>by
    obtain⟨v,h1,h2,h3 | h3⟩:=hh
    · subst h3;rw [hp];exact⟨⟨zR,none,0,0,h1,rfl,fun w'' _=>⟨.inl ⟨rfl,rfl⟩,trivial⟩,rfl⟩,h2⟩
    · exact h3.elim
  have S0:∀ w',Below w.heap.size w w'→Calls Tryz.prog 60 #[.string ⟨s.toArray⟩,.int .i64 0] w' (Vc.Ret (.agg #[.int .i64 ((tokS s 0).a:Nat),.int .i64 ((tokS s 0).t:Nat),.string ⟨(tokS s 0).x.toArray⟩,.bool (tokS s 0).num,.bool (tokS s 0).bad]) w'):=fun w' hb=>zmaa (i:=0) (vgk2 hb v2) hl (Nat.zero_le _);by_cases hlen:2000 < s.length
  · have hp:parseS s=(zR,0,3):=by unfold parseS;rw [if_pos hlen]
    refine out 0 3 hp (zza s w (fun v=>v=_) (fun _ _=>False) ?_);rintro x0 rfl;exact iteI (fun _=>rfl) (fun h=>absurd (show (2000:Int) < (s.length:Nat) by omega) h)
  have PCx:∀ (b:Nat) (w':World),Below w.heap.size w w'→w.heap.size≤b→w'.heap[b]? = some (.cells (pcC s 0) PT)→PC s 0 b w':=fun b w' hb hbb hc=>⟨⟨vgk2 hb v0,vgk2 hb v1,vgk2 hb v2,by omega,by omega,by omega⟩,hl,Nat.zero_le _,hc⟩;have any:∀ {w':World} {b:Nat},PC s 0 b w'→PcR 61 #[Vc.ptr b 0] FM s b w' (pOr s (4 * s.length + 3) 0):=fun h=>(zpq s _ _ (Nat.le_refl (4 * s.length + 3))).2.2 h;have hin:=(p_in s (4 * s.length + 3)).2.2.2.1 0 (Nat.zero_le _);have her:=(p_er s (4 * s.length + 3)).2.2.2.1 0 (Nat.zero_le _);have hfed:=zfca s;cases hr:pOr s (4 * s.length + 3) 0 with
  | out=>rw [hr]at hfed;exact hfed.elim
  | err a e =>
    have hp:parseS s=(zR,a,e):=by unfold parseS;rw [if_neg hlen,hr]
    refine out a e hp (zza s w (fun v=>v=_) (fun _ _=>False) ?_);rintro x0 rfl;exact iteI (fun h=>absurd h (by omega)) (fun _=>⟨_,_,_,_,_,S0,.inr ⟨(a:Nat),e,fun β w' hb hh=>(any (PCx _ w' hb hh.1.1 hh.1.2)).err hr,fun v0 _=>rfl⟩⟩)
  | ok r k =>
    have hk:k≤s.length:=by rw [hr]at hin;exact hin.2.1
    by_cases hj:(tokS s k).bad=true∨(tokS s k).x ≠ []
    · have hp:parseS s=(zR,(tokS s k).a,5):=by
        unfold parseS;rw [if_neg hlen,hr];dsimp only;rw [if_pos hj]
      refine out (tokS s k).a 5 hp (zza s w (fun v=>v=_) (fun _ _=>False) ?_);rintro x0 rfl;refine iteI (fun h=>absurd h (by omega)) (fun _=>⟨_,_,_,_,_,S0,.inl ⟨FO r,_,_,(tokS s k).x,_,(tokS s k).bad,fun β w' hb hh=>(any (PCx _ w' hb hh.1.1 hh.1.2)).ok hr,iteI (fun _=>fun v1 _=>rfl) (fun hb=>iteI (fun hx => ?_) (fun _=>fun v1 _=>rfl))⟩⟩);exact (hj.elim hb (fun h=>h hx)).elim
    · have hb:(tokS s k).bad=false:=Bool.eq_false_iff.2 fun h=>hj (.inl h);have hx:(tokS s k).x=[]:=Classical.byContradiction fun h=>hj (.inr h)
      have hp:parseS s=if validR r=true then (r,0,0)else (zR,s.length,3):=by
        unfold parseS;rw [if_neg hlen,hr];dsimp only;rw [if_neg hj]
      rw [hp];rw [hr]at hin her;exact zsw (by omega) v0 v1 v2 hr hb hx (zzba _ r (Nat.le_refl _) hin.2.2 her.2.2) ⟨fun _ _ h=>h⟩
end Go.Proofs.YtdjgnbkclcjiiaaGreatDoor
end
