import Derived.Test.YtdjgnbkclcjiiaaGreatDoorSe
import Derived.Test.YtdjgnbkclcjiiaaGreatDoorSf
import Derived.Deep.RegionHeld3
set_option linter.unusedVariables false
set_option linter.unusedSimpArgs false
set_option maxRecDepth 100000
namespace Go.Proofs.YtdjgnbkclcjiiaaGreatDoor
open Go Go.RowKit Go.Proofs Wk
open Vc (SlAt OV iteI Vl zfb zh)
attribute [local irreducible] Go.Calls
attribute [local irreducible] wpQuiet
mutual
def erR:Rl→Rl
 | .mk op ask nm wi cm n _ ks=>.mk op ask nm wi cm n nilV (erL ks)
def erL:List Rl→List Rl
 | []=>[]
 | r::l=>erR r::erL l
end
def Rw(S:Nat→Prop)(w:World)(R:Rl):Prop:=∀ w'':World,(∀ k,S k→k < w.heap.size→w''.heap[k]? = w.heap[k]?)→RlAt w'' R
theorem Rw.at_{S:Nat→Prop}{w:World}{R:Rl}(h:Rw S w R):RlAt w R:=h w (fun _ _ _=>rfl)
theorem Rw.mono{S S':Nat→Prop}{w:World}{R:Rl}(h:Rw S w R)(hs:∀ k,k < w.heap.size→S k→S' k):Rw S' w R:=fun w'' h'=>h w'' fun k hk hlt=>h' k (hs k hlt hk) hlt
theorem Rw.next{S:Nat→Prop}{w w1:World}{R:Rl}(h:Rw S w R)(hz:w.heap.size≤w1.heap.size)(ha:∀ k,S k→k < w.heap.size→w1.heap[k]? = w.heap[k]?):Rw S w1 R :=
 fun w'' h'=>h w'' fun k hk hlt=>(h' k hk (Nat.lt_of_lt_of_le hlt hz)).trans (ha k hk hlt)
theorem Rw.one{S:Nat→Prop}{w:World}{R:Rl}{X:Nat}{op:Int}(h:Rw S w R)(hX:S X)(hB:w.heap[X]? = some (.cells (rlc R).toArray 30)):Rw S w (.mk op 0 [] 0 0 0 (.slice (some ⟨X,0,none⟩) 1 1) [R]):=fun w'' h'=>by
 simp only [RlAt,RlAtL,and_true];have hB':=(h' X hX (heap_lt hB)).trans hB;refine⟨.inr (.inr ⟨X,0,1,1,rfl,rfl,fun j u hj => ?_⟩),h w'' h'⟩;simp only [List.flatMap_cons,List.flatMap_nil,List.append_nil]at hj;simp only [World.cell?,hB',Nat.zero_add];simpa using hj
theorem Rw.two{S:Nat→Prop}{w:World}{R R2:Rl}{X:Nat}{op:Int}(h:Rw S w R)(h2:Rw S w R2)(hX:S X)(hB:w.heap[X]? = some (.cells (rlc R++rlc R2).toArray 30)):Rw S w (.mk op 0 [] 0 0 0 (.slice (some ⟨X,0,none⟩) 2 2) [R,R2]):=fun w'' h'=>by
 simp only [RlAt,RlAtL,and_true];have hB':=(h' X hX (heap_lt hB)).trans hB;refine⟨.inr (.inr ⟨X,0,2,2,rfl,rfl,fun j u hj => ?_⟩),h w'' h',h2 w'' h'⟩;simp only [List.flatMap_cons,List.flatMap_nil,List.append_nil]at hj;simp only [World.cell?,hB',Nat.zero_add];simpa using hj
def RcP(s:List UInt8)(w:World)(P:Sx→Rl→Prop)(e:Ending)(w':World):Prop:=(∃ q R xa xl xc,e=.returned (.tuple #[.agg #[.string ⟨s.toArray⟩,.int .i64 (q.i:Nat),.int .i64 (q.a:Nat),.int .i64 q.e],.agg #[.int .i64 R.op,.int .i64 R.ask,.string ⟨R.nm.toArray⟩,.int .i64 R.wi,.int .i64 R.cm,.int .i64 R.n,.slice xa xl xc]])∧R.v=.slice xa xl xc∧Rw (fun k=>w.heap.size≤k) w' R∧P q R)∧Below w.heap.size w w'
theorem znq{R:Rl}{xa:Option Addr}{xl xc:Nat}(h:R.v=.slice xa xl xc):(rlc R).toArray=#[.int .i64 R.op,.int .i64 R.ask,.string ⟨R.nm.toArray⟩,.int .i64 R.wi,.int .i64 R.cm,.int .i64 R.n,.slice xa xl xc]:=by
 unfold rlc;rw [h]
theorem zeo{R R':Rl}{xa xa':Option Addr}{xl xc xl' xc':Nat}(h:R.v=.slice xa xl xc)(h':R'.v=.slice xa' xl' xc'):(rlc R++rlc R').toArray=#[.int .i64 R.op,.int .i64 R.ask,.string ⟨R.nm.toArray⟩,.int .i64 R.wi,.int .i64 R.cm,.int .i64 R.n,.slice xa xl xc,.int .i64 R'.op,.int .i64 R'.ask,.string ⟨R'.nm.toArray⟩,.int .i64 R'.wi,.int .i64 R'.cm,.int .i64 R'.n,.slice xa' xl' xc']:=by
 unfold rlc;rw [h,h'];rfl
set_option maxHeartbeats 2000000 in
theorem zpw{w:World}{s:List UInt8}{p:Sx}{P:Sx→Rl→Prop}(hl:s.length < 4611686018427387904)(hi:p.i≤s.length)(h33:isR s p [33]=true)
  (ih:∀ w',Calls Tryz.prog 153 #[.agg #[.string ⟨s.toArray⟩,.int .i64 ((wantS s [33] p).i:Nat),.int .i64 ((wantS s [33] p).a:Nat),.int .i64 (wantS s [33] p).e]] w' (RcP s w' P)) :
  Calls Tryz.prog 153 #[.agg #[.string ⟨s.toArray⟩,.int .i64 (p.i:Nat),.int .i64 (p.a:Nat),.int .i64 p.e]] w (RcP s w fun q R=>∃ X R0,R=.mk 2 0 [] 0 0 0 (.slice (some ⟨X,0,none⟩) 1 1) [R0]∧P q R0):=by
 have K:=Kn.start w;have I33:∀ w',Calls Tryz.prog 122 #[.agg #[.string ⟨s.toArray⟩,.int .i64 (p.i:Nat),.int .i64 (p.a:Nat),.int .i64 p.e],.string ⟨[33].toArray⟩] w' (Vc.Ret (.bool true) w'):=fun w'=>by rw [← h33];exact ris hl hi (by decide) (znb (by decide))
 have W33:∀ w',Calls Tryz.prog 123 #[.agg #[.string ⟨s.toArray⟩,.int .i64 (p.i:Nat),.int .i64 (p.a:Nat),.int .i64 p.e],.string ⟨[33].toArray⟩] w' (Vc.Ret (.agg #[.string ⟨s.toArray⟩,.int .i64 ((wantS s [33] p).i:Nat),.int .i64 ((wantS s [33] p).a:Nat),.int .i64 (wantS s [33] p).e]) w'):=fun w'=>zii hl hi (by decide) (znb (by decide));generalize wantS s [33] p=p1 at ih W33
 go_enter Tryz.func153,Tryz.ntmps153
 go_upto_region 2 with (go_at_call 122;refine via (by repeat (first | exact K | apply Kn.push | apply Kn.drew)) (I33 _) ?_;clear K;(try clear hO);intro wN K hO;simp only [Opened,World.size_alloc,World.size_drew,World.size_setCell]at hO)
 have hO:=Kn.opened_of K.all;simp only [Opened,World.size_alloc,World.size_drew,World.size_setCell]at hO
 go_cut [4,5] (fun s4 s5 wx=>∃ (b4 b5:Nat) (q:Sx) (R:Rl) (xa:Option Addr) (xl xc:Nat),s4=.pointer (some ⟨b4,0,none⟩)∧s5=.pointer (some ⟨b5,0,none⟩)∧w.heap.size + 1 + 1 < b4∧b4 < b5∧R.v=.slice xa xl xc∧Rw (fun k=>w.heap.size + 1 + 1 + 1≤k) wx R∧P q R ∧
  Kn w wx [(b5,#[.int .i64 R.op,.int .i64 R.ask,.string ⟨R.nm.toArray⟩,.int .i64 R.wi,.int .i64 R.cm,.int .i64 R.n,.slice xa xl xc],30),(b4,#[.string ⟨s.toArray⟩,.int .i64 (q.i:Nat),.int .i64 (q.a:Nat),.int .i64 q.e],118),(w.heap.size + 1 + 1,#[.int .i64 0,.int .i64 0,.string ⟨#[]⟩,.int .i64 0,.int .i64 0,.int .i64 0,.slice none 0 0],30),(w.heap.size + 1,#[.string ⟨#[]⟩,.int .i64 0,.int .i64 0,.int .i64 0],118)])
 case first =>
  go_wp2_with (first | (go_at_call 123;refine via (by repeat (first | exact K | apply Kn.push | apply Kn.drew)) (W33 _) ?_;clear K;(try clear hO);intro wN K hO;simp only [Opened,World.size_alloc,World.size_drew,World.size_setCell]at hO) | (go_at_call 153;refine via2 (by repeat (first | exact K | apply Kn.push | apply Kn.skip | apply Kn.drew)) (ih _) ?_;have hsz:=zr (K.all _ (List.mem_cons_self ..));clear K hO;rintro _ wN ⟨q,R,xa,xl,xc,rfl,hv,hR,hP⟩ K hO;(try simp only [World.size_alloc,World.size_drew,World.size_setCell]at hR hsz);simp only [Opened,World.size_alloc,World.size_drew,World.size_setCell]at hO))
  have hge:=zr (K.all _ (List.mem_cons_self ..))
  go_meet
  refine⟨_,_,q,R,xa,xl,xc,rfl,rfl,by omega,by omega,hv, ?_,hP, ?_⟩
  ·refine (hR.next (by simp only [World.size_alloc,World.size_setCell];omega) (fun k _ hk => ?_)).mono (fun k _ h=>by omega);simp only [heap_alloc,zc,World.size_alloc,World.size_setCell];simp only [IntWalk.iteOmega,if_neg (show ¬ k=wN.heap.size by omega),if_neg (show ¬ k=wN.heap.size + 1 by omega)]
  ·exact (Kn.of (w0:=w) (by have B:=K.below;go_grown) (by simp only [Held,heap_alloc,zc,ze,World.size_alloc,World.size_drew,World.size_setCell,IntWalk.iteOmega,Wk.setObj,hO,Option.map_some,↓reduceIte,if_true,if_false,List.setIfInBounds_toArray,List.set_cons_zero,List.set_cons_succ,and_self,and_true] <;> (try trivial)))
 case rest =>
  obtain⟨b4,b5,q,R,xa,xl,xc,rfl,rfl,hb4,hb5,hv,hR,hP,K⟩:=hcut;have n1:b4≠w.heap.size + 1:=by omega
  have n2:b4≠w.heap.size + 1 + 1:=by omega
  have n3:b5≠w.heap.size + 1:=by omega
  have n4:b5≠w.heap.size + 1 + 1:=by omega
  have n5:w.heap.size + 1≠b4:=by omega
  have n6:w.heap.size + 1 + 1≠b4:=by omega
  have n7:w.heap.size + 1≠b5:=by omega
  have n8:w.heap.size + 1 + 1≠b5:=by omega
  clear ih I33 W33 h33;have hRh:=Hd.mk hR;have hPh:=Hd.mk hP;have hvh:=Hd.mk hv;clear hR hP hv;have hO:=Kn.opened_of K.all;simp only [Opened,World.size_alloc,World.size_drew,World.size_setCell]at hO
  go_upto_region 3 with fail
  go_region_held3 (fun w'=>w'.cell? ⟨b4,0,none⟩=some (.string ⟨s.toArray⟩)∧w'.cell? ⟨b4,1,none⟩=some (.int .i64 (q.i:Nat))∧w'.cell? ⟨b4,2,none⟩=some (.int .i64 (q.a:Nat))∧w'.cell? ⟨b4,3,none⟩=some (.int .i64 q.e)∧w'.cell? ⟨b5,0,none⟩=some (.int .i64 R.op)∧w'.cell? ⟨b5,1,none⟩=some (.int .i64 R.ask)∧w'.cell? ⟨b5,2,none⟩=some (.string ⟨R.nm.toArray⟩)∧w'.cell? ⟨b5,3,none⟩=some (.int .i64 R.wi)∧w'.cell? ⟨b5,4,none⟩=some (.int .i64 R.cm)∧w'.cell? ⟨b5,5,none⟩=some (.int .i64 R.n)∧w'.cell? ⟨b5,6,none⟩=some (.slice xa xl xc)) (simp [go_sem, *]) (fail)
  all_goals (go_step;go_step;go_step;go_step;go_step)
  all_goals (refine bodyPost_ret (by simp [results,Tryz.results153,go_sem,hO];try rfl) rfl ⟨?_,by have B:=K.below;go_grown⟩)
  all_goals refine⟨q,.mk 2 0 [] 0 0 0 (.slice (some ⟨wc.heap.size,0,none⟩) 1 1) [R],_,_,_,rfl,rfl, ?_,_,_,rfl,hPh.out⟩
  all_goals refine Rw.one ((hRh.out.next ?_ (fun k h1 h2 => ?_)).mono (fun k _ h => ?_)) ?_ ?_
  all_goals first
   | omega
   | (have:=K.below.size;omega)
   | (simp only [World.size_alloc,World.size_setCell,World.size_drew];omega)
   | (rw [znq hvh.out];simp only [heap_alloc,zc,ze,World.size_alloc,World.size_setCell,World.size_drew,IntWalk.iteOmega,↓reduceIte,if_true,if_false];done)
   | (simp only [heap_alloc,zc,ze,World.size_alloc,World.size_setCell,World.size_drew];repeat rw [if_neg (by omega)])
set_option maxHeartbeats 2000000 in
theorem zoy{w:World}{s:List UInt8}{p:Sx}{P:Sx→Rl→Prop}(hl:s.length < 4611686018427387904)(hi:p.i≤s.length)(h33:isR s p [33]=false)(h40:isR s p [40]=true)(hq:∀ q R,P q R→q.i≤s.length)
  (ih:∀ w',Calls Tryz.prog 63 #[.agg #[.string ⟨s.toArray⟩,.int .i64 ((wantS s [40] p).i:Nat),.int .i64 ((wantS s [40] p).a:Nat),.int .i64 (wantS s [40] p).e]] w' (RcP s w' P)) :
  Calls Tryz.prog 153 #[.agg #[.string ⟨s.toArray⟩,.int .i64 (p.i:Nat),.int .i64 (p.a:Nat),.int .i64 p.e]] w (RcP s w fun q' R=>∃ q,P q R∧q'=wantS s [41] q):=by
 have K:=Kn.start w;have I33:∀ w',Calls Tryz.prog 122 #[.agg #[.string ⟨s.toArray⟩,.int .i64 (p.i:Nat),.int .i64 (p.a:Nat),.int .i64 p.e],.string ⟨[33].toArray⟩] w' (Vc.Ret (.bool false) w'):=fun w'=>by rw [← h33];exact ris hl hi (by decide) (znb (by decide))
 have I40:∀ w',Calls Tryz.prog 122 #[.agg #[.string ⟨s.toArray⟩,.int .i64 (p.i:Nat),.int .i64 (p.a:Nat),.int .i64 p.e],.string ⟨[40].toArray⟩] w' (Vc.Ret (.bool true) w'):=fun w'=>by rw [← h40];exact ris hl hi (by decide) (znb (by decide))
 have W33:∀ w',Calls Tryz.prog 123 #[.agg #[.string ⟨s.toArray⟩,.int .i64 (p.i:Nat),.int .i64 (p.a:Nat),.int .i64 p.e],.string ⟨[40].toArray⟩] w' (Vc.Ret (.agg #[.string ⟨s.toArray⟩,.int .i64 ((wantS s [40] p).i:Nat),.int .i64 ((wantS s [40] p).a:Nat),.int .i64 (wantS s [40] p).e]) w'):=fun w'=>zii hl hi (by decide) (znb (by decide));generalize wantS s [40] p=p1 at ih W33
 go_enter Tryz.func153,Tryz.ntmps153
 go_upto_region 5 with (first | (go_at_call 122;refine via (by repeat (first | exact K | apply Kn.push | apply Kn.drew)) (I33 _) ?_;clear K;(try clear hO);intro wN K hO;simp only [Opened,World.size_alloc,World.size_drew,World.size_setCell]at hO) | (go_at_call 122;refine via (by repeat (first | exact K | apply Kn.push | apply Kn.drew)) (I40 _) ?_;clear K;(try clear hO);intro wN K hO;simp only [Opened,World.size_alloc,World.size_drew,World.size_setCell]at hO))
 have hO:=Kn.opened_of K.all;simp only [Opened,World.size_alloc,World.size_drew,World.size_setCell]at hO
 go_cut [6,7] (fun s6 s7 wx=>∃ (b4 b5:Nat) (q:Sx) (R:Rl) (xa:Option Addr) (xl xc:Nat),s6=.pointer (some ⟨b4,0,none⟩)∧s7=.pointer (some ⟨b5,0,none⟩)∧w.heap.size + 1 + 1 < b4∧b4 < b5∧R.v=.slice xa xl xc∧Rw (fun k=>w.heap.size + 1 + 1 + 1≤k) wx R∧P q R ∧
  Kn w wx [(b5,#[.int .i64 R.op,.int .i64 R.ask,.string ⟨R.nm.toArray⟩,.int .i64 R.wi,.int .i64 R.cm,.int .i64 R.n,.slice xa xl xc],30),(b4,#[.string ⟨s.toArray⟩,.int .i64 (q.i:Nat),.int .i64 (q.a:Nat),.int .i64 q.e],118),(w.heap.size + 1 + 1,#[.int .i64 0,.int .i64 0,.string ⟨#[]⟩,.int .i64 0,.int .i64 0,.int .i64 0,.slice none 0 0],30),(w.heap.size + 1,#[.string ⟨#[]⟩,.int .i64 0,.int .i64 0,.int .i64 0],118)])
 case first =>
  go_wp2_with (first | (go_at_call 123;refine via (by repeat (first | exact K | apply Kn.push | apply Kn.drew)) (W33 _) ?_;clear K;(try clear hO);intro wN K hO;simp only [Opened,World.size_alloc,World.size_drew,World.size_setCell]at hO) | (go_at_call 63;refine via2 (by repeat (first | exact K | apply Kn.push | apply Kn.skip | apply Kn.drew)) (ih _) ?_;have hsz:=zr (K.all _ (List.mem_cons_self ..));clear K hO;rintro _ wN ⟨q,R,xa,xl,xc,rfl,hv,hR,hP⟩ K hO;(try simp only [World.size_alloc,World.size_drew,World.size_setCell]at hR hsz);simp only [Opened,World.size_alloc,World.size_drew,World.size_setCell]at hO))
  have hge:=zr (K.all _ (List.mem_cons_self ..))
  go_meet
  refine⟨_,_,q,R,xa,xl,xc,rfl,rfl,by omega,by omega,hv, ?_,hP, ?_⟩
  ·refine (hR.next (by simp only [World.size_alloc,World.size_setCell];omega) (fun k _ hk => ?_)).mono (fun k _ h=>by omega);simp only [heap_alloc,zc,World.size_alloc,World.size_setCell];simp only [IntWalk.iteOmega,if_neg (show ¬ k=wN.heap.size by omega),if_neg (show ¬ k=wN.heap.size + 1 by omega)]
  ·exact (Kn.of (w0:=w) (by have B:=K.below;go_grown) (by simp only [Held,heap_alloc,zc,ze,World.size_alloc,World.size_drew,World.size_setCell,IntWalk.iteOmega,Wk.setObj,hO,Option.map_some,↓reduceIte,if_true,if_false,List.setIfInBounds_toArray,List.set_cons_zero,List.set_cons_succ,and_self,and_true] <;> (try trivial)))
 case rest =>
  obtain⟨b4,b5,q,R,xa,xl,xc,rfl,rfl,hb4,hb5,hv,hR,hP,K⟩:=hcut;have n1:b4≠w.heap.size + 1:=by omega
  have n2:b4≠w.heap.size + 1 + 1:=by omega
  have n3:b5≠w.heap.size + 1:=by omega
  have n4:b5≠w.heap.size + 1 + 1:=by omega
  have n5:w.heap.size + 1≠b4:=by omega
  have n6:w.heap.size + 1 + 1≠b4:=by omega
  have n7:w.heap.size + 1≠b5:=by omega
  have n8:w.heap.size + 1 + 1≠b5:=by omega
  clear ih I33 I40 W33 h33 h40;have hRh:=Hd.mk hR;have hPh:=Hd.mk hP;have W41:∀ w',Calls Tryz.prog 123 #[.agg #[.string ⟨s.toArray⟩,.int .i64 (q.i:Nat),.int .i64 (q.a:Nat),.int .i64 q.e],.string ⟨[41].toArray⟩] w' (Vc.Ret (.agg #[.string ⟨s.toArray⟩,.int .i64 ((wantS s [41] q).i:Nat),.int .i64 ((wantS s [41] q).a:Nat),.int .i64 (wantS s [41] q).e]) w'):=fun w'=>zii hl (hq q R hP) (by decide) (znb (by decide));clear hq;have hvh:=Hd.mk hv;clear hR hP hv;have hB0:=Hd.mk K.below;have K:=(⟨Below.refl wc.heap.size wc,K.all⟩:Kn wc wc _);have hO:=Kn.opened_of K.all;simp only [Opened,World.size_alloc,World.size_drew,World.size_setCell]at hO
  go_upto_region 6 with fail
  go_region_held3 (fun w'=>w'.cell? ⟨b4,0,none⟩=some (.string ⟨s.toArray⟩)∧w'.cell? ⟨b4,1,none⟩=some (.int .i64 (q.i:Nat))∧w'.cell? ⟨b4,2,none⟩=some (.int .i64 (q.a:Nat))∧w'.cell? ⟨b4,3,none⟩=some (.int .i64 q.e)∧w'.cell? ⟨b5,0,none⟩=some (.int .i64 R.op)∧w'.cell? ⟨b5,1,none⟩=some (.int .i64 R.ask)∧w'.cell? ⟨b5,2,none⟩=some (.string ⟨R.nm.toArray⟩)∧w'.cell? ⟨b5,3,none⟩=some (.int .i64 R.wi)∧w'.cell? ⟨b5,4,none⟩=some (.int .i64 R.cm)∧w'.cell? ⟨b5,5,none⟩=some (.int .i64 R.n)∧w'.cell? ⟨b5,6,none⟩=some (.slice xa xl xc)) (simp [go_sem, *]) (first | (go_at_call 123;refine via (by repeat (first | exact K | apply Kn.push | apply Kn.skip | apply Kn.drew)) (W41 _) ?_;have hsN:=K.below.size;clear K hO;intro wM K hO;simp only [Opened,World.size_alloc,World.size_drew,World.size_setCell]at hO))
  all_goals (go_step;go_step;go_step;go_step;go_step)
  all_goals (refine bodyPost_ret (by simp [results,Tryz.results153,go_sem,hO];try rfl) rfl ⟨?_,by have B:=hB0.out.trans (K.below.mono hB0.out.size);go_grown⟩)
  all_goals refine⟨wantS s [41] q,R,_,_,_,rfl,hvh.out, ?_,q,hPh.out,rfl⟩
  all_goals refine (hRh.out.next ?_ (fun k h1 h2 => ?_)).mono (fun k _ h => ?_)
  all_goals first
   | omega
   | (have:=K.below.size;simp only [World.size_alloc,World.size_setCell,World.size_drew];omega)
   | (have:=K.below.size;simp only [heap_alloc,zc,ze,World.size_alloc,World.size_setCell,World.size_drew];(repeat rw [if_neg (by omega)]);exact K.below.block k h2)
set_option maxHeartbeats 4000000 in
theorem rand{w:World}{s:List UInt8}{p:Sx}{J:Sx→Rl→Prop}(μ:Nat→Int→Nat)(hl:s.length < 4611686018427387904)(hJ:∀ q e,J q e→q.i≤s.length)
  (ih0:∀ w',Calls Tryz.prog 153 #[.agg #[.string ⟨s.toArray⟩,.int .i64 (p.i:Nat),.int .i64 (p.a:Nat),.int .i64 p.e]] w' (RcP s w' fun q R=>J q (erR R)))
  (ih:∀ q e,J q e→isR s q [38]=true→∀ w',Calls Tryz.prog 153 #[.agg #[.string ⟨s.toArray⟩,.int .i64 ((wantS s [38] q).i:Nat),.int .i64 ((wantS s [38] q).a:Nat),.int .i64 (wantS s [38] q).e]] w' (RcP s w' fun q' R'=>J q' (.mk 3 0 [] 0 0 0 nilV [e,erR R'])∧μ q'.i q'.e < μ q.i q.e)) :
  Calls Tryz.prog 121 #[.agg #[.string ⟨s.toArray⟩,.int .i64 (p.i:Nat),.int .i64 (p.a:Nat),.int .i64 p.e]] w (RcP s w fun q R=>J q (erR R)∧isR s q [38]=false):=by
 have K:=Kn.start w
 go_enter Tryz.func121,Tryz.ntmps121
 go_upto_region 1 with fail
 have hO:=Kn.opened_of K.all;simp only [Opened,World.size_alloc,World.size_drew,World.size_setCell]at hO
 go_cut [4] (fun s4 wx=>∃ (b4:Nat) (q:Sx) (R:Rl) (xa:Option Addr) (xl xc:Nat),s4=.pointer (some ⟨b4,0,none⟩)∧w.heap.size + 1 + 1 < b4∧R.v=.slice xa xl xc∧Rw (fun k=>w.heap.size + 1 + 1 + 1≤k∧k≠b4) wx R∧J q (erR R)∧Kn w wx [(b4,#[.int .i64 R.op,.int .i64 R.ask,.string ⟨R.nm.toArray⟩,.int .i64 R.wi,.int .i64 R.cm,.int .i64 R.n,.slice xa xl xc],30),(w.heap.size,#[.string ⟨s.toArray⟩,.int .i64 (q.i:Nat),.int .i64 (q.a:Nat),.int .i64 q.e],118),(w.heap.size + 1 + 1,#[.int .i64 0,.int .i64 0,.string ⟨#[]⟩,.int .i64 0,.int .i64 0,.int .i64 0,.slice none 0 0],30),(w.heap.size + 1,#[.string ⟨#[]⟩,.int .i64 0,.int .i64 0,.int .i64 0],118)])
 case first =>
  go_wp2_with (go_at_call 153;refine via2 (by repeat (first | exact K | apply Kn.push | apply Kn.skip | apply Kn.drew)) (ih0 _) ?_;clear K hO;rintro _ wN ⟨q,R,xa,xl,xc,rfl,hv,hR,hP⟩ K hO;(try simp only [World.size_alloc,World.size_drew,World.size_setCell]at hR);simp only [Opened,World.size_alloc,World.size_drew,World.size_setCell]at hO)
  have hge:=zr (K.all _ (List.mem_cons_self ..))
  go_meet
  refine⟨_,q,R,xa,xl,xc,rfl, ?_,hv, ?_,hP, ?_⟩
  ·omega
  ·refine (hR.mono (S':=fun k=>w.heap.size + 1 + 1 + 1≤k∧k≠wN.heap.size) (fun k hk h=>⟨h,by omega⟩)).next (by simp only [World.size_alloc,World.size_setCell];omega) (fun k h1 h2 => ?_);simp only [heap_alloc,zc,World.size_alloc,World.size_setCell]
   repeat rw [if_neg (by omega)]
  ·exact (Kn.of (w0:=w) (by have B:=K.below;go_grown) (by simp only [Held,heap_alloc,zc,ze,World.size_alloc,World.size_drew,World.size_setCell,IntWalk.iteOmega,Wk.setObj,hO,Option.map_some,↓reduceIte,if_true,if_false,List.setIfInBounds_toArray,List.set_cons_zero,List.set_cons_succ,and_self,and_true] <;> (try trivial)))
 case rest =>
  clear ih0;obtain⟨b4,q0,R0,ya,yl,yc,rfl,hb4,hv0,hR0,hP0,K⟩:=hcut;have h00:=Hd.mk (⟨q0,R0,ya,yl,yc,hv0,hR0,hP0,K⟩:∃ (q:Sx) (R:Rl) (xa:Option Addr) (xl xc:Nat),R.v=.slice xa xl xc∧Rw (fun k=>w.heap.size + 1 + 1 + 1≤k∧k≠b4) wc R∧J q (erR R)∧Kn w wc [(b4,#[.int .i64 R.op,.int .i64 R.ask,.string ⟨R.nm.toArray⟩,.int .i64 R.wi,.int .i64 R.cm,.int .i64 R.n,.slice xa xl xc],30),(w.heap.size,#[.string ⟨s.toArray⟩,.int .i64 (q.i:Nat),.int .i64 (q.a:Nat),.int .i64 q.e],118),(w.heap.size + 1 + 1,#[.int .i64 0,.int .i64 0,.string ⟨#[]⟩,.int .i64 0,.int .i64 0,.int .i64 0,.slice none 0 0],30),(w.heap.size + 1,#[.string ⟨#[]⟩,.int .i64 0,.int .i64 0,.int .i64 0],118)]);clear hv0 hR0 hP0;clear hO
  go_wp2
  go_loopw [] (fun wr=>∃ (q:Sx) (R:Rl) (xa:Option Addr) (xl xc:Nat),R.v=.slice xa xl xc∧Rw (fun k=>w.heap.size + 1 + 1 + 1≤k∧k≠b4) wr R∧J q (erR R)∧Kn w wr [(b4,#[.int .i64 R.op,.int .i64 R.ask,.string ⟨R.nm.toArray⟩,.int .i64 R.wi,.int .i64 R.cm,.int .i64 R.n,.slice xa xl xc],30),(w.heap.size,#[.string ⟨s.toArray⟩,.int .i64 (q.i:Nat),.int .i64 (q.a:Nat),.int .i64 q.e],118),(w.heap.size + 1 + 1,#[.int .i64 0,.int .i64 0,.string ⟨#[]⟩,.int .i64 0,.int .i64 0,.int .i64 0,.slice none 0 0],30),(w.heap.size + 1,#[.string ⟨#[]⟩,.int .i64 0,.int .i64 0,.int .i64 0],118)]) (fun wr=>μ (match wr.cell? ⟨w.heap.size,1,none⟩with | some v=>(intOf v).toNat | none=>0) (match wr.cell? ⟨w.heap.size,3,none⟩with | some v=>intOf v | none=>0))
  case atStart=>exact h00.out
  case round =>
   clear K h00;obtain⟨q,R,xa,xl,xc,hv,hR,hP,K⟩:=hrel;have hqi:=hJ q _ hP;by_cases hg:isR s q [38]=true
   ·have I1:∀ w',Calls Tryz.prog 122 #[.agg #[.string ⟨s.toArray⟩,.int .i64 (q.i:Nat),.int .i64 (q.a:Nat),.int .i64 q.e],.string ⟨[38].toArray⟩] w' (Vc.Ret (.bool true) w'):=fun w'=>by rw [← hg];exact ris hl hqi (by decide) (znb (by decide))
    have W1:∀ w',Calls Tryz.prog 123 #[.agg #[.string ⟨s.toArray⟩,.int .i64 (q.i:Nat),.int .i64 (q.a:Nat),.int .i64 q.e],.string ⟨[38].toArray⟩] w' (Vc.Ret (.agg #[.string ⟨s.toArray⟩,.int .i64 ((wantS s [38] q).i:Nat),.int .i64 ((wantS s [38] q).a:Nat),.int .i64 (wantS s [38] q).e]) w'):=fun w'=>zii hl hqi (by decide) (znb (by decide));have IH:=ih q _ hP hg;have hRh:=Hd.mk hR;have hPh:=Hd.mk hP;have hvh:=Hd.mk hv;clear hR hP hv ih hJ;have hB0:=Hd.mk K.below;have hsb:=zr (K.all _ (List.mem_cons_self ..))
    have c0:wr.cell? ⟨w.heap.size,1,none⟩=some (.int .i64 (q.i:Nat))∧wr.cell? ⟨w.heap.size,3,none⟩=some (.int .i64 q.e):=by
     have:=K.all _ (List.mem_cons_of_mem _ (List.mem_cons_self ..))
     simp [World.cell?,this]
    have c0:=Hd.mk c0;have K:=(⟨Below.refl wr.heap.size wr,K.all⟩:Kn wr wr _);have hO:=Kn.opened_of K.all;simp only [Opened,World.size_alloc,World.size_drew,World.size_setCell]at hO
    go_wp2_with (first | (go_at_call 122;refine via (by repeat (first | exact K | apply Kn.push | apply Kn.drew)) (I1 _) ?_;clear K;(try clear hO);intro wN K hO;simp only [Opened,World.size_alloc,World.size_drew,World.size_setCell]at hO) | (go_at_call 123;refine via (by repeat (first | exact K | apply Kn.push | apply Kn.drew)) (W1 _) ?_;clear K;(try clear hO);intro wN K hO;simp only [Opened,World.size_alloc,World.size_drew,World.size_setCell]at hO) | (go_at_call 153;refine via2 (by repeat (first | exact K | apply Kn.push | apply Kn.skip | apply Kn.drew)) (IH _) ?_;have hsz:=K.below.size;clear K hO;rintro _ wN ⟨q',R',xa',xl',xc',rfl,hv',hR',hP'⟩ K hO;(try simp only [World.size_alloc,World.size_drew,World.size_setCell]at hR');simp only [Opened,World.size_alloc,World.size_drew,World.size_setCell]at hO))
    have hK2:=K.below;have hge:=zr (K.all _ (List.mem_cons_self ..))
    have fin:∀ WF:World,Rw (fun k=>w.heap.size + 1 + 1 + 1≤k∧k≠b4) WF (.mk 3 0 [] 0 0 0 (.slice (some ⟨wN.heap.size + 1 + 1,0,none⟩) 2 2) [R,R']:Rl)→Kn w WF [(b4,#[.int .i64 3,.int .i64 0,.string ⟨#[]⟩,.int .i64 0,.int .i64 0,.int .i64 0,.slice (some ⟨wN.heap.size + 1 + 1,0,none⟩) 2 2],30),(w.heap.size,#[.string ⟨s.toArray⟩,.int .i64 (q'.i:Nat),.int .i64 (q'.a:Nat),.int .i64 q'.e],118),(w.heap.size + 1 + 1,#[.int .i64 0,.int .i64 0,.string ⟨#[]⟩,.int .i64 0,.int .i64 0,.int .i64 0,.slice none 0 0],30),(w.heap.size + 1,#[.string ⟨#[]⟩,.int .i64 0,.int .i64 0,.int .i64 0],118)] →
      (∃ (q:Sx) (R:Rl) (xa:Option Addr) (xl xc:Nat),R.v=.slice xa xl xc∧Rw (fun k=>w.heap.size + 1 + 1 + 1≤k∧k≠b4) WF R∧J q (erR R)∧Kn w WF [(b4,#[.int .i64 R.op,.int .i64 R.ask,.string ⟨R.nm.toArray⟩,.int .i64 R.wi,.int .i64 R.cm,.int .i64 R.n,.slice xa xl xc],30),(w.heap.size,#[.string ⟨s.toArray⟩,.int .i64 (q.i:Nat),.int .i64 (q.a:Nat),.int .i64 q.e],118),(w.heap.size + 1 + 1,#[.int .i64 0,.int .i64 0,.string ⟨#[]⟩,.int .i64 0,.int .i64 0,.int .i64 0,.slice none 0 0],30),(w.heap.size + 1,#[.string ⟨#[]⟩,.int .i64 0,.int .i64 0,.int .i64 0],118)])∧μ (match WF.cell? ⟨w.heap.size,1,none⟩with | some v=>(intOf v).toNat | none=>0) (match WF.cell? ⟨w.heap.size,3,none⟩with | some v=>intOf v | none=>0) < μ (match wr.cell? ⟨w.heap.size,1,none⟩with | some v=>(intOf v).toNat | none=>0) (match wr.cell? ⟨w.heap.size,3,none⟩with | some v=>intOf v | none=>0):=fun WF hRF hKF=>by
     refine⟨⟨q',_,_,_,_,rfl,hRF, ?_,hKF⟩, ?_⟩
     ·have:=hP'.1
      simpa only [erR,erL]using this
     ·have c1:WF.cell? ⟨w.heap.size,1,none⟩=some (.int .i64 (q'.i:Nat))∧WF.cell? ⟨w.heap.size,3,none⟩=some (.int .i64 q'.e):=by
       have:=hKF.all _ (List.mem_cons_of_mem _ (List.mem_cons_self ..))
       simp [World.cell?,this]
      rw [c1.1,c0.out.1,c1.2,c0.out.2];simpa [intOf]using hP'.2
    refine fin _ (Rw.two ((hRh.out.next ?_ (fun k h1 h2 => ?_))) ((hR'.mono (S':=fun k=>w.heap.size + 1 + 1 + 1≤k∧k≠b4) (fun k hk h => ?_)).next ?_ (fun k h1 h2 => ?_)) ?_ ?_) ?_
    ·have:=hK2.size;simp only [World.size_alloc,World.size_setCell];omega
    ·have:=hK2.size;simp only [heap_alloc,zc,World.size_alloc,World.size_setCell];(repeat rw [if_neg (by omega)]);exact hK2.block k h2
    ·have h':_≤k:=h;omega
    ·simp only [World.size_alloc,World.size_setCell];omega
    ·simp only [heap_alloc,zc,World.size_alloc,World.size_setCell];repeat rw [if_neg (by omega)]
    ·have:=hK2.size;omega
    ·rw [zeo hvh.out hv'];simp only [heap_alloc,zc,World.size_alloc,World.size_setCell,IntWalk.iteOmega,↓reduceIte,if_true,if_false]
    ·exact (Kn.of (w0:=w) (by have B:=hB0.out.trans (K.below.mono hB0.out.size);go_grown) (by simp only [Held,heap_alloc,zc,ze,World.size_alloc,World.size_drew,World.size_setCell,IntWalk.iteOmega,Wk.setObj,hO,Option.map_some,↓reduceIte,if_true,if_false,List.setIfInBounds_toArray,List.set_cons_zero,List.set_cons_succ,and_self,and_true] <;> (try trivial)))
   ·have hgf:=Bool.eq_false_iff.2 hg;have I1:∀ w',Calls Tryz.prog 122 #[.agg #[.string ⟨s.toArray⟩,.int .i64 (q.i:Nat),.int .i64 (q.a:Nat),.int .i64 q.e],.string ⟨[38].toArray⟩] w' (Vc.Ret (.bool false) w'):=fun w'=>by rw [← hgf];exact ris hl hqi (by decide) (znb (by decide))
    have hRh:=Hd.mk hR;have hPh:=Hd.mk hP;have hvh:=Hd.mk hv;clear hR hP hv ih hJ hg;have hB0:=Hd.mk K.below;have hsb:=zr (K.all _ (List.mem_cons_self ..));have n1:b4≠w.heap.size + 1:=by omega
    have n2:b4≠w.heap.size + 1 + 1:=by omega
    have n5:w.heap.size + 1≠b4:=by omega
    have n6:w.heap.size + 1 + 1≠b4:=by omega
    have n7:w.heap.size≠w.heap.size + 1:=by omega
    have n8:w.heap.size≠w.heap.size + 1 + 1:=by omega
    have K:=(⟨Below.refl wr.heap.size wr,K.all⟩:Kn wr wr _);have hO:=Kn.opened_of K.all;simp only [Opened,World.size_alloc,World.size_drew,World.size_setCell]at hO
    go_upto_region 6 with (go_at_call 122;refine via (by repeat (first | exact K | apply Kn.push | apply Kn.drew)) (I1 _) ?_;clear K;(try clear hO);intro wN K hO;simp only [Opened,World.size_alloc,World.size_drew,World.size_setCell]at hO)
    clear I1
    go_region_held3 (fun w'=>w'.cell? ⟨w.heap.size,0,none⟩=some (.string ⟨s.toArray⟩)∧w'.cell? ⟨w.heap.size,1,none⟩=some (.int .i64 (q.i:Nat))∧w'.cell? ⟨w.heap.size,2,none⟩=some (.int .i64 (q.a:Nat))∧w'.cell? ⟨w.heap.size,3,none⟩=some (.int .i64 q.e)∧w'.cell? ⟨b4,0,none⟩=some (.int .i64 R.op)∧w'.cell? ⟨b4,1,none⟩=some (.int .i64 R.ask)∧w'.cell? ⟨b4,2,none⟩=some (.string ⟨R.nm.toArray⟩)∧w'.cell? ⟨b4,3,none⟩=some (.int .i64 R.wi)∧w'.cell? ⟨b4,4,none⟩=some (.int .i64 R.cm)∧w'.cell? ⟨b4,5,none⟩=some (.int .i64 R.n)∧w'.cell? ⟨b4,6,none⟩=some (.slice xa xl xc)) (simp [go_sem, *]) (fail)
    all_goals (repeat go_step)
    all_goals (refine bodyPost_ret (by simp [results,Tryz.results121,go_sem,hO];try rfl) rfl ⟨?_,by have B:=hB0.out.trans (K.below.mono hB0.out.size);go_grown⟩)
    all_goals refine⟨q,R,_,_,_,rfl,hvh.out, ?_,hPh.out,hgf⟩
    all_goals refine (hRh.out.next ?_ (fun k h1 h2 => ?_)).mono (fun k _ h => ?_)
    all_goals first
     | omega
     | (have:=K.below.size;simp only [World.size_alloc,World.size_setCell,World.size_drew];omega)
     | (have:=K.below.size;simp only [heap_alloc,zc,ze,World.size_alloc,World.size_setCell,World.size_drew];(repeat rw [if_neg (by omega)]);exact K.below.block k h2)
set_option maxHeartbeats 4000000 in
theorem ror{w:World}{s:List UInt8}{p:Sx}{J:Sx→Rl→Prop}(μ:Nat→Int→Nat)(hl:s.length < 4611686018427387904)(hJ:∀ q e,J q e→q.i≤s.length)
  (ih0:∀ w',Calls Tryz.prog 121 #[.agg #[.string ⟨s.toArray⟩,.int .i64 (p.i:Nat),.int .i64 (p.a:Nat),.int .i64 p.e]] w' (RcP s w' fun q R=>J q (erR R)))
  (ih:∀ q e,J q e→isR s q [124]=true→∀ w',Calls Tryz.prog 121 #[.agg #[.string ⟨s.toArray⟩,.int .i64 ((wantS s [124] q).i:Nat),.int .i64 ((wantS s [124] q).a:Nat),.int .i64 (wantS s [124] q).e]] w' (RcP s w' fun q' R'=>J q' (.mk 4 0 [] 0 0 0 nilV [e,erR R'])∧μ q'.i q'.e < μ q.i q.e)) :
  Calls Tryz.prog 63 #[.agg #[.string ⟨s.toArray⟩,.int .i64 (p.i:Nat),.int .i64 (p.a:Nat),.int .i64 p.e]] w (RcP s w fun q R=>J q (erR R)∧isR s q [124]=false):=by
 have K:=Kn.start w
 go_enter Tryz.func63,Tryz.ntmps63
 go_upto_region 1 with fail
 have hO:=Kn.opened_of K.all;simp only [Opened,World.size_alloc,World.size_drew,World.size_setCell]at hO
 go_cut [4] (fun s4 wx=>∃ (b4:Nat) (q:Sx) (R:Rl) (xa:Option Addr) (xl xc:Nat),s4=.pointer (some ⟨b4,0,none⟩)∧w.heap.size + 1 + 1 < b4∧R.v=.slice xa xl xc∧Rw (fun k=>w.heap.size + 1 + 1 + 1≤k∧k≠b4) wx R∧J q (erR R)∧Kn w wx [(b4,#[.int .i64 R.op,.int .i64 R.ask,.string ⟨R.nm.toArray⟩,.int .i64 R.wi,.int .i64 R.cm,.int .i64 R.n,.slice xa xl xc],30),(w.heap.size,#[.string ⟨s.toArray⟩,.int .i64 (q.i:Nat),.int .i64 (q.a:Nat),.int .i64 q.e],118),(w.heap.size + 1 + 1,#[.int .i64 0,.int .i64 0,.string ⟨#[]⟩,.int .i64 0,.int .i64 0,.int .i64 0,.slice none 0 0],30),(w.heap.size + 1,#[.string ⟨#[]⟩,.int .i64 0,.int .i64 0,.int .i64 0],118)])
 case first =>
  go_wp2_with (go_at_call 121;refine via2 (by repeat (first | exact K | apply Kn.push | apply Kn.skip | apply Kn.drew)) (ih0 _) ?_;clear K hO;rintro _ wN ⟨q,R,xa,xl,xc,rfl,hv,hR,hP⟩ K hO;(try simp only [World.size_alloc,World.size_drew,World.size_setCell]at hR);simp only [Opened,World.size_alloc,World.size_drew,World.size_setCell]at hO)
  have hge:=zr (K.all _ (List.mem_cons_self ..))
  go_meet
  refine⟨_,q,R,xa,xl,xc,rfl, ?_,hv, ?_,hP, ?_⟩
  ·omega
  ·refine (hR.mono (S':=fun k=>w.heap.size + 1 + 1 + 1≤k∧k≠wN.heap.size) (fun k hk h=>⟨h,by omega⟩)).next (by simp only [World.size_alloc,World.size_setCell];omega) (fun k h1 h2 => ?_);simp only [heap_alloc,zc,World.size_alloc,World.size_setCell]
   repeat rw [if_neg (by omega)]
  ·exact (Kn.of (w0:=w) (by have B:=K.below;go_grown) (by simp only [Held,heap_alloc,zc,ze,World.size_alloc,World.size_drew,World.size_setCell,IntWalk.iteOmega,Wk.setObj,hO,Option.map_some,↓reduceIte,if_true,if_false,List.setIfInBounds_toArray,List.set_cons_zero,List.set_cons_succ,and_self,and_true] <;> (try trivial)))
 case rest =>
  clear ih0;obtain⟨b4,q0,R0,ya,yl,yc,rfl,hb4,hv0,hR0,hP0,K⟩:=hcut;have h00:=Hd.mk (⟨q0,R0,ya,yl,yc,hv0,hR0,hP0,K⟩:∃ (q:Sx) (R:Rl) (xa:Option Addr) (xl xc:Nat),R.v=.slice xa xl xc∧Rw (fun k=>w.heap.size + 1 + 1 + 1≤k∧k≠b4) wc R∧J q (erR R)∧Kn w wc [(b4,#[.int .i64 R.op,.int .i64 R.ask,.string ⟨R.nm.toArray⟩,.int .i64 R.wi,.int .i64 R.cm,.int .i64 R.n,.slice xa xl xc],30),(w.heap.size,#[.string ⟨s.toArray⟩,.int .i64 (q.i:Nat),.int .i64 (q.a:Nat),.int .i64 q.e],118),(w.heap.size + 1 + 1,#[.int .i64 0,.int .i64 0,.string ⟨#[]⟩,.int .i64 0,.int .i64 0,.int .i64 0,.slice none 0 0],30),(w.heap.size + 1,#[.string ⟨#[]⟩,.int .i64 0,.int .i64 0,.int .i64 0],118)]);clear hv0 hR0 hP0;clear hO
  go_wp2
  go_loopw [] (fun wr=>∃ (q:Sx) (R:Rl) (xa:Option Addr) (xl xc:Nat),R.v=.slice xa xl xc∧Rw (fun k=>w.heap.size + 1 + 1 + 1≤k∧k≠b4) wr R∧J q (erR R)∧Kn w wr [(b4,#[.int .i64 R.op,.int .i64 R.ask,.string ⟨R.nm.toArray⟩,.int .i64 R.wi,.int .i64 R.cm,.int .i64 R.n,.slice xa xl xc],30),(w.heap.size,#[.string ⟨s.toArray⟩,.int .i64 (q.i:Nat),.int .i64 (q.a:Nat),.int .i64 q.e],118),(w.heap.size + 1 + 1,#[.int .i64 0,.int .i64 0,.string ⟨#[]⟩,.int .i64 0,.int .i64 0,.int .i64 0,.slice none 0 0],30),(w.heap.size + 1,#[.string ⟨#[]⟩,.int .i64 0,.int .i64 0,.int .i64 0],118)]) (fun wr=>μ (match wr.cell? ⟨w.heap.size,1,none⟩with | some v=>(intOf v).toNat | none=>0) (match wr.cell? ⟨w.heap.size,3,none⟩with | some v=>intOf v | none=>0))
  case atStart=>exact h00.out
  case round =>
   clear K h00;obtain⟨q,R,xa,xl,xc,hv,hR,hP,K⟩:=hrel;have hqi:=hJ q _ hP;by_cases hg:isR s q [124]=true
   ·have I1:∀ w',Calls Tryz.prog 122 #[.agg #[.string ⟨s.toArray⟩,.int .i64 (q.i:Nat),.int .i64 (q.a:Nat),.int .i64 q.e],.string ⟨[124].toArray⟩] w' (Vc.Ret (.bool true) w'):=fun w'=>by rw [← hg];exact ris hl hqi (by decide) (znb (by decide))
    have W1:∀ w',Calls Tryz.prog 123 #[.agg #[.string ⟨s.toArray⟩,.int .i64 (q.i:Nat),.int .i64 (q.a:Nat),.int .i64 q.e],.string ⟨[124].toArray⟩] w' (Vc.Ret (.agg #[.string ⟨s.toArray⟩,.int .i64 ((wantS s [124] q).i:Nat),.int .i64 ((wantS s [124] q).a:Nat),.int .i64 (wantS s [124] q).e]) w'):=fun w'=>zii hl hqi (by decide) (znb (by decide));have IH:=ih q _ hP hg;have hRh:=Hd.mk hR;have hPh:=Hd.mk hP;have hvh:=Hd.mk hv;clear hR hP hv ih hJ;have hB0:=Hd.mk K.below;have hsb:=zr (K.all _ (List.mem_cons_self ..))
    have c0:wr.cell? ⟨w.heap.size,1,none⟩=some (.int .i64 (q.i:Nat))∧wr.cell? ⟨w.heap.size,3,none⟩=some (.int .i64 q.e):=by
     have:=K.all _ (List.mem_cons_of_mem _ (List.mem_cons_self ..))
     simp [World.cell?,this]
    have c0:=Hd.mk c0;have K:=(⟨Below.refl wr.heap.size wr,K.all⟩:Kn wr wr _);have hO:=Kn.opened_of K.all;simp only [Opened,World.size_alloc,World.size_drew,World.size_setCell]at hO
    go_wp2_with (first | (go_at_call 122;refine via (by repeat (first | exact K | apply Kn.push | apply Kn.drew)) (I1 _) ?_;clear K;(try clear hO);intro wN K hO;simp only [Opened,World.size_alloc,World.size_drew,World.size_setCell]at hO) | (go_at_call 123;refine via (by repeat (first | exact K | apply Kn.push | apply Kn.drew)) (W1 _) ?_;clear K;(try clear hO);intro wN K hO;simp only [Opened,World.size_alloc,World.size_drew,World.size_setCell]at hO) | (go_at_call 121;refine via2 (by repeat (first | exact K | apply Kn.push | apply Kn.skip | apply Kn.drew)) (IH _) ?_;have hsz:=K.below.size;clear K hO;rintro _ wN ⟨q',R',xa',xl',xc',rfl,hv',hR',hP'⟩ K hO;(try simp only [World.size_alloc,World.size_drew,World.size_setCell]at hR');simp only [Opened,World.size_alloc,World.size_drew,World.size_setCell]at hO))
    have hK2:=K.below;have hge:=zr (K.all _ (List.mem_cons_self ..))
    have fin:∀ WF:World,Rw (fun k=>w.heap.size + 1 + 1 + 1≤k∧k≠b4) WF (.mk 4 0 [] 0 0 0 (.slice (some ⟨wN.heap.size + 1 + 1,0,none⟩) 2 2) [R,R']:Rl)→Kn w WF [(b4,#[.int .i64 4,.int .i64 0,.string ⟨#[]⟩,.int .i64 0,.int .i64 0,.int .i64 0,.slice (some ⟨wN.heap.size + 1 + 1,0,none⟩) 2 2],30),(w.heap.size,#[.string ⟨s.toArray⟩,.int .i64 (q'.i:Nat),.int .i64 (q'.a:Nat),.int .i64 q'.e],118),(w.heap.size + 1 + 1,#[.int .i64 0,.int .i64 0,.string ⟨#[]⟩,.int .i64 0,.int .i64 0,.int .i64 0,.slice none 0 0],30),(w.heap.size + 1,#[.string ⟨#[]⟩,.int .i64 0,.int .i64 0,.int .i64 0],118)] →
      (∃ (q:Sx) (R:Rl) (xa:Option Addr) (xl xc:Nat),R.v=.slice xa xl xc∧Rw (fun k=>w.heap.size + 1 + 1 + 1≤k∧k≠b4) WF R∧J q (erR R)∧Kn w WF [(b4,#[.int .i64 R.op,.int .i64 R.ask,.string ⟨R.nm.toArray⟩,.int .i64 R.wi,.int .i64 R.cm,.int .i64 R.n,.slice xa xl xc],30),(w.heap.size,#[.string ⟨s.toArray⟩,.int .i64 (q.i:Nat),.int .i64 (q.a:Nat),.int .i64 q.e],118),(w.heap.size + 1 + 1,#[.int .i64 0,.int .i64 0,.string ⟨#[]⟩,.int .i64 0,.int .i64 0,.int .i64 0,.slice none 0 0],30),(w.heap.size + 1,#[.string ⟨#[]⟩,.int .i64 0,.int .i64 0,.int .i64 0],118)])∧μ (match WF.cell? ⟨w.heap.size,1,none⟩with | some v=>(intOf v).toNat | none=>0) (match WF.cell? ⟨w.heap.size,3,none⟩with | some v=>intOf v | none=>0) < μ (match wr.cell? ⟨w.heap.size,1,none⟩with | some v=>(intOf v).toNat | none=>0) (match wr.cell? ⟨w.heap.size,3,none⟩with | some v=>intOf v | none=>0):=fun WF hRF hKF=>by
     refine⟨⟨q',_,_,_,_,rfl,hRF, ?_,hKF⟩, ?_⟩
     ·have:=hP'.1
      simpa only [erR,erL]using this
     ·have c1:WF.cell? ⟨w.heap.size,1,none⟩=some (.int .i64 (q'.i:Nat))∧WF.cell? ⟨w.heap.size,3,none⟩=some (.int .i64 q'.e):=by
       have:=hKF.all _ (List.mem_cons_of_mem _ (List.mem_cons_self ..))
       simp [World.cell?,this]
      rw [c1.1,c0.out.1,c1.2,c0.out.2];simpa [intOf]using hP'.2
    refine fin _ (Rw.two ((hRh.out.next ?_ (fun k h1 h2 => ?_))) ((hR'.mono (S':=fun k=>w.heap.size + 1 + 1 + 1≤k∧k≠b4) (fun k hk h => ?_)).next ?_ (fun k h1 h2 => ?_)) ?_ ?_) ?_
    ·have:=hK2.size;simp only [World.size_alloc,World.size_setCell];omega
    ·have:=hK2.size;simp only [heap_alloc,zc,World.size_alloc,World.size_setCell];(repeat rw [if_neg (by omega)]);exact hK2.block k h2
    ·have h':_≤k:=h;omega
    ·simp only [World.size_alloc,World.size_setCell];omega
    ·simp only [heap_alloc,zc,World.size_alloc,World.size_setCell];repeat rw [if_neg (by omega)]
    ·have:=hK2.size;omega
    ·rw [zeo hvh.out hv'];simp only [heap_alloc,zc,World.size_alloc,World.size_setCell,IntWalk.iteOmega,↓reduceIte,if_true,if_false]
    ·exact (Kn.of (w0:=w) (by have B:=hB0.out.trans (K.below.mono hB0.out.size);go_grown) (by simp only [Held,heap_alloc,zc,ze,World.size_alloc,World.size_drew,World.size_setCell,IntWalk.iteOmega,Wk.setObj,hO,Option.map_some,↓reduceIte,if_true,if_false,List.setIfInBounds_toArray,List.set_cons_zero,List.set_cons_succ,and_self,and_true] <;> (try trivial)))
   ·have hgf:=Bool.eq_false_iff.2 hg;have I1:∀ w',Calls Tryz.prog 122 #[.agg #[.string ⟨s.toArray⟩,.int .i64 (q.i:Nat),.int .i64 (q.a:Nat),.int .i64 q.e],.string ⟨[124].toArray⟩] w' (Vc.Ret (.bool false) w'):=fun w'=>by rw [← hgf];exact ris hl hqi (by decide) (znb (by decide))
    have hRh:=Hd.mk hR;have hPh:=Hd.mk hP;have hvh:=Hd.mk hv;clear hR hP hv ih hJ hg;have hB0:=Hd.mk K.below;have hsb:=zr (K.all _ (List.mem_cons_self ..));have n1:b4≠w.heap.size + 1:=by omega
    have n2:b4≠w.heap.size + 1 + 1:=by omega
    have n5:w.heap.size + 1≠b4:=by omega
    have n6:w.heap.size + 1 + 1≠b4:=by omega
    have n7:w.heap.size≠w.heap.size + 1:=by omega
    have n8:w.heap.size≠w.heap.size + 1 + 1:=by omega
    have K:=(⟨Below.refl wr.heap.size wr,K.all⟩:Kn wr wr _);have hO:=Kn.opened_of K.all;simp only [Opened,World.size_alloc,World.size_drew,World.size_setCell]at hO
    go_upto_region 6 with (go_at_call 122;refine via (by repeat (first | exact K | apply Kn.push | apply Kn.drew)) (I1 _) ?_;clear K;(try clear hO);intro wN K hO;simp only [Opened,World.size_alloc,World.size_drew,World.size_setCell]at hO)
    clear I1
    go_region_held3 (fun w'=>w'.cell? ⟨w.heap.size,0,none⟩=some (.string ⟨s.toArray⟩)∧w'.cell? ⟨w.heap.size,1,none⟩=some (.int .i64 (q.i:Nat))∧w'.cell? ⟨w.heap.size,2,none⟩=some (.int .i64 (q.a:Nat))∧w'.cell? ⟨w.heap.size,3,none⟩=some (.int .i64 q.e)∧w'.cell? ⟨b4,0,none⟩=some (.int .i64 R.op)∧w'.cell? ⟨b4,1,none⟩=some (.int .i64 R.ask)∧w'.cell? ⟨b4,2,none⟩=some (.string ⟨R.nm.toArray⟩)∧w'.cell? ⟨b4,3,none⟩=some (.int .i64 R.wi)∧w'.cell? ⟨b4,4,none⟩=some (.int .i64 R.cm)∧w'.cell? ⟨b4,5,none⟩=some (.int .i64 R.n)∧w'.cell? ⟨b4,6,none⟩=some (.slice xa xl xc)) (simp [go_sem, *]) (fail)
    all_goals (repeat go_step)
    all_goals (refine bodyPost_ret (by simp [results,Tryz.results63,go_sem,hO];try rfl) rfl ⟨?_,by have B:=hB0.out.trans (K.below.mono hB0.out.size);go_grown⟩)
    all_goals refine⟨q,R,_,_,_,rfl,hvh.out, ?_,hPh.out,hgf⟩
    all_goals refine (hRh.out.next ?_ (fun k h1 h2 => ?_)).mono (fun k _ h => ?_)
    all_goals first
     | omega
     | (have:=K.below.size;simp only [World.size_alloc,World.size_setCell,World.size_drew];omega)
     | (have:=K.below.size;simp only [heap_alloc,zc,ze,World.size_alloc,World.size_setCell,World.size_drew];(repeat rw [if_neg (by omega)]);exact K.below.block k h2)
end Go.Proofs.YtdjgnbkclcjiiaaGreatDoor
