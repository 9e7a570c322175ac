import Derived.Test.YtdjgnbkclcjiiaaGreatDoorSf
import Derived.Test.YtdjgnbkclcjiiaaGreatDoorSc
import Derived.Test.YtdjgnbkclcjiiaaGreatDoorIns
import Derived.Deep.RegionWith
import Derived.Deep.RegionHeld3
set_option linter.unusedVariables false
set_option linter.unusedSimpArgs false
set_option maxRecDepth 100000
namespace Go.Proofs.YtdjgnbkclcjiiaaGreatDoor
open Go Go.RowKit Go.Proofs Wk
open Vc (SlAt OV iteI Vl zrc zf zcb)
attribute [local irreducible] Go.Calls
attribute [local irreducible] wpQuiet
theorem zas{w0 w:World}{L:List (Nat × Array Value × TypeId)}{b:Nat}{C:Array Value}{T:TypeId}(K:Kn w0 w L)(h:w.heap[b]? = some (.cells C T)):Kn w0 w ((b,C,T)::L) :=
 ⟨K.below,fun p hp=>by
  rcases List.mem_cons.1 hp with rfl | hp
  ·exact h
  ·exact K.all p hp⟩
set_option maxHeartbeats 1000000 in
theorem pnot{W:World}{op ask wi cm n:Int}{s:ByteArray}{sa:Option Addr}{sl sc:Nat}:Calls Tryz.prog 31 #[.agg #[.int .i64 op,.int .i64 ask,.string s,.int .i64 wi,.int .i64 cm,.int .i64 n,.slice sa sl sc]] W (fun e w'=>(∃ X,e=.returned (.agg #[.int .i64 2,.int .i64 0,.string ⟨#[]⟩,.int .i64 0,.int .i64 0,.int .i64 0,.slice (some ⟨X,0,none⟩) 1 1])∧W.heap.size≤X∧w'.heap[X]? = some (.cells #[.int .i64 op,.int .i64 ask,.string s,.int .i64 wi,.int .i64 cm,.int .i64 n,.slice sa sl sc] 30))∧Below W.heap.size W w'):=by
 have K:=Kn.start W
 go_enter Tryz.func31,Tryz.ntmps31
 go_wp2
 refine bodyPost_ret (by simp [results,Tryz.results31,go_sem];try rfl) rfl ⟨⟨_,rfl, ?_, ?_⟩,by have B:=K.below;go_grown⟩
 ·omega
 ·simp only [heap_alloc,zti,zgp,World.size_alloc,World.size_drew,World.size_setCell];rw [if_pos trivial]
theorem zuw{l:List Sn}{k:Nat}{z:Sn}(hz:l[k]? = some z)(now:Int):((l.take (k + 1)).filter fun s=>decide (s.t≤now))=((l.take k).filter fun s=>decide (s.t≤now))++(if z.t≤now then [z]else []):=by
 rw [List.take_add_one,hz,List.filter_append];by_cases h:z.t≤now <;> simp [h]
theorem ztq{w:World}{va:Option Addr}{vl vc:Nat}{l:List Sn}(h:SlAt w (.slice va vl vc) 3 (l.flatMap snc)):vl=l.length∧∀ k z,l[k]? = some z→∃ b o,va=some ⟨b,o,none⟩∧∀ W,Below w.heap.size w W→W.cell? ⟨b,o + k * 3,none⟩=some (.string ⟨z.nm.toArray⟩)∧W.cell? ⟨b,o + k * 3 + 1,none⟩=some (.int .i64 z.t)∧W.cell? ⟨b,o + k * 3 + 2,none⟩=some (.int .i64 z.v):=by
 have hz:l.flatMap snc=[]→l=[]:=fun e=>by
  have:=congrArg List.length e
  rw [Vc.zbb zk]at this;simp only [List.length_nil]at this;exact List.eq_nil_of_length_eq_zero (by omega)
 rcases h with ⟨h1,h2⟩ | ⟨a,h1,h2⟩ | ⟨b,o,n,m,h1,h2,h3⟩
 ·injection h1 with _ h1 _;rw [hz h2];exact⟨h1,fun k z hk=>by cases hk⟩
 ·injection h1 with _ h1 _;rw [hz h2];exact⟨h1,fun k z hk=>by cases hk⟩
 ·injection h1 with e1 e2 _;rw [Vc.zbb zk]at h2;refine⟨by omega,fun k z hk=>⟨b,o,e1,fun W hB => ?_⟩⟩;have c0:=h3 (k * 3 + 0) _ (Vc.zj zk hk (by decide));have c1:=h3 (k * 3 + 1) _ (Vc.zj zk hk (by decide));have c2:=h3 (k * 3 + 2) _ (Vc.zj zk hk (by decide));simp only [Nat.add_zero,← Nat.add_assoc]at c0 c1 c2;exact⟨(hB.cell (World.block_lt_of_cell? _ _ c0)).trans c0,(hB.cell (World.block_lt_of_cell? _ _ c1)).trans c1,(hB.cell (World.block_lt_of_cell? _ _ c2)).trans c2⟩
theorem zcz{w:World}{base:Nat}{v:Value}{out:List Sn}(h:w.ownsRow base 61 3 v out.length (out.flatMap snc)):SlAt w v 3 (out.flatMap snc):=by
 rcases h.2 with ⟨rfl,h0⟩ | ⟨g,cap,cur,rfl,hbg,hgc,hnc,hcm,hcs,htake⟩
 ·have:out=[]:=List.eq_nil_of_length_eq_zero h0
  subst this;exact .inl ⟨rfl,rfl⟩
 ·exact zyr htake hgc
set_option maxHeartbeats 4000000 in
theorem zct{w:World}{a b:Rl}{l:List Sn}{va:Option Addr}{vl vc:Nat}{sa:Option Addr}{sl sc:Nat}{ta:Option Addr}{tl tc:Nat}(now fresh:Int){pa ea pn en p1 e1 p2 e2 pb eb:Int}
  (hga:∀ w',Below w.heap.size w w'→Calls Tryz.prog 15 #[.agg #[.int .i64 a.op,.int .i64 a.ask,.string ⟨a.nm.toArray⟩,.int .i64 a.wi,.int .i64 a.cm,.int .i64 a.n,.slice sa sl sc]] w' (Vc.Ret (.bool false) w'))
  (hgb:∀ w',Below w.heap.size w w'→Calls Tryz.prog 15 #[.agg #[.int .i64 b.op,.int .i64 b.ask,.string ⟨b.nm.toArray⟩,.int .i64 b.wi,.int .i64 b.cm,.int .i64 b.n,.slice ta tl tc]] w' (Vc.Ret (.bool false) w'))
  (haw:∀ w',Below w.heap.size w w'→Calls Tryz.prog 16 #[] w' (Vc.Ret (.bool true) w'))
  (hlen:¬ (150 < (vl:Int)))
  (jA:∀ W,Below w.heap.size w W→Calls Tryz.prog 29 #[.agg #[.int .i64 a.op,.int .i64 a.ask,.string ⟨a.nm.toArray⟩,.int .i64 a.wi,.int .i64 a.cm,.int .i64 a.n,.slice sa sl sc],.slice va vl vc,.int .i64 now,.int .i64 fresh] W (Vc.Ret (.tuple #[.int .i64 pa,.int .i64 ea]) W))
  (jN:∀ W X,Below w.heap.size w W→W.heap[X]? = some (.cells #[.int .i64 a.op,.int .i64 a.ask,.string ⟨a.nm.toArray⟩,.int .i64 a.wi,.int .i64 a.cm,.int .i64 a.n,.slice sa sl sc] 30)→Calls Tryz.prog 29 #[.agg #[.int .i64 2,.int .i64 0,.string ⟨#[]⟩,.int .i64 0,.int .i64 0,.int .i64 0,.slice (some ⟨X,0,none⟩) 1 1],.slice va vl vc,.int .i64 now,.int .i64 fresh] W (Vc.Ret (.tuple #[.int .i64 pn,.int .i64 en]) W))
  (j1:∀ W X Y,Below w.heap.size w W→W.heap[X]? = some (.cells #[.int .i64 3,.int .i64 0,.string ⟨#[]⟩,.int .i64 0,.int .i64 0,.int .i64 0,.slice (some ⟨Y,0,none⟩) 2 2] 30)→W.heap[Y]? = some (.cells #[.int .i64 a.op,.int .i64 a.ask,.string ⟨a.nm.toArray⟩,.int .i64 a.wi,.int .i64 a.cm,.int .i64 a.n,.slice sa sl sc,.int .i64 b.op,.int .i64 b.ask,.string ⟨b.nm.toArray⟩,.int .i64 b.wi,.int .i64 b.cm,.int .i64 b.n,.slice ta tl tc] 30)→Calls Tryz.prog 29 #[.agg #[.int .i64 2,.int .i64 0,.string ⟨#[]⟩,.int .i64 0,.int .i64 0,.int .i64 0,.slice (some ⟨X,0,none⟩) 1 1],.slice va vl vc,.int .i64 now,.int .i64 fresh] W (Vc.Ret (.tuple #[.int .i64 p1,.int .i64 e1]) W))
  (j2:∀ W X Y Z,Below w.heap.size w W→W.heap[X]? = some (.cells #[.int .i64 2,.int .i64 0,.string ⟨#[]⟩,.int .i64 0,.int .i64 0,.int .i64 0,.slice (some ⟨Y,0,none⟩) 1 1,.int .i64 2,.int .i64 0,.string ⟨#[]⟩,.int .i64 0,.int .i64 0,.int .i64 0,.slice (some ⟨Z,0,none⟩) 1 1] 30)→W.heap[Y]? = some (.cells #[.int .i64 a.op,.int .i64 a.ask,.string ⟨a.nm.toArray⟩,.int .i64 a.wi,.int .i64 a.cm,.int .i64 a.n,.slice sa sl sc] 30)→W.heap[Z]? = some (.cells #[.int .i64 b.op,.int .i64 b.ask,.string ⟨b.nm.toArray⟩,.int .i64 b.wi,.int .i64 b.cm,.int .i64 b.n,.slice ta tl tc] 30)→Calls Tryz.prog 29 #[.agg #[.int .i64 4,.int .i64 0,.string ⟨#[]⟩,.int .i64 0,.int .i64 0,.int .i64 0,.slice (some ⟨X,0,none⟩) 2 2],.slice va vl vc,.int .i64 now,.int .i64 fresh] W (Vc.Ret (.tuple #[.int .i64 p2,.int .i64 e2]) W))
  (jB:∀ W u,Below w.heap.size w W→SlAt W u 3 ((l.filter fun s=>decide (s.t≤now)).flatMap snc)→Calls Tryz.prog 29 #[.agg #[.int .i64 a.op,.int .i64 a.ask,.string ⟨a.nm.toArray⟩,.int .i64 a.wi,.int .i64 a.cm,.int .i64 a.n,.slice sa sl sc],u,.int .i64 now,.int .i64 fresh] W (Vc.Ret (.tuple #[.int .i64 pb,.int .i64 eb]) W))
  (hl:SlAt w (.slice va vl vc) 3 (l.flatMap snc)) (hn4:ea=0→pb=pa)
  (hn1:ea=0→en=0→pa = -pn) (hn2:-1≤pa∧pa≤1) (hw1:IntKind.i64.wrap (-pn) = -pn) (hn3:e1=0→e2=0→p1=p2) :
  Calls Tryz.prog 7 #[.agg #[.int .i64 a.op,.int .i64 a.ask,.string ⟨a.nm.toArray⟩,.int .i64 a.wi,.int .i64 a.cm,.int .i64 a.n,.slice sa sl sc],.agg #[.int .i64 b.op,.int .i64 b.ask,.string ⟨b.nm.toArray⟩,.int .i64 b.wi,.int .i64 b.cm,.int .i64 b.n,.slice ta tl tc],.agg #[.slice va vl vc,.int .i64 now,.int .i64 fresh]] w (Vc.Ret (.bool true) w):=by
 have K:=Kn.start w;have hvl:Hd (vl=l.length∧∀ k z,l[k]? = some z→∃ b o,va=some ⟨b,o,none⟩∧∀ W,Below w.heap.size w W→W.cell? ⟨b,o + k * 3,none⟩=some (.string ⟨z.nm.toArray⟩)∧W.cell? ⟨b,o + k * 3 + 1,none⟩=some (.int .i64 z.t)∧W.cell? ⟨b,o + k * 3 + 2,none⟩=some (.int .i64 z.v)):=⟨ztq hl⟩;clear hl
 go_enter Tryz.func7,Tryz.ntmps7
 go_upto_region 5 with (first | (go_at_call 15;refine via (by repeat (first | exact K | apply Kn.push | apply Kn.drew)) (hga _ (by have B:=K.below;go_grown)) ?_;clear K;(try clear hO);intro wN K hO;simp only [Opened,World.size_alloc,World.size_drew,World.size_setCell]at hO) | (go_at_call 15;refine via (by repeat (first | exact K | apply Kn.push | apply Kn.drew)) (hgb _ (by have B:=K.below;go_grown)) ?_;clear K;(try clear hO);intro wN K hO;simp only [Opened,World.size_alloc,World.size_drew,World.size_setCell]at hO))
 clear hga hgb;have h0:=K.below.size;have hO:=Kn.opened_of K.all;simp only [Opened,World.size_alloc,World.size_drew,World.size_setCell]at hO
 go_cut [8,9,37,45] (fun s8 s9 s37 s45 wx=>∃ B8 B4 B9 Xo Xa Xb,s8=.pointer (some ⟨B8,0,none⟩)∧s9=.pointer (some ⟨B9,0,none⟩)∧s37=.slice (some ⟨B4,0,none⟩) 2 2∧s45=.slice (some ⟨Xo,0,none⟩) 2 2 ∧
  Kn w wx [(B9,#[.int .i64 4,.int .i64 0,.string ⟨#[]⟩,.int .i64 0,.int .i64 0,.int .i64 0,.slice (some ⟨Xo,0,none⟩) 2 2],30),
   (Xo,#[.int .i64 2,.int .i64 0,.string ⟨#[]⟩,.int .i64 0,.int .i64 0,.int .i64 0,.slice (some ⟨Xa,0,none⟩) 1 1,.int .i64 2,.int .i64 0,.string ⟨#[]⟩,.int .i64 0,.int .i64 0,.int .i64 0,.slice (some ⟨Xb,0,none⟩) 1 1],30),
   (Xa,#[.int .i64 a.op,.int .i64 a.ask,.string ⟨a.nm.toArray⟩,.int .i64 a.wi,.int .i64 a.cm,.int .i64 a.n,.slice sa sl sc],30),(Xb,#[.int .i64 b.op,.int .i64 b.ask,.string ⟨b.nm.toArray⟩,.int .i64 b.wi,.int .i64 b.cm,.int .i64 b.n,.slice ta tl tc],30),
   (B8,#[.int .i64 3,.int .i64 0,.string ⟨#[]⟩,.int .i64 0,.int .i64 0,.int .i64 0,.slice (some ⟨B4,0,none⟩) 2 2],30),
   (B4,#[.int .i64 a.op,.int .i64 a.ask,.string ⟨a.nm.toArray⟩,.int .i64 a.wi,.int .i64 a.cm,.int .i64 a.n,.slice sa sl sc,.int .i64 b.op,.int .i64 b.ask,.string ⟨b.nm.toArray⟩,.int .i64 b.wi,.int .i64 b.cm,.int .i64 b.n,.slice ta tl tc],30),
   (w.heap.size + 1 + 1,#[.slice va vl vc,.int .i64 now,.int .i64 fresh],58),(w.heap.size + 1,#[.int .i64 b.op,.int .i64 b.ask,.string ⟨b.nm.toArray⟩,.int .i64 b.wi,.int .i64 b.cm,.int .i64 b.n,.slice ta tl tc],30),(w.heap.size,#[.int .i64 a.op,.int .i64 a.ask,.string ⟨a.nm.toArray⟩,.int .i64 a.wi,.int .i64 a.cm,.int .i64 a.n,.slice sa sl sc],30)])
 case first =>
  go_region_held3 (fun w'=>w'.cell? ⟨w.heap.size,0,none⟩=some (.int .i64 a.op)∧w'.cell? ⟨w.heap.size,1,none⟩=some (.int .i64 a.ask)∧w'.cell? ⟨w.heap.size,2,none⟩=some (.string ⟨a.nm.toArray⟩)∧w'.cell? ⟨w.heap.size,3,none⟩=some (.int .i64 a.wi)∧w'.cell? ⟨w.heap.size,4,none⟩=some (.int .i64 a.cm)∧w'.cell? ⟨w.heap.size,5,none⟩=some (.int .i64 a.n)∧w'.cell? ⟨w.heap.size,6,none⟩=some (.slice sa sl sc)∧w'.cell? ⟨w.heap.size + 1,0,none⟩=some (.int .i64 b.op)∧w'.cell? ⟨w.heap.size + 1,1,none⟩=some (.int .i64 b.ask)∧w'.cell? ⟨w.heap.size + 1,2,none⟩=some (.string ⟨b.nm.toArray⟩)∧w'.cell? ⟨w.heap.size + 1,3,none⟩=some (.int .i64 b.wi)∧w'.cell? ⟨w.heap.size + 1,4,none⟩=some (.int .i64 b.cm)∧w'.cell? ⟨w.heap.size + 1,5,none⟩=some (.int .i64 b.n)∧w'.cell? ⟨w.heap.size + 1,6,none⟩=some (.slice ta tl tc)) (simp [go_sem, *]) (first
   | (go_at_call 31;refine via2 (by repeat (first | exact K | apply Kn.push | apply Kn.skip | apply Kn.drew)) (pnot (op:=a.op)) ?_;have hsz:=K.below.size;clear K hO;rintro _ wN ⟨Xa,rfl,hXa,hca⟩ K hO;(try simp only [World.size_alloc,World.size_drew,World.size_setCell]at hXa);have K:=zas K hca;have hla:=Wk.heap_lt hca;have hsy:=K.below.size;have hO:=Kn.opened_of K.all;simp only [Opened,World.size_alloc,World.size_drew,World.size_setCell]at hO)
   | (go_at_call 31;refine via2 (by repeat (first | exact K | apply Kn.push | apply Kn.skip | apply Kn.drew)) (pnot (op:=b.op)) ?_;have hsz:=K.below.size;clear K hO;rintro _ wN ⟨Xb,rfl,hXb,hcb⟩ K hO;(try simp only [World.size_alloc,World.size_drew,World.size_setCell]at hXb);have K:=zas K hcb;have hlb:=Wk.heap_lt hcb;have hsy:=K.below.size;have hO:=Kn.opened_of K.all;simp only [Opened,World.size_alloc,World.size_drew,World.size_setCell]at hO))
  all_goals (go_wp2_with fail;go_meet)
  all_goals refine⟨_,_,_,_,Xa,Xb,rfl,rfl,rfl,rfl, ?_⟩
  all_goals first | exact (Kn.of (w0:=w) (by have B:=K.below;go_grown <;> first | assumption | (simp only [World.size_alloc,World.size_drew,World.size_setCell]at *;omega)) (by simp only [Held,heap_alloc,zti,zgp,World.size_alloc,World.size_drew,World.size_setCell,IntWalk.iteOmega,Wk.setObj,hO,Option.map_some,↓reduceIte,if_true,if_false,List.setIfInBounds_toArray,List.set_cons_zero,List.set_cons_succ,and_self,and_true] <;> (try trivial))) | (trace_state;sorry)
 case rest =>
  obtain⟨B8,B4,B9,Xo,Xa,Xb,rfl,rfl,rfl,rfl,K⟩:=hcut;clear h0;have hO:=Kn.opened_of K.all;simp only [Opened,World.size_alloc,World.size_drew,World.size_setCell]at hO
  go_upto_region 7 with (go_at_call 29;refine via (by repeat (first | exact K | apply Kn.push | apply Kn.drew)) (jA _ (by have B:=K.below;go_grown)) ?_;clear K;(try clear hO);intro wN K hO;simp only [Opened,World.size_alloc,World.size_drew,World.size_setCell]at hO)
  have hB7:=Hd.mk K.below;have K7:=Hd.mk K;have KR:Kn wN wN [(w.heap.size + 1 + 1,#[.slice va vl vc,.int .i64 now,.int .i64 fresh],58),(w.heap.size,#[.int .i64 a.op,.int .i64 a.ask,.string ⟨a.nm.toArray⟩,.int .i64 a.wi,.int .i64 a.cm,.int .i64 a.n,.slice sa sl sc],30)]:=⟨Below.refl _ _,fun p hp=>K.all p (by simp only [List.mem_cons,List.not_mem_nil,or_false]at hp ⊢;rcases hp with rfl | rfl <;> simp)⟩
  go_cut [12,13] (fun s12 s13 wx=>s12=.int .i64 pn∧s13=.int .i64 en∧Below wN.heap.size wN wx)
  case first =>
   have jN7:∀ W X,Below wN.heap.size wN W→W.heap[X]? = some (.cells #[.int .i64 a.op,.int .i64 a.ask,.string ⟨a.nm.toArray⟩,.int .i64 a.wi,.int .i64 a.cm,.int .i64 a.n,.slice sa sl sc] 30)→Calls Tryz.prog 29 #[.agg #[.int .i64 2,.int .i64 0,.string ⟨#[]⟩,.int .i64 0,.int .i64 0,.int .i64 0,.slice (some ⟨X,0,none⟩) 1 1],.slice va vl vc,.int .i64 now,.int .i64 fresh] W (Vc.Ret (.tuple #[.int .i64 pn,.int .i64 en]) W):=fun W X hb hx=>jN W X (hB7.out.trans (hb.mono hB7.out.size)) hx;have hsN:=hB7.out.size;clear K7 K hO jA jN j1 j2 hB7 haw;have K:=KR;have hO:=Kn.opened_of K.all;simp only [Opened,World.size_alloc,World.size_drew,World.size_setCell]at hO
   go_region_held3 (fun w'=>w'.cell? ⟨w.heap.size,0,none⟩=some (.int .i64 a.op)∧w'.cell? ⟨w.heap.size,1,none⟩=some (.int .i64 a.ask)∧w'.cell? ⟨w.heap.size,2,none⟩=some (.string ⟨a.nm.toArray⟩)∧w'.cell? ⟨w.heap.size,3,none⟩=some (.int .i64 a.wi)∧w'.cell? ⟨w.heap.size,4,none⟩=some (.int .i64 a.cm)∧w'.cell? ⟨w.heap.size,5,none⟩=some (.int .i64 a.n)∧w'.cell? ⟨w.heap.size,6,none⟩=some (.slice sa sl sc)∧w'.cell? ⟨w.heap.size + 1 + 1,0,none⟩=some (.slice va vl vc)∧w'.cell? ⟨w.heap.size + 1 + 1,1,none⟩=some (.int .i64 now)∧w'.cell? ⟨w.heap.size + 1 + 1,2,none⟩=some (.int .i64 fresh)) (simp [go_sem, *]) (first
    | (go_at_call 31;refine via2 (by repeat (first | exact K | apply Kn.push | apply Kn.skip | apply Kn.drew)) (pnot (op:=a.op)) ?_;clear K hO;rintro _ wM ⟨X,rfl,hX,hc⟩ K hO;have K:=zas K hc;have hO:=Kn.opened_of K.all;simp only [Opened,World.size_alloc,World.size_drew,World.size_setCell]at hO)
    | (go_at_call 29;refine via (by repeat (first | exact K | apply Kn.push | apply Kn.skip | apply Kn.drew)) (jN7 _ X (by have B:=K.below;go_grown) hO.1) ?_;clear K hO;intro wM K hO;simp only [Opened,World.size_alloc,World.size_drew,World.size_setCell]at hO))
   all_goals (go_wp2_with fail;go_meet)
   all_goals exact⟨rfl,rfl,K.below⟩
  case rest =>
   obtain⟨rfl,rfl,hbel⟩:=hcut;have K:=K7.out.next hbel;clear K7 hB7 KR hO hbel;have hO:=Kn.opened_of K.all;simp only [Opened,World.size_alloc,World.size_drew,World.size_setCell]at hO
   go_upto_region 8 with fail
   go_cut [90] (fun s90 wx=>s90=.bool false∧wx=wc)
   case first =>
    clear hO K jA jN j1 j2 jB haw;by_cases hea:ea=0
    ·subst hea;by_cases hen:en=0
     ·subst hen;have hpp:=hn1 rfl rfl;subst hpp
      go_wp2_with fail
      all_goals (go_meet)
      all_goals exact⟨by simp;omega,rfl⟩
     ·go_wp2_with fail
      all_goals (go_meet)
      all_goals exact⟨by simp;omega,rfl⟩
    ·go_wp2_with fail
     all_goals (go_meet)
     all_goals exact⟨by simp;omega,rfl⟩
   case rest =>
   obtain⟨rfl,rfl⟩:=hcut;clear hn1 hn2 hw1
   go_upto_region 10 with fail
   have hB10:=Hd.mk K.below;have K10:=Hd.mk K;have KR:Kn wc wc [(w.heap.size + 1 + 1,#[.slice va vl vc,.int .i64 now,.int .i64 fresh],58),(B8,#[.int .i64 3,.int .i64 0,.string ⟨#[]⟩,.int .i64 0,.int .i64 0,.int .i64 0,.slice (some ⟨B4,0,none⟩) 2 2],30),(B4,#[.int .i64 a.op,.int .i64 a.ask,.string ⟨a.nm.toArray⟩,.int .i64 a.wi,.int .i64 a.cm,.int .i64 a.n,.slice sa sl sc,.int .i64 b.op,.int .i64 b.ask,.string ⟨b.nm.toArray⟩,.int .i64 b.wi,.int .i64 b.cm,.int .i64 b.n,.slice ta tl tc],30)]:=⟨Below.refl _ _,fun p hp=>K.all p (by simp only [List.mem_cons,List.not_mem_nil,or_false]at hp ⊢;rcases hp with rfl | rfl | rfl <;> simp)⟩
   go_cut [14,15] (fun s14 s15 wx=>s14=.int .i64 p1∧s15=.int .i64 e1∧Below wc.heap.size wc wx)
   case first =>
    have jN10:∀ W X,Below wc.heap.size wc W→W.heap[X]? = some (.cells #[.int .i64 3,.int .i64 0,.string ⟨#[]⟩,.int .i64 0,.int .i64 0,.int .i64 0,.slice (some ⟨B4,0,none⟩) 2 2] 30)→W.heap[B4]? = some (.cells #[.int .i64 a.op,.int .i64 a.ask,.string ⟨a.nm.toArray⟩,.int .i64 a.wi,.int .i64 a.cm,.int .i64 a.n,.slice sa sl sc,.int .i64 b.op,.int .i64 b.ask,.string ⟨b.nm.toArray⟩,.int .i64 b.wi,.int .i64 b.cm,.int .i64 b.n,.slice ta tl tc] 30)→Calls Tryz.prog 29 #[.agg #[.int .i64 2,.int .i64 0,.string ⟨#[]⟩,.int .i64 0,.int .i64 0,.int .i64 0,.slice (some ⟨X,0,none⟩) 1 1],.slice va vl vc,.int .i64 now,.int .i64 fresh] W (Vc.Ret (.tuple #[.int .i64 p1,.int .i64 e1]) W):=fun W X hb hx hy=>j1 W X B4 (hB10.out.trans (hb.mono hB10.out.size)) hx hy;have hsN:=hB10.out.size;clear K10 K hO jA jN j1 j2 jB hB10 haw;have K:=KR;have hO:=Kn.opened_of K.all;simp only [Opened,World.size_alloc,World.size_drew,World.size_setCell]at hO
    go_region_held3 (fun w'=>w'.cell? ⟨B8,0,none⟩=some (.int .i64 3)∧w'.cell? ⟨B8,1,none⟩=some (.int .i64 0)∧w'.cell? ⟨B8,2,none⟩=some (.string ⟨#[]⟩)∧w'.cell? ⟨B8,3,none⟩=some (.int .i64 0)∧w'.cell? ⟨B8,4,none⟩=some (.int .i64 0)∧w'.cell? ⟨B8,5,none⟩=some (.int .i64 0)∧w'.cell? ⟨B8,6,none⟩=some (.slice (some ⟨B4,0,none⟩) 2 2)∧w'.cell? ⟨w.heap.size + 1 + 1,0,none⟩=some (.slice va vl vc)∧w'.cell? ⟨w.heap.size + 1 + 1,1,none⟩=some (.int .i64 now)∧w'.cell? ⟨w.heap.size + 1 + 1,2,none⟩=some (.int .i64 fresh)) (simp [go_sem, *]) (first
     | (go_at_call 31;refine via2 (by repeat (first | exact K | apply Kn.push | apply Kn.skip | apply Kn.drew)) (pnot (op:=3)) ?_;clear K hO;rintro _ wM ⟨X,rfl,hX,hc⟩ K hO;have K:=zas K hc;have hO:=Kn.opened_of K.all;simp only [Opened,World.size_alloc,World.size_drew,World.size_setCell]at hO)
     | (go_at_call 29;refine via (by repeat (first | exact K | apply Kn.push | apply Kn.skip | apply Kn.drew)) (jN10 _ X (by have B:=K.below;go_grown) hO.1 (K.all (B4,_,_) (List.mem_cons_of_mem _ (List.mem_cons_of_mem _ (List.mem_cons_of_mem _ (List.mem_cons_self ..)))))) ?_;clear K hO;intro wM K hO;simp only [Opened,World.size_alloc,World.size_drew,World.size_setCell]at hO))
    all_goals (go_wp2_with fail;go_meet)
    all_goals exact⟨rfl,rfl,K.below⟩
   case rest =>
   obtain⟨rfl,rfl,hbel⟩:=hcut;have K:=K10.out.next hbel;clear K10 hB10 KR hO hbel;have hO:=Kn.opened_of K.all;simp only [Opened,World.size_alloc,World.size_drew,World.size_setCell]at hO
   go_upto_region 12 with (go_at_call 29;refine via (by repeat (first | exact K | apply Kn.push | apply Kn.drew)) (j2 _ Xo Xa Xb (by have B:=K.below;go_grown) (K.all (Xo,_,_) (List.mem_cons_of_mem _ (List.mem_cons_self ..))) (K.all (Xa,_,_) (List.mem_cons_of_mem _ (List.mem_cons_of_mem _ (List.mem_cons_self ..)))) (K.all (Xb,_,_) (List.mem_cons_of_mem _ (List.mem_cons_of_mem _ (List.mem_cons_of_mem _ (List.mem_cons_self ..)))))) ?_;clear K;(try clear hO);intro wN K hO;simp only [Opened,World.size_alloc,World.size_drew,World.size_setCell]at hO)
   go_cut [125] (fun s125 wx=>s125=.bool false∧wx=wN)
   case first =>
    clear hO K j2 jB haw;by_cases he1:e1=0
    ·subst he1;by_cases he2:e2=0
     ·subst he2;have hpp:=hn3 rfl rfl;subst hpp
      go_wp2_with fail
      all_goals (go_meet)
      all_goals exact⟨by simp,rfl⟩
     ·go_wp2_with fail
      all_goals (go_meet)
      all_goals exact⟨by first | (simp;done) | (simp;omega),rfl⟩
    ·go_wp2_with fail
     all_goals (go_meet)
     all_goals exact⟨by first | (simp;done) | (simp;omega),rfl⟩
   case rest =>
   obtain⟨rfl,rfl⟩:=hcut;have hKX:=K.all (w.heap.size + 1 + 1,#[.slice va vl vc,.int .i64 now,.int .i64 fresh],58) (by simp);have hKA:=K.all (w.heap.size,#[.int .i64 a.op,.int .i64 a.ask,.string ⟨a.nm.toArray⟩,.int .i64 a.wi,.int .i64 a.cm,.int .i64 a.n,.slice sa sl sc],30) (by simp)
   have K:Kn w wc [(w.heap.size + 1 + 1,#[.slice va vl vc,.int .i64 now,.int .i64 fresh],58),(w.heap.size,#[.int .i64 a.op,.int .i64 a.ask,.string ⟨a.nm.toArray⟩,.int .i64 a.wi,.int .i64 a.cm,.int .i64 a.n,.slice sa sl sc],30)]:=⟨K.below,fun p hp=>by
    rcases List.mem_cons.1 hp with rfl | hp
    ·exact hKX
    ·rcases List.mem_cons.1 hp with rfl | hp
     ·exact hKA
     ·cases hp⟩
   clear hKX hKA hO j2 hn3;have hO:=Kn.opened_of K.all;simp only [Opened,World.size_alloc,World.size_drew,World.size_setCell]at hO;have hge:=zdb (K.all _ (List.mem_cons_self ..))
   go_wp2
   go_loopw [18,19] (fun v i wr=>∃ k:Nat,k≤l.length∧i=.int .i64 k∧wr.ownsRow (w.heap.size + 1 + 1 + 1) 61 3 v ((l.take k).filter fun s=>decide (s.t≤now)).length (((l.take k).filter fun s=>decide (s.t≤now)).flatMap snc)∧Kn w wr [(w.heap.size + 1 + 1,#[.slice va vl vc,.int .i64 now,.int .i64 fresh],58),(w.heap.size,#[.int .i64 a.op,.int .i64 a.ask,.string ⟨a.nm.toArray⟩,.int .i64 a.wi,.int .i64 a.cm,.int .i64 a.n,.slice sa sl sc],30)]) (fun _ i _=>l.length - (intOf i).toNat)
   case atStart=>exact⟨0,Nat.zero_le _,rfl,World.ownsRow_nil _ _ _ _,K⟩
   case round =>
    clear K hge hO;obtain⟨k,hk,rfl,hown,K⟩:=hrel;have hvl':=hvl.out.1;subst hvl';by_cases hlt:k < l.length
    ·have hz:l[k]? = some l[k]:=List.getElem?_eq_getElem hlt;generalize l[k]=z at hz;obtain⟨b',o,rfl,cell⟩:=hvl.out.2 k z hz;have hFS:=zuw hz now
     have nl:((l.take k).filter fun s=>decide (s.t≤now)).length≤150:=by
      have h1:=List.length_filter_le (fun s:Sn=>decide (s.t≤now)) (l.take k);have h2:=List.length_take_le' k l;omega
     have hB0:=K.below;have hge:=zdb (K.all _ (List.mem_cons_self ..));have KR:Kn wr wr [(w.heap.size + 1 + 1,#[.slice (some ⟨b',o,none⟩) l.length vc,.int .i64 now,.int .i64 fresh],58),(w.heap.size,#[.int .i64 a.op,.int .i64 a.ask,.string ⟨a.nm.toArray⟩,.int .i64 a.wi,.int .i64 a.cm,.int .i64 a.n,.slice sa sl sc],30)]:=⟨Below.refl _ _,K.all⟩
     have after:∀ wN,Kn wr wN [(w.heap.size + 1 + 1,#[.slice (some ⟨b',o,none⟩) l.length vc,.int .i64 now,.int .i64 fresh],58),(w.heap.size,#[.int .i64 a.op,.int .i64 a.ask,.string ⟨a.nm.toArray⟩,.int .i64 a.wi,.int .i64 a.cm,.int .i64 a.n,.slice sa sl sc],30)]→Kn w wN [(w.heap.size + 1 + 1,#[.slice (some ⟨b',o,none⟩) l.length vc,.int .i64 now,.int .i64 fresh],58),(w.heap.size,#[.int .i64 a.op,.int .i64 a.ask,.string ⟨a.nm.toArray⟩,.int .i64 a.wi,.int .i64 a.cm,.int .i64 a.n,.slice sa sl sc],30)]∧wN.ownsRow (w.heap.size + 1 + 1 + 1) 61 3 u18 ((l.take k).filter fun s=>decide (s.t≤now)).length (((l.take k).filter fun s=>decide (s.t≤now)).flatMap snc):=fun wN h =>
      ⟨Kn.trans' hB0 h,hown.kept (row:=none) ⟨h.below.os,h.below.tape,h.below.output,h.below.size,fun i hi _=>h.below.block i hi⟩ (by cases u18.ownBlock <;> simp)⟩
     clear jB haw jA;have hO:=Kn.opened_of K.all;simp only [Opened,World.size_alloc,World.size_drew,World.size_setCell]at hO
     go_wp2
     clear K;refine zhp KR (by kernel_rfl) (by kernel_rfl) ?_;intro W KB hG;simp only [OpenedG,World.size_alloc,World.size_drew,World.size_setCell]at hG
     have hE:∀ (d:Nat) (os:Array Obj),(Go.Sort.grow (redrawn W d) os).cell? ⟨b',o + k * 3 + 1,none⟩=some (.int .i64 z.t):=fun d os =>
      (cell _ (hB0.trans (((KB.grown ⟨⟨d,os⟩,rfl⟩).below).mono hB0.size))).2.1
     by_cases hzt:z.t≤now
     ·rw [if_pos hzt]at hFS
      repeat (quiet_step (fail))
      refine wpQuiet_nil ?_;clear KB hG KR hO hE;intro wN KN hO;obtain⟨K,hown⟩:=after wN KN;clear after KN;simp only [Opened,World.size_alloc,World.size_drew,World.size_setCell]at hO;have hC:=cell _ K.below;obtain⟨i0,hi0,hi2⟩:=Option.map_eq_some_iff.1 zaf;have hzs:i0.size=3:=by injection hi2
      have hzb:i0.bytes=32:=by injection hi2
      have hz0:i0.zero=some (.agg #[.string ⟨#[]⟩,.int .i64 0,.int .i64 0]):=by
       have:=zkh
       rw [hi0]at this;simpa using this
      have K1:=K.skip (.cells #[.string ⟨z.nm.toArray⟩,.int .i64 z.t,.int .i64 z.v] 61);have own1:=hown.kept (World.grownBy_alloc wN (.cells #[.string ⟨z.nm.toArray⟩,.int .i64 z.t,.int .i64 z.v] 61) none) (by cases u18.ownBlock <;> simp)
      have hnew:(wN.alloc (.cells #[.string ⟨z.nm.toArray⟩,.int .i64 z.t,.int .i64 z.v] 61)).heap[wN.heap.size]? = some (.cells (snc z).toArray 61 (0,0)):=by
       rw [heap_alloc,if_pos rfl];rfl
      have hgeN:=zdb (K.all _ (List.mem_cons_self ..))
      go_wp2_with (at_builtin;refine wpList_append_own_at _ rfl _ _ 52 rfl (w.heap.size + 1 + 1 + 1) 61 i0 _ 3 32 zpd hi0 hz0 hzs hzb rfl (by omega) _ _ _ rfl own1 ⟨wN.heap.size,0,none⟩ 1 1 (snc z) rfl rfl (cellsAt hnew 0 (snc z) 3 rfl) (zzm z) (by unfold maxLen;omega) (by omega) (by simp only [World.size_alloc];omega) ?_;intro v' w1 hown1 hgrow hnil hat)
      go_roundw
      case rel=>exact⟨k + 1,by omega,by go_num,by rw [hFS,List.flatMap_append,List.length_append];exact hown1,zcn K1 hgrow (fun k hk=>by have:=zlp hown hk;omega) (fun p hp e=>by have:=zlp hown e;simp only [List.mem_cons,List.not_mem_nil,or_false]at hp;rcases hp with rfl | rfl <;> (dsimp only at this;omega))⟩
      case measure=>simp [intOf];omega
     ·rw [if_neg hzt,List.append_nil]at hFS
      repeat (quiet_step (fail))
      refine wpQuiet_nil ?_;clear KB hG KR hO hE;intro wN KN hO;obtain⟨K,hown⟩:=after wN KN;clear after KN;simp only [Opened,World.size_alloc,World.size_drew,World.size_setCell]at hO
      go_wp2
      go_roundw
      case rel=>exact⟨k + 1,by omega,by go_num,by rw [hFS];exact hown,K⟩
      case measure=>simp [intOf];omega
    ·obtain rfl:k=l.length:=by omega
     rw [List.take_length]at hown;have hSL:=zcz hown;clear hown;by_cases hea:ea=0
     ·have hpb:=hn4 hea;subst hea hpb;have hO:=Kn.opened_of K.all;simp only [Opened,World.size_alloc,World.size_drew,World.size_setCell]at hO
      go_wp2_with (first | (go_at_call 29;refine via (by repeat (first | exact K | apply Kn.push | apply Kn.drew)) (jB _ _ (by have B:=K.below;go_grown) hSL) ?_;clear K;(try clear hO);intro wN K hO;simp only [Opened,World.size_alloc,World.size_drew,World.size_setCell]at hO) | (go_at_call 16;refine via (by repeat (first | exact K | apply Kn.push | apply Kn.drew)) (haw _ (by have B:=K.below;go_grown)) ?_;clear K;(try clear hO);intro wN K hO;simp only [Opened,World.size_alloc,World.size_drew,World.size_setCell]at hO))
      (refine bodyPost_ret (by simp [results,Tryz.results7,go_sem,hO];try rfl) rfl ⟨?_,by have B:=K.below;go_grown⟩)
      try rfl
     ·have hO:=Kn.opened_of K.all;simp only [Opened,World.size_alloc,World.size_drew,World.size_setCell]at hO
      go_wp2_with (first | (go_at_call 29;refine via (by repeat (first | exact K | apply Kn.push | apply Kn.drew)) (jB _ _ (by have B:=K.below;go_grown) hSL) ?_;clear K;(try clear hO);intro wN K hO;simp only [Opened,World.size_alloc,World.size_drew,World.size_setCell]at hO) | (go_at_call 16;refine via (by repeat (first | exact K | apply Kn.push | apply Kn.drew)) (haw _ (by have B:=K.below;go_grown)) ?_;clear K;(try clear hO);intro wN K hO;simp only [Opened,World.size_alloc,World.size_drew,World.size_setCell]at hO))
      (refine bodyPost_ret (by simp [results,Tryz.results7,go_sem,hO];try rfl) rfl ⟨?_,by have B:=K.below;go_grown⟩)
      try rfl
end Go.Proofs.YtdjgnbkclcjiiaaGreatDoor
