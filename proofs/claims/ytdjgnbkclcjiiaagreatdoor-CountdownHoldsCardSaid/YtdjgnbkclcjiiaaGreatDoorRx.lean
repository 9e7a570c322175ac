import Derived.Test.YtdjgnbkclcjiiaaGreatDoorRu
set_option linter.unusedVariables false
set_option linter.unusedSimpArgs false
set_option maxRecDepth 100000
namespace Go.Proofs.YtdjgnbkclcjiiaaGreatDoor
open Go Go.RowKit Go.Proofs Wk
open Vc (SlAt OV iteI Vl zre zgb)
attribute [local irreducible] Go.Calls
def stc1(s:List UInt8):List Value := [.string ⟨s.toArray⟩]
theorem zjm(s:List UInt8):(stc1 s).length=1:=rfl
theorem zsi{w:World}{v:Value}{l:List (List UInt8)}(h:SlAt w v 1 (l.flatMap stc1)):∃ (b0:Bool) (p0:Nat × Nat) (x1:Int),v=(if b0=true then .slice none 0 0 else .slice (some (Vc.qad p0 (Int.toNat (l.length:Int)) (Int.toNat x1))) (Int.toNat (l.length:Int)) (Int.toNat x1))∧(b0=true→l.length=0) ∧
  (∀ (i:Nat) (z:List UInt8),l[i]? = some z→w.cell? ⟨p0.1,p0.2 + i * 1 + 0,none⟩=some (.string ⟨z.toArray⟩)):=by
 obtain⟨b0,p0,x1,h1,h2,h3⟩:=Vc.zus h (by decide) (Vc.zjh zjm l);refine⟨b0,p0,x1,h1,h2,fun i p hp => ?_⟩;simp only [Nat.add_assoc];exact h3 (i * 1 + 0) _ (Vc.zad zjm hp (by decide))
theorem zkm{w:World}{v:Value}{sz:Nat}{xs:List Value}(h:SlAt w v sz xs):∃ a l c,v=.slice a l c:=by
 rcases h with ⟨rfl,_⟩ | ⟨_,rfl,_⟩ | ⟨_,_,_,_,rfl,_⟩ <;> exact⟨_,_,_,rfl⟩
def msH(n:Nat)(L:List Vl):Nat:=match L with
 | [_,.i i]=>n - i.toNat
 | _=>0
theorem zvw{w:World}{xb:Nat}{v:Value}{l:List (List UInt8)}(hb:w.cell? ⟨xb,0,none⟩=some v)(h:SlAt w v 1 (l.flatMap stc1))(hn:l.length < 4611686018427387904)(s:List UInt8):Calls Tryz.prog 74 #[.string ⟨s.toArray⟩,.pointer (some ⟨xb,0,none⟩)] w (Vc.Ret (.bool (decide (s∈l))) w):=by
 obtain⟨b0,p0,c0,e0,f0,g0⟩:=zsi h;have hno:=zxd f0;refine zlf (xb,0) s w _ ⟨b0,p0,(l.length:Nat),c0,by rw [← e0];exact hb,by omega,hno,fun L=>∃ (a:Int) (i:Nat),L=[.i a,.i i]∧i≤l.length∧s ∉ l.take i,msH l.length,⟨0,0,rfl,Nat.zero_le _,by simp⟩, ?_⟩;rintro x2 x3 ⟨a,i,hy,hi,hA⟩;simp only [List.cons.injEq,Vl.i.injEq,and_true]at hy;obtain⟨rfl,rfl⟩:=hy;refine iteI (fun hlt => ?_) (fun hge => ?_)
 ·have hi':i < l.length:=by omega
  have hk:l[i]? = some l[i]:=List.getElem?_eq_getElem hi';have hmem:l[i]∈l:=List.getElem_mem hi';generalize l[i]=z at hk hmem;simp only [Int.toNat_natCast];refine⟨fun hb=>by have:=f0 hb;omega,by omega,hlt,z,g0 i z hk,iteI (fun he => ?_) (fun he => ?_)⟩
  ·refine zre ?_;rw [decide_eq_true (show s∈l by rw [he];exact hmem)];simp
  ·rintro x4 rfl;rw [zgb (by omega)];refine⟨⟨x2,i + 1,rfl,by omega, ?_⟩,by simp only [msH];omega⟩;rw [List.take_add_one,hk];simp only [Option.toList_some,List.mem_append,List.mem_singleton,not_or];exact⟨hA,he⟩
 ·obtain rfl:i=l.length:=by omega
  rw [List.take_length]at hA;rw [decide_eq_false hA]
set_option maxHeartbeats 4000000 in
theorem zww{w:World}{xb:Nat}{pf:Value}{op ask wi cm n:Int}{nm:List UInt8}{sa:Option Addr}{sl sc:Nat}{t:Bool}(hb:w.heap[xb]? = some (.cells #[.func (.func 74) #[] #[pf]] 51))
    (hq:∀ w',Below w.heap.size w w'→Calls Tryz.prog 74 #[.string ⟨nm.toArray⟩,pf] w' (Vc.Ret (.bool t) w')) :
    Calls Tryz.prog 132 #[.agg #[.int .i64 op,.int .i64 ask,.string ⟨nm.toArray⟩,.int .i64 wi,.int .i64 cm,.int .i64 n,.slice sa sl sc],.pointer (some ⟨xb,0,none⟩)] w (Vc.Ret (.agg #[.int .i64 (if t=true then 1 else 0),.int .i64 (if t=true then 1 else 0)]) w):=by
  have K:Kn w w [(xb,#[.func (.func 74) #[] #[pf]],51)]:=⟨Below.refl _ _,fun p hp=>by simp only [List.mem_singleton]at hp;subst hp;exact hb⟩;have hlt:xb < w.heap.size:=(Array.getElem?_eq_some_iff.1 hb).1;have hO:=Kn.opened_of K.all;simp only [Opened,World.size_alloc,World.size_drew,World.size_setCell]at hO;cases t with
  | true =>
    go_enter Tryz.func132,Tryz.ntmps132
    go_wp2_with (go_at_call 74;refine via (by repeat (first | exact K | apply Kn.push | apply Kn.drew)) (hq _ (by have B:=K.below;go_grown)) ?_;clear K;(try clear hO);intro wN K hO;simp only [Opened,World.size_alloc,World.size_drew,World.size_setCell]at hO)
    all_goals (refine bodyPost_ret (by simp [results,Tryz.results132,go_sem,hO];try rfl) rfl ⟨?_,by have B:=K.below;go_grown⟩)
    all_goals ((try clear hO);first | rfl | (simp;done) | (simp;omega) | (simp [*];done) | (simp [*];omega))
  | false =>
    go_enter Tryz.func132,Tryz.ntmps132
    go_wp2_with (go_at_call 74;refine via (by repeat (first | exact K | apply Kn.push | apply Kn.drew)) (hq _ (by have B:=K.below;go_grown)) ?_;clear K;(try clear hO);intro wN K hO;simp only [Opened,World.size_alloc,World.size_drew,World.size_setCell]at hO)
    all_goals (refine bodyPost_ret (by simp [results,Tryz.results132,go_sem,hO];try rfl) rfl ⟨?_,by have B:=K.below;go_grown⟩)
    all_goals ((try clear hO);first | rfl | (simp;done) | (simp;omega) | (simp [*];done) | (simp [*];omega))
set_option maxHeartbeats 4000000 in
theorem zwx{w w0:World}{r:Rl}{pf:Value}{q:Rl→Int × Int}(t:List UInt8→Bool)(hV:Vg_1 w)(h:RlAt w0 r)(hr:rightR r=true)(hqt:∀ k,q k=(if t k.nm=true then 1 else 0,if t k.nm=true then 1 else 0))
  (hq:∀ s w',Below w.heap.size w w'→Calls Tryz.prog 74 #[.string ⟨s.toArray⟩,pf] w' (Vc.Ret (.bool (t s)) w')) :
  Calls Tryz.prog 73 #[FM r,.func (.func 74) #[] #[pf]] w (Vc.Ret (.bool (valR q r == 1)) w):=by
 have K:=Kn.start w
 have hv:∀ w',Kn w w' [(w.heap.size,#[.func (.func 74) #[] #[pf]],51)]→Calls Tryz.prog 68 #[FM r,.func (.func 132) #[] #[.pointer (some ⟨w.heap.size,0,none⟩)]] w' (Vc.Ret (.int .i64 (valR q r)) w'):=by
  intro w' hk;have hb:=hk.all _ (List.mem_singleton.2 rfl);have hbel:=hk.below;refine pval q ⟨.func (.func 132) #[] #[.pointer (some ⟨w.heap.size,0,none⟩)],rfl⟩ _ (Nat.le_refl _) hr h fun k hk1 hk2 hk3 w2 hb2 => ?_;obtain⟨sa,sl,sc,hs⟩:=zkm (zja hk3).1
  have hcm:0≤k.cm∧k.cm≤5:=by
   rw [zmh,if_pos hk2]at hk1;obtain⟨op,ask,nm,wi,cm,n,v,ks⟩:=k
   have:=(zwd.1 hk1).2.2.2.2.1
   exact this
  have hlt:w.heap.size < w'.heap.size:=(Array.getElem?_eq_some_iff.1 hb).1;unfold RV7;rw [hs];refine zvx (b1:=(q k).1) (b2:=(q k).2) (fun w3 hb3 => ?_) (fun w3 hb3 => ?_)
  ·rw [hqt k];have b13:Below w'.heap.size w' w3:=hb2.trans (hb3.mono hb2.size);refine zww (pf:=pf) (by rw [b13.block _ hlt];exact hb) fun w4 hb4=>hq _ w4 ?_;exact hbel.trans ((b13.trans (hb4.mono b13.size)).mono hbel.size)
  ·have b13:Below w'.heap.size w' w3:=hb2.trans (hb3.mono hb2.size);have bb:Below w.heap.size w w3:=hbel.trans (b13.mono hbel.size);refine zsw ?_ (q k) k.n hcm;obtain⟨ty,mk,hg⟩:=hV;exact⟨ty,mk,by rw [bb.block _ (Array.getElem?_eq_some_iff.1 hg).1];exact hg⟩
 generalize FM r=f at *;generalize valR q r=x at *
 go_enter Tryz.func73,Tryz.ntmps73
 go_wp2_with (go_at_call 68;refine via (by repeat (first | exact K | apply Kn.push | apply Kn.drew)) (hv _ (by repeat (first | exact K | apply Kn.push | apply Kn.drew))) ?_;clear K;(try clear hO);intro wN K hO;simp only [Opened,World.size_alloc,World.size_drew,World.size_setCell]at hO)
 go_ret
 exact⟨rfl,by have B:=K.below;go_grown⟩
theorem zlg{r:Rl}(h:validR r=true):rightR r=true:=by
 simp only [validR,Bool.and_eq_true]at h;exact h.2
def facQ(l:List (List UInt8))(k:Rl):Int × Int:=(if decide (k.nm∈l)=true then 1 else 0,if decide (k.nm∈l)=true then 1 else 0)
def holdI(r:Rl)(l:List (List UInt8)):Bool × Int:=if validR r=true then (valR (facQ l) r == 1,0)else (false,2)
set_option maxHeartbeats 4000000 in
theorem zxx{w:World}{r:Rl}{v:Value}{l:List (List UInt8)}(hV0:Vg_0 w)(hV:Vg_1 w)(h:RlAt w r)(hl:SlAt w v 1 (l.flatMap stc1))(hn:l.length < 4611686018427387904) :
    Calls Tryz.prog 32 #[RV7 r,v] w (Vc.Ret (.tuple #[.bool (holdI r l).1,.int .i64 (holdI r l).2]) w):=by
  have K:=Kn.start w
  have hm:∀ w',Below w.heap.size w w'→Calls Tryz.prog 49 #[RV7 r] w' (Vc.Ret (.tuple #[(MK 0 1 r).2.1,.bool (validR r)]) w'):=fun w' hb=>by
    refine zqu ?_ (h.below hb);obtain⟨ty,mk,hg⟩:=hV0;exact⟨ty,mk,by rw [hb.block _ (Array.getElem?_eq_some_iff.1 hg).1];exact hg⟩
  have hh:∀ w' (xb:Nat),Below w.heap.size w w'→w'.heap[xb]? = some (.cells #[v] 22)→rightR r=true→Calls Tryz.prog 73 #[FM r,.func (.func 74) #[] #[.pointer (some ⟨xb,0,none⟩)]] w' (Vc.Ret (.bool (valR (facQ l) r == 1)) w'):=by
    intro w' xb hb hx hr;refine zwx (fun s=>decide (s∈l)) ?_ h hr (fun k=>rfl) fun s w'' hb' => ?_
    · obtain⟨ty,mk,hg⟩:=hV;exact⟨ty,mk,by rw [hb.block _ (Array.getElem?_eq_some_iff.1 hg).1];exact hg⟩
    · have hlt:xb < w'.heap.size:=(Array.getElem?_eq_some_iff.1 hx).1;have hx':w''.heap[xb]? = some (.cells #[v] 22):=by rw [hb'.block _ hlt];exact hx
      refine zvw (v:=v) (by simp [World.cell?,hx']) (Vc.zcf (hb.trans (hb'.mono hb.size)) hl) hn s
  obtain⟨va,vl,vc,rfl⟩:=zkm hl;obtain⟨ka,kl,kc,hk⟩:=zkm (zja h).1;obtain⟨hv1,hv2⟩:=zqq r;have hro:=zlg (r:=r);unfold holdI;unfold RV7 at hm ⊢;rw [hk]at hm ⊢;clear hl h;cases hvd:validR r with
  | true =>
    rw [hv2 hvd,hvd]at hm;have hh:=fun w' xb h1 h2=>hh w' xb h1 h2 (hro hvd);rw [if_pos rfl];have hf1:=zai r;generalize FM r=f at *;generalize valR (facQ l) r=x at *
    go_enter Tryz.func32,Tryz.ntmps32
    go_wp2_with (first | (go_at_call 49;refine via (by repeat (first | exact K | apply Kn.push | apply Kn.drew)) (hm _ (by have B:=K.below;go_grown)) ?_;clear K;(try clear hO);intro wN K hO;simp only [Opened,World.size_alloc,World.size_drew,World.size_setCell]at hO) | (go_at_call 73;refine via (by repeat (first | exact K | apply Kn.push | apply Kn.drew)) (hh _ _ (by have B:=K.below;go_grown) (by first | exact hO.1 | exact hO.2.1 | simp [hO])) ?_;clear K;(try clear hO);intro wN K hO;simp only [Opened,World.size_alloc,World.size_drew,World.size_setCell]at hO))
    all_goals (refine bodyPost_ret (by simp [results,Tryz.results32,go_sem,hO];try rfl) rfl ⟨?_,by have B:=K.below;go_grown⟩)
    all_goals ((try clear hO);first | rfl | (simp;done) | (simp;omega) | (simp [*];done) | (simp [*];omega))
  | false =>
    rw [hvd]at hm;rw [if_neg (by simp)];have hone:=zlp 183 176 180 181 r 0 1;generalize (MK 0 1 r).2.1=f at *
    go_enter Tryz.func32,Tryz.ntmps32
    go_wp2_with (go_at_call 49;refine via (by repeat (first | exact K | apply Kn.push | apply Kn.drew)) (hm _ (by have B:=K.below;go_grown)) ?_;clear K;(try clear hO);intro wN K hO;simp only [Opened,World.size_alloc,World.size_drew,World.size_setCell]at hO)
    all_goals (refine bodyPost_ret (by simp [results,Tryz.results32,go_sem,hO];try rfl) rfl ⟨?_,by have B:=K.below;go_grown⟩)
    all_goals ((try clear hO);first | rfl | (simp;done) | (simp;omega) | (simp [*];done) | (simp [*];omega))
end Go.Proofs.YtdjgnbkclcjiiaaGreatDoor
