import Derived.Test.YtdjgnbkclcjiiaaGreatDoorSb
set_option linter.unusedVariables false
set_option linter.unusedSimpArgs false
set_option maxRecDepth 4000
namespace Wk
open Go Go.RowKit
theorem via2{P:Program}{f:FuncId}{args:Array Value}{w0 W:World}{R:Ending→World→Prop}{Q:Ending→World→Prop}{L:List (Nat × Array Value × TypeId)}(hL:Kn w0 W L)
  (h:Calls P f args W fun e w1=>R e w1∧Below W.heap.size W w1) (k:∀ e w1,R e w1→Kn w0 w1 L→Opened w1 L→Q e w1):Calls P f args W Q :=
 h.mono fun e w1 ⟨he,hb⟩=>k e w1 he (hL.next hb) (Kn.opened_of (hL.next hb).all)
end Wk
namespace Go.Proofs.YtdjgnbkclcjiiaaGreatDoor
open Go Go.RowKit Go.Proofs Wk
attribute [local irreducible] Go.Calls
open Vc (SlAt OV iteI Vl zrb zc)
theorem zqs{w:World}{lo b c n a:Nat}{s:List Sn}{now fresh win:Int}(hr:Vc.RowOk lo b c n a (s.flatMap snc) 3 61 w)(hn:s.length≤1000)(hst:s.Pairwise fun a b=>a.t≤b.t)
  (hb:∀ x∈s,0≤x.t∧x.t≤1073741824) (hw:0≤now∧now≤1073741824) (hf:0≤fresh∧fresh≤1000) (hwi:0≤win∧win≤1000) :
  Calls Tryz.prog 157 #[Vc.ownV b c n a,.int .i64 now,.int .i64 fresh,.int .i64 win] w (fun e w'=>(∃ u,e=.returned (.tuple #[u,.bool (sightP s now fresh win).2])∧SlAt w' u 3 ((sightP s now fresh win).1.flatMap snc))∧Below w.heap.size w w'):=by
 by_cases hs:s=[]
 ·subst hs
  have hn0:n=0:=by
   have:=(hr.old (by decide)).1
   simp at this;omega
  subst hn0;have e2:sightP [] now fresh win=([],false):=rfl;rw [e2];unfold Vc.ownV;split
  ·exact (zmt w now fresh win).mono fun e w' ⟨he,hB⟩=>⟨⟨_,he,.inl ⟨rfl,rfl⟩⟩,hB⟩
  ·exact (zwp w ⟨b,a,none⟩ (c - 1) now fresh win).mono fun e w' ⟨he,hB⟩=>⟨⟨_,he,.inl ⟨rfl,rfl⟩⟩,hB⟩
 ·obtain⟨m,e1,e2,e3⟩:=Vc.zcy hr (Vc.zia zf s) (List.length_pos_iff.2 hs) (by decide);rw [e1];refine (zer e3 hs e2 hn hst hb hw hf hwi).mono ?_;rintro e w' ⟨u,he,hB,hF | ⟨b',c',n',a',hu,hr'⟩⟩
  ·exact hF.elim
  ·exact⟨⟨_,by rw [he,hu],Vc.zdy hr'⟩,hB⟩
theorem ztz{l:List Sn}(nm:List UInt8)(now:Int)(ho:obsB l=true):(sampL l nm now).length≤1000∧(sampL l nm now).Pairwise (fun a b=>a.t≤b.t)∧∀ x∈sampL l nm now,0≤x.t∧x.t≤1073741824:=by
 obtain⟨⟨h1,h2⟩,h3⟩:=(zle l).1 ho;refine⟨Nat.le_trans (List.length_filter_le _ _) h3, ?_,fun x hx => ?_⟩
 ·have hp:(sampL l nm now).Pairwise fun a b=>a.nm=b.nm→a.t≤b.t:=h2.filter _;refine hp.imp_of_mem fun {a b} ha hb hab=>hab ?_;have h1:=(List.mem_filter.1 ha).2;have h2:=(List.mem_filter.1 hb).2;simp only [Bool.and_eq_true,decide_eq_true_eq]at h1 h2;rw [h1.1,h2.1]
 ·have:=h1 x (List.mem_filter.1 hx).1
  simp only [snB,inB,Bool.and_eq_true,decide_eq_true_eq]at this;omega
theorem zyp{s:List Sn}(now fresh win:Int):(sightP s now fresh win).1.length≤s.length + 1:=by
 unfold sightP;dsimp only;have h1:=List.length_filter_le (fun x:Sn => !decide (x.t≤now - win)) s;split
 ·split
  ·simp only [List.length_cons];omega
  ·show _≤_;dsimp only;omega
 ·show _≤_;dsimp only;omega
set_option maxHeartbeats 800000 in
theorem zuaa{w:World}{r:Rl}{v:Value}{l:List Sn}{now fresh:Int}(h:RlAt w r)(hl:SlAt w v 3 (l.flatMap snc))(ho:obsB l=true)(hw:0≤now∧now≤1073741824)(hf:0≤fresh∧fresh≤1000)(hwi:0≤r.wi∧r.wi≤1000)(hask:0≤r.ask∧r.ask≤2) :
  Calls Tryz.prog 131 #[RV7 r,v,.int .i64 now,.int .i64 fresh] w (Vc.Ret (.agg #[.int .i64 (askQ l now fresh r).1,.int .i64 (askQ l now fresh r).2]) w):=by
 obtain⟨sa,sl,sc,hs⟩:=zii (zy h).1;obtain⟨s1,s2,s3⟩:=ztz r.nm now ho;have hln:=((zle l).1 ho).2
 have hsam:∀ w',Below w.heap.size w w'→Calls Tryz.prog 155 #[v,.string ⟨r.nm.toArray⟩,.int .i64 now] w' (fun e w''=>(∃ b c n a,e=.returned (Vc.ownV b c n a)∧∃ lo,Vc.RowOk lo b c n a ((sampL l r.nm now).flatMap snc) 3 61 w'')∧Below w'.heap.size w' w''):=fun w' hb =>
  (zix r.nm now (Vc.zab hb hl) hln).mono fun e w'' ⟨u,he,hB,hh⟩=>⟨by
   rcases hh with hF | ⟨b,c,n,a,hu,hr⟩
   ·exact hF.elim
   ·exact⟨b,c,n,a,by rw [he,hu],_,hr⟩,hB⟩
 unfold RV7;rw [hs];have K:=Kn.start w;by_cases ha:r.ask=0
 ·have e:askQ l now fresh r=lastQ (sampL l r.nm now) now fresh:=by unfold askQ;rw [if_pos ha]
  rw [e]
  go_enter Tryz.func131,Tryz.ntmps131
  go_wp2_with (go_at_call 155;refine via2 (by repeat (first | exact K | apply Kn.push | apply Kn.drew)) (hsam _ (by have B:=K.below;go_grown)) ?_;clear K;rintro _ wN ⟨b,c,n,a,rfl,lo,hr⟩ K hO;simp only [Opened,World.size_alloc,World.size_drew,World.size_setCell]at hO)
  clear hsam
  go_wp2_with (go_at_call 156;refine via (by repeat (first | exact K | apply Kn.push | apply Kn.drew)) (zica now fresh (Vc.zdy hr) s1 (by omega)) ?_;clear K;(try clear hO);intro wN K hO;simp only [Opened,World.size_alloc,World.size_drew,World.size_setCell]at hO)
  go_wp2
  (refine bodyPost_ret (by simp [results,Tryz.results131,go_sem,hO];try rfl) rfl ⟨?_,by have B:=K.below;go_grown⟩)
  rfl
 ·obtain⟨p,hp⟩:∃ p,p=sightP (sampL l r.nm now) now fresh r.wi:=⟨_,rfl⟩
  have hpl:p.1.length≤4000:=by
   have:=zyp (s:=sampL l r.nm now) now fresh r.wi
   rw [hp];omega
  obtain⟨out,wh⟩:=p;dsimp only at hpl;by_cases h1:r.ask=1
  ·have e:askQ l now fresh r=(maxV out,if wh=true then maxV out else 1099511627776):=by unfold askQ;rw [if_neg ha,← hp];dsimp only;rw [if_pos h1]
   rw [e];clear e;dsimp only;cases wh
   ·go_enter Tryz.func131,Tryz.ntmps131
    go_wp2_with (go_at_call 155;refine via2 (by repeat (first | exact K | apply Kn.push | apply Kn.drew)) (hsam _ (by have B:=K.below;go_grown)) ?_;clear K;rintro _ wN ⟨b,c,n,a,rfl,lo,hr⟩ K hO;simp only [Opened,World.size_alloc,World.size_drew,World.size_setCell]at hO)
    clear hsam;have hsig:=zqs hr s1 s2 s3 hw hf hwi;rw [← hp]at hsig;dsimp only at hsig;clear hr s1 s2 s3
    go_wp2_with (go_at_call 157;refine via2 (by repeat (first | exact K | apply Kn.push | apply Kn.drew)) hsig ?_;clear K hO hsig;rintro _ wN ⟨u,rfl,hu⟩ K hO;simp only [Opened,World.size_alloc,World.size_drew,World.size_setCell]at hO)
    have hgr:=zvp false hu hpl
    go_wp2_with (go_at_call 158;refine via (by repeat (first | exact K | apply Kn.push | apply Kn.drew)) hgr ?_;clear K hgr;(try clear hO);intro wN K hO;simp only [Opened,World.size_alloc,World.size_drew,World.size_setCell]at hO)
    go_wp2
    (refine bodyPost_ret (by simp [results,Tryz.results131,go_sem,hO];try rfl) rfl ⟨?_,by have B:=K.below;go_grown⟩)
    rfl
   ·go_enter Tryz.func131,Tryz.ntmps131
    go_wp2_with (go_at_call 155;refine via2 (by repeat (first | exact K | apply Kn.push | apply Kn.drew)) (hsam _ (by have B:=K.below;go_grown)) ?_;clear K;rintro _ wN ⟨b,c,n,a,rfl,lo,hr⟩ K hO;simp only [Opened,World.size_alloc,World.size_drew,World.size_setCell]at hO)
    clear hsam;have hsig:=zqs hr s1 s2 s3 hw hf hwi;rw [← hp]at hsig;dsimp only at hsig;clear hr s1 s2 s3
    go_wp2_with (go_at_call 157;refine via2 (by repeat (first | exact K | apply Kn.push | apply Kn.drew)) hsig ?_;clear K hO hsig;rintro _ wN ⟨u,rfl,hu⟩ K hO;simp only [Opened,World.size_alloc,World.size_drew,World.size_setCell]at hO)
    have hgr:=zvp true hu hpl
    go_wp2_with (go_at_call 158;refine via (by repeat (first | exact K | apply Kn.push | apply Kn.drew)) hgr ?_;clear K hgr;(try clear hO);intro wN K hO;simp only [Opened,World.size_alloc,World.size_drew,World.size_setCell]at hO)
    go_wp2
    (refine bodyPost_ret (by simp [results,Tryz.results131,go_sem,hO];try rfl) rfl ⟨?_,by have B:=K.below;go_grown⟩)
    rfl
  ·have e:askQ l now fresh r=(if wh=true then minV out else -1099511627776,minV out):=by unfold askQ;rw [if_neg ha,← hp];dsimp only;rw [if_neg h1]
   rw [e];clear e;dsimp only;cases wh
   ·go_enter Tryz.func131,Tryz.ntmps131
    go_wp2_with (go_at_call 155;refine via2 (by repeat (first | exact K | apply Kn.push | apply Kn.drew)) (hsam _ (by have B:=K.below;go_grown)) ?_;clear K;rintro _ wN ⟨b,c,n,a,rfl,lo,hr⟩ K hO;simp only [Opened,World.size_alloc,World.size_drew,World.size_setCell]at hO)
    clear hsam;have hsig:=zqs hr s1 s2 s3 hw hf hwi;rw [← hp]at hsig;dsimp only at hsig;clear hr s1 s2 s3
    go_wp2_with (go_at_call 157;refine via2 (by repeat (first | exact K | apply Kn.push | apply Kn.drew)) hsig ?_;clear K hO hsig;rintro _ wN ⟨u,rfl,hu⟩ K hO;simp only [Opened,World.size_alloc,World.size_drew,World.size_setCell]at hO)
    have hgr:=zjy false hu hpl
    go_wp2_with (go_at_call 159;refine via (by repeat (first | exact K | apply Kn.push | apply Kn.drew)) hgr ?_;clear K hgr;(try clear hO);intro wN K hO;simp only [Opened,World.size_alloc,World.size_drew,World.size_setCell]at hO)
    go_wp2
    (refine bodyPost_ret (by simp [results,Tryz.results131,go_sem,hO];try rfl) rfl ⟨?_,by have B:=K.below;go_grown⟩)
    rfl
   ·go_enter Tryz.func131,Tryz.ntmps131
    go_wp2_with (go_at_call 155;refine via2 (by repeat (first | exact K | apply Kn.push | apply Kn.drew)) (hsam _ (by have B:=K.below;go_grown)) ?_;clear K;rintro _ wN ⟨b,c,n,a,rfl,lo,hr⟩ K hO;simp only [Opened,World.size_alloc,World.size_drew,World.size_setCell]at hO)
    clear hsam;have hsig:=zqs hr s1 s2 s3 hw hf hwi;rw [← hp]at hsig;dsimp only at hsig;clear hr s1 s2 s3
    go_wp2_with (go_at_call 157;refine via2 (by repeat (first | exact K | apply Kn.push | apply Kn.drew)) hsig ?_;clear K hO hsig;rintro _ wN ⟨u,rfl,hu⟩ K hO;simp only [Opened,World.size_alloc,World.size_drew,World.size_setCell]at hO)
    have hgr:=zjy true hu hpl
    go_wp2_with (go_at_call 159;refine via (by repeat (first | exact K | apply Kn.push | apply Kn.drew)) hgr ?_;clear K hgr;(try clear hO);intro wN K hO;simp only [Opened,World.size_alloc,World.size_drew,World.size_setCell]at hO)
    go_wp2
    (refine bodyPost_ret (by simp [results,Tryz.results131,go_sem,hO];try rfl) rfl ⟨?_,by have B:=K.below;go_grown⟩)
    rfl
end Go.Proofs.YtdjgnbkclcjiiaaGreatDoor
