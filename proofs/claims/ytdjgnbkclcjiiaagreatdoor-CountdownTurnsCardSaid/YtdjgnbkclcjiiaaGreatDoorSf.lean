import Derived.Test.YtdjgnbkclcjiiaaGreatDoorSe
import Derived.Test.YtdjgnbkclcjiiaaGreatDoorSg
import Derived.Test.YtdjgnbkclcjiiaaGreatDoorInn
set_option linter.unusedVariables false
set_option linter.unusedSimpArgs false
set_option maxRecDepth 4000
namespace Go.Proofs.YtdjgnbkclcjiiaaGreatDoor
open Go Go.RowKit Go.Proofs Wk
open Vc (SlAt OV iteI Vl zrc zf)
attribute [local irreducible] Go.Calls
attribute [local irreducible] wpQuiet
def fsP(b o:Nat):Option Nat→Value | some j=>.pointer (some ⟨b,o + j * 3,none⟩) | none=>.pointer none
theorem zcn{w0 w w':World}{L:List (Nat × Array Value × TypeId)}{row:Option Nat}(K:Kn w0 w L)(hg:w.grownBy w' row)(hr:∀ k,row=some k→w0.heap.size≤k)(hL:∀ p∈L,row≠some p.1):Kn w0 w' L :=
 ⟨K.below.grown hg K.below.size hr,fun p hp=>(hg.block _ (heap_lt (K.all p hp)) (fun e=>hL p hp e.symm)).trans (K.all p hp)⟩
theorem zlp{w:World}{base:Nat}{e:TypeId}{size n:Nat}{v:Value}{xs:List Value}(h:w.ownsRow base e size v n xs){k:Nat}(hk:v.ownBlock=some k):base≤k:=by
 rcases h.2 with ⟨rfl,_⟩ | ⟨g,cap,cur,rfl,hg,_⟩
 ·simp [Value.ownBlock]at hk
 ·simp only [Value.ownBlock,Option.some.injEq]at hk;omega
theorem zdb{w:World}{p:Nat × Array Value × TypeId}(h:w.heap[p.1]? = some (.cells p.2.1 p.2.2)):p.1 < w.heap.size:=heap_lt h
structure Hd(p:Prop):Prop where
 out:p
theorem zwk{cur:Array Value}{out:List Sn}(h:cur.toList.take (out.length * 3)=out.flatMap snc){k:Nat}{z:Sn}(hz:out[k]? = some z):cur[k * 3]? = some (.string ⟨z.nm.toArray⟩)∧cur[k * 3 + 1]? = some (.int .i64 z.t)∧cur[k * 3 + 2]? = some (.int .i64 z.v):=by
 have G:∀ i u,i < 3→(snc z)[i]? = some u→cur[k * 3 + i]? = some u:=fun i u hi hu=>by
  have:=(Vc.zj zk hz hi).trans hu
  rw [← h,List.getElem?_take]at this;split at this
  ·simpa using this
  ·cases this
 exact⟨G 0 _ (by decide) rfl,G 1 _ (by decide) rfl,G 2 _ (by decide) rfl⟩
theorem zyr{cur:Array Value}{out:List Sn}{g cap:Nat}(h:cur.toList.take (out.length * 3)=out.flatMap snc){W:World}(hW:W.heap[g]? = some (.cells cur 61 (0,0))):SlAt W (.slice (some ⟨g,0,none⟩) out.length cap) 3 (out.flatMap snc):=by
 refine .inr (.inr ⟨g,0,out.length,cap,rfl,Vc.zbb zk out,fun j u hj => ?_⟩);rw [← h,List.getElem?_take]at hj;split at hj
 ·simp only [World.cell?,hW,Nat.zero_add];simpa using hj
 ·cases hj
theorem zmf{fresh now nx:Int}{L R:List Sn}{z:Sn}(h:L=z::R)(hn:nextT now R=nx):gapN fresh now L=(decide (nx - z.t≤fresh) && gapN fresh now R):=by
 rw [h,gapN,hn]
set_option maxHeartbeats 16000000 in
theorem zbaa{w:World}{b o m:Nat}{l:List Sn}{now fresh win:Int}(nm:List UInt8)(hc:∀ j u,(l.flatMap snc)[j]? = some u→w.cell? ⟨b,o + j,none⟩=some u)(hn:l.length≤1000)
    (hb:∀ x∈l,0≤x.t∧x.t≤1073741824) (hw:0≤now∧now≤1073741824) (hf:0≤fresh∧fresh≤1000) (hwi:0≤win∧win≤1000) :
    Calls Tryz.prog 129 #[.agg #[.slice (some ⟨b,o,none⟩) l.length m,.int .i64 now,.int .i64 fresh],.string ⟨nm.toArray⟩,.int .i64 win] w (fun e w'=>(∃ u,e=.returned (.tuple #[u,.bool (sightP (sampL l nm now) now fresh win).2])∧SlAt w' u 3 ((sightP (sampL l nm now) now fresh win).1.flatMap snc))∧Below w.heap.size w w'):=by
  have K:=Kn.start w;have hfrom:IntKind.i64.wrap (now - win)=now - win:=zf (by omega)
  go_enter Tryz.func129,Tryz.ntmps129
  go_wp2
  go_loopw [6,9,22] (fun v p i wr=>∃ (k:Nat) (fo:Option Nat),k≤l.length∧i=.int .i64 k∧p=fsP b o fo∧FS (l.take k) nm now win fo∧wr.ownsRow (w.heap.size + 1) 61 3 v (nwL (l.take k) nm now win).length ((nwL (l.take k) nm now win).flatMap snc)∧Kn w wr [(w.heap.size,#[.slice (some ⟨b,o,none⟩) l.length m,.int .i64 now,.int .i64 fresh],130)]) (fun _ _ i _=>l.length - (intOf i).toNat)
  case atStart=>exact⟨0,none,Nat.zero_le _,rfl,rfl,rfl,World.ownsRow_nil _ _ _ _,by exact Kn.push K _ _⟩
  case round =>
    clear K;obtain⟨k,fo,hk,rfl,rfl,hfs,hown,K⟩:=hrel;by_cases hlt:k < l.length
    · have hz:l[k]? = some l[k]:=List.getElem?_eq_getElem hlt;generalize l[k]=z at hz
      have cell:∀ (W:World),Below w.heap.size w W→W.cell? ⟨b,o + k * 3,none⟩=some (.string ⟨z.nm.toArray⟩)∧W.cell? ⟨b,o + k * 3 + 1,none⟩=some (.int .i64 z.t)∧W.cell? ⟨b,o + k * 3 + 2,none⟩=some (.int .i64 z.v):=fun W hB=>by
        have c0:=hc (k * 3 + 0) _ (Vc.zj zk hz (by decide));have c1:=hc (k * 3 + 1) _ (Vc.zj zk hz (by decide));have c2:=hc (k * 3 + 2) _ (Vc.zj zk hz (by decide));simp only [Nat.add_zero,← Nat.add_assoc]at c0 c1 c2;exact⟨(hB.cell (World.block_lt_of_cell? _ _ c0)).trans c0,(hB.cell (World.block_lt_of_cell? _ _ c1)).trans c1,(hB.cell (World.block_lt_of_cell? _ _ c2)).trans c2⟩
      have hB0:=K.below;have KR:Kn wr wr [(w.heap.size,#[.slice (some ⟨b,o,none⟩) l.length m,.int .i64 now,.int .i64 fresh],130)]:=⟨Below.refl _ _,K.all⟩;have hO:=Kn.opened_of K.all;simp only [Opened,World.size_alloc,World.size_drew,World.size_setCell]at hO
      go_wp2
      clear K;refine zwb 15 KR (by kernel_rfl) (by kernel_rfl) ?_;intro W KB hG;simp only [OpenedG,World.size_alloc,World.size_drew,World.size_setCell]at hG;simp only [List.take_succ_cons,List.take_zero,List.drop_succ_cons,List.drop_zero]
      have hE:∀ (d:Nat) (os:Array Obj),(Go.Sort.grow (redrawn W d) os).cell? ⟨b,o + k * 3,none⟩=some (.string ⟨z.nm.toArray⟩)∧(Go.Sort.grow (redrawn W d) os).cell? ⟨b,o + k * 3 + 1,none⟩=some (.int .i64 z.t):=fun d os=>by
        have h:=cell _ (hB0.trans (((KB.grown ⟨⟨d,os⟩,rfl⟩).below).mono hB0.size));exact⟨h.1,h.2.1⟩
      have after:∀ wN,Kn wr wN [(w.heap.size,#[.slice (some ⟨b,o,none⟩) l.length m,.int .i64 now,.int .i64 fresh],130)]→Kn w wN [(w.heap.size,#[.slice (some ⟨b,o,none⟩) l.length m,.int .i64 now,.int .i64 fresh],130)]∧wN.ownsRow (w.heap.size + 1) 61 3 u6 (nwL (l.take k) nm now win).length ((nwL (l.take k) nm now win).flatMap snc):=fun wN h =>
        ⟨Kn.trans' hB0 h,hown.kept (row:=none) ⟨h.below.os,h.below.tape,h.below.output,h.below.size,fun i hi _=>h.below.block i hi⟩ (by cases u6.ownBlock <;> simp)⟩
      by_cases hzn:z.nm=nm
      · subst hzn;by_cases hzt:z.t > now
        · repeat (quiet_step (fail))
          refine wpQuiet_nil ?_;clear KB hG KR hO
          (try clear hE)
          intro wN KN hO;obtain⟨K,hown⟩:=after wN KN;clear after KN;simp only [Opened,World.size_alloc,World.size_drew,World.size_setCell]at hO
          go_wp2
          go_roundw
          case rel=>exact⟨k + 1,fo,by omega,by go_num,rfl,(zan hz hfs (by omega)).1,by rw [(zan hz hfs (by omega)).2];exact hown,K⟩
          case measure=>simp [intOf];omega
        · repeat (quiet_step (fail))
          refine wpQuiet_nil ?_;clear KB hG KR hO
          (try clear hE)
          intro wN KN hO;obtain⟨K,hown⟩:=after wN KN;clear after KN;simp only [Opened,World.size_alloc,World.size_drew,World.size_setCell]at hO;have hC:=cell _ K.below;by_cases hzo:z.t≤now - win
          · go_wp2
            go_roundw
            case rel=>exact⟨k + 1,some k,by omega,by go_num,rfl,(zpx hz ⟨rfl,by omega⟩ hzo).1,by rw [(zpx hz ⟨rfl,by omega⟩ hzo).2];exact hown,K⟩
            case measure=>simp [intOf];omega
          · obtain⟨i0,hi0,hi2⟩:=Option.map_eq_some_iff.1 zaf;have hzs:i0.size=3:=by injection hi2
            have hzb:i0.bytes=32:=by injection hi2
            have hz0:i0.zero=some (.agg #[.string ⟨#[]⟩,.int .i64 0,.int .i64 0]):=by
              have:=zkh
              rw [hi0]at this;simpa using this
            have N:=zzz hz hfs ⟨rfl,by omega⟩ hzo;have nl:=zqx (l.take k) z.nm now win;rw [List.length_take]at nl;have K1:=K.skip (.cells #[.string ⟨z.nm.toArray⟩,.int .i64 z.t,.int .i64 z.v] 61);have own1:=hown.kept (World.grownBy_alloc wN (.cells #[.string ⟨z.nm.toArray⟩,.int .i64 z.t,.int .i64 z.v] 61) none) (by cases u6.ownBlock <;> simp)
            have hnew:(wN.alloc (.cells #[.string ⟨z.nm.toArray⟩,.int .i64 z.t,.int .i64 z.v] 61)).heap[wN.heap.size]? = some (.cells (snc z).toArray 61 (0,0)):=by
              rw [heap_alloc,if_pos rfl];rfl
            have hgeN:=zdb (K.all _ (List.mem_cons_self ..))
            go_wp2_with (at_builtin;refine wpList_append_own_at _ rfl _ _ 52 rfl (w.heap.size + 1) 61 i0 _ 3 32 zpd hi0 hz0 hzs hzb rfl (by omega) _ _ _ rfl own1 ⟨wN.heap.size,0,none⟩ 1 1 (snc z) rfl rfl (cellsAt hnew 0 (snc z) 3 rfl) (zzm z) (by unfold maxLen;omega) (by omega) (by simp only [World.size_alloc];omega) ?_;intro v' w1 hown1 hgrow hnil hat)
            go_roundw
            case rel=>exact⟨k + 1,fo,by omega,by go_num,rfl,N.1,by rw [N.2,List.flatMap_append,List.length_append];exact hown1,zcn K1 hgrow (fun k hk=>by have:=zlp hown hk;omega) (fun p hp e=>by simp only [List.mem_singleton]at hp;subst hp;have:=zlp hown e;omega)⟩
            case measure=>simp [intOf];omega
      · have hzn':¬ (ByteArray.mk z.nm.toArray=ByteArray.mk nm.toArray):=fun e=>hzn (by injection e with e;simpa using e)
        repeat (quiet_step (fail))
        refine wpQuiet_nil ?_;clear KB hG KR hO
        (try clear hE)
        intro wN KN hO;obtain⟨K,hown⟩:=after wN KN;clear after KN;simp only [Opened,World.size_alloc,World.size_drew,World.size_setCell]at hO
        go_wp2
        go_roundw
        case rel=>exact⟨k + 1,fo,by omega,by go_num,rfl,(zan hz hfs (fun h=>hzn h.1)).1,by rw [(zan hz hfs (fun h=>hzn h.1)).2];exact hown,K⟩
        case measure=>simp [intOf];omega
    · obtain rfl:k=l.length:=by omega
      rw [List.take_length]at hfs hown;have hfrom2:IntKind.i64.wrap (now - win - fresh)=now - win - fresh:=zf (by omega);have SO:=zrw (fresh:=fresh) hfs;have nl:=zqx l nm now win;have nb:∀ x∈nwL l nm now win,0≤x.t∧x.t≤1073741824:=fun x hx=>hb x (zaaa hx);have hB0:=K.below;have KR:Kn wr wr [(w.heap.size,#[.slice (some ⟨b,o,none⟩) l.length m,.int .i64 now,.int .i64 fresh],130)]:=⟨Below.refl _ _,K.all⟩
      have after:∀ wN,Kn wr wN [(w.heap.size,#[.slice (some ⟨b,o,none⟩) l.length m,.int .i64 now,.int .i64 fresh],130)]→Kn w wN [(w.heap.size,#[.slice (some ⟨b,o,none⟩) l.length m,.int .i64 now,.int .i64 fresh],130)]∧wN.ownsRow (w.heap.size + 1) 61 3 u6 (nwL l nm now win).length ((nwL l nm now win).flatMap snc):=fun wN h =>
        ⟨Kn.trans' hB0 h,hown.kept (row:=none) ⟨h.below.os,h.below.tape,h.below.output,h.below.size,fun i hi _=>h.below.block i hi⟩ (by cases u6.ownBlock <;> simp)⟩
      have hO:=Kn.opened_of K.all;simp only [Opened,World.size_alloc,World.size_drew,World.size_setCell]at hO;cases fo with
      | none =>
        have hres:sightP (sampL l nm now) now fresh win=(nwL l nm now win,false && gapN fresh now (nwL l nm now win)):=by rw [Bool.false_and];exact SO.2 (fun j f hj=>by cases hj)
        have hres:=Hd.mk hres;clear SO hfs;simp only [fsP]
        go_wp2
        clear K;refine zwb 13 KR (by kernel_rfl) (by kernel_rfl) ?_;intro W KB hG;simp only [OpenedG,World.size_alloc,World.size_drew,World.size_setCell]at hG;simp only [List.take_succ_cons,List.take_zero,List.drop_succ_cons,List.drop_zero]
        repeat (quiet_step (fail))
        refine wpQuiet_nil ?_;clear KB hG KR hO
        (try clear hE)
        intro wN KN hO;obtain⟨K,hown⟩:=after wN KN;clear after KN;simp only [Opened,World.size_alloc,World.size_drew,World.size_setCell]at hO;rcases hown.2 with ⟨rfl,h0⟩ | ⟨g,cap,cur,rfl,hbg,hgc,hnc,hcm,hcs,htake⟩
        · have hnil:nwL l nm now win=[]:=List.eq_nil_of_length_eq_zero h0;have hres':=Hd.mk hres.out;rw [hnil]at hres';clear hres hnil
          go_wp2
          go_loopw [7,82] (fun gb i wq=>gb=.bool false∧i=.int .i64 0∧Kn w wq [(w.heap.size,#[.slice (some ⟨b,o,none⟩) l.length m,.int .i64 now,.int .i64 fresh],130)]) (fun _ _ _=>0)
          case atStart=>exact⟨rfl,rfl,K⟩
          case round =>
            clear K;obtain⟨rfl,rfl,K⟩:=hrel
            go_wp2
            refine bodyPost_ret (by simp [results,Tryz.results129,go_sem];try rfl) rfl ⟨⟨_, ?_,.inl ⟨rfl, ?_⟩⟩,K.below⟩
            · rw [hres'.out];rfl
            · rw [hres'.out];rfl
        · obtain⟨out,hout⟩:∃ out,out=nwL l nm now win:=⟨_,rfl⟩;rw [← hout]at hres nb htake hnc nl ⊢;have ob:=nb
          have K2:Kn w wN [(g,cur,61),(w.heap.size,#[.slice (some ⟨b,o,none⟩) l.length m,.int .i64 now,.int .i64 fresh],130)]:=⟨K.below,fun p hp=>by
            rcases List.mem_cons.1 hp with rfl | hp
            · exact hgc
            · exact K.all p hp⟩
          clear nb hout K hown;have ocell:∀ (k:Nat) (z:Sn),out[k]? = some z→cur[k * 3]? = some (.string ⟨z.nm.toArray⟩)∧cur[k * 3 + 1]? = some (.int .i64 z.t)∧cur[k * 3 + 2]? = some (.int .i64 z.v):=fun k z hz=>zwk htake hz;have sl:∀ (W:World),W.heap[g]? = some (.cells cur 61 (0,0))→SlAt W (.slice (some ⟨g,0,none⟩) out.length cap) 3 (out.flatMap snc):=fun W hW=>zyr htake hW;have hcap:out.length≤9223372036854775807:=by omega
          clear htake
          go_wp2
          go_loopw [7,82] (fun gb i wq=>∃ (k:Nat) (g0:Bool),k≤out.length∧i=.int .i64 k∧gb=.bool g0∧Hd ((g0 && gapN fresh now (out.drop k))=(false && gapN fresh now out))∧Kn w wq [(g,cur,61),(w.heap.size,#[.slice (some ⟨b,o,none⟩) l.length m,.int .i64 now,.int .i64 fresh],130)]) (fun _ i _=>out.length - (intOf i).toNat)
          case atStart=>exact⟨0,false,Nat.zero_le _,rfl,rfl,⟨by rw [List.drop_zero]⟩,K2⟩
          case round =>
            clear K2;obtain⟨k2,g0,hk2,rfl,rfl,hG,K⟩:=hrel;by_cases hlt2:k2 < out.length
            · have hz2:out[k2]? = some out[k2]:=List.getElem?_eq_getElem hlt2;have hd2:out.drop k2=out[k2]::out.drop (k2 + 1):=List.drop_eq_getElem_cons hlt2;generalize out[k2]=z2 at hz2 hd2;have oc:=ocell k2 z2 hz2;have zb:=ob z2 (List.mem_of_getElem? hz2);have hLne:∀ p ∈ [(g,cur,61),(w.heap.size,#[Value.slice (some ⟨b,o,none⟩) l.length m,.int .i64 now,.int .i64 fresh],130)],p.1≠wr.heap.size:=fun p hp=>Nat.ne_of_lt (zdb (K.all p hp));by_cases hlt3:k2 + 1 < out.length
              · have hz3:out[k2 + 1]? = some out[k2 + 1]:=List.getElem?_eq_getElem hlt3;have hd3:out.drop (k2 + 1)=out[k2 + 1]::out.drop (k2 + 1 + 1):=List.drop_eq_getElem_cons hlt3;generalize out[k2 + 1]=z3 at hz3 hd3;have oc3:=ocell (k2 + 1) z3 hz3;have zb3:=ob z3 (List.mem_of_getElem? hz3);have e:=Hd.mk (zmf (fresh:=fresh) (now:=now) hd2 (show nextT now (out.drop (k2 + 1))=z3.t by rw [hd3];rfl));have hwr:IntKind.i64.wrap (z3.t - z2.t)=z3.t - z2.t:=zf (by omega);clear hd2 hd3 hz2 hz3 ocell ob;have hO:=Kn.opened_of K.all;simp only [Opened,World.size_alloc,World.size_drew,World.size_setCell]at hO;cases g0
                · go_wp2
                  go_roundw
                  case rel=>exact⟨k2 + 1,false,by omega,by go_num,rfl,⟨by rw [← hG.out,Bool.false_and,Bool.false_and]⟩,K.skip _⟩
                  case measure=>simp [intOf];omega
                · by_cases hgap:z3.t - z2.t≤fresh
                  · go_wp2
                    go_roundw
                    case rel=>exact⟨k2 + 1,true,by omega,by go_num,rfl,⟨by rw [← hG.out,e.out,decide_eq_true hgap];simp⟩,K.skip _⟩
                    case measure=>simp [intOf];omega
                  · go_wp2
                    go_roundw
                    case rel=>exact⟨k2 + 1,false,by omega,by go_num,rfl,⟨by rw [← hG.out,e.out,decide_eq_false hgap];simp⟩,K.skip _⟩
                    case measure=>simp [intOf];omega
              · have e:=Hd.mk (zmf (fresh:=fresh) (now:=now) hd2 (show nextT now (out.drop (k2 + 1))=now by rw [List.drop_of_length_le (by omega)];rfl));have hwr:IntKind.i64.wrap (now - z2.t)=now - z2.t:=zf (by omega);clear hd2 hz2 ocell ob;have hO:=Kn.opened_of K.all;simp only [Opened,World.size_alloc,World.size_drew,World.size_setCell]at hO;cases g0
                · go_wp2
                  go_roundw
                  case rel=>exact⟨k2 + 1,false,by omega,by go_num,rfl,⟨by rw [← hG.out,Bool.false_and,Bool.false_and]⟩,K.skip _⟩
                  case measure=>simp [intOf];omega
                · by_cases hgap:now - z2.t≤fresh
                  · go_wp2
                    go_roundw
                    case rel=>exact⟨k2 + 1,true,by omega,by go_num,rfl,⟨by rw [← hG.out,e.out,decide_eq_true hgap];simp⟩,K.skip _⟩
                    case measure=>simp [intOf];omega
                  · go_wp2
                    go_roundw
                    case rel=>exact⟨k2 + 1,false,by omega,by go_num,rfl,⟨by rw [← hG.out,e.out,decide_eq_false hgap];simp⟩,K.skip _⟩
                    case measure=>simp [intOf];omega
            · obtain rfl:k2=out.length:=by omega
              have hG':=hG.out;rw [List.drop_length]at hG';simp only [gapN,Bool.and_true]at hG';subst hG';have hO:=Kn.opened_of K.all;simp only [Opened,World.size_alloc,World.size_drew,World.size_setCell]at hO
              go_wp2
              refine bodyPost_ret (by simp [results,Tryz.results129,go_sem,hO];try rfl) rfl ⟨⟨_, ?_,by rw [hres.out];exact sl _ (K.all _ (List.mem_cons_self ..))⟩,K.below⟩;rw [hres.out]
              try rfl
      | some j =>
        obtain⟨f,hj',hlast⟩:=hfs
        have cell:∀ (W:World),Below w.heap.size w W→W.cell? ⟨b,o + j * 3,none⟩=some (.string ⟨f.nm.toArray⟩)∧W.cell? ⟨b,o + j * 3 + 1,none⟩=some (.int .i64 f.t)∧W.cell? ⟨b,o + j * 3 + 2,none⟩=some (.int .i64 f.v):=fun W hB=>by
          have c0:=hc (j * 3 + 0) _ (Vc.zj zk hj' (by decide));have c1:=hc (j * 3 + 1) _ (Vc.zj zk hj' (by decide));have c2:=hc (j * 3 + 2) _ (Vc.zj zk hj' (by decide));simp only [Nat.add_zero,← Nat.add_assoc]at c0 c1 c2;exact⟨(hB.cell (World.block_lt_of_cell? _ _ c0)).trans c0,(hB.cell (World.block_lt_of_cell? _ _ c1)).trans c1,(hB.cell (World.block_lt_of_cell? _ _ c2)).trans c2⟩
        simp only [fsP];by_cases hft:now - win - fresh≤f.t
        · have hres:sightP (sampL l nm now) now fresh win=(f::nwL l nm now win,true && gapN fresh now (f::nwL l nm now win)):=by rw [Bool.true_and];exact SO.1 j f rfl hj' hft
          have fb:=hb f (List.mem_of_getElem? hj');have hres:=Hd.mk hres;clear SO hlast
          go_wp2
          clear K;refine zwb 13 KR (by kernel_rfl) (by kernel_rfl) ?_;intro W KB hG;simp only [OpenedG,World.size_alloc,World.size_drew,World.size_setCell]at hG;simp only [List.take_succ_cons,List.take_zero,List.drop_succ_cons,List.drop_zero]
          have hE:∀ (d:Nat) (os:Array Obj),(Go.Sort.grow (redrawn W d) os).cell? ⟨b,o + j * 3,none⟩=some (.string ⟨f.nm.toArray⟩)∧(Go.Sort.grow (redrawn W d) os).cell? ⟨b,o + j * 3 + 1,none⟩=some (.int .i64 f.t):=fun d os=>by
            have h:=cell _ (hB0.trans (((KB.grown ⟨⟨d,os⟩,rfl⟩).below).mono hB0.size));exact⟨h.1,h.2.1⟩
          repeat (quiet_step (fail))
          refine wpQuiet_nil ?_;clear KB hG KR hO
          (try clear hE)
          intro wN KN hO;obtain⟨K,hown⟩:=after wN KN;clear after KN;simp only [Opened,World.size_alloc,World.size_drew,World.size_setCell]at hO;have hC:=cell _ K.below;have K1:=K.skip (.cells #[.string ⟨f.nm.toArray⟩,.int .i64 f.t,.int .i64 f.v] 61);have own1:=hown.kept (World.grownBy_alloc wN (.cells #[.string ⟨f.nm.toArray⟩,.int .i64 f.t,.int .i64 f.v] 61) none) (by cases u6.ownBlock <;> simp)
          have hnew:(wN.alloc (.cells #[.string ⟨f.nm.toArray⟩,.int .i64 f.t,.int .i64 f.v] 61)).heap[wN.heap.size]? = some (.cells (snc f).toArray 61 (0,0)):=by
            rw [heap_alloc,if_pos rfl];rfl
          have hgeN:=zdb (K.all _ (List.mem_cons_self ..));obtain⟨out,hout⟩:∃ out,out=f::nwL l nm now win:=⟨_,rfl⟩;rw [← hout]at hres
          have ob:∀ x∈out,0≤x.t∧x.t≤1073741824:=fun x hx=>by
            rw [hout]at hx;rcases List.mem_cons.1 hx with rfl | hx
            · exact fb
            · exact nb x hx
          have ol:out.length≤1001:=by rw [hout,List.length_cons];omega
          have op:0 < out.length:=by rw [hout,List.length_cons];omega
          have hins:=zat (w.heap.size + 1) _ u6 wN.heap.size _ (snc f) _ own1 (by omega) (by simp only [World.size_alloc];omega) hnew rfl (fun e=>by
            rcases hown.2 with ⟨rfl,_⟩ | ⟨g,cap,cur,rfl,_,hg,_⟩
            · simp [Value.ownBlock]at e
            · simp only [Value.ownBlock,Option.some.injEq]at e
              have:=heap_lt hg
              omega) (fun v hv=>by
            obtain⟨s,_,hs⟩:=List.mem_flatMap.1 hv;exact zzm s v hs) (zzm f)
          rw [show (nwL l nm now win).length + 1=out.length by rw [hout,List.length_cons],show snc f++(nwL l nm now win).flatMap snc=out.flatMap snc by rw [hout,List.flatMap_cons]]at hins;have hrow:∀ k,u6.ownBlock=some k→w.heap.size + 1≤k:=fun k hk=>zlp hown hk
          go_wp2_with (go_at_call 154;refine hins.mono ?_;rintro _ w1 ⟨u,rfl,hown1,hg1⟩;rcases hown1.2 with ⟨_,h0⟩ | ⟨g,cap,cur,rfl,hbg,hgc,hnc,hcm,hcs,htake⟩;(exact absurd h0 (Nat.ne_of_gt op));have K:=zcn K1 hg1 (fun k hk=>by have:=hrow k hk;omega) (fun p hp e=>by simp only [List.mem_singleton]at hp;subst hp;have:=hrow _ e;omega);have K2:Kn w w1 [(g,cur,61),(w.heap.size,#[.slice (some ⟨b,o,none⟩) l.length m,.int .i64 now,.int .i64 fresh],130)]:=⟨K.below,fun p hp=>by rcases List.mem_cons.1 hp with rfl | hp;(exact hgc);(exact K.all p hp)⟩;clear K1 hown1 hins K hrow hout)
          have ocell:∀ (k:Nat) (z:Sn),out[k]? = some z→cur[k * 3]? = some (.string ⟨z.nm.toArray⟩)∧cur[k * 3 + 1]? = some (.int .i64 z.t)∧cur[k * 3 + 2]? = some (.int .i64 z.v):=fun k z hz=>zwk htake hz;have sl:∀ (W:World),W.heap[g]? = some (.cells cur 61 (0,0))→SlAt W (.slice (some ⟨g,0,none⟩) out.length cap) 3 (out.flatMap snc):=fun W hW=>zyr htake hW;have hcap:out.length≤9223372036854775807:=by omega
          clear htake
          go_wp2
          go_loopw [7,82] (fun gb i wq=>∃ (k:Nat) (g0:Bool),k≤out.length∧i=.int .i64 k∧gb=.bool g0∧Hd ((g0 && gapN fresh now (out.drop k))=(true && gapN fresh now out))∧Kn w wq [(g,cur,61),(w.heap.size,#[.slice (some ⟨b,o,none⟩) l.length m,.int .i64 now,.int .i64 fresh],130)]) (fun _ i _=>out.length - (intOf i).toNat)
          case atStart=>exact⟨0,true,Nat.zero_le _,rfl,rfl,⟨by rw [List.drop_zero]⟩,K2⟩
          case round =>
            clear K2;obtain⟨k2,g0,hk2,rfl,rfl,hG,K⟩:=hrel;by_cases hlt2:k2 < out.length
            · have hz2:out[k2]? = some out[k2]:=List.getElem?_eq_getElem hlt2;have hd2:out.drop k2=out[k2]::out.drop (k2 + 1):=List.drop_eq_getElem_cons hlt2;generalize out[k2]=z2 at hz2 hd2;have oc:=ocell k2 z2 hz2;have zb:=ob z2 (List.mem_of_getElem? hz2);have hLne:∀ p ∈ [(g,cur,61),(w.heap.size,#[Value.slice (some ⟨b,o,none⟩) l.length m,.int .i64 now,.int .i64 fresh],130)],p.1≠wr.heap.size:=fun p hp=>Nat.ne_of_lt (zdb (K.all p hp));by_cases hlt3:k2 + 1 < out.length
              · have hz3:out[k2 + 1]? = some out[k2 + 1]:=List.getElem?_eq_getElem hlt3;have hd3:out.drop (k2 + 1)=out[k2 + 1]::out.drop (k2 + 1 + 1):=List.drop_eq_getElem_cons hlt3;generalize out[k2 + 1]=z3 at hz3 hd3;have oc3:=ocell (k2 + 1) z3 hz3;have zb3:=ob z3 (List.mem_of_getElem? hz3);have e:=Hd.mk (zmf (fresh:=fresh) (now:=now) hd2 (show nextT now (out.drop (k2 + 1))=z3.t by rw [hd3];rfl));have hwr:IntKind.i64.wrap (z3.t - z2.t)=z3.t - z2.t:=zf (by omega);clear hd2 hd3 hz2 hz3 ocell ob;have hO:=Kn.opened_of K.all;simp only [Opened,World.size_alloc,World.size_drew,World.size_setCell]at hO;cases g0
                · go_wp2
                  go_roundw
                  case rel=>exact⟨k2 + 1,false,by omega,by go_num,rfl,⟨by rw [← hG.out,Bool.false_and,Bool.false_and]⟩,K.skip _⟩
                  case measure=>simp [intOf];omega
                · by_cases hgap:z3.t - z2.t≤fresh
                  · go_wp2
                    go_roundw
                    case rel=>exact⟨k2 + 1,true,by omega,by go_num,rfl,⟨by rw [← hG.out,e.out,decide_eq_true hgap];simp⟩,K.skip _⟩
                    case measure=>simp [intOf];omega
                  · go_wp2
                    go_roundw
                    case rel=>exact⟨k2 + 1,false,by omega,by go_num,rfl,⟨by rw [← hG.out,e.out,decide_eq_false hgap];simp⟩,K.skip _⟩
                    case measure=>simp [intOf];omega
              · have e:=Hd.mk (zmf (fresh:=fresh) (now:=now) hd2 (show nextT now (out.drop (k2 + 1))=now by rw [List.drop_of_length_le (by omega)];rfl));have hwr:IntKind.i64.wrap (now - z2.t)=now - z2.t:=zf (by omega);clear hd2 hz2 ocell ob;have hO:=Kn.opened_of K.all;simp only [Opened,World.size_alloc,World.size_drew,World.size_setCell]at hO;cases g0
                · go_wp2
                  go_roundw
                  case rel=>exact⟨k2 + 1,false,by omega,by go_num,rfl,⟨by rw [← hG.out,Bool.false_and,Bool.false_and]⟩,K.skip _⟩
                  case measure=>simp [intOf];omega
                · by_cases hgap:now - z2.t≤fresh
                  · go_wp2
                    go_roundw
                    case rel=>exact⟨k2 + 1,true,by omega,by go_num,rfl,⟨by rw [← hG.out,e.out,decide_eq_true hgap];simp⟩,K.skip _⟩
                    case measure=>simp [intOf];omega
                  · go_wp2
                    go_roundw
                    case rel=>exact⟨k2 + 1,false,by omega,by go_num,rfl,⟨by rw [← hG.out,e.out,decide_eq_false hgap];simp⟩,K.skip _⟩
                    case measure=>simp [intOf];omega
            · obtain rfl:k2=out.length:=by omega
              have hG':=hG.out;rw [List.drop_length]at hG';simp only [gapN,Bool.and_true]at hG';subst hG';have hO:=Kn.opened_of K.all;simp only [Opened,World.size_alloc,World.size_drew,World.size_setCell]at hO
              go_wp2
              refine bodyPost_ret (by simp [results,Tryz.results129,go_sem,hO];try rfl) rfl ⟨⟨_, ?_,by rw [hres.out];exact sl _ (K.all _ (List.mem_cons_self ..))⟩,K.below⟩;rw [hres.out]
              try rfl
        · have hres:sightP (sampL l nm now) now fresh win=(nwL l nm now win,false && gapN fresh now (nwL l nm now win)):=by rw [Bool.false_and];exact SO.2 (fun j' f' e h1=>by obtain rfl:=Option.some.inj e;obtain rfl:=Option.some.inj (h1.symm.trans hj');exact hft)
          have hres:=Hd.mk hres;have fb:=hb f (List.mem_of_getElem? hj');have hdf:decide (now - win - fresh≤f.t)=false:=decide_eq_false hft;clear SO hlast
          go_wp2
          clear K;refine zwb 13 KR (by kernel_rfl) (by kernel_rfl) ?_;intro W KB hG;simp only [OpenedG,World.size_alloc,World.size_drew,World.size_setCell]at hG;simp only [List.take_succ_cons,List.take_zero,List.drop_succ_cons,List.drop_zero]
          have hE:∀ (d:Nat) (os:Array Obj),(Go.Sort.grow (redrawn W d) os).cell? ⟨b,o + j * 3,none⟩=some (.string ⟨f.nm.toArray⟩)∧(Go.Sort.grow (redrawn W d) os).cell? ⟨b,o + j * 3 + 1,none⟩=some (.int .i64 f.t):=fun d os=>by
            have h:=cell _ (hB0.trans (((KB.grown ⟨⟨d,os⟩,rfl⟩).below).mono hB0.size));exact⟨h.1,h.2.1⟩
          repeat (quiet_step (fail))
          refine wpQuiet_nil ?_;clear KB hG KR hO
          (try clear hE)
          intro wN KN hO;obtain⟨K,hown⟩:=after wN KN;clear after KN;simp only [Opened,World.size_alloc,World.size_drew,World.size_setCell]at hO;rcases hown.2 with ⟨rfl,h0⟩ | ⟨g,cap,cur,rfl,hbg,hgc,hnc,hcm,hcs,htake⟩
          · have hnil:nwL l nm now win=[]:=List.eq_nil_of_length_eq_zero h0;have hres':=Hd.mk hres.out;rw [hnil]at hres';clear hres hnil
            go_wp2
            go_loopw [7,82] (fun gb i wq=>gb=.bool false∧i=.int .i64 0∧Kn w wq [(w.heap.size,#[.slice (some ⟨b,o,none⟩) l.length m,.int .i64 now,.int .i64 fresh],130)]) (fun _ _ _=>0)
            case atStart=>exact⟨rfl,rfl,K⟩
            case round =>
              clear K;obtain⟨rfl,rfl,K⟩:=hrel
              go_wp2
              refine bodyPost_ret (by simp [results,Tryz.results129,go_sem];try rfl) rfl ⟨⟨_, ?_,.inl ⟨rfl, ?_⟩⟩,K.below⟩
              · rw [hres'.out];rfl
              · rw [hres'.out];rfl
          · obtain⟨out,hout⟩:∃ out,out=nwL l nm now win:=⟨_,rfl⟩;rw [← hout]at hres nb htake hnc nl ⊢;have ob:=nb
            have K2:Kn w wN [(g,cur,61),(w.heap.size,#[.slice (some ⟨b,o,none⟩) l.length m,.int .i64 now,.int .i64 fresh],130)]:=⟨K.below,fun p hp=>by
              rcases List.mem_cons.1 hp with rfl | hp
              · exact hgc
              · exact K.all p hp⟩
            clear nb hout K hown;have ocell:∀ (k:Nat) (z:Sn),out[k]? = some z→cur[k * 3]? = some (.string ⟨z.nm.toArray⟩)∧cur[k * 3 + 1]? = some (.int .i64 z.t)∧cur[k * 3 + 2]? = some (.int .i64 z.v):=fun k z hz=>zwk htake hz;have sl:∀ (W:World),W.heap[g]? = some (.cells cur 61 (0,0))→SlAt W (.slice (some ⟨g,0,none⟩) out.length cap) 3 (out.flatMap snc):=fun W hW=>zyr htake hW;have hcap:out.length≤9223372036854775807:=by omega
            clear htake
            go_wp2
            go_loopw [7,82] (fun gb i wq=>∃ (k:Nat) (g0:Bool),k≤out.length∧i=.int .i64 k∧gb=.bool g0∧Hd ((g0 && gapN fresh now (out.drop k))=(false && gapN fresh now out))∧Kn w wq [(g,cur,61),(w.heap.size,#[.slice (some ⟨b,o,none⟩) l.length m,.int .i64 now,.int .i64 fresh],130)]) (fun _ i _=>out.length - (intOf i).toNat)
            case atStart=>exact⟨0,false,Nat.zero_le _,rfl,rfl,⟨by rw [List.drop_zero]⟩,K2⟩
            case round =>
              clear K2;obtain⟨k2,g0,hk2,rfl,rfl,hG,K⟩:=hrel;by_cases hlt2:k2 < out.length
              · have hz2:out[k2]? = some out[k2]:=List.getElem?_eq_getElem hlt2;have hd2:out.drop k2=out[k2]::out.drop (k2 + 1):=List.drop_eq_getElem_cons hlt2;generalize out[k2]=z2 at hz2 hd2;have oc:=ocell k2 z2 hz2;have zb:=ob z2 (List.mem_of_getElem? hz2);have hLne:∀ p ∈ [(g,cur,61),(w.heap.size,#[Value.slice (some ⟨b,o,none⟩) l.length m,.int .i64 now,.int .i64 fresh],130)],p.1≠wr.heap.size:=fun p hp=>Nat.ne_of_lt (zdb (K.all p hp));by_cases hlt3:k2 + 1 < out.length
                · have hz3:out[k2 + 1]? = some out[k2 + 1]:=List.getElem?_eq_getElem hlt3;have hd3:out.drop (k2 + 1)=out[k2 + 1]::out.drop (k2 + 1 + 1):=List.drop_eq_getElem_cons hlt3;generalize out[k2 + 1]=z3 at hz3 hd3;have oc3:=ocell (k2 + 1) z3 hz3;have zb3:=ob z3 (List.mem_of_getElem? hz3);have e:=Hd.mk (zmf (fresh:=fresh) (now:=now) hd2 (show nextT now (out.drop (k2 + 1))=z3.t by rw [hd3];rfl));have hwr:IntKind.i64.wrap (z3.t - z2.t)=z3.t - z2.t:=zf (by omega);clear hd2 hd3 hz2 hz3 ocell ob;have hO:=Kn.opened_of K.all;simp only [Opened,World.size_alloc,World.size_drew,World.size_setCell]at hO;cases g0
                  · go_wp2
                    go_roundw
                    case rel=>exact⟨k2 + 1,false,by omega,by go_num,rfl,⟨by rw [← hG.out,Bool.false_and,Bool.false_and]⟩,K.skip _⟩
                    case measure=>simp [intOf];omega
                  · by_cases hgap:z3.t - z2.t≤fresh
                    · go_wp2
                      go_roundw
                      case rel=>exact⟨k2 + 1,true,by omega,by go_num,rfl,⟨by rw [← hG.out,e.out,decide_eq_true hgap];simp⟩,K.skip _⟩
                      case measure=>simp [intOf];omega
                    · go_wp2
                      go_roundw
                      case rel=>exact⟨k2 + 1,false,by omega,by go_num,rfl,⟨by rw [← hG.out,e.out,decide_eq_false hgap];simp⟩,K.skip _⟩
                      case measure=>simp [intOf];omega
                · have e:=Hd.mk (zmf (fresh:=fresh) (now:=now) hd2 (show nextT now (out.drop (k2 + 1))=now by rw [List.drop_of_length_le (by omega)];rfl));have hwr:IntKind.i64.wrap (now - z2.t)=now - z2.t:=zf (by omega);clear hd2 hz2 ocell ob;have hO:=Kn.opened_of K.all;simp only [Opened,World.size_alloc,World.size_drew,World.size_setCell]at hO;cases g0
                  · go_wp2
                    go_roundw
                    case rel=>exact⟨k2 + 1,false,by omega,by go_num,rfl,⟨by rw [← hG.out,Bool.false_and,Bool.false_and]⟩,K.skip _⟩
                    case measure=>simp [intOf];omega
                  · by_cases hgap:now - z2.t≤fresh
                    · go_wp2
                      go_roundw
                      case rel=>exact⟨k2 + 1,true,by omega,by go_num,rfl,⟨by rw [← hG.out,e.out,decide_eq_true hgap];simp⟩,K.skip _⟩
                      case measure=>simp [intOf];omega
                    · go_wp2
                      go_roundw
                      case rel=>exact⟨k2 + 1,false,by omega,by go_num,rfl,⟨by rw [← hG.out,e.out,decide_eq_false hgap];simp⟩,K.skip _⟩
                      case measure=>simp [intOf];omega
              · obtain rfl:k2=out.length:=by omega
                have hG':=hG.out;rw [List.drop_length]at hG';simp only [gapN,Bool.and_true]at hG';subst hG';have hO:=Kn.opened_of K.all;simp only [Opened,World.size_alloc,World.size_drew,World.size_setCell]at hO
                go_wp2
                refine bodyPost_ret (by simp [results,Tryz.results129,go_sem,hO];try rfl) rfl ⟨⟨_, ?_,by rw [hres.out];exact sl _ (K.all _ (List.mem_cons_self ..))⟩,K.below⟩;rw [hres.out]
                try rfl
set_option maxHeartbeats 4000000 in
theorem zav(w:World)(sa:Option Addr)(m:Nat)(now fresh win:Int)(nm:List UInt8)(hw:0≤now∧now≤1073741824)(hwi:0≤win∧win≤1000) :
  Calls Tryz.prog 129 #[.agg #[.slice sa 0 m,.int .i64 now,.int .i64 fresh],.string ⟨nm.toArray⟩,.int .i64 win] w (fun e w'=>(∃ u,e=.returned (.tuple #[u,.bool (sightP (sampL [] nm now) now fresh win).2])∧SlAt w' u 3 ((sightP (sampL [] nm now) now fresh win).1.flatMap snc))∧Below w.heap.size w w'):=by
 have K:=Kn.start w;have hfrom:IntKind.i64.wrap (now - win)=now - win:=zf (by omega)
 go_enter Tryz.func129,Tryz.ntmps129
 go_wp2
 go_loopw [6,9,22] (fun v p i wr=>v=.slice none 0 0∧p=.pointer none∧i=.int .i64 0∧Kn w wr [(w.heap.size,#[.slice sa 0 m,.int .i64 now,.int .i64 fresh],130)]) (fun _ _ _ _=>0)
 case atStart=>exact⟨rfl,rfl,rfl,by exact Kn.push K _ _⟩
 case round =>
  clear K;obtain⟨rfl,rfl,rfl,K⟩:=hrel;have hO:=Kn.opened_of K.all;simp only [Opened,World.size_alloc,World.size_drew,World.size_setCell]at hO
  go_wp2
  refine zwb 13 K (by kernel_rfl) (by kernel_rfl) ?_;intro W KB hG;simp only [OpenedG,World.size_alloc,World.size_drew,World.size_setCell]at hG;simp only [List.take_succ_cons,List.take_zero,List.drop_succ_cons,List.drop_zero]
  repeat (quiet_step (fail))
  refine wpQuiet_nil ?_;clear KB hG K hO;intro wN K hO;simp only [Opened,World.size_alloc,World.size_drew,World.size_setCell]at hO
  go_wp2
  go_loopw [7,82] (fun gb i wq=>gb=.bool false∧i=.int .i64 0∧Kn w wq [(w.heap.size,#[.slice sa 0 m,.int .i64 now,.int .i64 fresh],130)]) (fun _ _ _=>0)
  case atStart=>exact⟨rfl,rfl,K⟩
  case round =>
   clear K;obtain⟨rfl,rfl,K⟩:=hrel
   go_wp2
   refine bodyPost_ret (by simp [results,Tryz.results129,go_sem];try rfl) rfl ⟨⟨_,rfl,.inl ⟨rfl,rfl⟩⟩,K.below⟩
theorem zbt{w:World}{v:Value}{l:List Sn}{now fresh win:Int}(nm:List UInt8)(hl:SlAt w v 3 (l.flatMap snc))(hn:l.length≤1000)
  (hb:∀ x∈l,0≤x.t∧x.t≤1073741824) (hw:0≤now∧now≤1073741824) (hf:0≤fresh∧fresh≤1000) (hwi:0≤win∧win≤1000) :
  Calls Tryz.prog 129 #[.agg #[v,.int .i64 now,.int .i64 fresh],.string ⟨nm.toArray⟩,.int .i64 win] w (fun e w'=>(∃ u,e=.returned (.tuple #[u,.bool (sightP (sampL l nm now) now fresh win).2])∧SlAt w' u 3 ((sightP (sampL l nm now) now fresh win).1.flatMap snc))∧Below w.heap.size w w'):=by
 have z:l.flatMap snc=[]→l=[]:=fun h=>by
  have:=congrArg List.length h
  rw [Vc.zbb zk,List.length_nil]at this;exact List.eq_nil_of_length_eq_zero (by omega)
 rcases hl with ⟨rfl,h⟩ | ⟨a,rfl,h⟩ | ⟨b,o,len,cap,rfl,h1,h2⟩
 ·rw [z h];exact zav w none 0 now fresh win nm hw hwi
 ·rw [z h];exact zav w (some a) 0 now fresh win nm hw hwi
 ·rw [Vc.zbb zk]at h1;obtain rfl:len=l.length:=by omega
  exact zbaa nm h2 hn hb hw hf hwi
end Go.Proofs.YtdjgnbkclcjiiaaGreatDoor
