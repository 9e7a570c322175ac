import Derived.Test.YtdjgnbkclcjiiaaGreatDoorSf
import Derived.Test.YtdjgnbkclcjiiaaGreatDoorM7
set_option linter.unusedVariables false
set_option linter.unusedSimpArgs false
set_option maxRecDepth 100000
namespace Go.Proofs.YtdjgnbkclcjiiaaGreatDoor
open Go Go.RowKit Go.Proofs Wk
open Vc (SlAt OV iteI Vl zrc zf)
attribute [local irreducible] Go.Calls
attribute [local irreducible] wpQuiet
theorem zvi{w:World}{v:Value}{l:List Sn}(h:SlAt w v 3 (l.flatMap snc)):∃ sa sc,v=.slice sa l.length sc∧∀ k z,l[k]? = some z→∃ b o,sa=some ⟨b,o,none⟩∧∀ W,Below w.heap.size w W →
  W.cell? ⟨b,o + k * 3,none⟩=some (.string ⟨z.nm.toArray⟩)∧W.cell? ⟨b,o + k * 3 + 1,none⟩=some (.int .i64 z.t)∧W.cell? ⟨b,o + k * 3 + 2,none⟩=some (.int .i64 z.v):=by
 have zz:l.flatMap snc=[]→l=[]:=fun h=>by
  have:=congrArg List.length h
  rw [Vc.zbb zk,List.length_nil]at this;exact List.eq_nil_of_length_eq_zero (by omega)
 rcases h with ⟨rfl,h⟩ | ⟨a,rfl,h⟩ | ⟨b,o,len,cap,rfl,h1,h2⟩
 ·rw [zz h];exact⟨none,0,rfl,fun k z hk=>by simp at hk⟩
 ·rw [zz h];exact⟨some a,0,rfl,fun k z hk=>by simp at hk⟩
 ·rw [Vc.zbb zk]at h1;obtain rfl:len=l.length:=by omega
  refine⟨_,cap,rfl,fun k z hz=>⟨b,o,rfl,fun W hB => ?_⟩⟩;have c0:=h2 (k * 3 + 0) _ (Vc.zj zk hz (by decide));have c1:=h2 (k * 3 + 1) _ (Vc.zj zk hz (by decide));have c2:=h2 (k * 3 + 2) _ (Vc.zj zk hz (by decide));simp only [Nat.add_zero,← Nat.add_assoc]at c0 c1 c2;exact⟨(hB.cell (World.block_lt_of_cell? _ _ c0)).trans c0,(hB.cell (World.block_lt_of_cell? _ _ c1)).trans c1,(hB.cell (World.block_lt_of_cell? _ _ c2)).trans c2⟩
theorem zmh{s:List Sn}{i:Nat}{z:Sn}(hk:s[i]? = some z):maxV (s.take (i + 1))=max (maxV (s.take i)) z.v:=by
 unfold maxV;rw [List.take_add_one,hk,List.foldl_append];rfl
theorem znh{s:List Sn}{i:Nat}{z:Sn}(hk:s[i]? = some z):minV (s.take (i + 1))=min (minV (s.take i)) z.v:=by
 unfold minV;rw [List.take_add_one,hk,List.foldl_append];rfl
set_option maxHeartbeats 4000000 in
theorem zcaa{w:World}{r:Rl}{v:Value}{l:List Sn}{now fresh:Int}(hV:Vg_3 w)(h:RlAt w r)(hl:SlAt w v 3 (l.flatMap snc))(ho:obsB l=true)(hw:0≤now∧now≤1073741824)(hf:0≤fresh∧fresh≤1000)(hwi:0≤r.wi∧r.wi≤1000)(hask:r.ask=1∨r.ask=2) :
  Calls Tryz.prog 69 #[.agg #[v,.int .i64 now,.int .i64 fresh],RV7 r] w (Vc.Ret (.agg #[.int .i64 (askQ l now fresh r).1,.int .i64 (askQ l now fresh r).2]) w):=by
 obtain⟨sa,sl,sc,hs⟩:=zce (zeb h).1;obtain⟨va,vl,vc,hv⟩:=zce hl
 have hb:∀ x∈l,0≤x.t∧x.t≤1073741824:=fun x hx=>by
  have:=((zsi l).1 ho).1.1 x hx
  simp only [snB,inB,Bool.and_eq_true,decide_eq_true_eq]at this;omega
 have hln:=((zsi l).1 ho).2;have hsig:∀ w',Below w.heap.size w w'→Calls Tryz.prog 129 #[.agg #[v,.int .i64 now,.int .i64 fresh],.string ⟨r.nm.toArray⟩,.int .i64 r.wi] w' _:=fun w' hB=>zbt r.nm (Vc.zcb hB hl) hln hb hw hf hwi
 have gcell:∀ W,Below w.heap.size w W→W.cell? ⟨3,0,none⟩=some (.int .i64 (-1099511627776))∧W.cell? ⟨3,1,none⟩=some (.int .i64 1099511627776):=fun W hB=>by
  obtain⟨ty,mk,hg⟩:=hV
  have:=(hB.block _ (Array.getElem?_eq_some_iff.1 hg).1).trans hg
  simp [World.cell?,this]
 obtain⟨p,hp⟩:∃ p,p=sightP (sampL l r.nm now) now fresh r.wi:=⟨_,rfl⟩;rw [← hp]at hsig
 have hpl:p.1.length≤1001:=by
  have:=zru (s:=sampL l r.nm now) now fresh r.wi
  have h2:(sampL l r.nm now).length≤l.length:=List.length_filter_le _ _;rw [hp];omega
 obtain⟨out,wh⟩:=p;dsimp only at hpl hsig;unfold RV7;rw [hs];rw [hv]at hsig ⊢;have K:=Kn.start w;rcases hask with ha | ha
 ·have e:askQ l now fresh r=(maxV out,if wh=true then maxV out else 1099511627776):=by unfold askQ;rw [if_neg (by omega),← hp];dsimp only;rw [if_pos ha]
  rw [e,ha];clear e hp;dsimp only;cases wh
  ·go_enter Tryz.func69,Tryz.ntmps69
   go_wp2_with (go_at_call 129;refine via2 (by repeat (first | exact K | apply Kn.push | apply Kn.drew)) (hsig _ (by have B:=K.below;go_grown)) ?_;clear K;rintro _ wN ⟨u,rfl,hu⟩ K hO;simp only [Opened,World.size_alloc,World.size_drew,World.size_setCell]at hO;simp only [World.size_alloc,World.size_drew,World.size_setCell]at K;obtain⟨sb,sd,rfl,ucell⟩:=zvi hu;have hg:=gcell wN K.below)
   have KN:Kn wN wN [(w.heap.size + 1 + 1,#[.int .i64 0,.int .i64 0],201),(w.heap.size + 1,#[.int .i64 r.op,.int .i64 1,.string ⟨r.nm.toArray⟩,.int .i64 r.wi,.int .i64 r.cm,.int .i64 r.n,.slice sa sl sc],30),(w.heap.size,#[.slice va vl vc,.int .i64 now,.int .i64 fresh],130)]:=⟨Below.refl _ _,K.all⟩;have hBN:=K.below;have hLB:=Hd.mk (fun p hp=>Nat.ne_of_lt (zdb (KN.all p hp)))
   go_loopw [66] (fun i wr=>∃ k:Nat,k≤out.length∧i=.int .i64 k∧Kn wN wr ((wN.heap.size,#[.int .i64 (maxV (out.take k)),.int .i64 (minV (out.take k))],201) :: [(w.heap.size + 1 + 1,#[.int .i64 0,.int .i64 0],201),(w.heap.size + 1,#[.int .i64 r.op,.int .i64 1,.string ⟨r.nm.toArray⟩,.int .i64 r.wi,.int .i64 r.cm,.int .i64 r.n,.slice sa sl sc],30),(w.heap.size,#[.slice va vl vc,.int .i64 now,.int .i64 fresh],130)])) (fun i _=>out.length - (intOf i).toNat)
   case atStart=>exact⟨0,Nat.zero_le _,rfl,by exact Kn.push KN _ _⟩
   case round =>
    clear K KN;obtain⟨k,hk,rfl,K⟩:=hrel;by_cases hlt:k < out.length
    ·have hz:out[k]? = some out[k]:=List.getElem?_eq_getElem hlt;generalize out[k]=z at hz;obtain⟨ub,uo,rfl,uc⟩:=ucell k z hz;have uc:=uc wr K.below;have K2:=Kn.push K #[.string ⟨z.nm.toArray⟩,.int .i64 z.t,.int .i64 z.v] 61;have hgt:=K.below.size;have hO:=Kn.opened_of K2.all;simp only [Opened,World.size_alloc,World.size_drew,World.size_setCell]at hO
     go_wp2
     go_region
     go_wp2
     go_roundw
     case rel =>
      refine⟨k + 1,by omega,by go_num, ?_⟩;rw [zmh hz,znh hz];exact Kn.drew (Kn.set0 (Kn.set0 (Kn.skip K _) 0 _ (Nat.le_refl _) hLB.out) 1 _ (Nat.le_refl _) hLB.out)
     case measure=>simp [intOf];omega
    ·obtain rfl:k=out.length:=by omega
     rw [List.take_length]at K;have hO:=Kn.opened_of K.all;simp only [Opened,World.size_alloc,World.size_drew,World.size_setCell]at hO;have hBF:=hBN.trans (K.below.mono hBN.size)
     go_wp2
     refine bodyPost_ret (by simp [results,Tryz.results69,go_sem,hO];try rfl) rfl ⟨?_,by have B:=hBF;go_grown⟩;rfl
  ·go_enter Tryz.func69,Tryz.ntmps69
   go_wp2_with (go_at_call 129;refine via2 (by repeat (first | exact K | apply Kn.push | apply Kn.drew)) (hsig _ (by have B:=K.below;go_grown)) ?_;clear K;rintro _ wN ⟨u,rfl,hu⟩ K hO;simp only [Opened,World.size_alloc,World.size_drew,World.size_setCell]at hO;simp only [World.size_alloc,World.size_drew,World.size_setCell]at K;obtain⟨sb,sd,rfl,ucell⟩:=zvi hu;have hg:=gcell wN K.below)
   have KN:Kn wN wN [(w.heap.size + 1 + 1,#[.int .i64 0,.int .i64 0],201),(w.heap.size + 1,#[.int .i64 r.op,.int .i64 1,.string ⟨r.nm.toArray⟩,.int .i64 r.wi,.int .i64 r.cm,.int .i64 r.n,.slice sa sl sc],30),(w.heap.size,#[.slice va vl vc,.int .i64 now,.int .i64 fresh],130)]:=⟨Below.refl _ _,K.all⟩;have hBN:=K.below;have hLB:=Hd.mk (fun p hp=>Nat.ne_of_lt (zdb (KN.all p hp)))
   go_loopw [66] (fun i wr=>∃ k:Nat,k≤out.length∧i=.int .i64 k∧Kn wN wr ((wN.heap.size,#[.int .i64 (maxV (out.take k)),.int .i64 (minV (out.take k))],201) :: [(w.heap.size + 1 + 1,#[.int .i64 0,.int .i64 0],201),(w.heap.size + 1,#[.int .i64 r.op,.int .i64 1,.string ⟨r.nm.toArray⟩,.int .i64 r.wi,.int .i64 r.cm,.int .i64 r.n,.slice sa sl sc],30),(w.heap.size,#[.slice va vl vc,.int .i64 now,.int .i64 fresh],130)])) (fun i _=>out.length - (intOf i).toNat)
   case atStart=>exact⟨0,Nat.zero_le _,rfl,by exact Kn.push KN _ _⟩
   case round =>
    clear K KN;obtain⟨k,hk,rfl,K⟩:=hrel;by_cases hlt:k < out.length
    ·have hz:out[k]? = some out[k]:=List.getElem?_eq_getElem hlt;generalize out[k]=z at hz;obtain⟨ub,uo,rfl,uc⟩:=ucell k z hz;have uc:=uc wr K.below;have K2:=Kn.push K #[.string ⟨z.nm.toArray⟩,.int .i64 z.t,.int .i64 z.v] 61;have hgt:=K.below.size;have hO:=Kn.opened_of K2.all;simp only [Opened,World.size_alloc,World.size_drew,World.size_setCell]at hO
     go_wp2
     go_region
     go_wp2
     go_roundw
     case rel =>
      refine⟨k + 1,by omega,by go_num, ?_⟩;rw [zmh hz,znh hz];exact Kn.drew (Kn.set0 (Kn.set0 (Kn.skip K _) 0 _ (Nat.le_refl _) hLB.out) 1 _ (Nat.le_refl _) hLB.out)
     case measure=>simp [intOf];omega
    ·obtain rfl:k=out.length:=by omega
     rw [List.take_length]at K;have hO:=Kn.opened_of K.all;simp only [Opened,World.size_alloc,World.size_drew,World.size_setCell]at hO;have hBF:=hBN.trans (K.below.mono hBN.size)
     go_wp2
     refine bodyPost_ret (by simp [results,Tryz.results69,go_sem,hO];try rfl) rfl ⟨?_,by have B:=hBF;go_grown⟩;rfl
 ·have e:askQ l now fresh r=(if wh=true then minV out else -1099511627776,minV out):=by unfold askQ;rw [if_neg (by omega),← hp];dsimp only;rw [if_neg (by omega)]
  rw [e,ha];clear e hp;dsimp only;cases wh
  ·go_enter Tryz.func69,Tryz.ntmps69
   go_wp2_with (go_at_call 129;refine via2 (by repeat (first | exact K | apply Kn.push | apply Kn.drew)) (hsig _ (by have B:=K.below;go_grown)) ?_;clear K;rintro _ wN ⟨u,rfl,hu⟩ K hO;simp only [Opened,World.size_alloc,World.size_drew,World.size_setCell]at hO;simp only [World.size_alloc,World.size_drew,World.size_setCell]at K;obtain⟨sb,sd,rfl,ucell⟩:=zvi hu;have hg:=gcell wN K.below)
   have KN:Kn wN wN [(w.heap.size + 1 + 1,#[.int .i64 0,.int .i64 0],201),(w.heap.size + 1,#[.int .i64 r.op,.int .i64 2,.string ⟨r.nm.toArray⟩,.int .i64 r.wi,.int .i64 r.cm,.int .i64 r.n,.slice sa sl sc],30),(w.heap.size,#[.slice va vl vc,.int .i64 now,.int .i64 fresh],130)]:=⟨Below.refl _ _,K.all⟩;have hBN:=K.below;have hLB:=Hd.mk (fun p hp=>Nat.ne_of_lt (zdb (KN.all p hp)))
   go_loopw [66] (fun i wr=>∃ k:Nat,k≤out.length∧i=.int .i64 k∧Kn wN wr ((wN.heap.size,#[.int .i64 (maxV (out.take k)),.int .i64 (minV (out.take k))],201) :: [(w.heap.size + 1 + 1,#[.int .i64 0,.int .i64 0],201),(w.heap.size + 1,#[.int .i64 r.op,.int .i64 2,.string ⟨r.nm.toArray⟩,.int .i64 r.wi,.int .i64 r.cm,.int .i64 r.n,.slice sa sl sc],30),(w.heap.size,#[.slice va vl vc,.int .i64 now,.int .i64 fresh],130)])) (fun i _=>out.length - (intOf i).toNat)
   case atStart=>exact⟨0,Nat.zero_le _,rfl,by exact Kn.push KN _ _⟩
   case round =>
    clear K KN;obtain⟨k,hk,rfl,K⟩:=hrel;by_cases hlt:k < out.length
    ·have hz:out[k]? = some out[k]:=List.getElem?_eq_getElem hlt;generalize out[k]=z at hz;obtain⟨ub,uo,rfl,uc⟩:=ucell k z hz;have uc:=uc wr K.below;have K2:=Kn.push K #[.string ⟨z.nm.toArray⟩,.int .i64 z.t,.int .i64 z.v] 61;have hgt:=K.below.size;have hO:=Kn.opened_of K2.all;simp only [Opened,World.size_alloc,World.size_drew,World.size_setCell]at hO
     go_wp2
     go_region
     go_wp2
     go_roundw
     case rel =>
      refine⟨k + 1,by omega,by go_num, ?_⟩;rw [zmh hz,znh hz];exact Kn.drew (Kn.set0 (Kn.set0 (Kn.skip K _) 0 _ (Nat.le_refl _) hLB.out) 1 _ (Nat.le_refl _) hLB.out)
     case measure=>simp [intOf];omega
    ·obtain rfl:k=out.length:=by omega
     rw [List.take_length]at K;have hO:=Kn.opened_of K.all;simp only [Opened,World.size_alloc,World.size_drew,World.size_setCell]at hO;have hBF:=hBN.trans (K.below.mono hBN.size)
     go_wp2
     refine bodyPost_ret (by simp [results,Tryz.results69,go_sem,hO];try rfl) rfl ⟨?_,by have B:=hBF;go_grown⟩;rfl
  ·go_enter Tryz.func69,Tryz.ntmps69
   go_wp2_with (go_at_call 129;refine via2 (by repeat (first | exact K | apply Kn.push | apply Kn.drew)) (hsig _ (by have B:=K.below;go_grown)) ?_;clear K;rintro _ wN ⟨u,rfl,hu⟩ K hO;simp only [Opened,World.size_alloc,World.size_drew,World.size_setCell]at hO;simp only [World.size_alloc,World.size_drew,World.size_setCell]at K;obtain⟨sb,sd,rfl,ucell⟩:=zvi hu;have hg:=gcell wN K.below)
   have KN:Kn wN wN [(w.heap.size + 1 + 1,#[.int .i64 0,.int .i64 0],201),(w.heap.size + 1,#[.int .i64 r.op,.int .i64 2,.string ⟨r.nm.toArray⟩,.int .i64 r.wi,.int .i64 r.cm,.int .i64 r.n,.slice sa sl sc],30),(w.heap.size,#[.slice va vl vc,.int .i64 now,.int .i64 fresh],130)]:=⟨Below.refl _ _,K.all⟩;have hBN:=K.below;have hLB:=Hd.mk (fun p hp=>Nat.ne_of_lt (zdb (KN.all p hp)))
   go_loopw [66] (fun i wr=>∃ k:Nat,k≤out.length∧i=.int .i64 k∧Kn wN wr ((wN.heap.size,#[.int .i64 (maxV (out.take k)),.int .i64 (minV (out.take k))],201) :: [(w.heap.size + 1 + 1,#[.int .i64 0,.int .i64 0],201),(w.heap.size + 1,#[.int .i64 r.op,.int .i64 2,.string ⟨r.nm.toArray⟩,.int .i64 r.wi,.int .i64 r.cm,.int .i64 r.n,.slice sa sl sc],30),(w.heap.size,#[.slice va vl vc,.int .i64 now,.int .i64 fresh],130)])) (fun i _=>out.length - (intOf i).toNat)
   case atStart=>exact⟨0,Nat.zero_le _,rfl,by exact Kn.push KN _ _⟩
   case round =>
    clear K KN;obtain⟨k,hk,rfl,K⟩:=hrel;by_cases hlt:k < out.length
    ·have hz:out[k]? = some out[k]:=List.getElem?_eq_getElem hlt;generalize out[k]=z at hz;obtain⟨ub,uo,rfl,uc⟩:=ucell k z hz;have uc:=uc wr K.below;have K2:=Kn.push K #[.string ⟨z.nm.toArray⟩,.int .i64 z.t,.int .i64 z.v] 61;have hgt:=K.below.size;have hO:=Kn.opened_of K2.all;simp only [Opened,World.size_alloc,World.size_drew,World.size_setCell]at hO
     go_wp2
     go_region
     go_wp2
     go_roundw
     case rel =>
      refine⟨k + 1,by omega,by go_num, ?_⟩;rw [zmh hz,znh hz];exact Kn.drew (Kn.set0 (Kn.set0 (Kn.skip K _) 0 _ (Nat.le_refl _) hLB.out) 1 _ (Nat.le_refl _) hLB.out)
     case measure=>simp [intOf];omega
    ·obtain rfl:k=out.length:=by omega
     rw [List.take_length]at K;have hO:=Kn.opened_of K.all;simp only [Opened,World.size_alloc,World.size_drew,World.size_setCell]at hO;have hBF:=hBN.trans (K.below.mono hBN.size)
     go_wp2
     refine bodyPost_ret (by simp [results,Tryz.results69,go_sem,hO];try rfl) rfl ⟨?_,by have B:=hBF;go_grown⟩;rfl
end Go.Proofs.YtdjgnbkclcjiiaaGreatDoor
