import Derived.Test.YtdjgnbkclcjiiaaGreatDoorSj
import Derived.Test.YtdjgnbkclcjiiaaGreatDoorRk
import Derived.Test.YtdjgnbkclcjiiaaGreatDoorOp
import Derived.Test.YtdjgnbkclcjiiaaGreatDoorM10
set_option linter.unusedVariables false
set_option linter.unusedSimpArgs false
set_option maxRecDepth 100000
namespace Go.Proofs.YtdjgnbkclcjiiaaGreatDoor
open Go Go.RowKit Go.Proofs Wk
open Vc (SlAt OV iteI Vl zhd zf zbe)
attribute [local irreducible] Go.Calls
theorem zdl{vals:List Int}{w:Nat}(h:w < vals.length):vals.getLast?.getD 0∈winL vals w:=by
 have hne:vals ≠ []:=by rintro rfl;simp at h
 have hd:winL vals w ≠ []:=by
  unfold winL;intro e
  have:=congrArg List.length e
  rw [List.length_drop,List.length_nil]at this;omega
 rw [List.getLast?_eq_some_getLast hne,Option.getD_some]
 have:(winL vals w).getLast hd=vals.getLast hne:=by unfold winL;exact List.getLast_drop _
 rw [← this];exact List.getLast_mem hd
theorem zsq{r:Rl}{vals:List Int}{fresh:Int}(hop:r.op=1)(hf:1≤fresh)(hw:r.wi < vals.length)(h:(judgeI r (seenL r.nm 0 vals) ((vals.length:Int) - 1) fresh).2=0) :
    (0≤r.cm∧r.cm≤5)∧(0≤r.wi)∧(judgeI r (seenL r.nm 0 vals) ((vals.length:Int) - 1) fresh).1=if cmpB r.cm (knowN r.ask vals r.wi.toNat) r.n=true then 1 else -1:=by
  unfold judgeI at h ⊢;by_cases h1:(validR r && obsB (seenL r.nm 0 vals))=false
  · rw [if_pos h1]at h;simp at h
  by_cases h2:(inB ((vals.length:Int) - 1) 0 1073741824 && inB fresh 0 1000)=false
  · rw [if_neg h1,if_pos h2]at h;simp at h
  rw [if_neg h1,if_neg h2];dsimp only;rw [Bool.not_eq_false,Bool.and_eq_true]at h1;obtain⟨hv,ho⟩:=h1;have hr:=zvk hv
  have hat:(0≤r.ask∧r.ask≤2)∧(0≤r.wi∧r.wi≤1000)∧(0≤r.cm∧r.cm≤5):=by
    rw [zcn,if_pos hop]at hr;obtain⟨op,ask,nm,wi,cm,n,v,ks⟩:=r
    have:=zwi.1 hr
    exact⟨this.1,this.2.2.1,this.2.2.2.2.1⟩
  refine⟨hat.2.2,hat.2.1.1, ?_⟩;rw [zwr hop];have hpos:0 < vals.length:=by omega
  have hne:vals ≠ []:=by rintro rfl;simp at hpos
  have hbd:∀ x∈vals,-1073741824≤x∧x≤1073741824:=fun x hx=>by
    have hO:=((zvi _).1 ho).1.1
    have:∀ (t:Int) (l:List Int),x∈l→∃ s∈seenL r.nm t l,s.v=x:=by
      intro t l
      induction l generalizing t with
      | nil=>intro h;cases h
      | cons a l ih =>
        intro h;rcases List.mem_cons.1 h with rfl | h
        · exact⟨_,List.mem_cons_self ..,rfl⟩
        · obtain⟨s,h1,h2⟩:=ih (t + 1) h;exact⟨s,List.mem_cons_of_mem _ h1,h2⟩
    obtain⟨s,hs,rfl⟩:=this 0 vals hx
    have:=hO s hs
    simp only [snB,inB,Bool.and_eq_true,decide_eq_true_eq]at this;omega
  have hS:sampL (seenL r.nm 0 vals) r.nm ((vals.length:Int) - 1)=seenL r.nm 0 vals:=zdv r.nm 0 vals (by omega);have hlw:r.wi.toNat < vals.length:=by omega
  have hmem:=zdl hlw;have hgl:vals.getLast?.getD 0∈vals:=by rw [List.getLast?_eq_some_getLast hne,Option.getD_some];exact List.getLast_mem hne
  have hgb:=hbd _ hgl;unfold askQ;rw [hS];by_cases ha:r.ask=0
  · have kn:knowN r.ask vals r.wi.toNat=vals.getLast?.getD 0:=by unfold knowN;rw [if_neg (by omega),if_neg (by omega)]
    rw [if_pos ha,kn];unfold lastQ;rw [zph r.nm 0 vals hne];dsimp only;rw [if_neg (by omega),zcl,List.getLast?_eq_some_getLast hne];rfl
  · rw [if_neg ha];have hsw:(r.wi:Int)=((r.wi.toNat:Nat):Int):=by omega
    rw [hsw,zat r.nm hf hlw];dsimp only;rw [← hsw];by_cases h1:r.ask=1
    · have kn:knowN r.ask vals r.wi.toNat=(winL vals r.wi.toNat).foldl max (vals.getLast?.getD 0):=by unfold knowN;rw [if_pos h1]
      rw [if_pos h1,if_pos rfl,kn];unfold maxV;rw [zyr,zee _ (-1099511627776) _ hmem (by omega),zcl]
    · have kn:knowN r.ask vals r.wi.toNat=(winL vals r.wi.toNat).foldl min (vals.getLast?.getD 0):=by unfold knowN;rw [if_neg h1,if_pos (by omega)]
      rw [if_neg h1,if_pos rfl,kn];unfold minV;rw [zzr,zfe _ 1099511627776 _ hmem (by omega),zcl]
theorem zhv{w:World}{c n m a:Int}(hc:0≤c∧c≤5)(he:a=if cmpB c n m=true then 1 else -1)(T:Vj_ullagelaw10_CountdownKnows_T7 w (.bool true)):Vj_ullagelaw10_CountdownKnows_T1 c n m a w (.bool true):=by
 refine⟨by omega,by omega, ?_⟩;have hcs:c=0∨c=1∨c=2∨c=3∨c=4∨c=5:=by omega
 have T5:a=1→Vj_ullagelaw10_CountdownKnows_T5 a w (.bool true):=fun h=>iteI (fun _=>T) (fun hh=>absurd h hh);have T4:a = -1→Vj_ullagelaw10_CountdownKnows_T4 a w (.bool true):=fun h=>iteI (fun _=>T) (fun hh=>absurd h hh);rcases hcs with rfl | rfl | rfl | rfl | rfl | rfl
 ·refine iteI (fun _=>iteI (fun h=>T5 (by simp [he,cmpB,h])) (fun h=>iteI (fun hh=>absurd hh h) (fun _=>T4 (by simp [he,cmpB,h])))) (fun hh=>absurd rfl hh)
 ·refine iteI (fun h=>absurd h (by decide)) (fun _=>iteI (fun _=>iteI (fun h=>T5 (by simp [he,cmpB,h])) (fun h=>iteI (fun hh=>absurd hh h) (fun _=>T4 (by simp [he,cmpB,h])))) (fun hh=>absurd rfl hh))
 ·refine iteI (fun h=>absurd h (by decide)) (fun _=>iteI (fun h=>absurd h (by decide)) (fun _=>iteI (fun _=>iteI (fun h=>T5 (by simp [he,cmpB,h])) (fun h=>iteI (fun hh=>absurd hh h) (fun _=>T4 (by simp [he,cmpB,h])))) (fun hh=>absurd rfl hh)))
 ·refine iteI (fun h=>absurd h (by decide)) (fun _=>iteI (fun h=>absurd h (by decide)) (fun _=>iteI (fun h=>absurd h (by decide)) (fun _=>iteI (fun _=>iteI (fun h=>T5 (by simp [he,cmpB,h])) (fun h=>iteI (fun hh=>absurd hh h) (fun _=>T4 (by simp [he,cmpB,h])))) (fun hh=>absurd rfl hh))))
 ·refine iteI (fun h=>absurd h (by decide)) (fun _=>iteI (fun h=>absurd h (by decide)) (fun _=>iteI (fun h=>absurd h (by decide)) (fun _=>iteI (fun h=>absurd h (by decide)) (fun _=>iteI (fun _=>iteI (fun h=>T5 (by simp [he,cmpB,h])) (fun h=>iteI (fun hh=>absurd hh h) (fun _=>T4 (by simp [he,cmpB,h])))) (fun hh=>absurd rfl hh)))))
 ·refine iteI (fun h=>absurd h (by decide)) (fun _=>iteI (fun h=>absurd h (by decide)) (fun _=>iteI (fun h=>absurd h (by decide)) (fun _=>iteI (fun h=>absurd h (by decide)) (fun _=>iteI (fun h=>absurd h (by decide)) (fun _=>iteI (fun h=>iteI (fun hh=>absurd h hh) (fun _=>T4 (by simp [he,cmpB,h]))) (fun h=>T5 (by simp [he,cmpB,h])))))))
def foldN(ask:Int)(l:List Int)(a:Int):Int:=if ask=1 then l.foldl max a else if ask=2 then l.foldl min a else a
theorem ziv(nm:List UInt8):∀ (t:Int) (l:List Int) (i:Nat) (x:Int),l[i]? = some x→(seenL nm t (l.take (i + 1)))=seenL nm t (l.take i) ++ [⟨nm,t + i,x⟩]:=fun t l i x h=>by
 have hi:=(List.getElem?_eq_some_iff.1 h).1;rw [List.take_add_one,h,zci,List.length_take,Nat.min_eq_left (by omega)];rfl
theorem zuw{w:World}{v:Value}{l:List Int}(h:SlAt w v 1 (l.flatMap inc1)):∃ (b0:Bool) (p0:Nat × Nat) (x1:Int),v=(if b0=true then .slice none 0 0 else .slice (some (Vc.qad p0 (Int.toNat (l.length:Int)) (Int.toNat x1))) (Int.toNat (l.length:Int)) (Int.toNat x1))∧(b0=true→l.length=0) ∧
  (∀ (i:Nat) (z:Int),l[i]? = some z→w.cell? ⟨p0.1,p0.2 + i * 1 + 0,none⟩=some (.int .i64 z)):=by
 obtain⟨b0,p0,x1,h1,h2,h3⟩:=Vc.zmq h (by decide) (by rw [Vc.zbb zin,Nat.mul_one]:(l.flatMap inc1).length=l.length * 1);refine⟨b0,p0,x1,h1,h2,fun i p hp => ?_⟩;simp only [Nat.add_assoc];exact h3 (i * 1 + 0) _ (Vc.zr zin hp (by decide))
def msQ:List Vl→Nat | [_,.i a]=>(1000 - a).toNat | _=>0
set_option maxHeartbeats 400000 in
theorem zqh{w:World}{r:Rl}{v:Value}{vals:List Int}(h:RlAt w r)(hsz:RlSz r)(hl:SlAt w v 1 (vals.flatMap inc1))(hy:∀ z∈vals,-9223372036854775808≤z∧z≤9223372036854775807)(hn:vals.length < 4611686018427387904)(fresh:Int)(_:(Lit.int .i64 fresh).wf=true)(hV:VG w) :
  Calls Tryz.prog 8 #[RV7 r,v,.int .i64 fresh] w (Vc.Ret (.bool true) w):=by
 have haw:∀ w',Below w.heap.size w w'→Calls Tryz.prog 16 #[] w' (Vc.Ret (.bool true) w'):=fun w' hb=>zcv w' (hV.below hb).1 (hV.below hb).2.1 (hV.below hb).2.2.1 (hV.below hb).2.2.2;have T:Vj_ullagelaw10_CountdownKnows_T7 w (.bool true):=⟨true,fun w' hb=>haw w' hb,rfl⟩;have h':=h;have hks:=ztb h;obtain⟨b0,p0,c0,e0,f0,g0⟩:=zxb hks.1;have hno:=zmi f0;have E:RV7 r=.agg #[.int .i64 r.op,.int .i64 r.ask,.string ⟨r.nm.toArray⟩,.int .i64 r.wi,.int .i64 r.cm,.int .i64 r.n,(if b0=true then .slice none 0 0 else .slice (some (Vc.qad p0 (Int.toNat ((r.ks.length:Nat):Int)) (Int.toNat c0))) (Int.toNat ((r.ks.length:Nat):Int)) (Int.toNat c0):Value)]:=by unfold RV7;rw [e0]
 rw [E];obtain⟨b1,p1,c1,e1,f1,g1⟩:=zuw hl;have hno1:=zmi f1;rw [e1];refine zec p0 p1 r.op r.ask r.wi r.cm r.n (r.ks.length:Nat) c0 (vals.length:Nat) c1 fresh b0 b1 r.nm w _ ⟨_,fun w' hb=>by rw [← E];exact zbba _ (Nat.le_refl _) (h'.below hb) hsz,iteI (fun _=>T) (fun _=>iteI (fun hop=>⟨by omega,hno1,iteI (fun _=>T) (fun hpos=>⟨by omega,hno1,iteI (fun _=>T) (fun h60=>iteI (fun _=>T) (fun hfr=>⟨by omega,hno1,iteI (fun _=>T) (fun hwi => ?_)⟩))⟩)⟩) (fun _=>T))⟩;have hlen:vals.length≤60:=by omega
 refine⟨fun L=>∃ i:Nat,L=[.l ((seenL r.nm 0 (vals.take i)).flatMap snc),.i i]∧i≤vals.length,msO vals.length,⟨0,by simp [seenL],Nat.zero_le _⟩, ?_⟩;rintro l0 x11 ⟨i,hyy,hi⟩;simp only [List.cons.injEq,Vl.i.injEq,Vl.l.injEq,and_true]at hyy;obtain⟨hL,rfl⟩:=hyy
 have hlen0:l0.length≤180:=by
  have h1:=congrArg List.length hL;rw [Vc.zbb zla,zbl,List.length_take]at h1;simp only [List.length_append,List.length_map,List.length_nil]at h1;omega
 refine⟨by omega,hno1,iteI (fun hlt => ?_) (fun hge => ?_)⟩
 ·have hi':i < vals.length:=by omega
  have hk:vals[i]? = some vals[i]:=List.getElem?_eq_getElem hi';generalize vals[i]=z at hk;have hnb:¬ b1=true:=fun hb=>by have:=f1 hb;omega
  refine⟨hnb,by omega,hlt,z,by rw [Int.toNat_natCast];exact g1 i z hk, ?_⟩;rintro x13 rfl;refine⟨by omega, ?_⟩;rintro x14 rfl;rw [zf (by omega)];refine⟨⟨i + 1, ?_,by omega⟩,by simp only [msO];omega⟩;rw [ziv r.nm 0 vals i z hk,List.flatMap_append];simp only [List.append_nil]at hL;rw [hL,Int.zero_add];rfl
 ·obtain rfl:i=vals.length:=by omega
  rw [List.take_length]at hL;refine⟨by omega,hno1, ?_⟩;rintro x12 rfl;rw [zf (by omega)];have hsl:(seenL r.nm 0 vals).length < 4611686018427387904:=by rw [zbl];omega
  refine⟨(judgeI r (seenL r.nm 0 vals) ((vals.length:Int) - 1) fresh).1,(judgeI r (seenL r.nm 0 vals) ((vals.length:Int) - 1) fresh).2,fun β w' hb hm=>by rw [← E];exact zwaa (vgk hb hV.1) (vgk hb hV.2.1) (vgk hb hV.2.2.2) (h'.below hb) (Vc.zlz (by rw [← hL];exact hm.1)) hsl,iteI (fun hok => ?_) (fun _=>T)⟩;obtain⟨k1,k2,k3⟩:=zsq hop (by omega) (by omega) hok;clear hok;generalize (judgeI r (seenL r.nm 0 vals) ((vals.length:Int) - 1) fresh).1=jv at k3 ⊢;have hnb:¬ b1=true:=fun hb=>by have:=f1 hb;omega
  have hne:vals ≠ []:=by rintro rfl;simp at hpos
  have hgl:vals[vals.length - 1]? = some (vals.getLast?.getD 0):=by
   rw [List.getLast?_eq_getElem?];rw [List.getElem?_eq_getElem (by omega)];rfl
  refine⟨hnb,by omega,by omega,vals.getLast?.getD 0,by rw [show ((vals.length:Int) - 1).toNat=vals.length - 1 by omega];exact g1 _ _ hgl, ?_⟩;rintro x16 rfl;rw [zf (by omega)];have hwl:(winL vals r.wi.toNat).length=r.wi.toNat + 1:=by unfold winL;rw [List.length_drop];omega
  refine⟨fun L=>∃ k:Nat,L=[.i (foldN r.ask ((winL vals r.wi.toNat).take k) (vals.getLast?.getD 0)),.i ((vals.length:Int) - 1 - r.wi + k)]∧k≤r.wi.toNat + 1,msQ,⟨0,by simp [foldN],by omega⟩, ?_⟩;rintro x17 x18 ⟨k,hyy,hk⟩;simp only [List.cons.injEq,Vl.i.injEq,and_true]at hyy;obtain⟨rfl,rfl⟩:=hyy
  have fin:(vals.length:Int) - 1 < (vals.length:Int) - 1 - r.wi + k→Vj_ullagelaw10_CountdownKnows_T1 r.cm (foldN r.ask ((winL vals r.wi.toNat).take k) (vals.getLast?.getD 0)) r.n jv w (.bool true):=fun hh=>by
   obtain rfl:k=r.wi.toNat + 1:=by omega
   rw [List.take_of_length_le (by omega)];exact zhv k1 k3 T
  refine iteI (fun hle=>iteI (fun h0 => ?_) (fun h0=>(h0 (by omega)).elim)) (fun hgt=>fin (by omega));clear fin;have hkk:k < r.wi.toNat + 1:=by omega
  have hzk:(winL vals r.wi.toNat)[k]? = some ((winL vals r.wi.toNat)[k]'(by omega)):=List.getElem?_eq_getElem (by omega);generalize (winL vals r.wi.toNat)[k]'(by omega)=z at hzk
  have hcell:w.cell? ⟨p1.1,p1.2 + ((vals.length:Int) - 1 - r.wi + k).toNat * 1 + 0,none⟩=some (.int .i64 z):=by
   rw [show ((vals.length:Int) - 1 - r.wi + k).toNat=vals.length - 1 - r.wi.toNat + k by omega];refine g1 _ _ ?_;unfold winL at hzk;rw [List.getElem?_drop]at hzk;exact hzk
  have mx:∀ a:Int,(if z > a then z else a)=max a z:=fun a=>by split <;> omega
  have mn:∀ a:Int,(if z < a then z else a)=min a z:=fun a=>by split <;> omega
  have tk:(winL vals r.wi.toNat).take (k + 1)=(winL vals r.wi.toNat).take k ++ [z]:=by rw [List.take_add_one,hzk];rfl
  have nxt:∀ (y:Int),y=foldN r.ask ((winL vals r.wi.toNat).take (k + 1)) (vals.getLast?.getD 0)→∀ x21:Int,x21=IntKind.i64.wrap ((vals.length:Int) - 1 - r.wi + k + 1)→(∃ k:Nat,[Vl.i y,.i x21]=[.i (foldN r.ask ((winL vals r.wi.toNat).take k) (vals.getLast?.getD 0)),.i ((vals.length:Int) - 1 - r.wi + k)]∧k≤r.wi.toNat + 1)∧msQ [.i y,.i x21] < msQ [.i (foldN r.ask ((winL vals r.wi.toNat).take k) (vals.getLast?.getD 0)),.i ((vals.length:Int) - 1 - r.wi + k)]:=by
   rintro y rfl x21 rfl;rw [zf (by omega)];refine⟨⟨k + 1,by rw [show (vals.length:Int) - 1 - r.wi + k + 1=(vals.length:Int) - 1 - r.wi + ((k + 1:Nat):Int) by omega],by omega⟩,by simp only [msQ];omega⟩
  refine iteI (fun a1=>⟨hnb,by omega,by omega,z,hcell, ?_⟩) (fun a1=>iteI (fun a2=>⟨hnb,by omega,by omega,z,hcell, ?_⟩) (fun a2=>nxt _ (by simp only [foldN,if_neg a1,if_neg a2])))
  ·rintro x20 rfl;refine iteI (fun a2=>by omega) (fun _=>nxt _ ?_);rw [mx,tk];simp only [foldN,if_pos a1,List.foldl_append,List.foldl_cons,List.foldl_nil]
  ·rintro x20 rfl;refine nxt _ ?_;rw [mn,tk];simp only [foldN,if_neg a1,if_pos a2,List.foldl_append,List.foldl_cons,List.foldl_nil]
end Go.Proofs.YtdjgnbkclcjiiaaGreatDoor
