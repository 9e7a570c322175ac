import Derived.Test.YtdjgnbkclcjiiaaGreatDoorSd
import Derived.Test.YtdjgnbkclcjiiaaGreatDoorMp
import Derived.Test.YtdjgnbkclcjiiaaGreatDoorM4
set_option linter.unusedVariables false
set_option linter.unusedSimpArgs false
set_option maxRecDepth 4000
namespace Go.Proofs.YtdjgnbkclcjiiaaGreatDoor
open Go Go.RowKit Go.Proofs Wk
open Vc (SlAt OV iteI Vl zrc zf sK)
attribute [local irreducible] Go.Calls
def tmE(p:List Sn)(nm:List UInt8):List Value := [sK nm,.int .i64 (lastT p nm)]
theorem zuk(p:List Sn)(nm:List UInt8):(tmE p nm).length=2:=rfl
theorem zyy(p:List Sn)(K:List (List UInt8)):Vc.keysOk [.str] 2 (K.flatMap (tmE p))=true:=Vc.zqq (zuk p) (by decide) (by decide) (fun a=>rfl) K
theorem zzy(p:List Sn)(s:List UInt8)(K:List (List UInt8)):Vc.mfind 1 2 [.string ⟨s.toArray⟩] (K.flatMap (tmE p))=match K.findIdx? (fun a=>decide (s=a))with | some i=>(i:Int) | none => -1:=by
 rw [show ([.string ⟨s.toArray⟩]:List Value)=[sK s] from rfl,Vc.zxs (zuk p) (by decide) (by decide)]
 have:(fun a=>Vc.keyEq [sK s] ((tmE p a).take 1))=fun a=>decide (s=a):=by
  funext a;simp [tmE,Vc.keyEq,Vc.ztu]
 rw [this];cases List.findIdx? (fun a=>decide (s=a)) K <;> rfl
theorem zui{α β:Type}{f g:α→List β}:∀ {l:List α},(∀ a∈l,f a=g a)→l.flatMap f=l.flatMap g
 | [],_=>rfl
 | a::l,h=>by rw [List.flatMap_cons,List.flatMap_cons,h a (by simp),zui fun x hx=>h x (by simp [hx])]
structure TM(p:List Sn)(K:List (List UInt8)):Prop where
 nd:K.Nodup
 no:∀ nm,nm ∉ K→lastT p nm=0
theorem zxz{p:List Sn}{K:List (List UInt8)}(h:TM p K){z:Sn}(hz:z.nm ∉ K):TM (p ++ [z]) (K ++ [z.nm])∧K.flatMap (tmE p) ++ [.string ⟨z.nm.toArray⟩,.int .i64 z.t]=(K ++ [z.nm]).flatMap (tmE (p ++ [z])):=by
 refine⟨⟨?_,fun nm hn => ?_⟩, ?_⟩
 ·rw [List.nodup_append];exact⟨h.nd,by simp,fun a ha b hb=>by simp only [List.mem_singleton]at hb;rintro rfl;exact hz (hb▸ha)⟩
 ·rw [List.mem_append,List.mem_singleton,not_or]at hn;rw [zwa,if_neg (fun e=>hn.2 e.symm)];exact h.no nm hn.1
 ·rw [List.flatMap_append];congr 1
  ·refine zui fun a ha => ?_;unfold tmE;rw [zwa,if_neg (fun e=>hz (by rw [e];exact ha))]
  ·simp [tmE,zwa,sK]
theorem zyz{p:List Sn}{K:List (List UInt8)}(h:TM p K){z:Sn}{j:Nat}(hj:K[j]? = some z.nm):TM (p ++ [z]) K∧(K.flatMap (tmE p)).take (j * 2 + 1) ++ [.int .i64 z.t]++(K.flatMap (tmE p)).drop (j * 2 + 1 + 1)=K.flatMap (tmE (p ++ [z])):=by
 have hjl:=(List.getElem?_eq_some_iff.1 hj).1;have hje:=(List.getElem?_eq_some_iff.1 hj).2;have hsp:K=K.take j++z.nm::K.drop (j + 1):=by rw [← hje,List.getElem_cons_drop,List.take_append_drop]
 have hnd:=h.nd;rw [hsp,List.nodup_append]at hnd;obtain⟨n1,n2,n3⟩:=hnd;rw [List.nodup_cons]at n2;refine⟨⟨h.nd,fun nm hn => ?_⟩, ?_⟩
 ·rw [zwa,if_neg (fun e=>hn (by rw [← e];exact List.mem_of_getElem? hj))];exact h.no nm hn
 ·have l1:(K.flatMap (tmE p)).take (j * 2 + 1)=(K.take j).flatMap (tmE p) ++ [sK z.nm]:=by
   have hl:((K.take j).flatMap (tmE p)).length=j * 2:=by rw [Vc.zsk (zuk p),List.length_take,Nat.min_eq_left (by omega)]
   conv=>lhs;rw [hsp]
   rw [List.flatMap_append,← hl,List.take_length_add_append,List.flatMap_cons];rfl
  have l2:(K.flatMap (tmE p)).drop (j * 2 + 1 + 1)=(K.drop (j + 1)).flatMap (tmE p):=by
   rw [show j * 2 + 1 + 1=(j + 1) * 2 by omega,Vc.zye (zuk p)]
  rw [l1,l2]
  conv=>rhs;rw [hsp]
  rw [List.flatMap_append,List.flatMap_cons]
  have c1:(K.take j).flatMap (tmE (p ++ [z]))=(K.take j).flatMap (tmE p):=zui fun a ha=>by
   unfold tmE;rw [zwa,if_neg (fun e=>n3 a ha z.nm (by simp) e.symm)]
  have c2:(K.drop (j + 1)).flatMap (tmE (p ++ [z]))=(K.drop (j + 1)).flatMap (tmE p):=zui fun a ha=>by
   unfold tmE;rw [zwa,if_neg (fun e=>n2.1 (by rw [e];exact ha))]
  rw [c1,c2];simp [tmE,zwa]
theorem zuu{s:List UInt8}{K:List (List UInt8)}(h:K.findIdx? (fun a=>decide (s=a))=none):s ∉ K:=fun hm=>by
 have:=List.findIdx?_eq_none_iff.1 h s hm
 simp at this
theorem zvu{s:List UInt8}{K:List (List UInt8)}{j:Nat}(h:K.findIdx? (fun a=>decide (s=a))=some j):K[j]? = some s:=by
 obtain⟨h1,h2,_⟩:=List.findIdx?_eq_some_iff_getElem.1 h;rw [List.getElem?_eq_getElem h1];exact congrArg some (of_decide_eq_true h2).symm
def msM(n:Nat):List Vl→Nat | [_,.i a,_]=>n - a.toNat | _=>0
theorem zys{l:List Sn}(h:obsA [] l=false):(Value.bool false)=.bool (obsB l):=by unfold obsB;rw [h];rfl
theorem zwu(p:List Sn)(s:Sn)(l:List Sn):obsA p (s::l)=(nameB s.nm && inB s.t (lastT p s.nm) 1073741824 && inB s.v (-1073741824) 1073741824 && obsA (p ++ [s]) l):=by rw [obsA]
theorem zxu{w:World}{v:Value}{l:List Sn}(hV:Vg_0 w)(h:SlAt w v 3 (l.flatMap snc))(hn:l.length < 4611686018427387904):Calls Tryz.prog 66 #[v] w (Vc.Ret (.bool (obsB l)) w):=by
  obtain⟨b0,p0,c0,e0,f0,g0⟩:=zym h;have hno:=zpk f0
  have hV':∀ {w':World},Below w.heap.size w w'→Vg_0 w':=fun hb=>by
    obtain⟨ty,mk,hg⟩:=hV;exact⟨ty,mk,by rw [hb.block _ (Array.getElem?_eq_some_iff.1 hg).1];exact hg⟩
  rw [e0];refine zze p0 (l.length:Nat) c0 b0 w _ ⟨by omega,hno,fun L=>∃ (b:Bool) (i:Nat) (K:List (List UInt8)),L=[.b b,.i i,.l (K.flatMap (tmE (l.take i)))]∧i≤l.length∧TM (l.take i) K∧obsA [] l=obsA (l.take i) (l.drop i),msM l.length,⟨false,0,[],rfl,Nat.zero_le _,⟨List.nodup_nil,fun _ _=>rfl⟩,by simp⟩, ?_⟩;rintro b1 x2 l0 ⟨b,i,K,hy,hi,hT,hA⟩;simp only [List.cons.injEq,Vl.i.injEq,Vl.b.injEq,Vl.l.injEq,and_true]at hy;obtain⟨rfl,rfl,hL⟩:=hy;simp only [List.append_nil]at hL;refine iteI (fun hlt => ?_) (fun hge => ?_)
  · have hk:l[i]? = some (l[i]'(by omega)):=List.getElem?_eq_getElem (by omega);have hdr:l.drop i=l[i]'(by omega)::l.drop (i + 1):=List.drop_eq_getElem_cons (by omega);generalize l[i]'(by omega)=z at hk hdr;obtain⟨q0,q1,q2⟩:=g0 i z hk;have hnb:¬ b0=true:=fun hb=>by have:=f0 hb;omega
    have hT1:l.take (i + 1)=l.take i ++ [z]:=by rw [List.take_add_one,hk];rfl
    rw [hdr]at hA;rw [zwu]at hA
    have bad:¬ (nameB z.nm=true∧(lastT (l.take i) z.nm≤z.t∧z.t≤1073741824)∧(-1073741824≤z.v∧z.v≤1073741824))→(Value.bool false)=.bool (obsB l):=fun hh=>zys (by
      rw [hA,Bool.eq_false_iff];intro h2;simp only [inB,Bool.and_eq_true,decide_eq_true_eq]at h2;exact hh ⟨h2.1.1.1,h2.1.1.2,h2.1.2⟩)
    have good:nameB z.nm=true→(lastT (l.take i) z.nm≤z.t∧z.t≤1073741824)→(-1073741824≤z.v∧z.v≤1073741824)→obsA [] l=obsA (l.take (i + 1)) (l.drop (i + 1)):=fun h1 h2 h3=>by
      rw [hA,hT1];simp [inB,h1,h2,h3]
    simp only [List.append_nil,hL,Int.toNat_natCast];refine⟨hnb,by omega,hlt,z.nm,q0,z.t,q1,z.v,q2,_,fun w' hb=>zfp (hV' hb) z.nm,iteI (fun a1=>⟨zyy _ K, ?_⟩) (fun a1=>bad fun hh=>a1 hh.1)⟩;rw [zzy];cases hfi:K.findIdx? (fun a=>decide (z.nm=a))with
    | some j =>
      dsimp only;have hj:=zvu hfi;have O:=zyz hT hj;rintro x5 rfl;refine iteI (fun _ => ?_) (fun hh=>absurd (Int.natCast_nonneg j) hh);refine⟨lastT (l.take i) z.nm,by rw [Int.toNat_natCast,Vc.zqw (zuk _) hj (by decide)];rfl,iteI (fun a2=>iteI (fun a3=>iteI (fun a4=>iteI (fun a5=>⟨zyy _ K, ?_⟩) (fun a5=>bad fun hh=>a5 hh.2.2.2)) (fun a4=>bad fun hh=>a4 hh.2.2.1)) (fun a3=>bad fun hh=>a3 hh.2.1.2)) (fun a2=>bad fun hh=>a2 hh.2.1.1)⟩;rintro x7 rfl;refine iteI (fun _ => ?_) (fun hh=>absurd (Int.natCast_nonneg j) hh);rintro l1 hl1 x8 rfl;rw [zf (by omega)];rw [Int.toNat_natCast,O.2,← hT1]at hl1;refine⟨⟨b1,i + 1,K, ?_,by omega,by rw [hT1];exact O.1,good a1 ⟨a2,a3⟩ ⟨a4,a5⟩⟩,by simp only [msM];omega⟩;rw [hl1];rfl
    | none =>
      dsimp only;have hnk:=zuu hfi;have O:=zxz hT hnk;have h0:=hT.no z.nm hnk;rintro x5 rfl;refine iteI (fun hh=>absurd hh (by decide)) (fun _ => ?_);refine iteI (fun a2=>iteI (fun a3=>iteI (fun a4=>iteI (fun a5=>⟨zyy _ K, ?_⟩) (fun a5=>bad fun hh=>a5 hh.2.2.2)) (fun a4=>bad fun hh=>a4 hh.2.2.1)) (fun a3=>bad fun hh=>a3 hh.2.1.2)) (fun a2=>bad fun hh=>a2 (by omega));rintro x7 rfl;refine iteI (fun hh=>absurd hh (by decide)) (fun _ => ?_);rintro x8 rfl;rw [zf (by omega)];refine⟨⟨b1,i + 1,K ++ [z.nm], ?_,by omega,by rw [hT1];exact O.1,good a1 ⟨by omega,a3⟩ ⟨a4,a5⟩⟩,by simp only [msM];omega⟩;rw [O.2,← hT1];rfl
  · obtain rfl:i=l.length:=by omega
    rw [List.drop_length,List.take_length]at hA;refine⟨by omega,hno,zrc ?_⟩;unfold obsB;rw [hA];show decide _=(true && decide _);rw [Bool.true_and];exact decide_eq_decide.2 (by omega)
end Go.Proofs.YtdjgnbkclcjiiaaGreatDoor
