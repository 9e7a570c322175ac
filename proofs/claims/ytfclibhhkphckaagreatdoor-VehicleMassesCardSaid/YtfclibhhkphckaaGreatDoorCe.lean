import Derived.Test.YtfclibhhkphckaaGreatDoorCd
set_option linter.unusedVariables false
set_option linter.unusedSimpArgs false
set_option maxRecDepth 4000
namespace Go.Proofs.YtfclibhhkphckaaGreatDoor
open Go Go.RowKit Vc
attribute [local irreducible] Go.Calls
def InvZ(ss:List Stg)(nm:List UInt8)(i:Nat)(L:List Vl):Prop:=∃ (a:Int) (j:Nat),L=[.i a,.i j]∧j≤i∧nm ∉ sNames (ss.take j)
def InvW2(ss:List Stg)(i:Nat)(s:Stg)(L:List Vl):Prop:=∃ (a:Int) (k:Nat),L=[.i a,.i k]∧k≤s.es.length∧∀ t,t < k→engG (eNames (ss.take i)) s.es t=0
theorem zxz{ss:List Stg}{i j:Nat}{s:Stg}(hj:j < i)(hs:ss[j]? = some s):s.nm∈sNames (ss.take i):=by
 have h1:(ss.take i)[j]? = some s:=by rw [List.getElem?_take_of_lt hj,hs]
 exact List.mem_map.2 ⟨s,List.mem_of_getElem? h1,rfl⟩
theorem zdx{w:World}{v:Value}{ss:List Stg}(h:SlAt w v 6 (ss.flatMap stc))(hes:∀ s∈ss,SlAt w s.v 11 (s.es.flatMap enc))(hsn:ss.length < 4611686018427387904)
  (hsz:∀ s∈ss,s.nm.length < 4611686018427387904∧s.es.length < 4611686018427387904∧∀ e∈s.es,e.nm.length < 4611686018427387904)
  {i:Nat} {s:Stg} (hs:ss[i]? = some s) :
  Calls Tryz.prog 86 #[v,.int .i64 (i:Nat)] w (Vc.Ret (.int .i64 (stgF (sNames (ss.take i)) (eNames (ss.take i)) s)) w):=by
 have h0:=h;obtain⟨b0,p0,c0,rfl,f0,g0⟩:=zdc h;have hi:i < ss.length:=(List.getElem?_eq_some_iff.1 hs).1;have hsm:s∈ss:=List.mem_of_getElem? hs;have hnil:¬ b0=true:=fun hb=>by have:=f0 hb;omega
 obtain⟨k0,k1,k2,k3,k4,k5⟩:=g0 i s hs;obtain⟨b1,p1,c1,e1,f1,g1⟩:=zvf (hes s hsm);have hno1:=zme f1;have hz:=hsz s hsm;have hcell:w.cell? ⟨p0.1,p0.2 + i * 6 + 5,none⟩=some ((if b1=true then .slice none 0 0 else .slice (some (Vc.qad p1 (Int.toNat ((s.es.length:Nat):Int)) (Int.toNat c1))) (Int.toNat ((s.es.length:Nat):Int)) (Int.toNat c1):Value)):=by rw [k5,e1]
 simp only [Int.toNat_natCast]at hcell;refine zkd p0 (ss.length:Nat) c0 (i:Nat) b0 w _ ?_;simp only [Int.toNat_natCast];refine⟨hnil,by omega,by omega,s.nm,k0,_,fun w' _=>zbn s.nm hz.1 w',iteI (fun hn => ?_) (fun hn => ?_)⟩;rotate_left
 ·unfold stgF;rw [if_pos (by simpa using hn)]
 refine⟨InvZ ss s.nm i,msX i,⟨0,0,rfl,by omega,by simp [sNames]⟩, ?_⟩;rintro x3 x4 ⟨a,j,hy,hj,hA⟩;simp only [List.cons.injEq,Vl.i.injEq,and_true]at hy;obtain⟨rfl,rfl⟩:=hy;simp only [Int.toNat_natCast];refine iteI (fun hlt => ?_) (fun hge => ?_)
 ·have hjl:j < ss.length:=by omega
  have hsj:ss[j]? = some ss[j]:=List.getElem?_eq_getElem hjl;generalize ss[j]=sj at hsj;obtain⟨j0,_⟩:=g0 j sj hsj;refine⟨hnil,by omega,by omega,sj.nm,j0,hnil,by omega,by omega,s.nm,k0,iteI (fun heq => ?_) (fun hne => ?_)⟩
  ·have hm:s.nm∈sNames (ss.take i):=by rw [← heq];exact zxz (by omega) hsj
   unfold stgF;rw [if_neg (by rw [hn];simp),if_pos hm]
  ·rintro x5 rfl;rw [zh (by omega)];refine⟨⟨x3,j + 1,rfl,by omega, ?_⟩,by simp only [msX];omega⟩;rw [zhn hsj];intro hm;rcases List.mem_append.1 hm with hm | hm
   ·exact hA hm
   ·simp only [List.mem_singleton]at hm;exact hne hm.symm
 have hje:j=i:=by omega
 rw [hje]at hA
 have hF:stgF (sNames (ss.take i)) (eNames (ss.take i)) s=if (bdd s.dl s.dh 1 && bdd s.pl s.ph 0)=false then 4 else if 16 < s.es.length then 3 else engsF (eNames (ss.take i)) s.es:=by
  unfold stgF;rw [if_neg (by rw [hn];simp),if_neg hA]
 rw [hF];have bad:(bdd s.dl s.dh 1 && bdd s.pl s.ph 0)=false→(Value.int .i64 4)=.int .i64 (if (bdd s.dl s.dh 1 && bdd s.pl s.ph 0)=false then 4 else if 16 < s.es.length then 3 else engsF (eNames (ss.take i)) s.es):=fun hr=>by rw [if_pos hr]
 refine⟨hnil,by omega,by omega,s.dl,k1,s.dh,k2,_,fun w' _=>zza _ _ _ w',iteI (fun r1=>⟨hnil,by omega,by omega,s.pl,k3,s.ph,k4,_,fun w' _=>zza _ _ _ w',iteI (fun r2 => ?_) (fun r2=>bad (by simp [r2]))⟩) (fun r1=>bad (by simp [r1]))⟩;refine⟨hnil,by omega,by omega,b1,p1,(s.es.length:Nat),c1,hcell,by omega,hno1,iteI (fun r3 => ?_) (fun r3 => ?_)⟩
 ·rw [if_neg (show ¬ (bdd s.dl s.dh 1 && bdd s.pl s.ph 0)=false by simp [r1,r2]),if_pos (show 16 < s.es.length by omega)]
 rw [if_neg (show ¬ (bdd s.dl s.dh 1 && bdd s.pl s.ph 0)=false by simp [r1,r2]),if_neg (show ¬ 16 < s.es.length by omega)];refine⟨InvW2 ss i s,msX s.es.length,⟨x3,0,rfl,by omega,fun t ht=>by omega⟩, ?_⟩;rintro x11 x12 ⟨a2,k,hy2,hk,hG⟩;simp only [List.cons.injEq,Vl.i.injEq,and_true]at hy2;obtain⟨rfl,rfl⟩:=hy2;refine⟨hnil,by omega,by omega,b1,p1,(s.es.length:Nat),c1,hcell,by omega,hno1,iteI (fun hlt => ?_) (fun hge2 => ?_)⟩
 ·have hkl:k < s.es.length:=by omega
  have he:s.es[k]? = some s.es[k]:=List.getElem?_eq_getElem hkl;generalize s.es[k]=e at he;have hz2:=hz.2.1;refine⟨_,fun w' hb=>(by have:=zju (zkc hb h0) (fun s hs=>zkc hb (hes s hs)) hsn hsz hs he;simpa only [Int.toNat_natCast]using this),iteI (fun q => ?_) (fun q => ?_)⟩
  ·rintro x16 rfl;rw [zh (by omega)];refine⟨⟨x11,k + 1,rfl,by omega,fun t ht => ?_⟩,by simp only [msX];omega⟩;rcases Nat.lt_succ_iff_lt_or_eq.1 ht with ht | rfl
   ·exact hG t ht
   ·rw [zuz he];exact q
  ·rw [zss he hG q]
 ·obtain rfl:k=s.es.length:=by omega
  rw [zen hG]
def InvV(ss:List Stg)(L:List Vl):Prop:=∃ (a b c:Int) (i:Nat),L=[.i a,.i b,.i c,.i i]∧i≤ss.length∧∀ t,t < i→stgG ss t=0
def msV(n:Nat)(L:List Vl):Nat:=match L with
 | [_,_,_,.i i]=>n - i.toNat
 | _=>0
theorem zrea{w:World}{v:Vh}(h:VhAt w v)(hz:VhSz v):Calls Tryz.prog 41 #[VHV v] w (Vc.Ret (CV (pCheck v)) w):=by
 obtain⟨b0,p0,c0,e0,f0,g0⟩:=zdc h.st;obtain⟨b1,p1,c1,e1,f1,g1⟩:=zcc h.dr;have hno:=zme f0;have hdr:=h.dr;have hst:=h.st;unfold VHV;rw [e0]at hst ⊢;rw [e1]at hdr ⊢;refine zyf p0 p1 (v.ss.length:Nat) c0 v.yl v.yh (v.dr.length:Nat) c1 v.ax v.be b0 b1 v.nm w _ ⟨_,fun w' hb=>zbn v.nm hz.nm w',iteI (fun hn => ?_) (fun hn => ?_)⟩;rotate_left
 ·unfold pCheck;rw [if_pos (.inl (by simpa using hn))];rfl
 refine⟨by omega,hno,iteI (fun h0 => ?_) (fun h0 => ?_)⟩
 ·unfold pCheck;rw [if_pos (.inr (by omega))];rfl
 have h0':v.ss.length≠0:=by omega
 refine⟨by omega,hno,iteI (fun h8 => ?_) (fun h8 => ?_)⟩
 ·unfold pCheck;rw [if_neg (fun h=>h.elim (fun h=>by rw [hn]at h;cases h) h0'),if_pos (by omega)];rfl
 have h8':¬ 8 < v.ss.length:=by omega
 refine⟨InvV v.ss,msV v.ss.length,⟨0,0,0,0,rfl,Nat.zero_le _,fun t ht=>by omega⟩, ?_⟩;rintro x8 x9 x10 x11 ⟨a,b,c,i,hy,hi,hGs⟩;simp only [List.cons.injEq,Vl.i.injEq,and_true]at hy;obtain⟨rfl,rfl,rfl,rfl⟩:=hy;refine⟨by omega,hno,iteI (fun hlt => ?_) (fun hge => ?_)⟩
 ·have hi':i < v.ss.length:=by omega
  have hs:v.ss[i]? = some v.ss[i]:=List.getElem?_eq_getElem hi';generalize v.ss[i]=s at hs;have hv:=fun hne=>zts hn h0' h8' hs hGs hne;refine⟨_,fun w' hb=>zdx (zkc hb hst) (fun s hs=>zkc hb (h.es s hs)) hz.sn hz.st hs,iteI (fun q => ?_) (fun q => ?_)⟩
  ·rintro x13 rfl;have hz1:=hz.sn;rw [zh (by omega)];refine⟨⟨x8,x9,x10,i + 1,rfl,by omega,fun t ht => ?_⟩,by simp only [msV];omega⟩;rcases Nat.lt_succ_iff_lt_or_eq.1 ht with ht | rfl
   ·exact hGs t ht
   ·unfold stgG;rw [hs];exact q
  ·exact hv q
 ·obtain rfl:i=v.ss.length:=by omega
  rw [zfn hn h0' h8' hGs];refine⟨_,fun w' _=>zza _ _ _ w',iteI (fun q1 => ?_) (fun q1 => ?_)⟩;rotate_left
  ·rw [if_pos (by simpa using q1)];rfl
  rw [if_neg (show ¬ bdd v.yl v.yh 0=false by rw [q1];simp)];refine⟨_,fun w' hb=>zcx (zkc hb hdr) hz.dn,iteI (fun q2 => ?_) (fun q2 => ?_)⟩;rotate_left
  ·rw [if_pos (by simpa using q2)];rfl
  rw [if_neg (show ¬ tblB v.dr=false by rw [q2];simp)];have bad:(limB v.ax && limB v.be)=false→CV (4,0,4)=CV (if (limB v.ax && limB v.be)=false then (4,0,4)else (0,0,0)):=fun hb=>by rw [if_pos hb]
  refine⟨_,fun w' _=>zle _ _ _ w',iteI (fun r1=>⟨_,fun w' _=>zle _ _ _ w',iteI (fun r2 => ?_) (fun r2=>bad ?_)⟩) (fun r1=>bad ?_)⟩
  ·rw [if_neg (show ¬ (limB v.ax && limB v.be)=false by unfold limB;rw [r1,r2];simp)];rfl
  ·unfold limB;rw [Bool.eq_false_iff.2 r2,Bool.and_false]
  ·unfold limB;rw [Bool.eq_false_iff.2 r1,Bool.false_and]
end Go.Proofs.YtfclibhhkphckaaGreatDoor
