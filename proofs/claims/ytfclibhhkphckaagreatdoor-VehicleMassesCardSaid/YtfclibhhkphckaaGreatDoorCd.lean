import Derived.Test.YtfclibhhkphckaaGreatDoorCc
set_option linter.unusedVariables false
set_option linter.unusedSimpArgs false
set_option maxRecDepth 4000
namespace Go.Proofs.YtfclibhhkphckaaGreatDoor
open Go Go.RowKit Vc
attribute [local irreducible] Go.Calls
theorem zle(n a b:Int)(w:World):Calls Tryz.prog 21 #[.int .i64 n,.int .i64 a,.int .i64 b] w (Vc.Ret (.bool (decide (a≤n) && decide (n≤b))) w):=by
 refine zhj n a b w _ (iteI (fun h => ?_) (fun h => ?_))
 all_goals simp [h]
theorem zza(lo hi least:Int)(w:World):Calls Tryz.prog 87 #[.agg #[.int .i64 lo,.int .i64 hi],.int .i64 least] w (Vc.Ret (.bool (bdd lo hi least)) w):=by
 refine zgf lo hi least w _ ⟨_,fun w' _=>zle _ _ _ w',iteI (fun h => ?_) (fun h => ?_)⟩
 ·refine zke ?_;unfold bdd;rw [h,Bool.true_and]
 ·refine zke ?_;unfold bdd;rw [Bool.eq_false_iff.2 h,Bool.false_and]
def ptOk(last:Int)(p:Pt):Bool:=decide (last < p.a) && decide (p.a≤4503599627370496) && bdd p.lo p.hi 0
def lastOf(l:List Pt)(i:Nat):Int:=if i=0 then -1 else match l[i - 1]? with
 | some p=>p.a
 | none => -1
def InvRt(l:List Pt)(L:List Vl):Prop:=∃ (b:Bool) (i:Nat),L=[.b b,.i i]∧i≤l.length∧tblF (lastOf l i) (l.drop i)=tblF (-1) l∧(0 < i→0≤lastOf l i)
def msRt(n:Nat)(L:List Vl):Nat:=match L with
 | [_,.i i]=>n - i.toNat
 | _=>0
theorem zcx{w:World}{v:Value}{l:List Pt}(h:SlAt w v 3 (l.flatMap ptc))(hn:l.length < 4611686018427387904):Calls Tryz.prog 88 #[v] w (Vc.Ret (.bool (tblB l)) w):=by
 obtain⟨b0,p0,x1,rfl,h2,h3⟩:=zcc h;have hno:=zme h2;refine zxf p0 (l.length:Nat) x1 b0 w _ ⟨by omega,hno,_,fun w' _=>zle _ _ _ w',iteI (fun hl => ?_) (fun hl => ?_)⟩;rotate_left
 ·refine zke ?_;simp only [Bool.and_eq_true,decide_eq_true_eq]at hl;unfold tblB;rw [eq_comm,Bool.and_eq_false_iff];right;rw [Bool.and_eq_false_iff,decide_eq_false_iff_not,decide_eq_false_iff_not];omega
 simp only [Bool.and_eq_true,decide_eq_true_eq]at hl
 have hB:tblB l=tblF (-1) l:=by
  unfold tblB;rw [decide_eq_true (by omega),decide_eq_true (by omega)];simp
 refine⟨InvRt l,msRt l.length,⟨false,0,rfl,by omega,rfl,fun h=>by omega⟩, ?_⟩;rintro b2 x2 ⟨b,i,hy,hi,ht,hl0⟩;simp only [List.cons.injEq,Vl.b.injEq,Vl.i.injEq,and_true]at hy;obtain⟨rfl,rfl⟩:=hy;refine⟨by omega,hno,iteI (fun hlt => ?_) (fun hge => ?_)⟩;rotate_left
 ·have hie:i=l.length:=by omega
  rw [hie,List.drop_length,tblF]at ht;rw [hB,← ht]
 have hi':i < l.length:=by omega
 have hg:l[i]? = some l[i]:=List.getElem?_eq_getElem hi';rw [List.drop_eq_getElem_cons hi']at ht;generalize l[i]=p at hg ht;obtain⟨c1,c2,c3⟩:=h3 i p hg;have hnil:¬ b0=true:=fun hb=>by have:=h2 hb;omega
 have bad:ptOk (lastOf l i) p=false→(Value.bool false)=.bool (tblB l):=fun hb=>by
  unfold ptOk at hb;rw [tblF,hb,Bool.false_and]at ht;rw [hB,← ht]
 have good:ptOk (lastOf l i) p=true→0≤p.a→InvRt l [.b b2,.i ((i + 1:Nat):Int)]:=fun hb hp=>by
  unfold ptOk at hb;have e1:lastOf l (i + 1)=p.a:=by unfold lastOf;rw [if_neg (by omega),Nat.add_sub_cancel,hg]
  refine⟨b2,i + 1,rfl,by omega, ?_,fun _=>by rw [e1];exact hp⟩;rw [e1,← ht,tblF,hb,Bool.true_and]
 simp only [Int.toNat_natCast];refine⟨hnil,by omega,by omega,p.a,c1,_,fun w' _=>zle _ _ _ w',iteI (fun q1 => ?_) (fun q1 => ?_)⟩;rotate_left
 ·refine bad ?_;simp only [Bool.and_eq_true,decide_eq_true_eq]at q1;unfold ptOk;rw [Bool.and_eq_false_iff];left;rw [Bool.and_eq_false_iff,decide_eq_false_iff_not,decide_eq_false_iff_not];by_cases h0:i=0
  ·have:lastOf l i = -1:=by unfold lastOf;rw [if_pos h0]
   omega
  ·have:=hl0 (by omega);omega
 simp only [Bool.and_eq_true,decide_eq_true_eq]at q1;refine⟨hnil,by omega,by omega,p.lo,c2,p.hi,c3,_,fun w' _=>zza _ _ _ w',iteI (fun q2 => ?_) (fun q2 => ?_)⟩;rotate_left
 ·exact bad (by unfold ptOk;rw [Bool.eq_false_iff.2 q2,Bool.and_false])
 have step:lastOf l i < p.a→∀ x:Int,x=IntKind.i64.wrap ((i:Int) + 1)→InvRt l [.b b2,.i x]∧msRt l.length [.b b2,.i x] < msRt l.length [.b b2,.i (i:Int)]:=fun hlt2 x hx=>by
  have e:x=((i + 1:Nat):Int):=by rw [hx,zh (by omega)];omega
  subst e;exact⟨good (by unfold ptOk;rw [q2,decide_eq_true hlt2,decide_eq_true q1.2];rfl) q1.1,by simp only [msRt];omega⟩
 refine iteI (fun h0 => ?_) (fun h0 => ?_)
 ·have hg1:l[i - 1]? = some (l[i - 1]'(by omega)):=List.getElem?_eq_getElem (by omega);have hla:lastOf l i=(l[i - 1]'(by omega)).a:=by unfold lastOf;rw [if_neg (by omega),hg1]
  obtain⟨d1,_,_⟩:=h3 (i - 1) _ hg1;refine⟨hnil,by omega,by omega,p.a,c1, ?_⟩;rintro x7 rfl;rw [zh (by omega)];refine⟨hnil,by omega,by omega,_,by rw [show Int.toNat ((i:Int) - 1)=i - 1 by omega];exact d1,iteI (fun q3 => ?_) (fun q3 => ?_)⟩
  ·refine bad ?_;unfold ptOk;rw [decide_eq_false (by omega)];rfl
  ·exact fun x hx=>step (by omega) x hx
 ·refine fun x hx=>step ?_ x hx
  have:lastOf l i = -1:=by unfold lastOf;rw [if_pos (by omega)]
  omega
def InvX(ss:List Stg)(es:List En)(nm:List UInt8)(i k:Nat)(L:List Vl):Prop:=∃ (a:Int) (j:Nat),L=[.i a,.i j]∧j≤i + 1∧(j≤i→nm ∉ eNames (ss.take j))∧(j=i + 1→nm ∉ eNames (ss.take i)++(es.take k).map (·.nm))
def msX(n:Nat)(L:List Vl):Nat:=match L with
 | [_,.i j]=>n - j.toNat
 | _=>0
def InvY(ss:List Stg)(es:List En)(nm:List UInt8)(i k j:Nat)(L:List Vl):Prop:=∃ (a:Int) (m:Nat),L=[.i a,.i m]∧m≤es.length∧(j=i→m≤k)∧nm ∉ eNames (ss.take j)++(es.take m).map (·.nm)
theorem zwz{ss:List Stg}{i j m:Nat}{s:Stg}{e:En}(hj:j < i)(hs:ss[j]? = some s)(he:s.es[m]? = some e):e.nm∈eNames (ss.take i):=by
 unfold eNames;rw [List.mem_flatMap];have h1:(ss.take i)[j]? = some s:=by rw [List.getElem?_take_of_lt hj,hs]
 exact⟨s,List.mem_of_getElem? h1,List.mem_map.2 ⟨e,List.mem_of_getElem? he,rfl⟩⟩
theorem zqea{es:List En}{k m:Nat}{e:En}(hm:m < k)(he:es[m]? = some e):e.nm∈(es.take k).map (·.nm):=by
 have h1:(es.take k)[m]? = some e:=by rw [List.getElem?_take_of_lt hm,he]
 exact List.mem_map.2 ⟨e,List.mem_of_getElem? h1,rfl⟩
theorem zju{w:World}{v:Value}{ss:List Stg}(h:SlAt w v 6 (ss.flatMap stc))(hes:∀ s∈ss,SlAt w s.v 11 (s.es.flatMap enc))(hsn:ss.length < 4611686018427387904)
  (hsz:∀ s∈ss,s.nm.length < 4611686018427387904∧s.es.length < 4611686018427387904∧∀ e∈s.es,e.nm.length < 4611686018427387904)
  {i k:Nat} {s:Stg} {e:En} (hs:ss[i]? = some s) (he:s.es[k]? = some e) :
  Calls Tryz.prog 121 #[v,.int .i64 (i:Nat),.int .i64 (k:Nat)] w (Vc.Ret (.int .i64 (engF (eNames (ss.take i)++(s.es.take k).map (·.nm)) e)) w):=by
 obtain⟨b0,p0,c0,rfl,f0,g0⟩:=zdc h;have hi:i < ss.length:=(List.getElem?_eq_some_iff.1 hs).1;have hk:k < s.es.length:=(List.getElem?_eq_some_iff.1 he).1;have hsm:s∈ss:=List.mem_of_getElem? hs;have hem:e∈s.es:=List.mem_of_getElem? he;have hnil:¬ b0=true:=fun hb=>by have:=f0 hb;omega
 obtain⟨_,_,_,_,_,k5⟩:=g0 i s hs;obtain⟨b1,p1,c1,e1,f1,g1⟩:=zvf (hes s hsm);have hnil1:¬ b1=true:=fun hb=>by have:=f1 hb;omega
 obtain⟨d0,d1,d2,d3,d4,d5,d6,d7,d8,d9,d10⟩:=g1 k e he;refine zwc p0 (ss.length:Nat) c0 (i:Nat) (k:Nat) b0 w _ ?_;simp only [Int.toNat_natCast]
 refine⟨hnil,by omega,by omega,b1,p1,(s.es.length:Nat),c1,(by rw [k5,e1]),hnil1,by omega,by omega,e.nm,d0,e.n,d1,e.tl,d2,e.th,d3,e.fl,d4,e.fh,d5,e.le,d6,e.sl,d7,e.sh,d8,e.pl,d9,e.ph,d10,
  _,fun w' _=>zbn e.nm ((hsz s hsm).2.2 e hem) w',iteI (fun hn => ?_) (fun hn => ?_)⟩
 rotate_left
 ·unfold engF;rw [if_pos (by simpa using hn)]
 have dup:e.nm∈eNames (ss.take i)++(s.es.take k).map (·.nm)→(Value.int .i64 8)=.int .i64 (engF (eNames (ss.take i)++(s.es.take k).map (·.nm)) e):=fun hm=>by
  unfold engF;rw [if_neg (by rw [hn];simp),if_pos hm]
 refine⟨InvX ss s.es e.nm i k,msX (i + 2),⟨0,0,rfl,by omega,fun _=>by simp [eNames],fun h=>by omega⟩, ?_⟩;rintro x16 x17 ⟨a,j,hy,hj,hA,hB⟩;simp only [List.cons.injEq,Vl.i.injEq,and_true]at hy;obtain⟨rfl,rfl⟩:=hy;refine iteI (fun hle => ?_) (fun hgt => ?_)
 ·have hji:j≤i:=by omega
  have hjl:j < ss.length:=by omega
  have hsj:ss[j]? = some ss[j]:=List.getElem?_eq_getElem hjl;have hsjm:ss[j]∈ss:=List.getElem_mem hjl;have hij:j=i→ss[j]=s:=fun h=>by subst h;rw [hs]at hsj;exact (Option.some.inj hsj).symm
  generalize ss[j]=sj at hsj hsjm hij;obtain⟨_,_,_,_,_,kj⟩:=g0 j sj hsj;obtain⟨b3,p2,c3,e3,f3,g3⟩:=zvf (hes sj hsjm);have hno3:=zme f3;have hz3:=(hsz sj hsjm).2.1;have hcell:w.cell? ⟨p0.1,p0.2 + j * 6 + 5,none⟩=some ((if b3=true then .slice none 0 0 else .slice (some (Vc.qad p2 (Int.toNat ((sj.es.length:Nat):Int)) (Int.toNat c3))) (Int.toNat ((sj.es.length:Nat):Int)) (Int.toNat c3):Value)):=by rw [kj,e3]
  have next:∀ a':Int,(j < i→e.nm ∉ eNames (ss.take j)++sj.es.map (·.nm))→(j=i→e.nm ∉ eNames (ss.take i)++(s.es.take k).map (·.nm))→∀ x:Int,x=IntKind.i64.wrap ((j:Int) + 1) →
    InvX ss s.es e.nm i k [.i a',.i x]∧msX (i + 2) [.i a',.i x] < msX (i + 2) [.i x16,.i (j:Int)]:=fun a' h1 h2 x hx=>by
   have hxe:x=((j + 1:Nat):Int):=by rw [hx,zh (by omega)];omega
   subst hxe;refine⟨⟨a',j + 1,rfl,by omega,fun h => ?_,fun h=>h2 (by omega)⟩,by simp only [msX];omega⟩;rw [zgn hsj];exact h1 (by omega)
  refine⟨InvY ss sj.es e.nm i k j,msX sj.es.length,⟨x16,0,rfl,by omega,fun _=>by omega,by simpa using hA hji⟩, ?_⟩;rintro x18 x19 ⟨a2,m,hy2,hm,hmk,hC⟩;simp only [List.cons.injEq,Vl.i.injEq,and_true]at hy2;obtain⟨rfl,rfl⟩:=hy2;have hno3':¬b3=true∨((sj.es.length:Nat):Int)=0:=hno3;simp only [Int.toNat_natCast]at hcell ⊢;refine⟨hnil,by omega,by omega,b3,p2,(sj.es.length:Nat),c3,hcell,by omega,hno3,iteI (fun hlt => ?_) (fun hge => ?_)⟩;rotate_left
  ·have hml:m=sj.es.length:=by omega
   subst hml;rw [List.take_length]at hC;refine fun x hx=>next x18 (fun _=>hC) (fun hji2 => ?_) x hx
   have:=hij hji2
   subst this
   have:=hmk hji2
   omega
  have hml:m < sj.es.length:=by omega
  have hem2:sj.es[m]? = some sj.es[m]:=List.getElem?_eq_getElem hml;generalize sj.es[m]=e2 at hem2;obtain⟨q0,_⟩:=g3 m e2 hem2;have hnil3:¬ b3=true:=fun hb=>by have:=f3 hb;omega
  have stepY:e2.nm≠e.nm→(j=i→m + 1≤k)→∀ x:Int,x=IntKind.i64.wrap ((m:Int) + 1)→InvY ss sj.es e.nm i k j [.i x18,.i x]∧msX sj.es.length [.i x18,.i x] < msX sj.es.length [.i x18,.i (m:Int)]:=fun hne hmk2 x hx=>by
   have hxe:x=((m + 1:Nat):Int):=by rw [hx,zh (by omega)];omega
   subst hxe;refine⟨⟨x18,m + 1,rfl,by omega,hmk2, ?_⟩,by simp only [msX];omega⟩;rw [zoo hem2];intro hmm;rw [← List.append_assoc]at hmm;rcases List.mem_append.1 hmm with hmm | hmm
   ·exact hC hmm
   ·simp only [List.mem_singleton]at hmm;exact hne hmm.symm
  refine iteI (fun hlt2 => ?_) (fun hge2 => ?_)
  ·refine⟨hnil,by omega,by omega,b3,p2,(sj.es.length:Nat),c3,hcell,hnil3,by omega,by omega,e2.nm,q0,iteI (fun heq => ?_) (fun hne => ?_)⟩
   ·exact dup (List.mem_append_left _ (by rw [← heq];exact zwz (by omega) hsj hem2))
   ·exact stepY hne (fun h=>by omega)
  ·have hji2:j=i:=by omega
   have:=hij hji2
   subst this;refine iteI (fun hlt3 => ?_) (fun hge3 => ?_)
   ·refine⟨hnil,by omega,by omega,b3,p2,(sj.es.length:Nat),c3,hcell,hnil3,by omega,by omega,e2.nm,q0,iteI (fun heq => ?_) (fun hne => ?_)⟩
    ·exact dup (List.mem_append_right _ (by rw [← heq];exact zqea (by omega) hem2))
    ·exact stepY hne (fun h=>by omega)
   ·have hmk3:m=k:=by have:=hmk hji2;omega
    refine fun x hx=>next x18 (fun h=>by omega) (fun _ => ?_) x hx
    rw [← hji2,← hmk3];exact hC
 ·have hje:j=i + 1:=by omega
  have hp:=hB hje;have hF:engF (eNames (ss.take i)++(s.es.take k).map (·.nm)) e=if rng e=false then 4 else 0:=by unfold engF;rw [if_neg (by rw [hn];simp),if_neg hp]
  rw [hF];have bad:rng e=false→(Value.int .i64 4)=.int .i64 (if rng e=false then 4 else 0):=fun hr=>by rw [if_pos hr]
  refine⟨_,fun w' _=>zle _ _ _ w',iteI (fun r1=>⟨_,fun w' _=>zza _ _ _ w',iteI (fun r2=>⟨_,fun w' _=>zza _ _ _ w',iteI (fun r3=>⟨_,fun w' _=>zle _ _ _ w',iteI (fun r4=>⟨_,fun w' _=>zza _ _ _ w',iteI (fun r5 =>
   ⟨_,fun w' _=>zza _ _ _ w',iteI (fun r6 => ?_) (fun r6=>bad (by simp [rng,r6]))⟩) (fun r5=>bad (by simp [rng,r5]))⟩) (fun r4=>bad (by unfold rng;rw [Bool.eq_false_iff.2 r4];simp))⟩) (fun r3=>bad (by simp [rng,r3]))⟩) (fun r2=>bad (by simp [rng,r2]))⟩) (fun r1=>bad (by unfold rng;rw [Bool.eq_false_iff.2 r1];simp))⟩
  have hr:rng e=true:=by unfold rng;rw [r1,r2,r3,r4,r5,r6];rfl
  rw [if_neg (by rw [hr];simp)]
end Go.Proofs.YtfclibhhkphckaaGreatDoor
