import Derived.Test.YtdjgnbkclcjiiaaGreatDoorRa
set_option linter.unusedVariables false
set_option linter.unusedSimpArgs false
set_option maxRecDepth 4000
namespace Go.Proofs.YtdjgnbkclcjiiaaGreatDoor
open Go Go.RowKit Vc
attribute [local irreducible] Go.Calls
theorem zhb{op ask:Int}{nm:List UInt8}{wi cm k:Int}{v:Value}{ks:List Rl}:atomB (.mk op ask nm wi cm k v ks)=true↔((0≤ask∧ask≤2)∧nameB nm=true∧(0≤wi∧wi≤1000)∧(ask≠0∨wi=0)∧(0≤cm∧cm≤5)∧(-1073741824≤k∧k≤1073741824)∧ks.length=0):=by
 show ((decide (0≤ask) && decide (ask≤2)) && nameB nm && (decide (0≤wi) && decide (wi≤1000)) && (!decide (ask=0) || decide (wi=0)) && (decide (0≤cm) && decide (cm≤5)) && (decide (-1073741824≤k) && decide (k≤1073741824)) && decide (ks.length=0))=true↔_;simp only [Bool.and_eq_true,Bool.or_eq_true,Bool.not_eq_true',decide_eq_true_eq,decide_eq_false_iff_not];constructor
 ·rintro ⟨⟨⟨⟨⟨⟨a,b⟩,c⟩,d⟩,e⟩,f⟩,g⟩;exact⟨a,b,c,d,e,f,g⟩
 ·rintro ⟨a,b,c,d,e,f,g⟩;exact⟨⟨⟨⟨⟨⟨a,b⟩,c⟩,d⟩,e⟩,f⟩,g⟩
theorem zif{op ask:Int}{nm:List UInt8}{wi cm k:Int}{v:Value}{ks:List Rl}:bareB (.mk op ask nm wi cm k v ks)=true↔(ask=0∧nm=[]∧wi=0∧cm=0∧k=0):=by
 show (decide (ask=0) && decide (nm=[]) && decide (wi=0) && decide (cm=0) && decide (k=0))=true↔_;simp only [Bool.and_eq_true,decide_eq_true_eq];constructor
 ·rintro ⟨⟨⟨⟨a,b⟩,c⟩,d⟩,e⟩;exact⟨a,b,c,d,e⟩
 ·rintro ⟨a,b,c,d,e⟩;exact⟨⟨⟨⟨a,b⟩,c⟩,d⟩,e⟩
section
variable (A N D O:TypeId)
theorem zps(op:Int)(l:List Value):(fmK N D O op l).oneCell'=true:=by unfold fmK;split <;> rfl
theorem zbca(op:Int)(z:Nat × Option (List Value)):(mkE N D O op z).2.1.oneCell'=true:=by
 obtain⟨n,o⟩:=z;cases o with
 | none=>rfl
 | some vs=>simp only [mkE];split;exact zps N D O op vs;rfl
theorem zyo(r:Rl)(n:Nat)(lv:Int):(mkR A N D O n lv r).2.1.oneCell'=true:=by
 obtain⟨op,ask,nm,wi,cm,k,v,ks⟩:=r;unfold mkR;split
 ·rfl
 split
 ·rfl
 split
 ·rfl
 split
 ·rfl
 exact zbca N D O op _
def mkP(vs:List Value)(a:Nat × Option (List Value)):Nat × Option (List Value):=(a.1,a.2.map (vs ++ ·))
theorem zcca(a:Nat × Option (List Value)):mkP [] a=a:=by
 obtain⟨n,o⟩:=a;cases o <;> simp [mkP]
theorem zlz(vs:List Value)(x:Value)(a:Nat × Option (List Value)):mkP vs (mkP [x] a)=mkP (vs ++ [x]) a:=by
 obtain⟨n,o⟩:=a;cases o <;> simp [mkP]
theorem zdca{a:Nat × Value × Bool}{k:Nat→Nat × Option (List Value)}(h:a.2.2=true):mkC a k=mkP [a.2.1] (k a.1):=by
 unfold mkC mkP;rw [if_pos h];generalize k a.1=z;obtain⟨n,o⟩:=z;cases o <;> simp
theorem zhda{a:Nat × Value × Bool}{k:Nat→Nat × Option (List Value)}(h:¬ a.2.2=true):mkC a k=(a.1,none):=by unfold mkC;rw [if_neg h]
end
abbrev MK(n:Nat)(lv:Int)(r:Rl):=mkR 183 176 180 181 n lv r
abbrev ML(n:Nat)(lv:Int)(l:List Rl):=mkL 183 176 180 181 n lv l
abbrev ME(op:Int)(z:Nat × Option (List Value)):=mkE 176 180 181 op z
abbrev FM(r:Rl):Value:=fmV 183 176 180 181 r
theorem zzea{r:Rl}{n:Nat}{lv:Int}(h:(MK n lv r).2.2=true):(MK n lv r).1≤200:=by
 obtain⟨a,b⟩:=zxw 183 176 180 181 r n lv;have a':okR n lv r→MK n lv r=(n + nodesR r,FM r,true):=a;have b':¬ okR n lv r→(MK n lv r).2.2=false:=b;by_cases hk:okR n lv r
 ·rw [a' hk];exact hk.1
 ·rw [b' hk]at h;cases h
theorem zau(r:Rl):(MK 0 1 r).2.2=validR r∧(validR r=true→(MK 0 1 r).2.1=FM r):=by
 obtain⟨a,b⟩:=zzba 183 176 180 181 r;have a':validR r=true→MK 0 1 r=(nodesR r,FM r,true):=a;have b':validR r=false→(MK 0 1 r).2.2=false:=b;cases hv:validR r with
 | true=>rw [a' hv];exact⟨rfl,fun _=>rfl⟩
 | false=>exact⟨b' hv,fun h=>by cases h⟩
def msK(n:Nat)(L:List Vl):Nat:=match L with
 | [_,.i i,_]=>n - i.toNat
 | _=>0
theorem zzo{α:Type}(a:Nat)(l:List α):((((a + (l.length + 0)) / 1:Nat):Int))=((a + l.length:Nat):Int):=by simp
theorem zpd:∀ {l:List Rl} {r:Rl},r∈l→nodesR r≤nodesL l
  | a::l,r,h=>by
    simp only [nodesL];rcases List.mem_cons.1 h with rfl | h
    · omega
    · have:=zpd h;omega
set_option maxHeartbeats 2000000 in
theorem zmz:∀ (m:Nat) {w:World} {xl n:Nat} {lv:Int} {r:Rl},nodesR r≤m→Vg_0 w→xl≠0→RlAt (hideB xl w) r→w.heap[xl]? = some (.cells #[.int .i64 n] 163)→n≤200→1≤lv→lv≤21 →
  Calls Tryz.prog 96 #[Vc.ptr xl 0,RV7 r,.int .i64 lv] w (Vc.Eff (.tuple #[(MK n lv r).2.1,.bool (MK n lv r).2.2]) xl #[.int .i64 (MK n lv r).1] 163 w):=by
 intro m
 induction m with
 | zero=>intro w xl n lv r hm;have:=zcb r;omega
 | succ m ih =>
 intro w xl n lv r hm hV hx0 h hx hn hl1 hl2;obtain⟨op,ask,nm,wi,cm,k,v,ks⟩:=r;have hks:=zm h;simp only [Rl.v,Rl.ks]at hks;obtain⟨b0,p0,c0,e0,f0,g0⟩:=zk hks.1;have hno:=zbe f0;simp only [nodesR]at hm
 have E:RV7 (.mk op ask nm wi cm k v ks)=.agg #[.int .i64 op,.int .i64 ask,.string ⟨nm.toArray⟩,.int .i64 wi,.int .i64 cm,.int .i64 k,(if b0=true then .slice none 0 0 else .slice (some (Vc.qad p0 (Int.toNat ((ks.length:Nat):Int)) (Int.toNat c0))) (Int.toNat ((ks.length:Nat):Int)) (Int.toNat c0):Value)]:=by
  unfold RV7;simp only [Rl.op,Rl.ask,Rl.nm,Rl.wi,Rl.cm,Rl.n,Rl.v];rw [e0]
 have close:∀ (z:Nat × Value × Bool),MK n lv (.mk op ask nm wi cm k v ks)=z→(.agg #[.tuple #[z.2.1,.bool z.2.2],.agg #[.int .i64 ((z.1:Nat):Int)]]:Value)=.agg #[.tuple #[(MK n lv (.mk op ask nm wi cm k v ks)).2.1,.bool (MK n lv (.mk op ask nm wi cm k v ks)).2.2],.agg #[.int .i64 (((MK n lv (.mk op ask nm wi cm k v ks)).1:Nat):Int)]]:=by rintro z rfl;rfl
 have hmk:MK n lv (.mk op ask nm wi cm k v ks)=if n + 1 > 200∨lv > 20 then (n + 1,.nilIface,false)else if op=1 then (n + 1,.iface 183 (RV7 (.mk op ask nm wi cm k v ks)),atomB (.mk op ask nm wi cm k v ks))
   else if bareB (.mk op ask nm wi cm k v ks)=false then (n + 1,.nilIface,false)else if ks.length > 2 then (n + 1,.nilIface,false)else ME op (ML (n + 1) (lv + 1) ks):=by unfold MK;rw [mkR]
 rw [E];refine zrd p0 n op ask wi cm k (ks.length:Nat) c0 lv b0 nm xl w _ _ hx ?_;generalize MK n lv (.mk op ask nm wi cm k v ks)=Z at *;have hx9:IntKind.i64.wrap ((n:Int) + 1)=((n + 1:Nat):Int):=by rw [ze (by omega)];rfl
 rintro x9 rfl;rw [hx9];refine iteI (fun h1=>close (n + 1,.nilIface,false) (by rw [hmk,if_pos (by omega)])) (fun h1 => ?_);refine iteI (fun h2=>close (n + 1,.nilIface,false) (by rw [hmk,if_pos (by omega)])) (fun h2 => ?_);rw [if_neg (by omega)]at hmk;refine iteI (fun hop => ?_) (fun hop => ?_)
 ·rw [if_pos hop]at hmk
  have A1:∀ (b:Bool),atomB (.mk op ask nm wi cm k v ks)=b→∀ v0:OV,v0.1=Value.iface 183 (.agg #[.int .i64 op,.int .i64 ask,.string ⟨nm.toArray⟩,.int .i64 wi,.int .i64 cm,.int .i64 k,(if b0=true then .slice none 0 0 else .slice (some (Vc.qad p0 (Int.toNat ((ks.length:Nat):Int)) (Int.toNat c0))) (Int.toNat ((ks.length:Nat):Int)) (Int.toNat c0):Value)]) →
    (.agg #[.tuple #[v0.1,.bool b],.agg #[.int .i64 ((n + 1:Nat):Int)]]:Value)=.agg #[.tuple #[Z.2.1,.bool Z.2.2],.agg #[.int .i64 ((Z.1:Nat):Int)]]:=by
   intro b hb v0 hv0;rw [hv0,← E];exact close (n + 1,.iface 183 (RV7 (.mk op ask nm wi cm k v ks)),b) (by rw [hmk,hb])
  have A0:¬ ((0≤ask∧ask≤2)∧nameB nm=true∧(0≤wi∧wi≤1000)∧(ask≠0∨wi=0)∧(0≤cm∧cm≤5)∧(-1073741824≤k∧k≤1073741824)∧ks.length=0)→atomB (.mk op ask nm wi cm k v ks)=false:=fun hh=>Bool.eq_false_iff.2 fun h=>hh (zhb.1 h);refine iteI (fun a1=>iteI (fun a2 => ?_) (fun a2=>A1 _ (A0 fun hh=>by omega))) (fun a1=>A1 _ (A0 fun hh=>by omega));refine⟨_,fun w' hb=>zdr (by obtain⟨ty,mk,hv⟩:=hV;exact⟨ty,mk,by rw [hb.block _ (Array.getElem?_eq_some_iff.1 hv).1 (Ne.symm hx0)];exact hv⟩) nm,iteI (fun a3 => ?_) (fun a3=>A1 _ (A0 fun hh=>a3 hh.2.1))⟩;refine iteI (fun a4=>iteI (fun a5 => ?_) (fun a5=>A1 _ (A0 fun hh=>by omega))) (fun a4=>A1 _ (A0 fun hh=>by omega))
  have T3:(ask≠0∨wi=0)→0≤cm→∀ v0:OV,v0.1=Value.iface 183 (.agg #[.int .i64 op,.int .i64 ask,.string ⟨nm.toArray⟩,.int .i64 wi,.int .i64 cm,.int .i64 k,(if b0=true then .slice none 0 0 else .slice (some (Vc.qad p0 (Int.toNat ((ks.length:Nat):Int)) (Int.toNat c0))) (Int.toNat ((ks.length:Nat):Int)) (Int.toNat c0):Value)]) →
    Vj___countdown_maker__make_T3 cm k (ks.length:Nat) b0 v0 ((n + 1:Nat):Int) (.tuple #[Z.2.1,.bool Z.2.2]) #[.int .i64 ((Z.1:Nat):Int)]:=by
   intro a6 a7 v0 hv0;refine iteI (fun a8=>iteI (fun a9=>iteI (fun a10=>⟨by omega,hno,A1 _ ?_ v0 hv0⟩) (fun a10=>A1 _ (A0 fun hh=>by omega) v0 hv0)) (fun a9=>A1 _ (A0 fun hh=>by omega) v0 hv0)) (fun a8=>A1 _ (A0 fun hh=>by omega) v0 hv0);rw [Bool.eq_iff_iff,zhb];simp only [beq_iff_eq];constructor
   ·intro hh;omega
   ·intro hh;exact⟨⟨a1,a2⟩,a3,⟨a4,a5⟩,a6,⟨a7,a8⟩,⟨a9,a10⟩,by omega⟩
  refine iteI (fun a6 => ?_) (fun a6 => ?_)
  ·intro v0 hv0;exact iteI (fun a7=>iteI (fun a8=>T3 (.inr a7) a8 v0 hv0) (fun a8=>A1 _ (A0 fun hh=>by omega) v0 hv0)) (fun a7=>A1 _ (A0 fun hh=>by omega) v0 hv0)
  ·intro v0 hv0;exact iteI (fun a8=>T3 (.inl a6) a8 v0 hv0) (fun a8=>A1 _ (A0 fun hh=>by omega) v0 hv0)
 rw [if_neg hop]at hmk
 have B0:¬ (ask=0∧nm=[]∧wi=0∧cm=0∧k=0)→(.agg #[.tuple #[.nilIface,.bool false],.agg #[.int .i64 ((n + 1:Nat):Int)]]:Value)=.agg #[.tuple #[Z.2.1,.bool Z.2.2],.agg #[.int .i64 ((Z.1:Nat):Int)]]:=fun hh =>
  close (n + 1,.nilIface,false) (by rw [hmk,if_pos (Bool.eq_false_iff.2 fun h=>hh (zif.1 h))])
 refine iteI (fun a1=>iteI (fun a2=>iteI (fun a3=>iteI (fun a4=>iteI (fun a5 => ?_) (fun a5=>B0 fun hh=>a5 hh.2.2.2.2)) (fun a4=>B0 fun hh=>a4 hh.2.2.2.1)) (fun a3=>B0 fun hh=>a3 hh.2.2.1)) (fun a2=>B0 fun hh=>a2 hh.2.1)) (fun a1=>B0 fun hh=>a1 hh.1);rw [if_neg (by rw [zif.2 ⟨a1,a2,a3,a4,a5⟩];simp)]at hmk;refine⟨by omega,hno,iteI (fun a6=>close (n + 1,.nilIface,false) (by rw [hmk,if_pos (by omega)])) (fun a6 => ?_)⟩;rw [if_neg (by omega)]at hmk;refine⟨by omega,hno,fun L=>∃ (vs:List Value) (i n':Nat),L=[.l vs,.i i,.i n']∧i≤ks.length∧n'≤200∧vs.length=i∧ML (n + 1) (lv + 1) ks=mkP vs (ML n' (lv + 1) (ks.drop i)),msK ks.length,⟨[],0,n + 1,rfl,Nat.zero_le _,by omega,rfl,by rw [List.drop_zero,zcca]⟩, ?_⟩;rintro l0 x10 x11 ⟨vs,i,n',hy,hi,hn',hvl,hL⟩;simp only [List.cons.injEq,Vl.l.injEq,Vl.i.injEq,and_true]at hy;obtain⟨hvs,rfl,rfl⟩:=hy;rw [List.append_nil]at hvs;have hl0:l0.length=i:=by rw [← hvl,← hvs,List.length_map]
 refine iteI (fun hlt => ?_) (fun hge => ?_)
 ·have hi':i < ks.length:=by omega
  have hnil:¬ b0=true:=fun hb=>by have:=f0 hb;omega
  have hk:ks[i]? = some ks[i]:=List.getElem?_eq_getElem hi';have hmem:ks[i]∈ks:=List.getElem_mem hi';rw [List.drop_eq_getElem_cons hi']at hL;generalize ks[i]=kid at hk hmem hL;have hkid:=zva hks.2 kid hmem;obtain⟨q0,q1,q2,q3,q4,q5,q6⟩:=g0 i kid hk;obtain⟨b1,p1,c1,e1,f1,g1⟩:=zk (zm hkid).1;rw [e1]at q6;simp only [Int.toNat_natCast]at q6 ⊢;have hsub:=zpd hmem;refine⟨hnil,by omega,hlt,kid.op,q0,kid.ask,q1,kid.nm,q2,kid.wi,q3,kid.cm,q4,kid.n,q5,b1,p1,(kid.ks.length:Nat),c1,q6, ?_⟩;rintro x19 rfl;rw [ze (x:=lv + 1) (by omega)];refine⟨⟨(MK n' (lv + 1) kid).2.1,zyo _ _ _ _ kid n' (lv + 1)⟩,(MK n' (lv + 1) kid).2.2,((MK n' (lv + 1) kid).1:Nat),fun β w' hb hm2 => ?_, ?_⟩
  ·have hg:Vg_0 w':=by obtain⟨ty,mk,hv⟩:=hV;exact⟨ty,mk,by rw [hb.block _ (Array.getElem?_eq_some_iff.1 hv).1 (Ne.symm hx0)];exact hv⟩
   have hne:β 0≠0:=by
    rcases hm2.1.1 with hh | hh
    ·rw [hh];exact hx0
    ·obtain⟨ty,mk,hv⟩:=hV
     have:=(Array.getElem?_eq_some_iff.1 hv).1
     omega
   have:=ih (w:=w') (xl:=β 0) (n:=n') (lv:=lv + 1) (r:=kid) (by omega) hg hne (RlAt.y hb hm2.1.1 hkid) hm2.1.2 hn' (by omega) (by omega)
   unfold RV7 at this;rw [e1]at this;exact this
  have hstep:ML n' (lv + 1) (kid::ks.drop (i + 1))=mkC (MK n' (lv + 1) kid) (fun n=>ML n (lv + 1) (ks.drop (i + 1))):=by unfold ML MK;rw [mkL]
  rw [hstep]at hL;refine iteI (fun hb2 => ?_) (fun hb2 => ?_)
  ·rintro x21 rfl;rw [zzo];refine⟨by omega, ?_⟩;rintro x22 rfl;rw [ze (by omega)];refine⟨⟨vs ++ [(MK n' (lv + 1) kid).2.1],i + 1,(MK n' (lv + 1) kid).1,by rw [hvs];rfl,by omega,zzea hb2,by simp [hvl], ?_⟩,by simp only [msK];omega⟩;rw [hL,zdca hb2,zlz]
  ·refine close ((MK n' (lv + 1) kid).1,.nilIface,false) ?_;rw [hmk,hL,zhda hb2];rfl
 ·obtain rfl:i=ks.length:=by omega
  rw [List.drop_length]at hL;have hM:ML n' (lv + 1) []=(n',some []):=by unfold ML;rw [mkL]
  rw [hM]at hL
  have hfin:Z=if kidsB op vs.length=true then (n',fmK 176 180 181 op vs,true)else (n',.nilIface,false):=by
   rw [hmk,hL];simp only [mkP,Option.map_some,List.append_nil,mkE]
  have X0:¬ kidsB op vs.length=true→(.agg #[.tuple #[.nilIface,.bool false],.agg #[.int .i64 ((n':Nat):Int)]]:Value)=.agg #[.tuple #[Z.2.1,.bool Z.2.2],.agg #[.int .i64 ((Z.1:Nat):Int)]]:=fun hh=>close (n',.nilIface,false) (by rw [hfin,if_neg hh])
  have X1:∀ (u:OV) (x:Value),kidsB op vs.length=true→fmK 176 180 181 op vs=x→u.1=x→(.agg #[.tuple #[u.1,.bool true],.agg #[.int .i64 ((n':Nat):Int)]]:Value)=.agg #[.tuple #[Z.2.1,.bool Z.2.2],.agg #[.int .i64 ((Z.1:Nat):Int)]]:=fun u x hh e1 e2=>by
   rw [e2];exact close (n',x,true) (by rw [hfin,if_pos hh,e1])
  have hvl2:vs.length=l0.length:=by omega
  have K2:op=2→l0.length=1→kidsB op vs.length=true:=fun a b=>by rw [hvl2,a,b];rfl
  have K3:op=3→l0.length=2→kidsB op vs.length=true:=fun a b=>by rw [hvl2,a,b];rfl
  have K4:op=4→l0.length=2→kidsB op vs.length=true:=fun a b=>by rw [hvl2,a,b];rfl
  have KN:¬ (op=2∧l0.length=1)→¬ (op=3∧l0.length=2)→¬ (op=4∧l0.length=2)→¬ kidsB op vs.length=true:=fun a b c=>by
   rw [hvl2];simp only [kidsB,Bool.or_eq_true,Bool.and_eq_true,decide_eq_true_eq];omega
  subst hvs;clear hmk hL hfin hM
  have T2:¬ (op=2∧l0.length=1)→¬ (op=3∧l0.length=2)→Vj___countdown_maker__make_T2 op l0 (n':Nat) (.tuple #[Z.2.1,.bool Z.2.2]) #[.int .i64 ((Z.1:Nat):Int)]:=fun na nb=>by
   refine iteI (fun o4 => ?_) (fun o4=>X0 (KN na nb fun hh=>o4 hh.1));rintro x14 rfl;rw [zzo];refine iteI (fun d2 => ?_) (fun d2=>X0 (KN na nb fun hh=>d2 (by omega)));have hd:l0.length=2:=by omega
   obtain⟨y1,y2,rfl⟩:∃ y1 y2,l0=[y1,y2]:=by
    match l0,hd with
    | [a,b],_=>exact⟨a,b,rfl⟩
   rintro x15 rfl;refine⟨by simp,y1,rfl, ?_⟩;rintro x16 rfl;refine⟨by simp,y2,rfl, ?_⟩;intro v2 hv2;exact X1 v2 _ (K4 o4 rfl) (by rw [o4];rfl) hv2
  have T1:¬ (op=2∧l0.length=1)→Vj___countdown_maker__make_T1 op l0 (n':Nat) (.tuple #[Z.2.1,.bool Z.2.2]) #[.int .i64 ((Z.1:Nat):Int)]:=fun na=>by
   refine iteI (fun o3 => ?_) (fun o3=>T2 na fun hh=>o3 hh.1);rintro x13 rfl;rw [zzo];refine iteI (fun d2 => ?_) (fun d2=>T2 na fun hh=>d2 (by omega));have hd:l0.length=2:=by omega
   obtain⟨y1,y2,rfl⟩:∃ y1 y2,l0=[y1,y2]:=by
    match l0,hd with
    | [a,b],_=>exact⟨a,b,rfl⟩
   rintro x14 rfl;refine⟨by simp,y1,rfl, ?_⟩;rintro x15 rfl;refine⟨by simp,y2,rfl, ?_⟩;intro v2 hv2;exact X1 v2 _ (K3 o3 rfl) (by rw [o3];rfl) hv2
  refine iteI (fun o2 => ?_) (fun o2=>T1 fun hh=>o2 hh.1);rintro x12 rfl;rw [zzo];refine iteI (fun d1 => ?_) (fun d1=>T1 fun hh=>d1 (by omega));have hd:l0.length=1:=by omega
  obtain⟨y1,rfl⟩:∃ y1,l0=[y1]:=List.length_eq_one_iff.1 hd;rintro x13 rfl;refine⟨by simp,y1,rfl, ?_⟩;intro v1 hv1;exact X1 v1 _ (K2 o2 rfl) rfl hv1
theorem zbu{w:World}{r:Rl}(hV:Vg_0 w)(h:RlAt w r):Calls Tryz.prog 49 #[RV7 r] w (Vc.Ret (.tuple #[(MK 0 1 r).2.1,.bool (validR r)]) w):=by
 have hval:=(zau r).1;have hks:=zm h;obtain⟨b0,p0,c0,e0,f0,g0⟩:=zk hks.1;have E:RV7 r=.agg #[.int .i64 r.op,.int .i64 r.ask,.string ⟨r.nm.toArray⟩,.int .i64 r.wi,.int .i64 r.cm,.int .i64 r.n,(if b0=true then .slice none 0 0 else .slice (some (Vc.qad p0 (Int.toNat ((r.ks.length:Nat):Int)) (Int.toNat c0))) (Int.toNat ((r.ks.length:Nat):Int)) (Int.toNat c0):Value)]:=by unfold RV7;rw [e0]
 rw [E];refine zdk p0 r.op r.ask r.wi r.cm r.n (r.ks.length:Nat) c0 b0 r.nm w _ ⟨⟨(MK 0 1 r).2.1,zyo _ _ _ _ r 0 1⟩,(MK 0 1 r).2.2,((MK 0 1 r).1:Nat),fun β w' hb hm => ?_,by rw [hval]⟩
 ·have hsz:0 < w.heap.size:=by obtain⟨ty,mk,hv⟩:=hV;exact (Array.getElem?_eq_some_iff.1 hv).1
  have hg:Vg_0 w':=by obtain⟨ty,mk,hv⟩:=hV;exact⟨ty,mk,by rw [hb.block _ hsz];exact hv⟩
  have:=zmz (nodesR r) (w:=w') (xl:=β 1) (n:=0) (lv:=1) (r:=r) (Nat.le_refl _) hg (by have:=hm.1.1;omega) (RlAt.n hb hm.1.1 h) hm.1.2 (by omega) (by omega) (by omega)
  rw [E]at this;exact this
end Go.Proofs.YtdjgnbkclcjiiaaGreatDoor
