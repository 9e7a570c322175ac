import Derived.Test.YtdjgnbkclcjiiaaGreatDoorM2
import Derived.Test.YtdjgnbkclcjiiaaGreatDoorRb
import Derived.Test.YtdjgnbkclcjiiaaGreatDoorM14
import Derived.Test.YtdjgnbkclcjiiaaGreatDoorG0
section
set_option linter.unusedVariables false
set_option linter.unusedSimpArgs false
set_option maxRecDepth 4000
namespace Go.Proofs.YtdjgnbkclcjiiaaGreatDoor
open Go Go.RowKit Vc
attribute [local irreducible] Go.Calls
theorem zcu(c:UInt8)(w:World):Calls Tryz.prog 124 #[.int .u8 (c.toNat:Int)] w (Vc.Ret (.bool (letB c)) w):=by
 refine zfg _ w _ (iteI (fun h => ?_) (fun h => ?_))
 all_goals (refine zwa ?_;unfold letB;rw [Bool.eq_iff_iff];simp;omega)
theorem zer(c:UInt8)(w:World):Calls Tryz.prog 125 #[.int .u8 (c.toNat:Int)] w (Vc.Ret (.bool (markB c)) w):=by
 have e:markB c=decide ((97≤c.toNat∧c.toNat≤122)∨(48≤c.toNat∧c.toNat≤57)∨c.toNat=45):=by
  unfold markB letB digB;rw [Bool.eq_iff_iff];simp only [Bool.or_eq_true,Bool.and_eq_true,decide_eq_true_eq,or_assoc]
 refine zxh _ w _ (iteI (fun h=>iteI (fun h2 => ?_) (fun h2=>iteI (fun h3=>iteI (fun h4 => ?_) (fun h4 => ?_)) (fun h3 => ?_))) (fun h=>iteI (fun h3=>iteI (fun h4 => ?_) (fun h4 => ?_)) (fun h3 => ?_)))
 all_goals (refine zwa ?_;rw [e,Bool.eq_iff_iff];simp;omega)
theorem zhx(s:List UInt8)(w:World):Calls Tryz.prog 76 #[.string ⟨s.toArray⟩] w (Vc.Ret (.bool (nameB s)) w):=by
 refine zyh s w _ ?_;rintro x0 rfl;refine iteI (fun h1=>iteI (fun h2 => ?_) (fun h2=>by rw [zhj (by omega)])) (fun h1=>by rw [zhj (by omega)]);rintro x1 rfl;refine⟨by omega, ?_⟩;rintro x2 rfl
 obtain⟨c,r,rfl⟩:∃ c r,s=c::r:=by
  cases s with
  | nil=>simp at h1
  | cons c r=>exact⟨c,r,rfl⟩
 have hl32:(c::r).length≤32:=by omega
 refine⟨_,fun w' _=>zcu c w',iteI (fun hl => ?_) (fun hl => ?_)⟩;rotate_left
 ·refine zwa ?_;simp only [nameB];rw [Bool.eq_false_iff.2 hl];simp
 refine iteI (fun he=>by rw [he];rfl) (fun he=>iteI (fun he2=>by rw [he2];rfl) (fun he2 => ?_))
 have fin:nameB (c::r)=(c::r).all markB:=by
  have a1:decide ((c::r)=wMost)=false:=decide_eq_false he;have a2:decide ((c::r)=wLeast)=false:=decide_eq_false he2;have a3:decide (1≤(c::r).length)=true:=decide_eq_true (by simp);have a4:decide ((c::r).length≤32)=true:=decide_eq_true hl32;unfold nameB;rw [a1,a2,a3,a4];simp only [hl,Bool.not_false,Bool.and_true,Bool.true_and]
 rw [fin];clear fin he he2 hl;generalize (c::r)=s at *;refine⟨fun L=>∃ (b:Bool) (i:Nat),L=[.b b,.i i]∧i≤s.length∧(s.take i).all markB=true,msN s.length,⟨false,0,rfl,Nat.zero_le _,rfl⟩, ?_⟩;rintro b1 x4 ⟨b,i,hy,hi,hA⟩;simp only [List.cons.injEq,Vl.i.injEq,Vl.b.injEq,and_true]at hy;obtain⟨rfl,rfl⟩:=hy;rintro x5 rfl;refine iteI (fun hlt => ?_) (fun hge => ?_)
 ·have hi':i < s.length:=by omega
  rintro x6 rfl;refine⟨by omega,by omega, ?_⟩;rintro x7 rfl;have hs:s[i]? = some (s.getD i 0):=by rw [List.getD_eq_getElem?_getD,List.getElem?_eq_getElem hi'];rfl
  rw [Int.toNat_natCast];generalize s.getD i 0=a at hs;refine⟨_,fun w' _=>zer a w',iteI (fun hm => ?_) (fun hm => ?_)⟩
  ·rintro x7 rfl;rw [ze (by omega)];refine⟨⟨b1,i + 1,rfl,by omega, ?_⟩,by simp only [msN];omega⟩;rw [List.take_add_one,hs,List.all_append,hA];simp [hm]
  ·refine zwa ?_;symm;rw [Bool.eq_false_iff];intro hall;exact hm (List.all_eq_true.1 hall a (List.mem_of_getElem? hs))
 ·obtain rfl:i=s.length:=by omega
  rw [List.take_length]at hA;rw [hA]
theorem zcp{r:Rl}(h:RlSz r):r.nm.length < 4611686018427387904∧r.ks.length < 4611686018427387904∧RlSzL r.ks:=by cases r;simpa only [RlSz,Rl.nm,Rl.ks]using h
theorem zij(r:Rl):nodesR r=1 + nodesL r.ks:=by cases r;rfl
def msS(n:Nat)(L:List Vl):Nat:=match L with
 | [_,_,.i i]=>n - i.toNat
 | _=>0
theorem zuaa(d:Int)(r:Rl):shR d r=if d > 21 then (1000,1000)else shL d 1 1 r.ks:=by cases r;simp only [shR,Rl.ks]
theorem zida:∀ (m:Nat) {w:World} {r:Rl} {d:Int},nodesR r≤m→RlAt w r→RlSz r→1≤d→d≤22→Calls Tryz.prog 56 #[RV7 r,.int .i64 d] w (Vc.Ret (.tuple #[.int .i64 (shR d r).1,.int .i64 (shR d r).2]) w):=by
 intro m
 induction m with
 | zero=>intro w r d hm;have:=zcb r;omega
 | succ m ih =>
 intro w r d hm h hsz0 hd1 hd2;have hsz:=zcp hsz0;rw [zij]at hm;have hks:=zm h;obtain⟨b0,p0,c0,e0,f0,g0⟩:=zk hks.1;have hno:=zbe f0;have E:RV7 r=.agg #[.int .i64 r.op,.int .i64 r.ask,.string ⟨r.nm.toArray⟩,.int .i64 r.wi,.int .i64 r.cm,.int .i64 r.n,(if b0=true then .slice none 0 0 else .slice (some (Vc.qad p0 (Int.toNat ((r.ks.length:Nat):Int)) (Int.toNat c0))) (Int.toNat ((r.ks.length:Nat):Int)) (Int.toNat c0):Value)]:=by unfold RV7;rw [e0]
 rw [E];refine zxg p0 r.op r.ask r.wi r.cm r.n (r.ks.length:Nat) c0 d b0 r.nm w _ (iteI (fun h1=>by rw [zuaa,if_pos h1]) (fun h1 => ?_));rw [zuaa,if_neg h1];refine⟨fun L=>∃ (n l:Int) (i:Nat),L=[.i n,.i l,.i i]∧i≤r.ks.length∧shL d 1 1 r.ks=shL d n l (r.ks.drop i)∧(1≤n∧n≤6000)∧(1≤l∧l≤2000),msS r.ks.length,⟨1,1,0,rfl,Nat.zero_le _,rfl,by omega,by omega⟩, ?_⟩;rintro x8 x9 x10 ⟨n,l,i,hy,hi,hL,hn,hl⟩;simp only [List.cons.injEq,Vl.i.injEq,and_true]at hy;obtain⟨rfl,rfl,rfl⟩:=hy;refine⟨by omega,hno,iteI (fun hlt=>iteI (fun hn2 => ?_) (fun hn2 => ?_)) (fun hge => ?_)⟩
 ·have hi':i < r.ks.length:=by omega
  have hnil:¬ b0=true:=fun hb=>by have:=f0 hb;omega
  have hk:r.ks[i]? = some r.ks[i]:=List.getElem?_eq_getElem hi';have hmem:r.ks[i]∈r.ks:=List.getElem_mem hi';have hdrop:=List.drop_eq_getElem_cons hi';generalize r.ks[i]=kid at hk hmem hdrop;have hkid:=zva hks.2 kid hmem;have hsz':=zdg hsz.2.2 kid hmem;have hsub:=zpd hmem;obtain⟨q0,q1,q2,q3,q4,q5,q6⟩:=g0 i kid hk;obtain⟨b9,p9,c9,e9,f9,g9⟩:=zk (zm hkid).1;rw [e9]at q6;simp only [Int.toNat_natCast]at q6 ⊢;refine⟨hnil,by omega,hlt,kid.op,q0,kid.ask,q1,kid.nm,q2,kid.wi,q3,kid.cm,q4,kid.n,q5,b9,p9,(kid.ks.length:Nat),c9,q6, ?_⟩;rintro x18 rfl;rw [ze (x:=d + 1) (by omega)];have hb:=zut kid (d + 1) (by omega) (by omega);refine⟨_,_,fun w' hb=>by have:=ih (w:=w') (r:=kid) (d:=d + 1) (by omega) (hkid.below hb) hsz' (by omega) (by omega);unfold RV7 at this;rw [e9]at this;exact this, ?_⟩;rintro x21 rfl x22 rfl x23 hx23 x24 rfl;rw [hdrop,shL,if_pos hn2]at hL;rw [ze (x:=(shR (d + 1) kid).2 + 1) (by omega)]at hx23;rw [ze (x:=x8 + (shR (d + 1) kid).1) (by omega),ze (by omega)];have hx:x23=max x9 ((shR (d + 1) kid).2 + 1):=by rw [hx23];split <;> omega
  subst hx;refine⟨⟨_,_,i + 1,rfl,by omega,hL,by omega,by omega⟩,by simp only [msS];omega⟩
 ·have:¬ (r.ks.drop i=[]):=fun hh=>by
   have:=congrArg List.length hh
   rw [List.length_drop]at this;simp at this;omega
  cases hdr:r.ks.drop i with
  | nil=>exact absurd hdr this
  | cons a l=>rw [hL,hdr,shL,if_neg hn2]
 ·obtain rfl:i=r.ks.length:=by omega
  rw [hL,List.drop_length,shL]
theorem zbfa{w:World}{r:Rl}(h:RlAt w r):Calls Tryz.prog 108 #[RV7 r] w (Vc.Ret (.bool (atomB r)) w):=by
 have hks:=zm h;obtain⟨b0,p0,c0,e0,f0,g0⟩:=zk hks.1;have hno:=zbe f0;have E:RV7 r=.agg #[.int .i64 r.op,.int .i64 r.ask,.string ⟨r.nm.toArray⟩,.int .i64 r.wi,.int .i64 r.cm,.int .i64 r.n,(if b0=true then .slice none 0 0 else .slice (some (Vc.qad p0 (Int.toNat ((r.ks.length:Nat):Int)) (Int.toNat c0))) (Int.toNat ((r.ks.length:Nat):Int)) (Int.toNat c0):Value)]:=by unfold RV7;rw [e0]
 rw [E];have A0:¬ ((0≤r.ask∧r.ask≤2)∧nameB r.nm=true∧(0≤r.wi∧r.wi≤1000)∧(r.ask≠0∨r.wi=0)∧(0≤r.cm∧r.cm≤5)∧(-1073741824≤r.n∧r.n≤1073741824)∧r.ks.length=0)→(Value.bool false)=.bool (atomB r):=fun hh=>zwa (Eq.symm (Bool.eq_false_iff.2 fun h=>hh (by cases r;exact zhb.1 h)));have A1:((0≤r.ask∧r.ask≤2)∧nameB r.nm=true∧(0≤r.wi∧r.wi≤1000)∧(r.ask≠0∨r.wi=0)∧(0≤r.cm∧r.cm≤5)∧(-1073741824≤r.n∧r.n≤1073741824)∧r.ks.length=0)→atomB r=true:=fun hh=>by cases r;exact zhb.2 hh
 refine zzh p0 r.op r.ask r.wi r.cm r.n (r.ks.length:Nat) c0 b0 r.nm w _ ?_;refine iteI (fun a1=>iteI (fun a2=>⟨_,fun w' _=>zhx r.nm w',iteI (fun a3=>iteI (fun a4=>iteI (fun a5 => ?_) (fun a5=>A0 fun hh=>by omega)) (fun a4=>A0 fun hh=>by omega)) (fun a3=>A0 fun hh=>a3 hh.2.1)⟩) (fun a2=>A0 fun hh=>by omega)) (fun a1=>A0 fun hh=>by omega)
 have T:(r.ask≠0∨r.wi=0)→((0≤r.cm)→((r.cm≤5)→(((-1073741824)≤r.n)→((r.n≤1073741824)→(0≤((r.ks.length:Nat):Int))∧((¬ (b0=true))∨(((r.ks.length:Nat):Int)=0))∧(.bool (((r.ks.length:Nat):Int) == 0):Value)=.bool (atomB r))∧(¬ (r.n≤1073741824)→(.bool false:Value)=.bool (atomB r)))∧(¬ ((-1073741824)≤r.n)→(.bool false:Value)=.bool (atomB r)))∧(¬ (r.cm≤5)→(.bool false:Value)=.bool (atomB r)))∧(¬ (0≤r.cm)→(.bool false:Value)=.bool (atomB r)):=fun a6=>by
  refine iteI (fun a7=>iteI (fun a8=>iteI (fun a9=>iteI (fun a10=>⟨by omega,hno,zwa ?_⟩) (fun a10=>A0 fun hh=>by omega)) (fun a9=>A0 fun hh=>by omega)) (fun a8=>A0 fun hh=>by omega)) (fun a7=>A0 fun hh=>by omega);by_cases hk:r.ks.length=0
  ·rw [A1 ⟨⟨a1,a2⟩,a3,⟨a4,a5⟩,a6,⟨a7,a8⟩,⟨a9,a10⟩,hk⟩];simp [hk]
  ·have:atomB r=false:=Bool.eq_false_iff.2 fun h=>hk (by cases r;exact (zhb.1 h).2.2.2.2.2.2)
   rw [this];simp only [beq_eq_false_iff_ne];omega
 exact iteI (fun a6=>iteI (fun a7=>T (.inr a7)) (fun a7=>A0 fun hh=>by omega)) (fun a6=>T (.inl a6))
theorem zdu(r:Rl):rightR r=if r.op=1 then atomB r else bareB r && kidsB r.op r.ks.length && rightL r.ks:=by cases r;rw [rightR];rfl
theorem zjda:∀ (m:Nat) {w:World} {r:Rl},nodesR r≤m→RlAt w r→RlSz r→Calls Tryz.prog 57 #[RV7 r] w (Vc.Ret (.bool (rightR r)) w):=by
 intro m
 induction m with
 | zero=>intro w r hm;have:=zcb r;omega
 | succ m ih =>
 intro w r hm h hsz0;have hsz:=zcp hsz0;rw [zij]at hm;have h':=h;have hks:=zm h;obtain⟨b0,p0,c0,e0,f0,g0⟩:=zk hks.1;have hno:=zbe f0;have E:RV7 r=.agg #[.int .i64 r.op,.int .i64 r.ask,.string ⟨r.nm.toArray⟩,.int .i64 r.wi,.int .i64 r.cm,.int .i64 r.n,(if b0=true then .slice none 0 0 else .slice (some (Vc.qad p0 (Int.toNat ((r.ks.length:Nat):Int)) (Int.toNat c0))) (Int.toNat ((r.ks.length:Nat):Int)) (Int.toNat c0):Value)]:=by unfold RV7;rw [e0]
 rw [E];refine zyg p0 r.op r.ask r.wi r.cm r.n (r.ks.length:Nat) c0 b0 r.nm w _ (iteI (fun h1=>⟨_,fun w' hb=>by rw [← E];exact zbfa (h'.below hb),by rw [zdu,if_pos h1]⟩) (fun h1 => ?_));rw [zdu,if_neg h1];have K0:kidsB r.op r.ks.length=false→(Value.bool false)=.bool (bareB r && kidsB r.op r.ks.length && rightL r.ks):=fun hh=>by rw [hh];simp
 have B0:¬ (r.ask=0∧r.nm=[]∧r.wi=0∧r.cm=0∧r.n=0)→(Value.bool false)=.bool (bareB r && kidsB r.op r.ks.length && rightL r.ks):=fun hh=>by
  have:bareB r=false:=Bool.eq_false_iff.2 fun h=>hh (by cases r;exact zif.1 h)
  rw [this];simp
 refine iteI (fun a1=>iteI (fun a2 => ?_) (fun a2=>K0 (by simp only [kidsB,Bool.or_eq_false_iff,Bool.and_eq_false_iff,decide_eq_false_iff_not];omega))) (fun a1=>K0 (by simp only [kidsB,Bool.or_eq_false_iff,Bool.and_eq_false_iff,decide_eq_false_iff_not];omega));refine⟨by omega,hno, ?_⟩;rintro x7 hx7 x8 rfl
 have hx:IntKind.i64.wrap (x7 - 1)=if r.op=2 then 1 else 2:=by
  rw [ze (by split at hx7 <;> omega)];split at hx7 <;> split <;> omega
 rw [hx];refine iteI (fun a3 => ?_) (fun a3=>K0 (by simp only [kidsB,Bool.or_eq_false_iff,Bool.and_eq_false_iff,decide_eq_false_iff_not];split at a3 <;> omega));have hkB:kidsB r.op r.ks.length=true:=by simp only [kidsB,Bool.or_eq_true,Bool.and_eq_true,decide_eq_true_eq];split at a3 <;> omega
 refine iteI (fun b1=>iteI (fun b2=>iteI (fun b3=>iteI (fun b4=>iteI (fun b5 => ?_) (fun b5=>B0 fun hh=>b5 hh.2.2.2.2)) (fun b4=>B0 fun hh=>b4 hh.2.2.2.1)) (fun b3=>B0 fun hh=>b3 hh.2.2.1)) (fun b2=>B0 fun hh=>b2 hh.2.1)) (fun b1=>B0 fun hh=>b1 hh.1);have hbare:bareB r=true:=by cases r;exact zif.2 ⟨b1,b2,b3,b4,b5⟩
 rw [hbare,hkB,Bool.true_and,Bool.true_and];refine⟨fun L=>∃ (b:Bool) (i:Nat),L=[.b b,.i i]∧i≤r.ks.length∧rightL r.ks=rightL (r.ks.drop i),msN r.ks.length,⟨false,0,rfl,Nat.zero_le _,rfl⟩, ?_⟩;rintro b x9 ⟨bb,i,hy,hi,hL⟩;simp only [List.cons.injEq,Vl.i.injEq,Vl.b.injEq,and_true]at hy;obtain⟨rfl,rfl⟩:=hy;refine⟨by omega,hno,iteI (fun hlt => ?_) (fun hge => ?_)⟩
 ·have hi':i < r.ks.length:=by omega
  have hnil:¬ b0=true:=fun hb=>by have:=f0 hb;omega
  have hk:r.ks[i]? = some r.ks[i]:=List.getElem?_eq_getElem hi';have hmem:r.ks[i]∈r.ks:=List.getElem_mem hi';have hdrop:=List.drop_eq_getElem_cons hi';generalize r.ks[i]=kid at hk hmem hdrop;have hkid:=zva hks.2 kid hmem;have hsz':=zdg hsz.2.2 kid hmem;have hsub:=zpd hmem;obtain⟨q0,q1,q2,q3,q4,q5,q6⟩:=g0 i kid hk;obtain⟨b9,p9,c9,e9,f9,g9⟩:=zk (zm hkid).1;rw [e9]at q6;simp only [Int.toNat_natCast]at q6 ⊢;refine⟨hnil,by omega,hlt,kid.op,q0,kid.ask,q1,kid.nm,q2,kid.wi,q3,kid.cm,q4,kid.n,q5,b9,p9,(kid.ks.length:Nat),c9,q6, ?_⟩;rw [hdrop,rightL]at hL;refine⟨_,fun w' hb=>by have:=ih (w:=w') (r:=kid) (by omega) (hkid.below hb) hsz';unfold RV7 at this;rw [e9]at this;exact this,iteI (fun hr => ?_) (fun hr => ?_)⟩
  ·rintro x17 rfl;rw [ze (by omega)];rw [hr,Bool.true_and]at hL;exact⟨⟨b,i + 1,rfl,by omega,hL⟩,by simp only [msN];omega⟩
  ·rw [hL,Bool.eq_false_iff.2 hr];rfl
 ·obtain rfl:i=r.ks.length:=by omega
  rw [hL,List.drop_length];rfl
theorem zvaa{w:World}{r:Rl}(h:RlAt w r)(hsz:RlSz r):Calls Tryz.prog 24 #[RV7 r] w (Vc.Ret (.bool (validR r)) w):=by
 have h':=h;have hv:validR r=((decide ((shR 1 r).1≤200) && decide ((shR 1 r).2≤20)) && rightR r):=by rw [zfz];rfl
 have hks:=zm h;obtain⟨b0,p0,c0,e0,f0,g0⟩:=zk hks.1;have hno:=zbe f0;have E:RV7 r=.agg #[.int .i64 r.op,.int .i64 r.ask,.string ⟨r.nm.toArray⟩,.int .i64 r.wi,.int .i64 r.cm,.int .i64 r.n,(if b0=true then .slice none 0 0 else .slice (some (Vc.qad p0 (Int.toNat ((r.ks.length:Nat):Int)) (Int.toNat c0))) (Int.toNat ((r.ks.length:Nat):Int)) (Int.toNat c0):Value)]:=by unfold RV7;rw [e0]
 rw [E];refine zre p0 r.op r.ask r.wi r.cm r.n (r.ks.length:Nat) c0 b0 r.nm w _ ⟨_,_,fun w' hb=>by rw [← E];exact zida _ (Nat.le_refl _) (h'.below hb) hsz (by omega) (by omega), ?_⟩;refine iteI (fun a1=>iteI (fun a2=>⟨_,fun w' hb=>by rw [← E];exact zjda _ (Nat.le_refl _) (h'.below hb) hsz, ?_⟩) (fun a2 => ?_)) (fun a1 => ?_)
 ·rw [hv,decide_eq_true a1,decide_eq_true a2];rfl
 ·rw [hv,decide_eq_false a2];simp
 ·rw [hv,decide_eq_false a1];simp
mutual
def szR(g:Int):Rl→Int
 | .mk _ _ nm _ _ _ _ ks=>szL g (IntKind.i64.wrap (1 + (nm.length:Nat))) ks
def szL(g n:Int):List Rl→Int
 | []=>n
 | r::rs=>if n≤g then szL g (IntKind.i64.wrap (n + szR g r)) rs else n
end
theorem zkda(g:Int)(r:Rl):szR g r=szL g (IntKind.i64.wrap (1 + (r.nm.length:Nat))) r.ks:=by cases r;simp only [szR,Rl.nm,Rl.ks]
def msZ(n:Nat)(L:List Vl):Nat:=match L with
 | [_,.i i]=>n - i.toNat
 | _=>0
theorem zcfa:∀ (m:Nat) {w:World} {r:Rl} {g:Int},nodesR r≤m→RlAt w r→RlSz r→Calls Tryz.prog 45 #[RV7 r,.int .i64 g] w (Vc.Ret (.int .i64 (szR g r)) w):=by
 intro m
 induction m with
 | zero=>intro w r d hm;have:=zcb r;omega
 | succ m ih =>
 intro w r g hm h hsz0;have hsz:=zcp hsz0;rw [zij]at hm;have hks:=zm h;obtain⟨b0,p0,c0,e0,f0,g0⟩:=zk hks.1;have hno:=zbe f0;have E:RV7 r=.agg #[.int .i64 r.op,.int .i64 r.ask,.string ⟨r.nm.toArray⟩,.int .i64 r.wi,.int .i64 r.cm,.int .i64 r.n,(if b0=true then .slice none 0 0 else .slice (some (Vc.qad p0 (Int.toNat ((r.ks.length:Nat):Int)) (Int.toNat c0))) (Int.toNat ((r.ks.length:Nat):Int)) (Int.toNat c0):Value)]:=by unfold RV7;rw [e0]
 rw [E];refine zai p0 r.op r.ask r.wi r.cm r.n (r.ks.length:Nat) c0 g b0 r.nm w _ ?_;rintro x8 rfl x9 hx9;rw [zkda,← hx9];refine⟨fun L=>∃ (n:Int) (i:Nat),L=[.i n,.i i]∧i≤r.ks.length∧szL g x9 r.ks=szL g n (r.ks.drop i),msZ r.ks.length,⟨x9,0,rfl,Nat.zero_le _,rfl⟩, ?_⟩;rintro x10 x11 ⟨n,i,hy,hi,hL⟩;simp only [List.cons.injEq,Vl.i.injEq,and_true]at hy;obtain⟨rfl,rfl⟩:=hy;refine⟨by omega,hno,iteI (fun hlt=>iteI (fun hn2 => ?_) (fun hn2 => ?_)) (fun hge => ?_)⟩
 ·have hi':i < r.ks.length:=by omega
  have hnil:¬ b0=true:=fun hb=>by have:=f0 hb;omega
  have hk:r.ks[i]? = some r.ks[i]:=List.getElem?_eq_getElem hi';have hmem:r.ks[i]∈r.ks:=List.getElem_mem hi';have hdrop:=List.drop_eq_getElem_cons hi';generalize r.ks[i]=kid at hk hmem hdrop;have hkid:=zva hks.2 kid hmem;have hsz':=zdg hsz.2.2 kid hmem;have hsub:=zpd hmem;obtain⟨q0,q1,q2,q3,q4,q5,q6⟩:=g0 i kid hk;obtain⟨b9,p9,c9,e9,f9,g9⟩:=zk (zm hkid).1;rw [e9]at q6;simp only [Int.toNat_natCast]at q6 ⊢;refine⟨hnil,by omega,hlt,kid.op,q0,kid.ask,q1,kid.nm,q2,kid.wi,q3,kid.cm,q4,kid.n,q5,b9,p9,(kid.ks.length:Nat),c9,q6, ?_⟩;refine⟨_,fun w' hb=>by have:=ih (w:=w') (r:=kid) (g:=g) (by omega) (hkid.below hb) hsz';unfold RV7 at this;rw [e9]at this;exact this, ?_⟩;rintro x20 rfl x21 rfl;rw [hdrop,szL,if_pos hn2]at hL;rw [ze (x:=(i:Int) + 1) (by omega)];refine⟨⟨_,i + 1,rfl,by omega,hL⟩,by simp only [msZ];omega⟩
 ·have:¬ (r.ks.drop i=[]):=fun hh=>by
   have:=congrArg List.length hh
   rw [List.length_drop]at this;simp at this;omega
  cases hdr:r.ks.drop i with
  | nil=>exact absurd hdr this
  | cons a l=>rw [hL,hdr,szL,if_neg hn2]
 ·obtain rfl:i=r.ks.length:=by omega
  rw [hL,List.drop_length,szL]
end Go.Proofs.YtdjgnbkclcjiiaaGreatDoor
end
section
set_option linter.unusedVariables false
set_option linter.unusedSimpArgs false
set_option maxRecDepth 100000
namespace Go.Proofs.YtdjgnbkclcjiiaaGreatDoor
open Go Go.RowKit Go.Proofs Wk
open Vc (SlAt OV iteI Vl zwa ze)
attribute [local irreducible] Go.Calls
theorem zeu(c:UInt8)(w:World):Calls Tryz.prog 126 #[.int .u8 (c.toNat:Int)] w (Vc.Ret (.bool (digB c)) w):=by
 refine zwg _ w _ (iteI (fun h => ?_) (fun h => ?_))
 all_goals (refine zwa ?_;unfold digB;rw [Bool.eq_iff_iff];simp;omega)
def hdL:List UInt8→Bool
 | c::_=>letB c
 | []=>false
def kindB(t:Tk):Int:=if t.num=true then 2 else if t.x=[]then (if t.bad=true then 3 else 0)else if hdL t.x=true then 1 else 3
def numB(t:Tk):Int:=if t.num=true then digV (t.x.take 10)else 0
def rtx(t:Tk):List UInt8:=if t.num=true then []else t.x
def rtV(t:Tk):Value := .agg #[.int .i64 (kindB t),.int .i64 (t.a:Nat),.int .i64 (t.t:Nat),.int .i64 (numB t),.string ⟨(rtx t).toArray⟩,.bool t.bad]
theorem n3{s:List UInt8}{k n:Nat}(hl:s.length < 4611686018427387904)(hn:k + n≤s.length)(h0:1≤n)(hc:letB (s.getD k 0)=true):Vj_ullageref10_Next_T3 (k:Nat) ((k + n:Nat):Int) s (rtV ⟨k,k + n,(s.drop k).take n,false,decide (32 < n)⟩):=by
 refine⟨by omega, ?_⟩;rintro s1 rfl;rw [zcr (k:=k) (n:=n) _ _ rfl rfl];rintro x12 rfl;have hlen:((s.drop k).take n).length=n:=by rw [List.length_take,List.length_drop];omega
 have hlt:k < s.length:=by omega
 obtain⟨m,rfl⟩:∃ m,n=m + 1:=⟨n - 1,by omega⟩;have hx:(s.drop k).take (m + 1)=s.getD k 0::(s.drop (k + 1)).take m:=by rw [List.drop_eq_getElem_cons hlt,List.take_succ_cons,zeg hlt]
 rw [hlen];unfold rtV kindB numB rtx;dsimp only;rw [hx,if_neg (by decide),if_neg (by simp),if_pos (show hdL (s.getD k 0::_)=true from hc)];simp;omega
def msR(n:Nat):List Vl→Nat
 | [_,.i i]=>n - i.toNat
 | _=>0
def msSg(n:Nat):List Vl→Nat
 | .i i::_=>n - i.toNat
 | _=>0
def strV(x:List UInt8):Value := .string ⟨x.toArray⟩
theorem zeca{x:List UInt8}(h:x∈signsB):∃ c l,x=c::l∧letB c=false∧digB c=false:=by
 simp only [signsB,List.mem_cons,List.not_mem_nil,or_false]at h;rcases h with rfl | rfl | rfl | rfl | rfl | rfl | rfl | rfl | rfl | rfl | rfl | rfl | rfl <;> exact⟨_,_,rfl,by decide,by decide⟩
theorem znz{x:List UInt8}{k:Nat}(h:x∈signsB):rtV ⟨k,k + x.length,x,false,false⟩=.agg #[.int .i64 3,.int .i64 (k:Nat),.int .i64 ((k + x.length:Nat):Int),.int .i64 0,.string ⟨x.toArray⟩,.bool false]:=by
 obtain⟨c,l,rfl,h1,h2⟩:=zeca h;simp [rtV,kindB,numB,rtx,hdL,h1]
def inv9(s:List UInt8)(k:Nat)(L:List Vl):Prop:=∃ j:Nat,L=[.i (j:Nat),.l (signsB.map strV),.i (k:Nat),.s [],.i 0,.i 0,.i 0,.i 0,.s [],.b false]∧j≤13∧signsB.find? (fun x=>x.isPrefixOf (s.drop k))=(signsB.drop j).find? (fun x=>x.isPrefixOf (s.drop k))
set_option maxHeartbeats 1000000 in
theorem n1{w:World}{s:List UInt8}{k:Nat}(hl:s.length < 4611686018427387904)(hlt:k≤s.length):Vj_ullageref10_Next_T1 s (k:Nat) (rtV (tokAt k (s.drop k))) w:=by
 rintro x5 rfl;refine iteI (fun he => ?_) (fun he => ?_)
 ·rw [List.drop_of_length_le (by omega)];rfl
 have hk:=hlt;replace hlt:k < s.length:=by omega
 have hd:=List.drop_eq_getElem_cons hlt;have hg:s.getD k 0=s[k]:=zeg hlt;rintro x6 rfl;refine⟨by omega,by omega, ?_⟩;rintro x7 rfl;rw [Int.toNat_natCast,hg];refine⟨letB s[k],fun w' hb=>zcu _ _,iteI (fun hle => ?_) (fun hle => ?_)⟩
 ·have hTok:tokAt k (s.drop k)=⟨k,k + runB markB (s.drop k),(s.drop k).take (runB markB (s.drop k)),false,decide (32 < runB markB (s.drop k))⟩:=by
   rw [hd,zu,if_pos hle]
  rw [hTok];have hend:=zyk (p:=markB) hk
  have hpos:1≤runB markB (s.drop k):=by
   rw [zbk hlt (by rw [hg];unfold markB;rw [hle];rfl)];omega
  refine⟨fun L=>∃ j:Nat,L=[.i (j:Nat)]∧j≤s.length∧k + runB markB (s.drop k)=j + runB markB (s.drop j),msKp s.length,⟨k,rfl,hk,rfl⟩, ?_⟩;rintro x8 ⟨j,hy,hj,hrj⟩;simp only [List.cons.injEq,Vl.i.injEq,and_true]at hy;subst hy
  have fin:runB markB (s.drop j)=0→Vj_ullageref10_Next_T3 (k:Nat) (j:Nat) s (rtV ⟨k,k + runB markB (s.drop k),(s.drop k).take (runB markB (s.drop k)),false,decide (32 < runB markB (s.drop k))⟩):=fun h0=>by
   rw [show j=k + runB markB (s.drop k) by omega];exact n3 hl hend hpos (by rw [hg];exact hle)
  rintro x9 rfl;refine iteI (fun h5 => ?_) (fun h5=>fin (ztm (by omega)));have hjl:j < s.length:=by omega
  rintro x10 rfl;refine⟨by omega,by omega, ?_⟩;rintro x11 rfl;rw [Int.toNat_natCast];refine⟨markB (s.getD j 0),fun w' hb=>zer _ _,iteI (fun hm => ?_) (fun hm=>fin (zao hjl (Bool.eq_false_iff.2 hm)))⟩;intro x12 h12;have e:x12=((j + 1:Nat):Int):=by rw [h12,ze (by omega)];rfl
  clear h12;subst e;exact⟨⟨j + 1,rfl,by omega,by rw [hrj,zbk hjl hm];omega⟩,by simp only [msKp];omega⟩
 rintro x8 rfl;refine⟨by omega,by omega, ?_⟩;rintro x9 rfl;refine⟨digB s[k],fun w' hb=>zeu _ _,iteI (fun hdi => ?_) (fun hdi => ?_)⟩
 ·have hTok:tokAt k (s.drop k)=⟨k,k + runB digB (s.drop k),(s.drop k).take (runB digB (s.drop k)),true,decide (10 < runB digB (s.drop k))⟩:=by
   rw [hd,zu,if_neg hle,if_pos hdi]
  rw [hTok];have hend:=zyk (p:=digB) hk;have hall:=zqs (p:=digB) (s.drop k);refine⟨fun L=>∃ j:Nat,L=[.i (digV ((s.drop k).take (min (j - k) 10))),.i (j:Nat)]∧k≤j∧j≤s.length∧k + runB digB (s.drop k)=j + runB digB (s.drop j),msR s.length,⟨k,by rw [Nat.sub_self];rfl,Nat.le_refl _,hk,rfl⟩, ?_⟩;rintro x10 x11 ⟨j,hy,hkj,hj,hrj⟩;simp only [List.cons.injEq,Vl.i.injEq,and_true]at hy;obtain⟨rfl,rfl⟩:=hy
  have fin:runB digB (s.drop j)=0→∀ x13:Int,x13=IntKind.i64.wrap ((j:Nat) - (k:Nat))→(.agg #[.int .i64 2,.int .i64 (k:Nat),.int .i64 (j:Nat),.int .i64 (digV ((s.drop k).take (min (j - k) 10))),.string ⟨(([]:List UInt8)).toArray⟩,.bool (decide (x13 > 10))]:Value)=rtV ⟨k,k + runB digB (s.drop k),(s.drop k).take (runB digB (s.drop k)),true,decide (10 < runB digB (s.drop k))⟩:=fun h0 x13 h13=>by
   rw [ze (by omega)]at h13;have hjj:j=k + runB digB (s.drop k):=by omega
   have hjk:j - k=runB digB (s.drop k):=by omega
   have e:x13=((runB digB (s.drop k):Nat):Int):=by rw [h13];omega
   rw [hjk,hjj];subst e;unfold rtV kindB numB rtx;dsimp only;rw [if_pos rfl,if_pos rfl,if_pos rfl,List.take_take,Nat.min_comm];simp;omega
  rintro x12 rfl;refine iteI (fun h5 => ?_) (fun h5=>fin (ztm (by omega)));have hjl:j < s.length:=by omega
  rintro x13 rfl;refine⟨by omega,by omega, ?_⟩;rintro x14 rfl;rw [Int.toNat_natCast];refine⟨digB (s.getD j 0),fun w' hb=>zeu _ _,iteI (fun hm => ?_) (fun hm=>fin (zao hjl (Bool.eq_false_iff.2 hm)))⟩;have hrun:=zbk hjl hm;intro x15 h15;rw [ze (by omega)]at h15;refine iteI (fun h6 => ?_) (fun h6 => ?_)
  ·have hjk:j - k < 10:=by omega
   have hbd:=zap ((s.drop k).take (j - k)).length ((s.drop k).take (j - k)) rfl (fun c hc=>hall c (by
    have:j - k≤runB digB (s.drop k):=by omega
    exact List.mem_of_mem_take (i:=j - k) (by rw [List.take_take,Nat.min_eq_left this];exact hc)))
   have hpw:(10:Int) ^ ((s.drop k).take (j - k)).length≤10 ^ 10:=by
    have h3:((s.drop k).take (j - k)).length≤10:=by rw [List.length_take];omega
    have:=Nat.pow_le_pow_right (n:=10) (by omega) h3
    exact_mod_cast this
   have hten:(10:Int) ^ 10=10000000000:=by decide
   rw [Nat.min_eq_left (by omega)];simp only [digB,Bool.and_eq_true,decide_eq_true_eq]at hm;intro x16 h16;rw [ze (by omega)]at h16;rintro x17 rfl;refine⟨by omega,by omega, ?_⟩;rintro x18 rfl;intro x19 h19;have e19:x19=((s.getD j 0).toNat:Int) - 48:=by rw [h19];show _ % _=_;simp only [IntKind.bits];omega
   clear h19;intro x20 h20 x21 h21 x22 h22;rw [ze (by omega)]at h20;rw [ze (by omega)]at h21;have e22:x22=((j + 1:Nat):Int):=by rw [h22,ze (by omega)];rfl
   subst e22;refine⟨⟨j + 1, ?_,by omega,by omega,by rw [hrj,hrun];omega⟩,by simp only [msR];omega⟩
   have hs:(s.drop k).take (j + 1 - k)=(s.drop k).take (j - k) ++ [s.getD j 0]:=by
    rw [show j + 1 - k=(j - k) + 1 by omega,List.take_add_one,List.getElem?_drop,show k + (j - k)=j by omega,List.getElem?_eq_getElem hjl,zeg hjl];rfl
   rw [Nat.min_eq_left (by omega),hs,zum,h21,h16,h20,e19]
  ·intro x16 h16;have e16:x16=((j + 1:Nat):Int):=by rw [h16,ze (by omega)];rfl
   subst e16;refine⟨⟨j + 1, ?_,by omega,by omega,by rw [hrj,hrun];omega⟩,by simp only [msR];omega⟩;rw [Nat.min_eq_right (by omega),Nat.min_eq_right (by omega)]
 refine⟨inv9 s k,msSg 13,⟨0,rfl,by omega,rfl⟩, ?_⟩;rintro x10 l0 x11 s1 x12 x13 x14 x15 s2 b2 ⟨j,hy,hj,he⟩;simp only [List.cons.injEq,Vl.i.injEq,Vl.s.injEq,Vl.b.injEq,Vl.l.injEq,and_true,List.append_nil]at hy;obtain⟨rfl,hl0,rfl,rfl,rfl,rfl,rfl,rfl,rfl,rfl⟩:=hy;have hlen:l0.length=13:=by have:=congrArg List.length hl0;simpa [signsB]using this
 have hx16:(((0 + (l0.length + 0)) / 1:Nat):Int)=13:=by rw [hlen];rfl
 rintro x16 rfl
 try rw [hx16]
 refine iteI (fun h => ?_) (fun h => ?_)
 ·have hj13:j < 13:=by omega
  have hjs:j < signsB.length:=hj13
  have hrd:((l0.map (·.1)++(([]:List Value))))[(Int.toNat (j:Nat)) * 1 + 0]? = some (.string ⟨(signsB[j]).toArray⟩):=by
   rw [List.append_nil,hl0,Int.toNat_natCast,Nat.mul_one,Nat.add_zero,List.getElem?_map,List.getElem?_eq_getElem hjs];rfl
  have hmem:=List.getElem_mem hjs;have hdj:=List.drop_eq_getElem_cons hjs;generalize signsB[j]=x at hrd hmem hdj
  have hxl:x.length≤2:=by
   simp only [signsB,List.mem_cons,List.not_mem_nil,or_false]at hmem;rcases hmem with rfl | rfl | rfl | rfl | rfl | rfl | rfl | rfl | rfl | rfl | rfl | rfl | rfl <;> simp
  have no:x.isPrefixOf (s.drop k)=false→Vj_ullageref10_Next_T2 (j:Nat) (inv9 s k) l0 (k:Nat) [] 0 0 0 0 [] false (msSg 13):=fun hp=>by
   intro x23 h23;have e:x23=((j + 1:Nat):Int):=by rw [h23,ze (by omega)];rfl
   subst e;refine⟨⟨j + 1,by rw [List.append_nil,hl0],by omega, ?_⟩,by simp only [msSg];omega⟩;rw [he,hdj,List.find?_cons,hp]
  rintro x17 rfl
  try rw [hx16]
  refine⟨by omega,by omega,x,hrd, ?_⟩;rintro x18 rfl;intro x19 h19;have e19:x19=((k + x.length:Nat):Int):=by rw [h19,ze (by omega)];rfl
  subst e19;clear h19;rintro x20 rfl;refine iteI (fun h1 => ?_) (fun h1=>no (Bool.eq_false_iff.2 fun hp=>h1 (by have:=(List.isPrefixOf_iff_prefix.1 hp).length_le;rw [List.length_drop]at this;omega)));intro x21 h21;have e21:x21=((k + x.length:Nat):Int):=by rw [h21,ze (by omega)];rfl
  subst e21;clear h21;refine⟨by omega, ?_⟩;intro s4 e4;have e4':s4=(s.drop k).take x.length:=by rw [e4,show (((k + x.length:Nat):Int)).toNat - k=x.length by omega]
  clear e4;subst e4';rintro x22 rfl
  try rw [hx16]
  refine⟨by omega,by omega,x,hrd,iteI (fun h2 => ?_) (fun h2=>no ?_)⟩
  ·have hp:x.isPrefixOf (s.drop k)=true:=by rw [← zxo];exact decide_eq_true h2
   have hf:signsB.find? (fun x=>x.isPrefixOf (s.drop k))=some x:=by rw [he,hdj,List.find?_cons,hp]
   have ht:tokAt k (s.drop k)=⟨k,k + x.length,x,false,false⟩:=by
    rw [hd]at hf ⊢;rw [zu,if_neg hle,if_neg hdi,hf]
   rw [ht,znz hmem];intro x23 h23;have e23:x23=((k + x.length:Nat):Int):=by rw [h23,ze (by omega)];rfl
   subst e23;rintro x24 rfl
   try rw [hx16]
   exact⟨by omega,by omega,x,hrd,rfl⟩
  ·rw [← zxo];exact decide_eq_false h2
 ·have:j=13:=by omega
  subst this
  have hn:tokAt k (s.drop k)=⟨k,k,[],false,true⟩:=by
   rw [hd]at he ⊢;rw [zu,if_neg hle,if_neg hdi,he];rfl
  rw [hn];rfl
end Go.Proofs.YtdjgnbkclcjiiaaGreatDoor
end
section
set_option linter.unusedVariables false
set_option linter.unusedSimpArgs false
set_option maxRecDepth 100000
namespace Go.Proofs.YtdjgnbkclcjiiaaGreatDoor
open Go Go.RowKit Go.Proofs Wk
open Vc (SlAt OV iteI Vl zwa ze)
attribute [local irreducible] Go.Calls
structure Sx where
 i:Nat
 a:Nat
 e:Int
def failS(p:Sx)(a:Nat)(e:Int):Sx:=if p.e=0 then ⟨p.i,a,e⟩else p
def isR(s:List UInt8)(p:Sx)(x:List UInt8):Bool:=decide (p.e=0) && isT s p.i x
def wantS(s x:List UInt8)(p:Sx):Sx:=if isR s p x=true then ⟨(tokS s p.i).t,p.a,p.e⟩else failS p (tokS s p.i).a 5
def nameS(s:List UInt8)(p:Sx):Sx × List UInt8:=if p.e=0∧(tokS s p.i).bad=false∧nameB (rtx (tokS s p.i))=true then (⟨(tokS s p.i).t,p.a,p.e⟩,rtx (tokS s p.i))else (failS p (tokS s p.i).a 5,[])
def numT(s:List UInt8)(mi:Bool)(lo hi:Int)(i0:Nat)(p:Sx):Sx × Int :=
 if kindB (tokS s p.i)=2∧(tokS s p.i).bad=false then
  (if inB (if mi=true then -(numB (tokS s p.i))else numB (tokS s p.i)) lo hi=true then (⟨(tokS s p.i).t,p.a,p.e⟩,if mi=true then -(numB (tokS s p.i))else numB (tokS s p.i))
   else (failS ⟨(tokS s p.i).t,p.a,p.e⟩ (tokS s i0).a 4,if mi=true then -(numB (tokS s p.i))else numB (tokS s p.i)))
 else (failS p (tokS s p.i).a 5,0)
def numS(s:List UInt8)(lo hi:Int)(p:Sx):Sx × Int:=numT s (isR s p [45]) lo hi p.i (if isR s p [45]=true then wantS s [45] p else p)
def cmpS(s:List UInt8)(p:Sx):Int:=if p.e=0 then (match cmpI s p.i 0 cmpsB with | some c=>(c:Nat) | none => -1)else -1
end Go.Proofs.YtdjgnbkclcjiiaaGreatDoor
end
