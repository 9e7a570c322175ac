import Derived.Test.YtdjgnbkclcjiiaaGreatDoorM2
import Derived.Test.YtdjgnbkclcjiiaaGreatDoorRb
set_option linter.unusedVariables false
set_option linter.unusedSimpArgs false
set_option maxRecDepth 4000
namespace Go.Proofs.YtdjgnbkclcjiiaaGreatDoor
open Go Go.RowKit Vc
attribute [local irreducible] Go.Calls
theorem zhx(c:UInt8)(w:World):Calls Tryz.prog 124 #[.int .u8 (c.toNat:Int)] w (Vc.Ret (.bool (letB c)) w):=by
 refine zjf _ w _ (iteI (fun h => ?_) (fun h => ?_))
 all_goals (refine zrb ?_;unfold letB;rw [Bool.eq_iff_iff];simp;omega)
theorem zjv(c:UInt8)(w:World):Calls Tryz.prog 125 #[.int .u8 (c.toNat:Int)] w (Vc.Ret (.bool (markB c)) w):=by
 have e:markB c=decide ((97≤c.toNat∧c.toNat≤122)∨(48≤c.toNat∧c.toNat≤57)∨c.toNat=45):=by
  unfold markB letB digB;rw [Bool.eq_iff_iff];simp only [Bool.or_eq_true,Bool.and_eq_true,decide_eq_true_eq,or_assoc]
 refine zzg _ w _ (iteI (fun h=>iteI (fun h2 => ?_) (fun h2=>iteI (fun h3=>iteI (fun h4 => ?_) (fun h4 => ?_)) (fun h3 => ?_))) (fun h=>iteI (fun h3=>iteI (fun h4 => ?_) (fun h4 => ?_)) (fun h3 => ?_)))
 all_goals (refine zrb ?_;rw [e,Bool.eq_iff_iff];simp;omega)
theorem ztp(s:List UInt8)(w:World):Calls Tryz.prog 76 #[.string ⟨s.toArray⟩] w (Vc.Ret (.bool (nameB s)) w):=by
 refine zah s w _ ?_;rintro x0 rfl;refine iteI (fun h1=>iteI (fun h2 => ?_) (fun h2=>by rw [zfi (by omega)])) (fun h1=>by rw [zfi (by omega)]);rintro x1 rfl;refine⟨by omega, ?_⟩;rintro x2 rfl
 obtain⟨c,r,rfl⟩:∃ c r,s=c::r:=by
  cases s with
  | nil=>simp at h1
  | cons c r=>exact⟨c,r,rfl⟩
 have hl32:(c::r).length≤32:=by omega
 refine⟨_,fun w' _=>zhx c w',iteI (fun hl => ?_) (fun hl => ?_)⟩;rotate_left
 ·refine zrb ?_;simp only [nameB];rw [Bool.eq_false_iff.2 hl];simp
 refine iteI (fun he=>by rw [he];rfl) (fun he=>iteI (fun he2=>by rw [he2];rfl) (fun he2 => ?_))
 have fin:nameB (c::r)=(c::r).all markB:=by
  have a1:decide ((c::r)=wMost)=false:=decide_eq_false he;have a2:decide ((c::r)=wLeast)=false:=decide_eq_false he2;have a3:decide (1≤(c::r).length)=true:=decide_eq_true (by simp);have a4:decide ((c::r).length≤32)=true:=decide_eq_true hl32;unfold nameB;rw [a1,a2,a3,a4];simp only [hl,Bool.not_false,Bool.and_true,Bool.true_and]
 rw [fin];clear fin he he2 hl;generalize (c::r)=s at *;refine⟨fun L=>∃ (b:Bool) (i:Nat),L=[.b b,.i i]∧i≤s.length∧(s.take i).all markB=true,msN s.length,⟨false,0,rfl,Nat.zero_le _,rfl⟩, ?_⟩;rintro b1 x4 ⟨b,i,hy,hi,hA⟩;simp only [List.cons.injEq,Vl.i.injEq,Vl.b.injEq,and_true]at hy;obtain⟨rfl,rfl⟩:=hy;rintro x5 rfl;refine iteI (fun hlt => ?_) (fun hge => ?_)
 ·have hi':i < s.length:=by omega
  rintro x6 rfl;refine⟨by omega,by omega, ?_⟩;rintro x7 rfl;have hs:s[i]? = some (s.getD i 0):=by rw [List.getD_eq_getElem?_getD,List.getElem?_eq_getElem hi'];rfl
  rw [Int.toNat_natCast];generalize s.getD i 0=a at hs;refine⟨_,fun w' _=>zjv a w',iteI (fun hm => ?_) (fun hm => ?_)⟩
  ·rintro x7 rfl;rw [zc (by omega)];refine⟨⟨b1,i + 1,rfl,by omega, ?_⟩,by simp only [msN];omega⟩;rw [List.take_add_one,hs,List.all_append,hA];simp [hm]
  ·refine zrb ?_;symm;rw [Bool.eq_false_iff];intro hall;exact hm (List.all_eq_true.1 hall a (List.mem_of_getElem? hs))
 ·obtain rfl:i=s.length:=by omega
  rw [List.take_length]at hA;rw [hA]
theorem zdr{r:Rl}(h:RlSz r):r.nm.length < 4611686018427387904∧r.ks.length < 4611686018427387904∧RlSzL r.ks:=by cases r;simpa only [RlSz,Rl.nm,Rl.ks]using h
theorem zgi(r:Rl):nodesR r=1 + nodesL r.ks:=by cases r;rfl
def msS(n:Nat)(L:List Vl):Nat:=match L with
 | [_,_,.i i]=>n - i.toNat
 | _=>0
theorem ziy(d:Int)(r:Rl):shR d r=if d > 21 then (1000,1000)else shL d 1 1 r.ks:=by cases r;simp only [shR,Rl.ks]
theorem znaa:∀ (m:Nat) {w:World} {r:Rl} {d:Int},nodesR r≤m→RlAt w r→RlSz r→1≤d→d≤22→Calls Tryz.prog 56 #[RV7 r,.int .i64 d] w (Vc.Ret (.tuple #[.int .i64 (shR d r).1,.int .i64 (shR d r).2]) w):=by
 intro m
 induction m with
 | zero=>intro w r d hm;have:=zxd r;omega
 | succ m ih =>
 intro w r d hm h hsz0 hd1 hd2;have hsz:=zdr hsz0;rw [zgi]at hm;have hks:=zy h;obtain⟨b0,p0,c0,e0,f0,g0⟩:=zp hks.1;have hno:=zsb f0;have E:RV7 r=.agg #[.int .i64 r.op,.int .i64 r.ask,.string ⟨r.nm.toArray⟩,.int .i64 r.wi,.int .i64 r.cm,.int .i64 r.n,(if b0=true then .slice none 0 0 else .slice (some (Vc.qad p0 (Int.toNat ((r.ks.length:Nat):Int)) (Int.toNat c0))) (Int.toNat ((r.ks.length:Nat):Int)) (Int.toNat c0):Value)]:=by unfold RV7;rw [e0]
 rw [E];refine zyf p0 r.op r.ask r.wi r.cm r.n (r.ks.length:Nat) c0 d b0 r.nm w _ (iteI (fun h1=>by rw [ziy,if_pos h1]) (fun h1 => ?_));rw [ziy,if_neg h1];refine⟨fun L=>∃ (n l:Int) (i:Nat),L=[.i n,.i l,.i i]∧i≤r.ks.length∧shL d 1 1 r.ks=shL d n l (r.ks.drop i)∧(1≤n∧n≤6000)∧(1≤l∧l≤2000),msS r.ks.length,⟨1,1,0,rfl,Nat.zero_le _,rfl,by omega,by omega⟩, ?_⟩;rintro x8 x9 x10 ⟨n,l,i,hy,hi,hL,hn,hl⟩;simp only [List.cons.injEq,Vl.i.injEq,and_true]at hy;obtain⟨rfl,rfl,rfl⟩:=hy;refine⟨by omega,hno,iteI (fun hlt=>iteI (fun hn2 => ?_) (fun hn2 => ?_)) (fun hge => ?_)⟩
 ·have hi':i < r.ks.length:=by omega
  have hnil:¬ b0=true:=fun hb=>by have:=f0 hb;omega
  have hk:r.ks[i]? = some r.ks[i]:=List.getElem?_eq_getElem hi';have hmem:r.ks[i]∈r.ks:=List.getElem_mem hi';have hdrop:=List.drop_eq_getElem_cons hi';generalize r.ks[i]=kid at hk hmem hdrop;have hkid:=zgb hks.2 kid hmem;have hsz':=zei hsz.2.2 kid hmem;have hsub:=zwc hmem;obtain⟨q0,q1,q2,q3,q4,q5,q6⟩:=g0 i kid hk;obtain⟨b9,p9,c9,e9,f9,g9⟩:=zp (zy hkid).1;rw [e9]at q6;simp only [Int.toNat_natCast]at q6 ⊢;refine⟨hnil,by omega,hlt,kid.op,q0,kid.ask,q1,kid.nm,q2,kid.wi,q3,kid.cm,q4,kid.n,q5,b9,p9,(kid.ks.length:Nat),c9,q6, ?_⟩;rintro x18 rfl;rw [zc (x:=d + 1) (by omega)];have hb:=zgs kid (d + 1) (by omega) (by omega);refine⟨_,_,fun w' hb=>by have:=ih (w:=w') (r:=kid) (d:=d + 1) (by omega) (hkid.below hb) hsz' (by omega) (by omega);unfold RV7 at this;rw [e9]at this;exact this, ?_⟩;rintro x21 rfl x22 rfl x23 hx23 x24 rfl;rw [hdrop,shL,if_pos hn2]at hL;rw [zc (x:=(shR (d + 1) kid).2 + 1) (by omega)]at hx23;rw [zc (x:=x8 + (shR (d + 1) kid).1) (by omega),zc (by omega)];have hx:x23=max x9 ((shR (d + 1) kid).2 + 1):=by rw [hx23];split <;> omega
  subst hx;refine⟨⟨_,_,i + 1,rfl,by omega,hL,by omega,by omega⟩,by simp only [msS];omega⟩
 ·have:¬ (r.ks.drop i=[]):=fun hh=>by
   have:=congrArg List.length hh
   rw [List.length_drop]at this;simp at this;omega
  cases hdr:r.ks.drop i with
  | nil=>exact absurd hdr this
  | cons a l=>rw [hL,hdr,shL,if_neg hn2]
 ·obtain rfl:i=r.ks.length:=by omega
  rw [hL,List.drop_length,shL]
theorem zfca{w:World}{r:Rl}(h:RlAt w r):Calls Tryz.prog 108 #[RV7 r] w (Vc.Ret (.bool (atomB r)) w):=by
 have hks:=zy h;obtain⟨b0,p0,c0,e0,f0,g0⟩:=zp hks.1;have hno:=zsb f0;have E:RV7 r=.agg #[.int .i64 r.op,.int .i64 r.ask,.string ⟨r.nm.toArray⟩,.int .i64 r.wi,.int .i64 r.cm,.int .i64 r.n,(if b0=true then .slice none 0 0 else .slice (some (Vc.qad p0 (Int.toNat ((r.ks.length:Nat):Int)) (Int.toNat c0))) (Int.toNat ((r.ks.length:Nat):Int)) (Int.toNat c0):Value)]:=by unfold RV7;rw [e0]
 rw [E];have A0:¬ ((0≤r.ask∧r.ask≤2)∧nameB r.nm=true∧(0≤r.wi∧r.wi≤1000)∧(r.ask≠0∨r.wi=0)∧(0≤r.cm∧r.cm≤5)∧(-1073741824≤r.n∧r.n≤1073741824)∧r.ks.length=0)→(Value.bool false)=.bool (atomB r):=fun hh=>zrb (Eq.symm (Bool.eq_false_iff.2 fun h=>hh (by cases r;exact zme.1 h)));have A1:((0≤r.ask∧r.ask≤2)∧nameB r.nm=true∧(0≤r.wi∧r.wi≤1000)∧(r.ask≠0∨r.wi=0)∧(0≤r.cm∧r.cm≤5)∧(-1073741824≤r.n∧r.n≤1073741824)∧r.ks.length=0)→atomB r=true:=fun hh=>by cases r;exact zme.2 hh
 refine zbh p0 r.op r.ask r.wi r.cm r.n (r.ks.length:Nat) c0 b0 r.nm w _ ?_;refine iteI (fun a1=>iteI (fun a2=>⟨_,fun w' _=>ztp r.nm w',iteI (fun a3=>iteI (fun a4=>iteI (fun a5 => ?_) (fun a5=>A0 fun hh=>by omega)) (fun a4=>A0 fun hh=>by omega)) (fun a3=>A0 fun hh=>a3 hh.2.1)⟩) (fun a2=>A0 fun hh=>by omega)) (fun a1=>A0 fun hh=>by omega)
 have T:(r.ask≠0∨r.wi=0)→((0≤r.cm)→((r.cm≤5)→(((-1073741824)≤r.n)→((r.n≤1073741824)→(0≤((r.ks.length:Nat):Int))∧((¬ (b0=true))∨(((r.ks.length:Nat):Int)=0))∧(.bool (((r.ks.length:Nat):Int) == 0):Value)=.bool (atomB r))∧(¬ (r.n≤1073741824)→(.bool false:Value)=.bool (atomB r)))∧(¬ ((-1073741824)≤r.n)→(.bool false:Value)=.bool (atomB r)))∧(¬ (r.cm≤5)→(.bool false:Value)=.bool (atomB r)))∧(¬ (0≤r.cm)→(.bool false:Value)=.bool (atomB r)):=fun a6=>by
  refine iteI (fun a7=>iteI (fun a8=>iteI (fun a9=>iteI (fun a10=>⟨by omega,hno,zrb ?_⟩) (fun a10=>A0 fun hh=>by omega)) (fun a9=>A0 fun hh=>by omega)) (fun a8=>A0 fun hh=>by omega)) (fun a7=>A0 fun hh=>by omega);by_cases hk:r.ks.length=0
  ·rw [A1 ⟨⟨a1,a2⟩,a3,⟨a4,a5⟩,a6,⟨a7,a8⟩,⟨a9,a10⟩,hk⟩];simp [hk]
  ·have:atomB r=false:=Bool.eq_false_iff.2 fun h=>hk (by cases r;exact (zme.1 h).2.2.2.2.2.2)
   rw [this];simp only [beq_eq_false_iff_ne];omega
 exact iteI (fun a6=>iteI (fun a7=>T (.inr a7)) (fun a7=>A0 fun hh=>by omega)) (fun a6=>T (.inl a6))
theorem zhi(r:Rl):rightR r=if r.op=1 then atomB r else bareB r && kidsB r.op r.ks.length && rightL r.ks:=by cases r;rw [rightR];rfl
theorem zoaa:∀ (m:Nat) {w:World} {r:Rl},nodesR r≤m→RlAt w r→RlSz r→Calls Tryz.prog 57 #[RV7 r] w (Vc.Ret (.bool (rightR r)) w):=by
 intro m
 induction m with
 | zero=>intro w r hm;have:=zxd r;omega
 | succ m ih =>
 intro w r hm h hsz0;have hsz:=zdr hsz0;rw [zgi]at hm;have h':=h;have hks:=zy h;obtain⟨b0,p0,c0,e0,f0,g0⟩:=zp hks.1;have hno:=zsb f0;have E:RV7 r=.agg #[.int .i64 r.op,.int .i64 r.ask,.string ⟨r.nm.toArray⟩,.int .i64 r.wi,.int .i64 r.cm,.int .i64 r.n,(if b0=true then .slice none 0 0 else .slice (some (Vc.qad p0 (Int.toNat ((r.ks.length:Nat):Int)) (Int.toNat c0))) (Int.toNat ((r.ks.length:Nat):Int)) (Int.toNat c0):Value)]:=by unfold RV7;rw [e0]
 rw [E];refine zzf p0 r.op r.ask r.wi r.cm r.n (r.ks.length:Nat) c0 b0 r.nm w _ (iteI (fun h1=>⟨_,fun w' hb=>by rw [← E];exact zfca (h'.below hb),by rw [zhi,if_pos h1]⟩) (fun h1 => ?_));rw [zhi,if_neg h1];have K0:kidsB r.op r.ks.length=false→(Value.bool false)=.bool (bareB r && kidsB r.op r.ks.length && rightL r.ks):=fun hh=>by rw [hh];simp
 have B0:¬ (r.ask=0∧r.nm=[]∧r.wi=0∧r.cm=0∧r.n=0)→(Value.bool false)=.bool (bareB r && kidsB r.op r.ks.length && rightL r.ks):=fun hh=>by
  have:bareB r=false:=Bool.eq_false_iff.2 fun h=>hh (by cases r;exact zpj.1 h)
  rw [this];simp
 refine iteI (fun a1=>iteI (fun a2 => ?_) (fun a2=>K0 (by simp only [kidsB,Bool.or_eq_false_iff,Bool.and_eq_false_iff,decide_eq_false_iff_not];omega))) (fun a1=>K0 (by simp only [kidsB,Bool.or_eq_false_iff,Bool.and_eq_false_iff,decide_eq_false_iff_not];omega));refine⟨by omega,hno, ?_⟩;rintro x7 hx7 x8 rfl
 have hx:IntKind.i64.wrap (x7 - 1)=if r.op=2 then 1 else 2:=by
  rw [zc (by split at hx7 <;> omega)];split at hx7 <;> split <;> omega
 rw [hx];refine iteI (fun a3 => ?_) (fun a3=>K0 (by simp only [kidsB,Bool.or_eq_false_iff,Bool.and_eq_false_iff,decide_eq_false_iff_not];split at a3 <;> omega));have hkB:kidsB r.op r.ks.length=true:=by simp only [kidsB,Bool.or_eq_true,Bool.and_eq_true,decide_eq_true_eq];split at a3 <;> omega
 refine iteI (fun b1=>iteI (fun b2=>iteI (fun b3=>iteI (fun b4=>iteI (fun b5 => ?_) (fun b5=>B0 fun hh=>b5 hh.2.2.2.2)) (fun b4=>B0 fun hh=>b4 hh.2.2.2.1)) (fun b3=>B0 fun hh=>b3 hh.2.2.1)) (fun b2=>B0 fun hh=>b2 hh.2.1)) (fun b1=>B0 fun hh=>b1 hh.1);have hbare:bareB r=true:=by cases r;exact zpj.2 ⟨b1,b2,b3,b4,b5⟩
 rw [hbare,hkB,Bool.true_and,Bool.true_and];refine⟨fun L=>∃ (b:Bool) (i:Nat),L=[.b b,.i i]∧i≤r.ks.length∧rightL r.ks=rightL (r.ks.drop i),msN r.ks.length,⟨false,0,rfl,Nat.zero_le _,rfl⟩, ?_⟩;rintro b x9 ⟨bb,i,hy,hi,hL⟩;simp only [List.cons.injEq,Vl.i.injEq,Vl.b.injEq,and_true]at hy;obtain⟨rfl,rfl⟩:=hy;refine⟨by omega,hno,iteI (fun hlt => ?_) (fun hge => ?_)⟩
 ·have hi':i < r.ks.length:=by omega
  have hnil:¬ b0=true:=fun hb=>by have:=f0 hb;omega
  have hk:r.ks[i]? = some r.ks[i]:=List.getElem?_eq_getElem hi';have hmem:r.ks[i]∈r.ks:=List.getElem_mem hi';have hdrop:=List.drop_eq_getElem_cons hi';generalize r.ks[i]=kid at hk hmem hdrop;have hkid:=zgb hks.2 kid hmem;have hsz':=zei hsz.2.2 kid hmem;have hsub:=zwc hmem;obtain⟨q0,q1,q2,q3,q4,q5,q6⟩:=g0 i kid hk;obtain⟨b9,p9,c9,e9,f9,g9⟩:=zp (zy hkid).1;rw [e9]at q6;simp only [Int.toNat_natCast]at q6 ⊢;refine⟨hnil,by omega,hlt,kid.op,q0,kid.ask,q1,kid.nm,q2,kid.wi,q3,kid.cm,q4,kid.n,q5,b9,p9,(kid.ks.length:Nat),c9,q6, ?_⟩;rw [hdrop,rightL]at hL;refine⟨_,fun w' hb=>by have:=ih (w:=w') (r:=kid) (by omega) (hkid.below hb) hsz';unfold RV7 at this;rw [e9]at this;exact this,iteI (fun hr => ?_) (fun hr => ?_)⟩
  ·rintro x17 rfl;rw [zc (by omega)];rw [hr,Bool.true_and]at hL;exact⟨⟨b,i + 1,rfl,by omega,hL⟩,by simp only [msN];omega⟩
  ·rw [hL,Bool.eq_false_iff.2 hr];rfl
 ·obtain rfl:i=r.ks.length:=by omega
  rw [hL,List.drop_length];rfl
theorem zpaa{w:World}{r:Rl}(h:RlAt w r)(hsz:RlSz r):Calls Tryz.prog 24 #[RV7 r] w (Vc.Ret (.bool (validR r)) w):=by
 have h':=h;have hv:validR r=((decide ((shR 1 r).1≤200) && decide ((shR 1 r).2≤20)) && rightR r):=by rw [zbx];rfl
 have hks:=zy h;obtain⟨b0,p0,c0,e0,f0,g0⟩:=zp hks.1;have hno:=zsb f0;have E:RV7 r=.agg #[.int .i64 r.op,.int .i64 r.ask,.string ⟨r.nm.toArray⟩,.int .i64 r.wi,.int .i64 r.cm,.int .i64 r.n,(if b0=true then .slice none 0 0 else .slice (some (Vc.qad p0 (Int.toNat ((r.ks.length:Nat):Int)) (Int.toNat c0))) (Int.toNat ((r.ks.length:Nat):Int)) (Int.toNat c0):Value)]:=by unfold RV7;rw [e0]
 rw [E];refine zwd p0 r.op r.ask r.wi r.cm r.n (r.ks.length:Nat) c0 b0 r.nm w _ ⟨_,_,fun w' hb=>by rw [← E];exact znaa _ (Nat.le_refl _) (h'.below hb) hsz (by omega) (by omega), ?_⟩;refine iteI (fun a1=>iteI (fun a2=>⟨_,fun w' hb=>by rw [← E];exact zoaa _ (Nat.le_refl _) (h'.below hb) hsz, ?_⟩) (fun a2 => ?_)) (fun a1 => ?_)
 ·rw [hv,decide_eq_true a1,decide_eq_true a2];rfl
 ·rw [hv,decide_eq_false a2];simp
 ·rw [hv,decide_eq_false a1];simp
mutual
def szR(g:Int):Rl→Int
 | .mk _ _ nm _ _ _ _ ks=>szL g (IntKind.i64.wrap (1 + (nm.length:Nat))) ks
def szL(g n:Int):List Rl→Int
 | []=>n
 | r::rs=>if n≤g then szL g (IntKind.i64.wrap (n + szR g r)) rs else n
end
theorem zqaa(g:Int)(r:Rl):szR g r=szL g (IntKind.i64.wrap (1 + (r.nm.length:Nat))) r.ks:=by cases r;simp only [szR,Rl.nm,Rl.ks]
def msZ(n:Nat)(L:List Vl):Nat:=match L with
 | [_,.i i]=>n - i.toNat
 | _=>0
theorem zgca:∀ (m:Nat) {w:World} {r:Rl} {g:Int},nodesR r≤m→RlAt w r→RlSz r→Calls Tryz.prog 45 #[RV7 r,.int .i64 g] w (Vc.Ret (.int .i64 (szR g r)) w):=by
 intro m
 induction m with
 | zero=>intro w r d hm;have:=zxd r;omega
 | succ m ih =>
 intro w r g hm h hsz0;have hsz:=zdr hsz0;rw [zgi]at hm;have hks:=zy h;obtain⟨b0,p0,c0,e0,f0,g0⟩:=zp hks.1;have hno:=zsb f0;have E:RV7 r=.agg #[.int .i64 r.op,.int .i64 r.ask,.string ⟨r.nm.toArray⟩,.int .i64 r.wi,.int .i64 r.cm,.int .i64 r.n,(if b0=true then .slice none 0 0 else .slice (some (Vc.qad p0 (Int.toNat ((r.ks.length:Nat):Int)) (Int.toNat c0))) (Int.toNat ((r.ks.length:Nat):Int)) (Int.toNat c0):Value)]:=by unfold RV7;rw [e0]
 rw [E];refine zch p0 r.op r.ask r.wi r.cm r.n (r.ks.length:Nat) c0 g b0 r.nm w _ ?_;rintro x8 rfl x9 hx9;rw [zqaa,← hx9];refine⟨fun L=>∃ (n:Int) (i:Nat),L=[.i n,.i i]∧i≤r.ks.length∧szL g x9 r.ks=szL g n (r.ks.drop i),msZ r.ks.length,⟨x9,0,rfl,Nat.zero_le _,rfl⟩, ?_⟩;rintro x10 x11 ⟨n,i,hy,hi,hL⟩;simp only [List.cons.injEq,Vl.i.injEq,and_true]at hy;obtain⟨rfl,rfl⟩:=hy;refine⟨by omega,hno,iteI (fun hlt=>iteI (fun hn2 => ?_) (fun hn2 => ?_)) (fun hge => ?_)⟩
 ·have hi':i < r.ks.length:=by omega
  have hnil:¬ b0=true:=fun hb=>by have:=f0 hb;omega
  have hk:r.ks[i]? = some r.ks[i]:=List.getElem?_eq_getElem hi';have hmem:r.ks[i]∈r.ks:=List.getElem_mem hi';have hdrop:=List.drop_eq_getElem_cons hi';generalize r.ks[i]=kid at hk hmem hdrop;have hkid:=zgb hks.2 kid hmem;have hsz':=zei hsz.2.2 kid hmem;have hsub:=zwc hmem;obtain⟨q0,q1,q2,q3,q4,q5,q6⟩:=g0 i kid hk;obtain⟨b9,p9,c9,e9,f9,g9⟩:=zp (zy hkid).1;rw [e9]at q6;simp only [Int.toNat_natCast]at q6 ⊢;refine⟨hnil,by omega,hlt,kid.op,q0,kid.ask,q1,kid.nm,q2,kid.wi,q3,kid.cm,q4,kid.n,q5,b9,p9,(kid.ks.length:Nat),c9,q6, ?_⟩;refine⟨_,fun w' hb=>by have:=ih (w:=w') (r:=kid) (g:=g) (by omega) (hkid.below hb) hsz';unfold RV7 at this;rw [e9]at this;exact this, ?_⟩;rintro x20 rfl x21 rfl;rw [hdrop,szL,if_pos hn2]at hL;rw [zc (x:=(i:Int) + 1) (by omega)];refine⟨⟨_,i + 1,rfl,by omega,hL⟩,by simp only [msZ];omega⟩
 ·have:¬ (r.ks.drop i=[]):=fun hh=>by
   have:=congrArg List.length hh
   rw [List.length_drop]at this;simp at this;omega
  cases hdr:r.ks.drop i with
  | nil=>exact absurd hdr this
  | cons a l=>rw [hL,hdr,szL,if_neg hn2]
 ·obtain rfl:i=r.ks.length:=by omega
  rw [hL,List.drop_length,szL]
end Go.Proofs.YtdjgnbkclcjiiaaGreatDoor
