import Derived.Test.YtdjgnbkclcjiiaaGreatDoorM2
import Derived.Test.YtdjgnbkclcjiiaaGreatDoorRb
import Derived.Test.YtdjgnbkclcjiiaaGreatDoorPc
section
set_option linter.unusedVariables false
set_option linter.unusedSimpArgs false
set_option maxRecDepth 4000
namespace Go.Proofs.YtdjgnbkclcjiiaaGreatDoor
open Go Go.RowKit Vc
attribute [local irreducible] Go.Calls
theorem zdt(c:UInt8)(w:World):Calls Tryz.prog 124 #[.int .u8 (c.toNat:Int)] w (Vc.Ret (.bool (letB c)) w):=by
 refine ztf _ w _ (iteI (fun h => ?_) (fun h => ?_))
 all_goals (refine zfb ?_;unfold letB;rw [Bool.eq_iff_iff];simp;omega)
theorem ziq(c:UInt8)(w:World):Calls Tryz.prog 125 #[.int .u8 (c.toNat:Int)] w (Vc.Ret (.bool (markB c)) w):=by
 have e:markB c=decide ((97≤c.toNat∧c.toNat≤122)∨(48≤c.toNat∧c.toNat≤57)∨c.toNat=45):=by
  unfold markB letB digB;rw [Bool.eq_iff_iff];simp only [Bool.or_eq_true,Bool.and_eq_true,decide_eq_true_eq,or_assoc]
 refine zgh _ w _ (iteI (fun h=>iteI (fun h2 => ?_) (fun h2=>iteI (fun h3=>iteI (fun h4 => ?_) (fun h4 => ?_)) (fun h3 => ?_))) (fun h=>iteI (fun h3=>iteI (fun h4 => ?_) (fun h4 => ?_)) (fun h3 => ?_)))
 all_goals (refine zfb ?_;rw [e,Bool.eq_iff_iff];simp;omega)
theorem zew(s:List UInt8)(w:World):Calls Tryz.prog 76 #[.string ⟨s.toArray⟩] w (Vc.Ret (.bool (nameB s)) w):=by
 refine zhh s w _ ?_;rintro x0 rfl;refine iteI (fun h1=>iteI (fun h2 => ?_) (fun h2=>by rw [zfi (by omega)])) (fun h1=>by rw [zfi (by omega)]);rintro x1 rfl;refine⟨by omega, ?_⟩;rintro x2 rfl
 obtain⟨c,r,rfl⟩:∃ c r,s=c::r:=by
  cases s with
  | nil=>simp at h1
  | cons c r=>exact⟨c,r,rfl⟩
 have hl32:(c::r).length≤32:=by omega
 refine⟨_,fun w' _=>zdt c w',iteI (fun hl => ?_) (fun hl => ?_)⟩;rotate_left
 ·refine zfb ?_;simp only [nameB];rw [Bool.eq_false_iff.2 hl];simp
 refine iteI (fun he=>by rw [he];rfl) (fun he=>iteI (fun he2=>by rw [he2];rfl) (fun he2 => ?_))
 have fin:nameB (c::r)=(c::r).all markB:=by
  have a1:decide ((c::r)=wMost)=false:=decide_eq_false he;have a2:decide ((c::r)=wLeast)=false:=decide_eq_false he2;have a3:decide (1≤(c::r).length)=true:=decide_eq_true (by simp);have a4:decide ((c::r).length≤32)=true:=decide_eq_true hl32;unfold nameB;rw [a1,a2,a3,a4];simp only [hl,Bool.not_false,Bool.and_true,Bool.true_and]
 rw [fin];clear fin he he2 hl;generalize (c::r)=s at *;refine⟨fun L=>∃ (b:Bool) (i:Nat),L=[.b b,.i i]∧i≤s.length∧(s.take i).all markB=true,msN s.length,⟨false,0,rfl,Nat.zero_le _,rfl⟩, ?_⟩;rintro b1 x4 ⟨b,i,hy,hi,hA⟩;simp only [List.cons.injEq,Vl.i.injEq,Vl.b.injEq,and_true]at hy;obtain⟨rfl,rfl⟩:=hy;rintro x5 rfl;refine iteI (fun hlt => ?_) (fun hge => ?_)
 ·have hi':i < s.length:=by omega
  rintro x6 rfl;refine⟨by omega,by omega, ?_⟩;rintro x7 rfl;have hs:s[i]? = some (s.getD i 0):=by rw [List.getD_eq_getElem?_getD,List.getElem?_eq_getElem hi'];rfl
  rw [Int.toNat_natCast];generalize s.getD i 0=a at hs;refine⟨_,fun w' _=>ziq a w',iteI (fun hm => ?_) (fun hm => ?_)⟩
  ·rintro x7 rfl;rw [zh (by omega)];refine⟨⟨b1,i + 1,rfl,by omega, ?_⟩,by simp only [msN];omega⟩;rw [List.take_add_one,hs,List.all_append,hA];simp [hm]
  ·refine zfb ?_;symm;rw [Bool.eq_false_iff];intro hall;exact hm (List.all_eq_true.1 hall a (List.mem_of_getElem? hs))
 ·obtain rfl:i=s.length:=by omega
  rw [List.take_length]at hA;rw [hA]
theorem zfw{r:Rl}(h:RlSz r):r.nm.length < 4611686018427387904∧r.ks.length < 4611686018427387904∧RlSzL r.ks:=by cases r;simpa only [RlSz,Rl.nm,Rl.ks]using h
theorem zet(r:Rl):nodesR r=1 + nodesL r.ks:=by cases r;rfl
def msS(n:Nat)(L:List Vl):Nat:=match L with
 | [_,_,.i i]=>n - i.toNat
 | _=>0
theorem zmz(d:Int)(r:Rl):shR d r=if d > 21 then (1000,1000)else shL d 1 1 r.ks:=by cases r;simp only [shR,Rl.ks]
theorem zpba:∀ (m:Nat) {w:World} {r:Rl} {d:Int},nodesR r≤m→RlAt w r→RlSz r→1≤d→d≤22→Calls Tryz.prog 56 #[RV7 r,.int .i64 d] w (Vc.Ret (.tuple #[.int .i64 (shR d r).1,.int .i64 (shR d r).2]) w):=by
 intro m
 induction m with
 | zero=>intro w r d hm;have:=zci r;omega
 | succ m ih =>
 intro w r d hm h hsz0 hd1 hd2;have hsz:=zfw hsz0;rw [zet]at hm;have hks:=zwd h;obtain⟨b0,p0,c0,e0,f0,g0⟩:=zkc hks.1;have hno:=zhq f0;have E:RV7 r=.agg #[.int .i64 r.op,.int .i64 r.ask,.string ⟨r.nm.toArray⟩,.int .i64 r.wi,.int .i64 r.cm,.int .i64 r.n,(if b0=true then .slice none 0 0 else .slice (some (Vc.qad p0 (Int.toNat ((r.ks.length:Nat):Int)) (Int.toNat c0))) (Int.toNat ((r.ks.length:Nat):Int)) (Int.toNat c0):Value)]:=by unfold RV7;rw [e0]
 rw [E];refine zhg p0 r.op r.ask r.wi r.cm r.n (r.ks.length:Nat) c0 d b0 r.nm w _ (iteI (fun h1=>by rw [zmz,if_pos h1]) (fun h1 => ?_));rw [zmz,if_neg h1];refine⟨fun L=>∃ (n l:Int) (i:Nat),L=[.i n,.i l,.i i]∧i≤r.ks.length∧shL d 1 1 r.ks=shL d n l (r.ks.drop i)∧(1≤n∧n≤6000)∧(1≤l∧l≤2000),msS r.ks.length,⟨1,1,0,rfl,Nat.zero_le _,rfl,by omega,by omega⟩, ?_⟩;rintro x8 x9 x10 ⟨n,l,i,hy,hi,hL,hn,hl⟩;simp only [List.cons.injEq,Vl.i.injEq,and_true]at hy;obtain⟨rfl,rfl,rfl⟩:=hy;refine⟨by omega,hno,iteI (fun hlt=>iteI (fun hn2 => ?_) (fun hn2 => ?_)) (fun hge => ?_)⟩
 ·have hi':i < r.ks.length:=by omega
  have hnil:¬ b0=true:=fun hb=>by have:=f0 hb;omega
  have hk:r.ks[i]? = some r.ks[i]:=List.getElem?_eq_getElem hi';have hmem:r.ks[i]∈r.ks:=List.getElem_mem hi';have hdrop:=List.drop_eq_getElem_cons hi';generalize r.ks[i]=kid at hk hmem hdrop;have hkid:=zpf hks.2 kid hmem;have hsz':=zsl hsz.2.2 kid hmem;have hsub:=zgi hmem;obtain⟨q0,q1,q2,q3,q4,q5,q6⟩:=g0 i kid hk;obtain⟨b9,p9,c9,e9,f9,g9⟩:=zkc (zwd hkid).1;rw [e9]at q6;simp only [Int.toNat_natCast]at q6 ⊢;refine⟨hnil,by omega,hlt,kid.op,q0,kid.ask,q1,kid.nm,q2,kid.wi,q3,kid.cm,q4,kid.n,q5,b9,p9,(kid.ks.length:Nat),c9,q6, ?_⟩;rintro x18 rfl;rw [zh (x:=d + 1) (by omega)];have hb:=zdq kid (d + 1) (by omega) (by omega);refine⟨_,_,fun w' hb=>by have:=ih (w:=w') (r:=kid) (d:=d + 1) (by omega) (hkid.below hb) hsz' (by omega) (by omega);unfold RV7 at this;rw [e9]at this;exact this, ?_⟩;rintro x21 rfl x22 rfl x23 hx23 x24 rfl;rw [hdrop,shL,if_pos hn2]at hL;rw [zh (x:=(shR (d + 1) kid).2 + 1) (by omega)]at hx23;rw [zh (x:=x8 + (shR (d + 1) kid).1) (by omega),zh (by omega)];have hx:x23=max x9 ((shR (d + 1) kid).2 + 1):=by rw [hx23];split <;> omega
  subst hx;refine⟨⟨_,_,i + 1,rfl,by omega,hL,by omega,by omega⟩,by simp only [msS];omega⟩
 ·have:¬ (r.ks.drop i=[]):=fun hh=>by
   have:=congrArg List.length hh
   rw [List.length_drop]at this;simp at this;omega
  cases hdr:r.ks.drop i with
  | nil=>exact absurd hdr this
  | cons a l=>rw [hL,hdr,shL,if_neg hn2]
 ·obtain rfl:i=r.ks.length:=by omega
  rw [hL,List.drop_length,shL]
end Go.Proofs.YtdjgnbkclcjiiaaGreatDoor
end
section
set_option linter.unusedVariables false
set_option linter.unusedSimpArgs false
set_option maxRecDepth 100000
namespace Go.Proofs.YtdjgnbkclcjiiaaGreatDoor
open Go Go.RowKit Go.Proofs Wk
open Vc (SlAt OV iteI Vl zfb zh)
attribute [local irreducible] Go.Calls
theorem zft(c:UInt8)(w:World):Calls Tryz.prog 126 #[.int .u8 (c.toNat:Int)] w (Vc.Ret (.bool (digB c)) w):=by
 refine zgg _ w _ (iteI (fun h => ?_) (fun h => ?_))
 all_goals (refine zfb ?_;unfold digB;rw [Bool.eq_iff_iff];simp;omega)
def hdL:List UInt8→Bool
 | c::_=>letB c
 | []=>false
def kindB(t:Tk):Int:=if t.num=true then 2 else if t.x=[]then (if t.bad=true then 3 else 0)else if hdL t.x=true then 1 else 3
def numB(t:Tk):Int:=if t.num=true then digV (t.x.take 10)else 0
def rtx(t:Tk):List UInt8:=if t.num=true then []else t.x
def rtV(t:Tk):Value := .agg #[.int .i64 (kindB t),.int .i64 (t.a:Nat),.int .i64 (t.t:Nat),.int .i64 (numB t),.string ⟨(rtx t).toArray⟩,.bool t.bad]
theorem n3{s:List UInt8}{k n:Nat}(hl:s.length < 4611686018427387904)(hn:k + n≤s.length)(h0:1≤n)(hc:letB (s.getD k 0)=true):Vj_ullageref10_Next_T3 (k:Nat) ((k + n:Nat):Int) s (rtV ⟨k,k + n,(s.drop k).take n,false,decide (32 < n)⟩):=by
 refine⟨by omega, ?_⟩;rintro s1 rfl;rw [zfq (k:=k) (n:=n) _ _ rfl rfl];rintro x12 rfl;have hlen:((s.drop k).take n).length=n:=by rw [List.length_take,List.length_drop];omega
 have hlt:k < s.length:=by omega
 obtain⟨m,rfl⟩:∃ m,n=m + 1:=⟨n - 1,by omega⟩;have hx:(s.drop k).take (m + 1)=s.getD k 0::(s.drop (k + 1)).take m:=by rw [List.drop_eq_getElem_cons hlt,List.take_succ_cons,zrf hlt]
 rw [hlen];unfold rtV kindB numB rtx;dsimp only;rw [hx,if_neg (by decide),if_neg (by simp),if_pos (show hdL (s.getD k 0::_)=true from hc)];simp;omega
def msR(n:Nat):List Vl→Nat
 | [_,.i i]=>n - i.toNat
 | _=>0
def msSg(n:Nat):List Vl→Nat
 | .i i::_=>n - i.toNat
 | _=>0
def strV(x:List UInt8):Value := .string ⟨x.toArray⟩
theorem zqaa{x:List UInt8}(h:x∈signsB):∃ c l,x=c::l∧letB c=false∧digB c=false:=by
 simp only [signsB,List.mem_cons,List.not_mem_nil,or_false]at h;rcases h with rfl | rfl | rfl | rfl | rfl | rfl | rfl | rfl | rfl | rfl | rfl | rfl | rfl <;> exact⟨_,_,rfl,by decide,by decide⟩
theorem zky{x:List UInt8}{k:Nat}(h:x∈signsB):rtV ⟨k,k + x.length,x,false,false⟩=.agg #[.int .i64 3,.int .i64 (k:Nat),.int .i64 ((k + x.length:Nat):Int),.int .i64 0,.string ⟨x.toArray⟩,.bool false]:=by
 obtain⟨c,l,rfl,h1,h2⟩:=zqaa h;simp [rtV,kindB,numB,rtx,hdL,h1]
def inv9(s:List UInt8)(k:Nat)(L:List Vl):Prop:=∃ j:Nat,L=[.i (j:Nat),.l (signsB.map strV),.i (k:Nat),.s [],.i 0,.i 0,.i 0,.i 0,.s [],.b false]∧j≤13∧signsB.find? (fun x=>x.isPrefixOf (s.drop k))=(signsB.drop j).find? (fun x=>x.isPrefixOf (s.drop k))
set_option maxHeartbeats 1000000 in
theorem n1{w:World}{s:List UInt8}{k:Nat}(hl:s.length < 4611686018427387904)(hlt:k≤s.length):Vj_ullageref10_Next_T1 s (k:Nat) (rtV (tokAt k (s.drop k))) w:=by
 rintro x5 rfl;refine iteI (fun he => ?_) (fun he => ?_)
 ·rw [List.drop_of_length_le (by omega)];rfl
 have hk:=hlt;replace hlt:k < s.length:=by omega
 have hd:=List.drop_eq_getElem_cons hlt;have hg:s.getD k 0=s[k]:=zrf hlt;rintro x6 rfl;refine⟨by omega,by omega, ?_⟩;rintro x7 rfl;rw [Int.toNat_natCast,hg];refine⟨letB s[k],fun w' hb=>zdt _ _,iteI (fun hle => ?_) (fun hle => ?_)⟩
 ·have hTok:tokAt k (s.drop k)=⟨k,k + runB markB (s.drop k),(s.drop k).take (runB markB (s.drop k)),false,decide (32 < runB markB (s.drop k))⟩:=by
   rw [hd,zya,if_pos hle]
  rw [hTok];have hend:=zvj (p:=markB) hk
  have hpos:1≤runB markB (s.drop k):=by
   rw [zyg hlt (by rw [hg];unfold markB;rw [hle];rfl)];omega
  refine⟨fun L=>∃ j:Nat,L=[.i (j:Nat)]∧j≤s.length∧k + runB markB (s.drop k)=j + runB markB (s.drop j),msKp s.length,⟨k,rfl,hk,rfl⟩, ?_⟩;rintro x8 ⟨j,hy,hj,hrj⟩;simp only [List.cons.injEq,Vl.i.injEq,and_true]at hy;subst hy
  have fin:runB markB (s.drop j)=0→Vj_ullageref10_Next_T3 (k:Nat) (j:Nat) s (rtV ⟨k,k + runB markB (s.drop k),(s.drop k).take (runB markB (s.drop k)),false,decide (32 < runB markB (s.drop k))⟩):=fun h0=>by
   rw [show j=k + runB markB (s.drop k) by omega];exact n3 hl hend hpos (by rw [hg];exact hle)
  rintro x9 rfl;refine iteI (fun h5 => ?_) (fun h5=>fin (zyi (by omega)));have hjl:j < s.length:=by omega
  rintro x10 rfl;refine⟨by omega,by omega, ?_⟩;rintro x11 rfl;rw [Int.toNat_natCast];refine⟨markB (s.getD j 0),fun w' hb=>ziq _ _,iteI (fun hm => ?_) (fun hm=>fin (zul hjl (Bool.eq_false_iff.2 hm)))⟩;intro x12 h12;have e:x12=((j + 1:Nat):Int):=by rw [h12,zh (by omega)];rfl
  clear h12;subst e;exact⟨⟨j + 1,rfl,by omega,by rw [hrj,zyg hjl hm];omega⟩,by simp only [msKp];omega⟩
 rintro x8 rfl;refine⟨by omega,by omega, ?_⟩;rintro x9 rfl;refine⟨digB s[k],fun w' hb=>zft _ _,iteI (fun hdi => ?_) (fun hdi => ?_)⟩
 ·have hTok:tokAt k (s.drop k)=⟨k,k + runB digB (s.drop k),(s.drop k).take (runB digB (s.drop k)),true,decide (10 < runB digB (s.drop k))⟩:=by
   rw [hd,zya,if_neg hle,if_pos hdi]
  rw [hTok];have hend:=zvj (p:=digB) hk;have hall:=zwr (p:=digB) (s.drop k);refine⟨fun L=>∃ j:Nat,L=[.i (digV ((s.drop k).take (min (j - k) 10))),.i (j:Nat)]∧k≤j∧j≤s.length∧k + runB digB (s.drop k)=j + runB digB (s.drop j),msR s.length,⟨k,by rw [Nat.sub_self];rfl,Nat.le_refl _,hk,rfl⟩, ?_⟩;rintro x10 x11 ⟨j,hy,hkj,hj,hrj⟩;simp only [List.cons.injEq,Vl.i.injEq,and_true]at hy;obtain⟨rfl,rfl⟩:=hy
  have fin:runB digB (s.drop j)=0→∀ x13:Int,x13=IntKind.i64.wrap ((j:Nat) - (k:Nat))→(.agg #[.int .i64 2,.int .i64 (k:Nat),.int .i64 (j:Nat),.int .i64 (digV ((s.drop k).take (min (j - k) 10))),.string ⟨(([]:List UInt8)).toArray⟩,.bool (decide (x13 > 10))]:Value)=rtV ⟨k,k + runB digB (s.drop k),(s.drop k).take (runB digB (s.drop k)),true,decide (10 < runB digB (s.drop k))⟩:=fun h0 x13 h13=>by
   rw [zh (by omega)]at h13;have hjj:j=k + runB digB (s.drop k):=by omega
   have hjk:j - k=runB digB (s.drop k):=by omega
   have e:x13=((runB digB (s.drop k):Nat):Int):=by rw [h13];omega
   rw [hjk,hjj];subst e;unfold rtV kindB numB rtx;dsimp only;rw [if_pos rfl,if_pos rfl,if_pos rfl,List.take_take,Nat.min_comm];simp;omega
  rintro x12 rfl;refine iteI (fun h5 => ?_) (fun h5=>fin (zyi (by omega)));have hjl:j < s.length:=by omega
  rintro x13 rfl;refine⟨by omega,by omega, ?_⟩;rintro x14 rfl;rw [Int.toNat_natCast];refine⟨digB (s.getD j 0),fun w' hb=>zft _ _,iteI (fun hm => ?_) (fun hm=>fin (zul hjl (Bool.eq_false_iff.2 hm)))⟩;have hrun:=zyg hjl hm;intro x15 h15;rw [zh (by omega)]at h15;refine iteI (fun h6 => ?_) (fun h6 => ?_)
  ·have hjk:j - k < 10:=by omega
   have hbd:=zwl ((s.drop k).take (j - k)).length ((s.drop k).take (j - k)) rfl (fun c hc=>hall c (by
    have:j - k≤runB digB (s.drop k):=by omega
    exact List.mem_of_mem_take (i:=j - k) (by rw [List.take_take,Nat.min_eq_left this];exact hc)))
   have hpw:(10:Int) ^ ((s.drop k).take (j - k)).length≤10 ^ 10:=by
    have h3:((s.drop k).take (j - k)).length≤10:=by rw [List.length_take];omega
    have:=Nat.pow_le_pow_right (n:=10) (by omega) h3
    exact_mod_cast this
   have hten:(10:Int) ^ 10=10000000000:=by decide
   rw [Nat.min_eq_left (by omega)];simp only [digB,Bool.and_eq_true,decide_eq_true_eq]at hm;intro x16 h16;rw [zh (by omega)]at h16;rintro x17 rfl;refine⟨by omega,by omega, ?_⟩;rintro x18 rfl;intro x19 h19;have e19:x19=((s.getD j 0).toNat:Int) - 48:=by rw [h19];show _ % _=_;simp only [IntKind.bits];omega
   clear h19;intro x20 h20 x21 h21 x22 h22;rw [zh (by omega)]at h20;rw [zh (by omega)]at h21;have e22:x22=((j + 1:Nat):Int):=by rw [h22,zh (by omega)];rfl
   subst e22;refine⟨⟨j + 1, ?_,by omega,by omega,by rw [hrj,hrun];omega⟩,by simp only [msR];omega⟩
   have hs:(s.drop k).take (j + 1 - k)=(s.drop k).take (j - k) ++ [s.getD j 0]:=by
    rw [show j + 1 - k=(j - k) + 1 by omega,List.take_add_one,List.getElem?_drop,show k + (j - k)=j by omega,List.getElem?_eq_getElem hjl,zrf hjl];rfl
   rw [Nat.min_eq_left (by omega),hs,zvl,h21,h16,h20,e19]
  ·intro x16 h16;have e16:x16=((j + 1:Nat):Int):=by rw [h16,zh (by omega)];rfl
   subst e16;refine⟨⟨j + 1, ?_,by omega,by omega,by rw [hrj,hrun];omega⟩,by simp only [msR];omega⟩;rw [Nat.min_eq_right (by omega),Nat.min_eq_right (by omega)]
 refine⟨inv9 s k,msSg 13,⟨0,rfl,by omega,rfl⟩, ?_⟩;rintro x10 l0 x11 s1 x12 x13 x14 x15 s2 b2 ⟨j,hy,hj,he⟩;simp only [List.cons.injEq,Vl.i.injEq,Vl.s.injEq,Vl.b.injEq,Vl.l.injEq,and_true,List.append_nil]at hy;obtain⟨rfl,hl0,rfl,rfl,rfl,rfl,rfl,rfl,rfl,rfl⟩:=hy;have hlen:l0.length=13:=by have:=congrArg List.length hl0;simpa [signsB]using this
 have hx16:(((0 + (l0.length + 0)) / 1:Nat):Int)=13:=by rw [hlen];rfl
 rintro x16 rfl
 try rw [hx16]
 refine iteI (fun h => ?_) (fun h => ?_)
 ·have hj13:j < 13:=by omega
  have hjs:j < signsB.length:=hj13
  have hrd:((l0.map (·.1)++(([]:List Value))))[(Int.toNat (j:Nat)) * 1 + 0]? = some (.string ⟨(signsB[j]).toArray⟩):=by
   rw [List.append_nil,hl0,Int.toNat_natCast,Nat.mul_one,Nat.add_zero,List.getElem?_map,List.getElem?_eq_getElem hjs];rfl
  have hmem:=List.getElem_mem hjs;have hdj:=List.drop_eq_getElem_cons hjs;generalize signsB[j]=x at hrd hmem hdj
  have hxl:x.length≤2:=by
   simp only [signsB,List.mem_cons,List.not_mem_nil,or_false]at hmem;rcases hmem with rfl | rfl | rfl | rfl | rfl | rfl | rfl | rfl | rfl | rfl | rfl | rfl | rfl <;> simp
  have no:x.isPrefixOf (s.drop k)=false→Vj_ullageref10_Next_T2 (j:Nat) (inv9 s k) l0 (k:Nat) [] 0 0 0 0 [] false (msSg 13):=fun hp=>by
   intro x23 h23;have e:x23=((j + 1:Nat):Int):=by rw [h23,zh (by omega)];rfl
   subst e;refine⟨⟨j + 1,by rw [List.append_nil,hl0],by omega, ?_⟩,by simp only [msSg];omega⟩;rw [he,hdj,List.find?_cons,hp]
  rintro x17 rfl
  try rw [hx16]
  refine⟨by omega,by omega,x,hrd, ?_⟩;rintro x18 rfl;intro x19 h19;have e19:x19=((k + x.length:Nat):Int):=by rw [h19,zh (by omega)];rfl
  subst e19;clear h19;rintro x20 rfl;refine iteI (fun h1 => ?_) (fun h1=>no (Bool.eq_false_iff.2 fun hp=>h1 (by have:=(List.isPrefixOf_iff_prefix.1 hp).length_le;rw [List.length_drop]at this;omega)));intro x21 h21;have e21:x21=((k + x.length:Nat):Int):=by rw [h21,zh (by omega)];rfl
  subst e21;clear h21;refine⟨by omega, ?_⟩;intro s4 e4;have e4':s4=(s.drop k).take x.length:=by rw [e4,show (((k + x.length:Nat):Int)).toNat - k=x.length by omega]
  clear e4;subst e4';rintro x22 rfl
  try rw [hx16]
  refine⟨by omega,by omega,x,hrd,iteI (fun h2 => ?_) (fun h2=>no ?_)⟩
  ·have hp:x.isPrefixOf (s.drop k)=true:=by rw [← zzn];exact decide_eq_true h2
   have hf:signsB.find? (fun x=>x.isPrefixOf (s.drop k))=some x:=by rw [he,hdj,List.find?_cons,hp]
   have ht:tokAt k (s.drop k)=⟨k,k + x.length,x,false,false⟩:=by
    rw [hd]at hf ⊢;rw [zya,if_neg hle,if_neg hdi,hf]
   rw [ht,zky hmem];intro x23 h23;have e23:x23=((k + x.length:Nat):Int):=by rw [h23,zh (by omega)];rfl
   subst e23;rintro x24 rfl
   try rw [hx16]
   exact⟨by omega,by omega,x,hrd,rfl⟩
  ·rw [← zzn];exact decide_eq_false h2
 ·have:j=13:=by omega
  subst this
  have hn:tokAt k (s.drop k)=⟨k,k,[],false,true⟩:=by
   rw [hd]at he ⊢;rw [zya,if_neg hle,if_neg hdi,he];rfl
  rw [hn];rfl
set_option maxHeartbeats 1000000 in
theorem zyl{w:World}{s:List UInt8}{i:Nat}(hl:s.length < 4611686018427387904)(hi:i≤s.length):Calls Tryz.prog 64 #[.string ⟨s.toArray⟩,.int .i64 (i:Nat)] w (Vc.Ret (rtV (tokS s i)) w):=by
 refine zbh (i:Nat) s w _ ⟨fun L=>∃ k:Nat,L=[.i (k:Nat)]∧k≤s.length∧i + runB spB (s.drop i)=k + runB spB (s.drop k),msKp s.length,⟨i,rfl,hi,rfl⟩, ?_⟩;rintro x1 ⟨k,hy,hk,hr⟩;simp only [List.cons.injEq,Vl.i.injEq,and_true]at hy;subst hy;rintro x2 rfl
 have out:runB spB (s.drop k)=0→Vj_ullageref10_Next_T1 s (k:Nat) (rtV (tokS s i)) w:=by
  intro h0;rw [h0,Nat.add_zero]at hr;unfold tokS;rw [hr];exact n1 hl hk
 refine iteI (fun h1 => ?_) (fun h1=>out (zyi (by omega)));have hlt:k < s.length:=by omega
 rintro x3 rfl;refine⟨by omega,by omega, ?_⟩;rintro x4 rfl;rw [Int.toNat_natCast];refine iteI (fun h2 => ?_) (fun h2=>out (zul hlt (Bool.eq_false_iff.2 (by simp only [spB,ne_eq,decide_eq_true_eq];omega))));intro x5 h5;have e:x5=((k + 1:Nat):Int):=by rw [h5,zh (by omega)];rfl
 clear h5;subst e;exact⟨⟨k + 1,rfl,by omega,by rw [hr,zyg hlt (by simp only [spB,decide_eq_true_eq];omega)];omega⟩,by simp only [msKp];omega⟩
end Go.Proofs.YtdjgnbkclcjiiaaGreatDoor
end
