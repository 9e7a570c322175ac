import Derived.Test.YtdjgnbkclcjiiaaGreatDoorM2
import Derived.Test.YtdjgnbkclcjiiaaGreatDoorRb
set_option linter.unusedVariables false
set_option linter.unusedSimpArgs false
set_option maxRecDepth 4000
namespace Go.Proofs.YtdjgnbkclcjiiaaGreatDoor
open Go Go.RowKit Vc
attribute [local irreducible] Go.Calls
theorem zpu{r:Rl}(h:RlSz r):r.nm.length < 4611686018427387904∧r.ks.length < 4611686018427387904∧RlSzL r.ks:=by cases r;simpa only [RlSz,Rl.nm,Rl.ks]using h
theorem zwm(r:Rl):nodesR r=1 + nodesL r.ks:=by cases r;rfl
def msS(n:Nat)(L:List Vl):Nat:=match L with
 | [_,_,.i i]=>n - i.toNat
 | _=>0
theorem zox(d:Int)(r:Rl):shR d r=if d > 21 then (1000,1000)else shL d 1 1 r.ks:=by cases r;simp only [shR,Rl.ks]
theorem zmba:∀ (m:Nat) {w:World} {r:Rl} {d:Int},nodesR r≤m→RlAt w r→RlSz r→1≤d→d≤22→Calls Tryz.prog 56 #[RV7 r,.int .i64 d] w (Vc.Ret (.tuple #[.int .i64 (shR d r).1,.int .i64 (shR d r).2]) w):=by
 intro m
 induction m with
 | zero=>intro w r d hm;have:=zjh r;omega
 | succ m ih =>
 intro w r d hm h hsz0 hd1 hd2;have hsz:=zpu hsz0;rw [zwm]at hm;have hks:=zeb h;obtain⟨b0,p0,c0,e0,f0,g0⟩:=zzb hks.1;have hno:=zpk f0;have E:RV7 r=.agg #[.int .i64 r.op,.int .i64 r.ask,.string ⟨r.nm.toArray⟩,.int .i64 r.wi,.int .i64 r.cm,.int .i64 r.n,(if b0=true then .slice none 0 0 else .slice (some (Vc.qad p0 (Int.toNat ((r.ks.length:Nat):Int)) (Int.toNat c0))) (Int.toNat ((r.ks.length:Nat):Int)) (Int.toNat c0):Value)]:=by unfold RV7;rw [e0]
 rw [E];refine znf p0 r.op r.ask r.wi r.cm r.n (r.ks.length:Nat) c0 d b0 r.nm w _ (iteI (fun h1=>by rw [zox,if_pos h1]) (fun h1 => ?_));rw [zox,if_neg h1];refine⟨fun L=>∃ (n l:Int) (i:Nat),L=[.i n,.i l,.i i]∧i≤r.ks.length∧shL d 1 1 r.ks=shL d n l (r.ks.drop i)∧(1≤n∧n≤6000)∧(1≤l∧l≤2000),msS r.ks.length,⟨1,1,0,rfl,Nat.zero_le _,rfl,by omega,by omega⟩, ?_⟩;rintro x8 x9 x10 ⟨n,l,i,hy,hi,hL,hn,hl⟩;simp only [List.cons.injEq,Vl.i.injEq,and_true]at hy;obtain⟨rfl,rfl,rfl⟩:=hy;refine⟨by omega,hno,iteI (fun hlt=>iteI (fun hn2 => ?_) (fun hn2 => ?_)) (fun hge => ?_)⟩
 ·have hi':i < r.ks.length:=by omega
  have hnil:¬ b0=true:=fun hb=>by have:=f0 hb;omega
  have hk:r.ks[i]? = some r.ks[i]:=List.getElem?_eq_getElem hi';have hmem:r.ks[i]∈r.ks:=List.getElem_mem hi';have hdrop:=List.drop_eq_getElem_cons hi';generalize r.ks[i]=kid at hk hmem hdrop;have hkid:=zwe hks.2 kid hmem;have hsz':=zok hsz.2.2 kid hmem;have hsub:=zxe hmem;obtain⟨q0,q1,q2,q3,q4,q5,q6⟩:=g0 i kid hk;obtain⟨b9,p9,c9,e9,f9,g9⟩:=zzb (zeb hkid).1;rw [e9]at q6;simp only [Int.toNat_natCast]at q6 ⊢;refine⟨hnil,by omega,hlt,kid.op,q0,kid.ask,q1,kid.nm,q2,kid.wi,q3,kid.cm,q4,kid.n,q5,b9,p9,(kid.ks.length:Nat),c9,q6, ?_⟩;rintro x18 rfl;rw [zf (x:=d + 1) (by omega)];have hb:=zmx kid (d + 1) (by omega) (by omega);refine⟨_,_,fun w' hb=>by have:=ih (w:=w') (r:=kid) (d:=d + 1) (by omega) (hkid.below hb) hsz' (by omega) (by omega);unfold RV7 at this;rw [e9]at this;exact this, ?_⟩;rintro x21 rfl x22 rfl x23 hx23 x24 rfl;rw [hdrop,shL,if_pos hn2]at hL;rw [zf (x:=(shR (d + 1) kid).2 + 1) (by omega)]at hx23;rw [zf (x:=x8 + (shR (d + 1) kid).1) (by omega),zf (by omega)];have hx:x23=max x9 ((shR (d + 1) kid).2 + 1):=by rw [hx23];split <;> omega
  subst hx;refine⟨⟨_,_,i + 1,rfl,by omega,hL,by omega,by omega⟩,by simp only [msS];omega⟩
 ·have:¬ (r.ks.drop i=[]):=fun hh=>by
   have:=congrArg List.length hh
   rw [List.length_drop]at this;simp at this;omega
  cases hdr:r.ks.drop i with
  | nil=>exact absurd hdr this
  | cons a l=>rw [hL,hdr,shL,if_neg hn2]
 ·obtain rfl:i=r.ks.length:=by omega
  rw [hL,List.drop_length,shL]
theorem zxr(r:Rl):rightR r=if r.op=1 then atomB r else bareB r && kidsB r.op r.ks.length && rightL r.ks:=by cases r;rw [rightR];rfl
mutual
def szR(g:Int):Rl→Int
 | .mk _ _ nm _ _ _ _ ks=>szL g (IntKind.i64.wrap (1 + (nm.length:Nat))) ks
def szL(g n:Int):List Rl→Int
 | []=>n
 | r::rs=>if n≤g then szL g (IntKind.i64.wrap (n + szR g r)) rs else n
end
theorem ztz(g:Int)(r:Rl):szR g r=szL g (IntKind.i64.wrap (1 + (r.nm.length:Nat))) r.ks:=by cases r;simp only [szR,Rl.nm,Rl.ks]
def msZ(n:Nat)(L:List Vl):Nat:=match L with
 | [_,.i i]=>n - i.toNat
 | _=>0
theorem zfba:∀ (m:Nat) {w:World} {r:Rl} {g:Int},nodesR r≤m→RlAt w r→RlSz r→Calls Tryz.prog 45 #[RV7 r,.int .i64 g] w (Vc.Ret (.int .i64 (szR g r)) w):=by
 intro m
 induction m with
 | zero=>intro w r d hm;have:=zjh r;omega
 | succ m ih =>
 intro w r g hm h hsz0;have hsz:=zpu hsz0;rw [zwm]at hm;have hks:=zeb h;obtain⟨b0,p0,c0,e0,f0,g0⟩:=zzb hks.1;have hno:=zpk f0;have E:RV7 r=.agg #[.int .i64 r.op,.int .i64 r.ask,.string ⟨r.nm.toArray⟩,.int .i64 r.wi,.int .i64 r.cm,.int .i64 r.n,(if b0=true then .slice none 0 0 else .slice (some (Vc.qad p0 (Int.toNat ((r.ks.length:Nat):Int)) (Int.toNat c0))) (Int.toNat ((r.ks.length:Nat):Int)) (Int.toNat c0):Value)]:=by unfold RV7;rw [e0]
 rw [E];refine zkg p0 r.op r.ask r.wi r.cm r.n (r.ks.length:Nat) c0 g b0 r.nm w _ ?_;rintro x8 rfl x9 hx9;rw [ztz,← hx9];refine⟨fun L=>∃ (n:Int) (i:Nat),L=[.i n,.i i]∧i≤r.ks.length∧szL g x9 r.ks=szL g n (r.ks.drop i),msZ r.ks.length,⟨x9,0,rfl,Nat.zero_le _,rfl⟩, ?_⟩;rintro x10 x11 ⟨n,i,hy,hi,hL⟩;simp only [List.cons.injEq,Vl.i.injEq,and_true]at hy;obtain⟨rfl,rfl⟩:=hy;refine⟨by omega,hno,iteI (fun hlt=>iteI (fun hn2 => ?_) (fun hn2 => ?_)) (fun hge => ?_)⟩
 ·have hi':i < r.ks.length:=by omega
  have hnil:¬ b0=true:=fun hb=>by have:=f0 hb;omega
  have hk:r.ks[i]? = some r.ks[i]:=List.getElem?_eq_getElem hi';have hmem:r.ks[i]∈r.ks:=List.getElem_mem hi';have hdrop:=List.drop_eq_getElem_cons hi';generalize r.ks[i]=kid at hk hmem hdrop;have hkid:=zwe hks.2 kid hmem;have hsz':=zok hsz.2.2 kid hmem;have hsub:=zxe hmem;obtain⟨q0,q1,q2,q3,q4,q5,q6⟩:=g0 i kid hk;obtain⟨b9,p9,c9,e9,f9,g9⟩:=zzb (zeb hkid).1;rw [e9]at q6;simp only [Int.toNat_natCast]at q6 ⊢;refine⟨hnil,by omega,hlt,kid.op,q0,kid.ask,q1,kid.nm,q2,kid.wi,q3,kid.cm,q4,kid.n,q5,b9,p9,(kid.ks.length:Nat),c9,q6, ?_⟩;refine⟨_,fun w' hb=>by have:=ih (w:=w') (r:=kid) (g:=g) (by omega) (hkid.below hb) hsz';unfold RV7 at this;rw [e9]at this;exact this, ?_⟩;rintro x20 rfl x21 rfl;rw [hdrop,szL,if_pos hn2]at hL;rw [zf (x:=(i:Int) + 1) (by omega)];refine⟨⟨_,i + 1,rfl,by omega,hL⟩,by simp only [msZ];omega⟩
 ·have:¬ (r.ks.drop i=[]):=fun hh=>by
   have:=congrArg List.length hh
   rw [List.length_drop]at this;simp at this;omega
  cases hdr:r.ks.drop i with
  | nil=>exact absurd hdr this
  | cons a l=>rw [hL,hdr,szL,if_neg hn2]
 ·obtain rfl:i=r.ks.length:=by omega
  rw [hL,List.drop_length,szL]
end Go.Proofs.YtdjgnbkclcjiiaaGreatDoor
