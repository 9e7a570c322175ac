import Derived.Test.YtdjgnbkclcjiiaaGreatDoorRx
set_option linter.unusedVariables false
set_option linter.unusedSimpArgs false
set_option maxRecDepth 4000
namespace Go.Proofs.YtdjgnbkclcjiiaaGreatDoor
open Go Go.RowKit Vc
attribute [local irreducible] Go.Calls
def tK(op:Int):List Bool→Bool
 | [a] => !a
 | [a,b]=>if op=3 then a && b else a || b
 | _=>false
mutual
def tR(l:List (List UInt8)):Rl→Bool
 | .mk op ask nm wi cm n v ks=>if op=1 then cmpB cm (if nm∈l then 1 else 0) n else tK op (tL l ks)
def tL(l:List (List UInt8)):List Rl→List Bool
 | []=>[]
 | r::rs=>tR l r::tL l rs
end
theorem znv{l:List (List UInt8)}{r:Rl}(h:r.op=1):tR l r=cmpB r.cm (if r.nm∈l then 1 else 0) r.n:=by
 obtain⟨op,ask,nm,wi,cm,k,v,ks⟩:=r;rw [tR,if_pos (show op=1 from h)];rfl
theorem zov{l:List (List UInt8)}{r:Rl}(h:¬ r.op=1):tR l r=tK r.op (tL l r.ks):=by
 obtain⟨op,ask,nm,wi,cm,k,v,ks⟩:=r;rw [tR,if_neg (show ¬ op=1 from h)];rfl
theorem zyx(n c m:Int):ansI (n,n) c m=if cmpB c n m=true then 1 else -1:=by
 unfold ansI
 have:max n (min n m)=n:=by omega
 simp only [this];cases cmpB c n m <;> simp
def sg:Bool→Int
 | true=>1
 | false => -1
theorem zpv(n c m:Int):ansI (n,n) c m=sg (cmpB c n m):=by rw [zyx];cases cmpB c n m <;> rfl
theorem zzx(p:Bool):-sg p=sg (!p):=by cases p <;> rfl
theorem zay(p q:Bool):min (sg p) (sg q)=sg (p && q):=by cases p <;> cases q <;> decide
theorem zdz(p q:Bool):max (sg p) (sg q)=sg (p || q):=by cases p <;> cases q <;> decide
theorem zez(l:List (List UInt8)):∀ (m:Nat) (r:Rl),nodesR r≤m→rightR r=true→valR (facQ l) r=sg (tR l r):=by
 intro m
 induction m with
 | zero=>intro r hm;have:=zic r;omega
 | succ m ih =>
 intro r hm hr;rw [zdf]at hm;by_cases ho:r.op=1
 ·rw [zrq ho,znv ho];unfold facQ;by_cases hi:r.nm∈l
  ·rw [decide_eq_true hi,if_pos rfl,if_pos hi,zpv]
  ·rw [decide_eq_false hi,if_neg (by simp),if_neg hi,zpv]
 ·rw [zsq ho,zov ho];rcases zlk hr ho with ⟨h2,a,ha,hra⟩ | ⟨h2,a,b,hab,hra,hrb⟩
  ·rw [ha]at hm ⊢;simp only [nodesL]at hm;simp only [valL,valK,tL,tK,ih a (by omega) hra,zzx]
  ·rw [hab]at hm ⊢;simp only [nodesL]at hm;simp only [valL,valK,tL,tK,ih a (by omega) hra,ih b (by omega) hrb];by_cases h3:r.op=3
   ·rw [if_pos h3,if_pos h3,zay]
   ·rw [if_neg h3,if_neg h3,zdz]
theorem zxw{w:World}(a:Int){c:Int}(n:Int)(hc:0≤c∧c≤5):Calls Tryz.prog 103 #[.int .i64 a,.int .i64 c,.int .i64 n] w (Vc.Ret (.bool (cmpB c a n)) w):=by
 refine zof a c n w _ ⟨by omega,by omega, ?_⟩;unfold cmpB;refine iteI (fun h => ?_) (fun h=>iteI (fun h1 => ?_) (fun h1=>iteI (fun h2 => ?_) (fun h2=>iteI (fun h3 => ?_) (fun h3=>iteI (fun h4 => ?_) (fun h4 => ?_)))))
 ·rw [if_pos h]
 ·rw [if_neg h,if_pos h1]
 ·rw [if_neg h,if_neg h1,if_pos h2]
 ·rw [if_neg h,if_neg h1,if_neg h2,if_pos h3]
 ·rw [if_neg h,if_neg h1,if_neg h2,if_neg h3,if_pos h4];refine zre ?_;rw [Bool.eq_iff_iff];simp
 ·rw [if_neg h,if_neg h1,if_neg h2,if_neg h3,if_neg h4];refine zre ?_;rw [Bool.eq_iff_iff];simp
theorem zfz{l:List (List UInt8)}(hn:l.length < 4611686018427387904):∀ (m:Nat) {w:World} {r:Rl} {v:Value},nodesR r≤m→rightR r=true→RlAt w r→SlAt w v 1 (l.flatMap stc1)→Calls Tryz.prog 54 #[RV7 r,v] w (Vc.Ret (.bool (tR l r)) w):=by
 intro m
 induction m with
 | zero=>intro w r v hm;have:=zic r;omega
 | succ m ih =>
 intro w r fv hm hr h hl;rw [zdf]at hm;have hks:=zja h;obtain⟨b0,p0,c0,e0,f0,g0⟩:=zba hks.1;have hno:=zxd f0;have E:RV7 r=.agg #[.int .i64 r.op,.int .i64 r.ask,.string ⟨r.nm.toArray⟩,.int .i64 r.wi,.int .i64 r.cm,.int .i64 r.n,(if b0=true then .slice none 0 0 else .slice (some (Vc.qad p0 (Int.toNat ((r.ks.length:Nat):Int)) (Int.toNat c0))) (Int.toNat ((r.ks.length:Nat):Int)) (Int.toNat c0):Value)]:=by unfold RV7;rw [e0]
 rw [E];obtain⟨b1,p1,c1,e1,f1,g1⟩:=zsi hl;have hno1:=zxd f1;rw [e1];refine zmf p0 p1 r.op r.ask r.wi r.cm r.n (r.ks.length:Nat) c0 (l.length:Nat) c1 b0 b1 r.nm w _ (iteI (fun ho => ?_) (fun ho => ?_))
 ·rw [znv ho]
  have hcm:0≤r.cm∧r.cm≤5:=by
   rw [zmh,if_pos ho]at hr;obtain⟨op,ask,nm,wi,cm,n,v,ks⟩:=r;exact (zwd.1 hr).2.2.2.2.1
  refine⟨fun L=>∃ (i:Nat),L=[.i (if r.nm∈l.take i then 1 else 0),.i i]∧i≤l.length,msZ l.length,⟨0,by simp,Nat.zero_le _⟩, ?_⟩;rintro x9 x10 ⟨i,hy,hi⟩;simp only [List.cons.injEq,Vl.i.injEq,and_true]at hy;obtain⟨rfl,rfl⟩:=hy;refine⟨by omega,hno1,iteI (fun hlt => ?_) (fun hge => ?_)⟩
  ·have hi':i < l.length:=by omega
   have hk:l[i]? = some l[i]:=List.getElem?_eq_getElem hi';generalize l[i]=z at hk;simp only [Int.toNat_natCast];refine⟨fun hb=>by have:=f1 hb;omega,by omega,hlt,z,g1 i z hk,iteI (fun he => ?_) (fun he => ?_)⟩
   ·rintro x11 rfl;rw [zgb (by omega)];refine⟨⟨i + 1, ?_,by omega⟩,by simp only [msZ];omega⟩;rw [if_pos (show r.nm∈l.take (i + 1) by rw [List.take_add_one,hk,he];simp)];rfl
   ·rintro x11 rfl;rw [zgb (by omega)];refine⟨⟨i + 1, ?_,by omega⟩,by simp only [msZ];omega⟩
    have:(r.nm∈l.take (i + 1))↔(r.nm∈l.take i):=by
     rw [List.take_add_one,hk];simp only [Option.toList_some,List.mem_append,List.mem_singleton];exact⟨fun hh=>hh.resolve_right fun e=>he e.symm,.inl⟩
    simp only [this];rfl
  ·obtain rfl:i=l.length:=by omega
   rw [List.take_length];exact⟨_,fun w' _=>zxw _ _ hcm,rfl⟩
 ·rw [zov ho]
  have sub:∀ {w':World} (k:Rl),k∈r.ks→rightR k=true→Below w.heap.size w w'→Calls Tryz.prog 54 #[RV7 k,fv] w' (Vc.Ret (.bool (tR l k)) w'):=fun k hk hrk hb=>by
   have:=zjc hk
   exact ih (by omega) hrk ((zxa hks.2 k hk).below hb) (zcf hb hl)
  rw [e1]at sub;have hnil:∀ {n:Nat},r.ks.length=n + 1→¬ b0=true:=fun hh hb=>by have:=f0 hb;omega
  rcases zlk hr ho with ⟨h2,a,ha,hra⟩ | ⟨h2,a,b,hab,hra,hrb⟩
  ·have hlen:r.ks.length=1:=by rw [ha];rfl
   have hma:a∈r.ks:=by rw [ha];simp
   obtain⟨q0,q1,q2,q3,q4,q5,q6⟩:=g0 0 a (by rw [ha];rfl);obtain⟨b9,p9,c9,e9,f9,g9⟩:=zba (zja (zxa hks.2 a hma)).1;rw [e9]at q6;refine⟨hnil hlen,by omega,a.op,q0,a.ask,q1,a.nm,q2,a.wi,q3,a.cm,q4,a.n,q5,b9,p9,(a.ks.length:Nat),c9,q6,tR l a,fun w' hb=>by have:=sub a hma hra hb;unfold RV7 at this;rw [e9]at this;exact this,iteI (fun _ => ?_) (fun hh=>absurd h2 hh)⟩;rw [ha];rfl
  ·have hlen:r.ks.length=2:=by rw [hab];rfl
   have hma:a∈r.ks:=by rw [hab];simp
   have hmb:b∈r.ks:=by rw [hab];simp
   obtain⟨q0,q1,q2,q3,q4,q5,q6⟩:=g0 0 a (by rw [hab];rfl);obtain⟨u0,u1,u2,u3,u4,u5,u6⟩:=g0 1 b (by rw [hab];rfl);obtain⟨b9,p9,c9,e9,f9,g9⟩:=zba (zja (zxa hks.2 a hma)).1;obtain⟨b8,p8,c8,e8,f8,g8⟩:=zba (zja (zxa hks.2 b hmb)).1;rw [e9]at q6;rw [e8]at u6;refine⟨hnil hlen,by omega,a.op,q0,a.ask,q1,a.nm,q2,a.wi,q3,a.cm,q4,a.n,q5,b9,p9,(a.ks.length:Nat),c9,q6,tR l a,fun w' hb=>by have:=sub a hma hra hb;unfold RV7 at this;rw [e9]at this;exact this,iteI (fun hh=>by omega) (fun _ => ?_)⟩;refine⟨hnil hlen,by omega,b.op,u0,b.ask,u1,b.nm,u2,b.wi,u3,b.cm,u4,b.n,u5,b8,p8,(b.ks.length:Nat),c8,u6,tR l b,fun w' hb=>by have:=sub b hmb hrb hb;unfold RV7 at this;rw [e8]at this;exact this, ?_⟩;rw [hab];simp only [tL,tK];refine iteI (fun h3 => ?_) (fun h3 => ?_)
   ·rw [if_pos h3];exact iteI (fun hh=>by rw [hh];rfl) (fun hh=>by rw [Bool.eq_false_iff.2 hh];rfl)
   ·rw [if_neg h3];exact iteI (fun hh=>by rw [hh];rfl) (fun hh=>by rw [Bool.eq_false_iff.2 hh];rfl)
theorem zby{w:World}{r:Rl}{v:Value}{l:List (List UInt8)}(h:RlAt w r)(hsz:RlSz r)(hl:SlAt w v 1 (l.flatMap stc1))(hn:l.length < 4611686018427387904):Calls Tryz.prog 20 #[RV7 r,v] w (Vc.Ret (.tuple #[.bool (holdI r l).1,.int .i64 (holdI r l).2]) w):=by
 have h':=h;have hl':=hl;have hks:=zja h;obtain⟨b0,p0,c0,e0,f0,g0⟩:=zba hks.1;have hno:=zxd f0;have E:RV7 r=.agg #[.int .i64 r.op,.int .i64 r.ask,.string ⟨r.nm.toArray⟩,.int .i64 r.wi,.int .i64 r.cm,.int .i64 r.n,(if b0=true then .slice none 0 0 else .slice (some (Vc.qad p0 (Int.toNat ((r.ks.length:Nat):Int)) (Int.toNat c0))) (Int.toNat ((r.ks.length:Nat):Int)) (Int.toNat c0):Value)]:=by unfold RV7;rw [e0]
 rw [E];obtain⟨b1,p1,c1,e1,f1,g1⟩:=zsi hl;rw [e1];refine znf p0 p1 r.op r.ask r.wi r.cm r.n (r.ks.length:Nat) c0 (l.length:Nat) c1 b0 b1 r.nm w _ ⟨_,fun w' hb=>by rw [← E];exact zqx (h'.below hb) hsz,iteI (fun hv => ?_) (fun hv => ?_)⟩
 ·refine⟨_,fun w' hb=>by rw [← E,← e1];exact zfz hn _ (Nat.le_refl _) (zlg hv) (h'.below hb) (zcf hb hl'), ?_⟩;unfold holdI;rw [if_pos hv,zez l _ r (Nat.le_refl _) (zlg hv)];cases tR l r <;> rfl
 ·unfold holdI;rw [if_neg hv]
theorem zmg{w:World}{r:Rl}{v:Value}{l:List (List UInt8)}(hV0:Vg_0 w)(hV:Vg_1 w)(haw:∀ w',Below w.heap.size w w'→Calls Tryz.prog 16 #[] w' (Vc.Ret (.bool true) w'))
  (h:RlAt w r) (hsz:RlSz r) (hl:SlAt w v 1 (l.flatMap stc1)) (hn:l.length < 4611686018427387904):Calls Tryz.prog 10 #[RV7 r,v] w (Vc.Ret (.bool true) w):=by
 have h':=h;have hl':=hl;have hks:=zja h;obtain⟨b0,p0,c0,e0,f0,g0⟩:=zba hks.1;have hno:=zxd f0;have E:RV7 r=.agg #[.int .i64 r.op,.int .i64 r.ask,.string ⟨r.nm.toArray⟩,.int .i64 r.wi,.int .i64 r.cm,.int .i64 r.n,(if b0=true then .slice none 0 0 else .slice (some (Vc.qad p0 (Int.toNat ((r.ks.length:Nat):Int)) (Int.toNat c0))) (Int.toNat ((r.ks.length:Nat):Int)) (Int.toNat c0):Value)]:=by unfold RV7;rw [e0]
 rw [E];obtain⟨b1,p1,c1,e1,f1,g1⟩:=zsi hl;have hno1:=zxd f1;rw [e1];refine zxb p0 p1 r.op r.ask r.wi r.cm r.n (r.ks.length:Nat) c0 (l.length:Nat) c1 b0 b1 r.nm w _ ⟨_,fun w' hb=>by rw [← E];exact zbz _ (Nat.le_refl _) (h'.below hb) hsz,iteI (fun _=>⟨true,fun w' hb=>haw w' hb,rfl⟩) (fun _=>⟨by omega,hno1,iteI (fun _=>⟨true,fun w' hb=>haw w' hb,rfl⟩) (fun _ => ?_)⟩)⟩
 have gk:∀ {w':World},Below w.heap.size w w'→Vg_0 w'∧Vg_1 w':=fun hb=>by
  obtain⟨ty,mk,hg⟩:=hV0;obtain⟨ty',mk',hg'⟩:=hV;exact⟨⟨ty,mk,by rw [hb.block _ (Array.getElem?_eq_some_iff.1 hg).1];exact hg⟩,⟨ty',mk',by rw [hb.block _ (Array.getElem?_eq_some_iff.1 hg').1];exact hg'⟩⟩
 refine⟨_,_,fun w' hb=>by rw [← E,← e1];exact zxx (gk hb).1 (gk hb).2 (h'.below hb) (zcf hb hl') hn,_,_,fun w' hb=>by rw [← E,← e1];exact zby (h'.below hb) hsz (zcf hb hl') hn, ?_⟩;exact iteI (fun _=>iteI (fun _=>⟨true,fun w' hb=>haw w' hb,rfl⟩) (fun hc=>absurd rfl hc)) (fun hc=>absurd Iff.rfl hc)
end Go.Proofs.YtdjgnbkclcjiiaaGreatDoor
