import Derived.Test.YtdjgnbkclcjiiaaGreatDoorRt
set_option linter.unusedVariables false
set_option linter.unusedSimpArgs false
set_option maxRecDepth 100000
namespace Go.Proofs.YtdjgnbkclcjiiaaGreatDoor
open Go Go.RowKit Go.Proofs Wk
open Vc (SlAt OV iteI Vl zrc zf)
attribute [local irreducible] Go.Calls
def A3(p q r:Bool):Int:=if (p && q && r)=true then 1 else if (!p && !q && !r)=true then -1 else 0
theorem zlf(p q r:Bool):((p=true)→Vj_countdown_answer_T1 q r (.int .i64 (A3 p q r)) p)∧(¬ (p=true)→Vj_countdown_answer_T2 p (.int .i64 (A3 p q r)) q r):=by
 cases p <;> cases q <;> cases r <;> simp [Vj_countdown_answer_T1,Vj_countdown_answer_T2,A3]
theorem cmp0(a b:Int)(w:World):Calls Tryz.prog 219 #[.int .i64 a,.int .i64 b] w (Vc.Ret (.bool (cmpB 0 a b)) w):=zsc a b w _ (by simp [cmpB])
theorem cmp1(a b:Int)(w:World):Calls Tryz.prog 220 #[.int .i64 a,.int .i64 b] w (Vc.Ret (.bool (cmpB 1 a b)) w):=ztc a b w _ (by simp [cmpB])
theorem cmp2(a b:Int)(w:World):Calls Tryz.prog 221 #[.int .i64 a,.int .i64 b] w (Vc.Ret (.bool (cmpB 2 a b)) w):=zuc a b w _ (by simp [cmpB])
theorem cmp3(a b:Int)(w:World):Calls Tryz.prog 222 #[.int .i64 a,.int .i64 b] w (Vc.Ret (.bool (cmpB 3 a b)) w):=zvc a b w _ (by simp [cmpB])
theorem cmp4(a b:Int)(w:World):Calls Tryz.prog 223 #[.int .i64 a,.int .i64 b] w (Vc.Ret (.bool (cmpB 4 a b)) w):=zwc a b w _ (by refine zrc ?_;rw [Bool.eq_iff_iff];simp [cmpB])
theorem cmp5(a b:Int)(w:World):Calls Tryz.prog 224 #[.int .i64 a,.int .i64 b] w (Vc.Ret (.bool (cmpB 5 a b)) w):=zxc a b w _ (by refine zrc ?_;rw [Bool.eq_iff_iff];simp [cmpB])
theorem zuy{w:World}(hV:Vg_1 w)(b:Int × Int){c:Int}(n:Int)(hc:0≤c∧c≤5):Calls Tryz.prog 128 #[.agg #[.int .i64 b.1,.int .i64 b.2],.int .i64 c,.int .i64 n] w (Vc.Ret (.int .i64 (ansI b c n)) w):=by
 have mid:∀ x4 x5:Int,x4=(if n < b.2 then n else b.2)→x5=(if x4 > b.1 then x4 else b.1)→x5=max b.1 (min b.2 n):=by
  intro x4 x5 h1 h2;subst h1;split at h2 <;> split at h2 <;> omega
 have e:ansI b c n=A3 (cmpB c b.1 n) (cmpB c (max b.1 (min b.2 n)) n) (cmpB c b.2 n):=rfl;rw [e];refine zmg b.1 b.2 c n w _ ⟨by omega,by omega, ?_⟩;refine iteI (fun h0 => ?_) (fun h0=>iteI (fun h1 => ?_) (fun h1=>iteI (fun h2 => ?_) (fun h2=>iteI (fun h3 => ?_) (fun h3=>iteI (fun h4 => ?_) (fun h4 => ?_)))))
 ·rw [h0];refine⟨hV, ?_⟩;rintro x4 hx4 x5 hx5;rw [mid x4 x5 hx4 hx5];exact⟨_,fun w' _=>cmp0 _ _ w',_,fun w' _=>cmp0 _ _ w',_,fun w' _=>cmp0 _ _ w',zlf _ _ _⟩
 ·rw [h1];refine⟨hV, ?_⟩;rintro x4 hx4 x5 hx5;rw [mid x4 x5 hx4 hx5];exact⟨_,fun w' _=>cmp1 _ _ w',_,fun w' _=>cmp1 _ _ w',_,fun w' _=>cmp1 _ _ w',zlf _ _ _⟩
 ·rw [h2];refine⟨hV, ?_⟩;rintro x4 hx4 x5 hx5;rw [mid x4 x5 hx4 hx5];exact⟨_,fun w' _=>cmp2 _ _ w',_,fun w' _=>cmp2 _ _ w',_,fun w' _=>cmp2 _ _ w',zlf _ _ _⟩
 ·rw [h3];refine⟨hV, ?_⟩;rintro x4 hx4 x5 hx5;rw [mid x4 x5 hx4 hx5];exact⟨_,fun w' _=>cmp3 _ _ w',_,fun w' _=>cmp3 _ _ w',_,fun w' _=>cmp3 _ _ w',zlf _ _ _⟩
 ·rw [h4];refine⟨hV, ?_⟩;rintro x4 hx4 x5 hx5;rw [mid x4 x5 hx4 hx5];exact⟨_,fun w' _=>cmp4 _ _ w',_,fun w' _=>cmp4 _ _ w',_,fun w' _=>cmp4 _ _ w',zlf _ _ _⟩
 ·have h5:c=5:=by omega
  rw [h5];refine⟨hV, ?_⟩;rintro x4 hx4 x5 hx5;rw [mid x4 x5 hx4 hx5];exact⟨_,fun w' _=>cmp5 _ _ w',_,fun w' _=>cmp5 _ _ w',_,fun w' _=>cmp5 _ _ w',zlf _ _ _⟩
theorem zrk(r:Rl):(FM r).oneCell'=true:=by
 obtain⟨op,ask,nm,wi,cm,k,v,ks⟩:=r;unfold FM;rw [fmV];split
 ·rfl
 ·exact zou _ _ _ op _
theorem zvy{r:Rl}(h:r.op=1):FM r=.iface 183 (RV7 r):=by
 obtain⟨op,ask,nm,wi,cm,k,v,ks⟩:=r;unfold FM;rw [fmV,if_pos (show op=1 from h)]
theorem zwy{r:Rl}(h:¬ r.op=1):FM r=fmK 176 180 181 r.op (fmL 183 176 180 181 r.ks):=by
 obtain⟨op,ask,nm,wi,cm,k,v,ks⟩:=r;unfold FM;rw [fmV,if_neg (show ¬ op=1 from h)];rfl
theorem zow{q:Rl→Int × Int}{r:Rl}(h:r.op=1):valR q r=ansI (q r) r.cm r.n:=by
 obtain⟨op,ask,nm,wi,cm,k,v,ks⟩:=r;rw [valR,if_pos (show op=1 from h)];rfl
theorem zpw{q:Rl→Int × Int}{r:Rl}(h:¬ r.op=1):valR q r=valK r.op (valL q r.ks):=by
 obtain⟨op,ask,nm,wi,cm,k,v,ks⟩:=r;rw [valR,if_neg (show ¬ op=1 from h)];rfl
theorem zqu{r:Rl}(hr:rightR r=true)(h:¬ r.op=1):(r.op=2∧∃ a,r.ks=[a]∧rightR a=true)∨((r.op=3∨r.op=4)∧∃ a b,r.ks=[a,b]∧rightR a=true∧rightR b=true):=by
 rw [zxr,if_neg h]at hr;simp only [Bool.and_eq_true,kidsB,Bool.or_eq_true,decide_eq_true_eq]at hr;obtain⟨⟨_,hk⟩,hl⟩:=hr;rcases hk with ⟨h1,h2⟩ | ⟨h1,h2⟩
 ·obtain⟨a,ha⟩:=List.length_eq_one_iff.1 h2;rw [ha]at hl;simp only [rightL,Bool.and_true]at hl;exact .inl ⟨h1,a,ha,hl⟩
 ·obtain⟨a,b,hab⟩:∃ a b,r.ks=[a,b]:=by
   match r.ks,h2 with
   | [a,b],_=>exact⟨a,b,rfl⟩
  rw [hab]at hl;simp only [rightL,Bool.and_true,Bool.and_eq_true]at hl;exact .inr ⟨h1,a,b,hab,hl⟩
theorem pval(q:Rl→Int × Int)(F:OV){w0:World}:∀ (m:Nat) {w:World} {r:Rl},nodesR r≤m→rightR r=true→RlAt w0 r →
  (∀ k,rightR k=true→k.op=1→RlAt w0 k→∀ w',Below w.heap.size w w'→Calls Tryz.prog 68 #[.iface 183 (RV7 k),F.1] w' (Vc.Ret (.int .i64 (ansI (q k) k.cm k.n)) w')) →
  Calls Tryz.prog 68 #[FM r,F.1] w (Vc.Ret (.int .i64 (valR q r)) w):=by
 intro m
 induction m with
 | zero=>intro w r hm;have:=zjh r;omega
 | succ m ih =>
 intro w r hm hr h hA;by_cases ho:r.op=1
 ·rw [zvy ho,zow ho];exact hA r hr ho h w (Below.refl _ _)
 have hks:=zeb h;rw [zwm]at hm
 have sub:∀ {w':World} (k:Rl),k∈r.ks→rightR k=true→Below w.heap.size w w'→Calls Tryz.prog 68 #[FM k,F.1] w' (Vc.Ret (.int .i64 (valR q k)) w'):=fun k hk hrk hb=>by
  have:=zxe hk
  refine ih (by omega) hrk (zwe hks.2 k hk) fun k' h1 h2 h3 w'' hb''=>hA k' h1 h2 h3 w'' (hb.trans (hb''.mono hb.size))
 rw [zwy ho,zpw ho];rcases zqu hr ho with ⟨h2,a,ha,hra⟩ | ⟨h2,a,b,hab,hra,hrb⟩
 ·rw [ha];have hb:=zmq q a;refine zpf ⟨.iface 176 (.agg #[FM a]),rfl⟩ ⟨FM a,zrk a⟩ F rfl w _ ⟨valR q a,fun w' hb=>sub a (by rw [ha];simp) hra hb, ?_⟩;rintro x1 rfl;rw [zf (by omega),Int.zero_sub];rfl
 ·rw [hab];rcases h2 with h2 | h2
  ·rw [h2];refine zqf ⟨.iface 180 (.agg #[FM a,FM b]),rfl⟩ ⟨FM a,zrk a⟩ ⟨FM b,zrk b⟩ F rfl w _ ⟨valR q a,fun w' hb=>sub a (by rw [hab];simp) hra hb,valR q b,fun w' hb=>sub b (by rw [hab];simp) hrb hb, ?_⟩;rintro x2 rfl;refine congrArg _ ?_;simp only [valL,valK,if_true];split <;> omega
  ·rw [h2];refine zrf ⟨.iface 181 (.agg #[FM a,FM b]),rfl⟩ ⟨FM a,zrk a⟩ ⟨FM b,zrk b⟩ F rfl w _ ⟨valR q a,fun w' hb=>sub a (by rw [hab];simp) hra hb,valR q b,fun w' hb=>sub b (by rw [hab];simp) hrb hb, ?_⟩;rintro x2 rfl;refine congrArg _ ?_;simp only [valL,valK];rw [if_neg (show ¬ ((4:Int)=3) by decide)];split <;> omega
end Go.Proofs.YtdjgnbkclcjiiaaGreatDoor
