import Derived.Test.YtdjgnbkclcjiiaaGreatDoorSc
import Derived.Test.YtdjgnbkclcjiiaaGreatDoorRy
set_option linter.unusedVariables false
set_option linter.unusedSimpArgs false
set_option maxRecDepth 4000
namespace Go.Proofs.YtdjgnbkclcjiiaaGreatDoor
open Go Go.RowKit Go.Proofs Wk
open Vc (SlAt OV iteI Vl zrb zc)
attribute [local irreducible] Go.Calls
def aS(f:Nat→Bool):Nat→Bool | 0=>true | n + 1=>aS f n && f n
def nS(f:Nat→Bool):Nat→Bool | 0=>true | n + 1=>nS f n && !f n
def msQ3:List Vl→Nat | [_,_,.i a]=>3 - a.toNat | _=>0
def fS(c n lo hi mid:Int):Nat→Bool | 0=>cmpB c lo n | 1=>cmpB c hi n | _=>cmpB c mid n
section
variable {w:World} {x c n lo hi mid:Int} {i:Nat} {b0 b1 b2:Bool} (hc:0≤c∧c≤5) (hi3:i < 3) (hx:cmpB c x n=fS c n lo hi mid i) (h0:b0=aS (fS c n lo hi mid) i) (h1:b1=nS (fS c n lo hi mid) i)
def IS(c n lo hi mid:Int):List Vl→Prop:=fun L=>∃ i:Nat,L=[.b (aS (fS c n lo hi mid) i),.b (nS (fS c n lo hi mid) i),.i i]∧i≤3
include hc hi3 hx h0 h1
theorem s3(hb2:b2=fS c n lo hi mid i)(e0:b0=true)(e1:b1=true):Vj_ullageref10_answer_T3 w x c n (i:Int) (IS c n lo hi mid) b2 msQ3 b0 b1:=by
 refine⟨_,fun w' _=>zml x n hc, ?_⟩;rintro x7 rfl;rw [zc (by omega)];refine⟨⟨i + 1, ?_,by omega⟩,by simp only [msQ3];omega⟩;simp only [aS,nS];rw [← h0,← h1,e0,e1,hx,hb2,Bool.true_and,Bool.true_and];rfl
omit hc hx in
theorem s4(hb2:b2=fS c n lo hi mid i)(e0:b0=true)(e1:¬ b1=true):Vj_ullageref10_answer_T4 (i:Int) (IS c n lo hi mid) b2 msQ3 b0 b1:=by
 rintro x7 rfl;rw [zc (by omega)];refine⟨⟨i + 1, ?_,by omega⟩,by simp only [msQ3];omega⟩;simp only [aS,nS];rw [← h0,← h1,e0,Bool.eq_false_iff.2 e1,hb2,Bool.true_and,Bool.false_and];rfl
theorem s2'(e0:¬ b0=true)(e1:b1=true):Vj_ullageref10_answer_T2 w x c n (i:Int) (IS c n lo hi mid) msQ3 b0 b1:=by
 refine⟨_,fun w' _=>zml x n hc, ?_⟩;rintro x7 rfl;rw [zc (by omega)];refine⟨⟨i + 1, ?_,by omega⟩,by simp only [msQ3];omega⟩;simp only [aS,nS];rw [← h0,← h1,Bool.eq_false_iff.2 e0,e1,hx,Bool.true_and,Bool.false_and];rfl
end
theorem zuz{w:World}(b:Int × Int){c:Int}(n:Int)(hc:0≤c∧c≤5):Calls Tryz.prog 130 #[.agg #[.int .i64 b.1,.int .i64 b.2],.int .i64 c,.int .i64 n] w (Vc.Ret (.int .i64 (ansI b c n)) w):=by
  refine zkf b.1 b.2 c n w _ ?_;intro x4 hx4 x5 hx5
  have hm:x5=max b.1 (min b.2 n):=by
    subst hx4;split at hx5 <;> split at hx5 <;> omega
  clear hx4 hx5;subst hm;obtain⟨mid,hmid⟩:∃ mid,mid=max b.1 (min b.2 n):=⟨_,rfl⟩;rw [← hmid]
  have HA:ansI b c n=if aS (fS c n b.1 b.2 mid) 3=true then 1 else if nS (fS c n b.1 b.2 mid) 3=true then -1 else 0:=by
    unfold ansI;rw [← hmid];simp only [aS,nS,fS];cases cmpB c b.1 n <;> cases cmpB c b.2 n <;> cases cmpB c mid n <;> rfl
  refine⟨IS c n b.1 b.2 mid,msQ3,⟨0,rfl,by omega⟩, ?_⟩;rintro b0 b1 x6 ⟨i,hy,hi⟩;simp only [List.cons.injEq,Vl.i.injEq,Vl.b.injEq,and_true]at hy;obtain⟨h0,h1,rfl⟩:=hy;refine iteI (fun hlt => ?_) (fun hge => ?_)
  · have hi3:i < 3:=by omega
    have T1:∀ b2,b2=fS c n b.1 b.2 mid i→b0=true→b1=true→Vj_ullageref10_answer_T1 (i:Int) w b.1 c n (IS c n b.1 b.2 mid) b2 msQ3 b0 b1 b.2 mid:=fun b2 hb2 e0 e1 =>
      ⟨by omega, by omega, iteI (fun z => s3 hc hi3 (by obtain rfl:i=0:=by omega
                                                        rfl) h0 h1 hb2 e0 e1) (fun z => iteI (fun z1 => s3 hc hi3 (by obtain rfl:i=1:=by omega
                                                                                                                      rfl) h0 h1 hb2 e0 e1) (fun z1 => s3 hc hi3 (by obtain rfl:i=2:=by omega
                                                                                                                                                                     rfl) h0 h1 hb2 e0 e1))⟩
    refine iteI (fun e0=>⟨by omega,by omega,iteI (fun z => ?_) (fun z=>iteI (fun z1 => ?_) (fun z1 => ?_))⟩) (fun e0=>iteI (fun e1=>⟨by omega,by omega,iteI (fun z => ?_) (fun z=>iteI (fun z1 => ?_) (fun z1 => ?_))⟩) (fun e1 => ?_))
    · have hf : cmpB c b.1 n = fS c n b.1 b.2 mid i := by obtain rfl:i=0:=by omega
                                                          rfl
      exact⟨_,fun w' _=>zml b.1 n hc,iteI (fun e1=>T1 _ hf e0 e1) (fun e1=>s4 hi3 h0 h1 hf e0 e1)⟩
    · have hf : cmpB c b.2 n = fS c n b.1 b.2 mid i := by obtain rfl:i=1:=by omega
                                                          rfl
      exact⟨_,fun w' _=>zml b.2 n hc,iteI (fun e1=>T1 _ hf e0 e1) (fun e1=>s4 hi3 h0 h1 hf e0 e1)⟩
    · have hf : cmpB c mid n = fS c n b.1 b.2 mid i := by obtain rfl:i=2:=by omega
                                                          rfl
      exact⟨_,fun w' _=>zml mid n hc,iteI (fun e1=>T1 _ hf e0 e1) (fun e1=>s4 hi3 h0 h1 hf e0 e1)⟩
    · exact s2' hc hi3 (by obtain rfl:i=0:=by omega
                           rfl) h0 h1 e0 e1
    · exact s2' hc hi3 (by obtain rfl:i=1:=by omega
                           rfl) h0 h1 e0 e1
    · exact s2' hc hi3 (by obtain rfl:i=2:=by omega
                           rfl) h0 h1 e0 e1
    · rintro x7 rfl;rw [zc (by omega)];refine⟨⟨i + 1, ?_,by omega⟩,by simp only [msQ3];omega⟩;simp only [aS,nS];rw [← h0,← h1,Bool.eq_false_iff.2 e0,Bool.eq_false_iff.2 e1,Bool.false_and,Bool.false_and];rfl
  · obtain rfl:i=3:=by omega
    rw [HA,← h0,← h1];refine iteI (fun e0=>by rw [if_pos e0]) (fun e0 => ?_);rw [if_neg e0];exact iteI (fun e1=>by rw [if_pos e1]) (fun e1=>by rw [if_neg e1])
theorem zvaa{l:List Sn}{now fresh:Int}(ho:obsB l=true)(hw:0≤now∧now≤1073741824)(hf:0≤fresh∧fresh≤1000):∀ (m:Nat) {w:World} {r:Rl} {v:Value},nodesR r≤m→rightR r=true→RlAt w r→SlAt w v 3 (l.flatMap snc)→Calls Tryz.prog 72 #[RV7 r,v,.int .i64 now,.int .i64 fresh] w (Vc.Ret (.int .i64 (valR (askQ l now fresh) r)) w):=by
 intro m
 induction m with
 | zero=>intro w r v hm;have:=zxd r;omega
 | succ m ih =>
 intro w r fv hm hr h hl;rw [zgi]at hm;have h':=h;have hks:=zy h;obtain⟨b0,p0,c0,e0,f0,g0⟩:=zp hks.1;have hno:=zsb f0;have E:RV7 r=.agg #[.int .i64 r.op,.int .i64 r.ask,.string ⟨r.nm.toArray⟩,.int .i64 r.wi,.int .i64 r.cm,.int .i64 r.n,(if b0=true then .slice none 0 0 else .slice (some (Vc.qad p0 (Int.toNat ((r.ks.length:Nat):Int)) (Int.toNat c0))) (Int.toNat ((r.ks.length:Nat):Int)) (Int.toNat c0):Value)]:=by unfold RV7;rw [e0]
 rw [E];obtain⟨b1,p1,c1,e1,f1,g1⟩:=zpb hl;have hl':=hl;rw [e1];refine zhg p0 p1 r.op r.ask r.wi r.cm r.n (r.ks.length:Nat) c0 (l.length:Nat) c1 now fresh b0 b1 r.nm w _ (iteI (fun ho1 => ?_) (fun ho1 => ?_))
 ·rw [zms ho1]
  have hat:(0≤r.ask∧r.ask≤2)∧(0≤r.wi∧r.wi≤1000)∧(0≤r.cm∧r.cm≤5):=by
   rw [zhi,if_pos ho1]at hr;obtain⟨op,ask,nm,wi,cm,n,v,ks⟩:=r
   have:=zme.1 hr
   exact⟨this.1,this.2.2.1,this.2.2.2.2.1⟩
  exact⟨_,_,fun w' hb=>by rw [← E,← e1];exact zuaa (h'.below hb) (Vc.zab hb hl') ho hw hf hat.2.1 hat.1,_,fun w' _=>zuz (askQ l now fresh r) r.n hat.2.2,rfl⟩
 ·rw [zns ho1]
  have sub:∀ {w':World} (k:Rl),k∈r.ks→rightR k=true→Below w.heap.size w w'→Calls Tryz.prog 72 #[RV7 k,fv,.int .i64 now,.int .i64 fresh] w' (Vc.Ret (.int .i64 (valR (askQ l now fresh) k)) w'):=fun k hk hrk hb=>by
   have:=zwc hk
   exact ih (by omega) hrk ((zgb hks.2 k hk).below hb) (Vc.zab hb hl')
  rw [e1]at sub;have hnil:∀ {n:Nat},r.ks.length=n + 1→¬ b0=true:=fun hh hb=>by have:=f0 hb;omega
  rcases zup hr ho1 with ⟨h2,a,ha,hra⟩ | ⟨h2,a,b,hab,hra,hrb⟩
  ·have hlen:r.ks.length=1:=by rw [ha];rfl
   have hma:a∈r.ks:=by rw [ha];simp
   obtain⟨q0,q1,q2,q3,q4,q5,q6⟩:=g0 0 a (by rw [ha];rfl);obtain⟨b9,p9,c9,e9,f9,g9⟩:=zp (zy (zgb hks.2 a hma)).1;rw [e9]at q6;have hbd:=zbr (askQ l now fresh) a;refine⟨hnil hlen,by omega,a.op,q0,a.ask,q1,a.nm,q2,a.wi,q3,a.cm,q4,a.n,q5,b9,p9,(a.ks.length:Nat),c9,q6,valR (askQ l now fresh) a,fun w' hb=>by have:=sub a hma hra hb;unfold RV7 at this;rw [e9]at this;exact this,iteI (fun _ => ?_) (fun hh=>absurd h2 hh)⟩;rintro x19 rfl;rw [zc (by omega),Int.zero_sub,ha];rfl
  ·have hlen:r.ks.length=2:=by rw [hab];rfl
   have hma:a∈r.ks:=by rw [hab];simp
   have hmb:b∈r.ks:=by rw [hab];simp
   obtain⟨q0,q1,q2,q3,q4,q5,q6⟩:=g0 0 a (by rw [hab];rfl);obtain⟨u0,u1,u2,u3,u4,u5,u6⟩:=g0 1 b (by rw [hab];rfl);obtain⟨b9,p9,c9,e9,f9,g9⟩:=zp (zy (zgb hks.2 a hma)).1;obtain⟨b8,p8,c8,e8,f8,g8⟩:=zp (zy (zgb hks.2 b hmb)).1;rw [e9]at q6;rw [e8]at u6;refine⟨hnil hlen,by omega,a.op,q0,a.ask,q1,a.nm,q2,a.wi,q3,a.cm,q4,a.n,q5,b9,p9,(a.ks.length:Nat),c9,q6,valR (askQ l now fresh) a,fun w' hb=>by have:=sub a hma hra hb;unfold RV7 at this;rw [e9]at this;exact this,iteI (fun hh=>by omega) (fun _ => ?_)⟩;refine⟨hnil hlen,by omega,b.op,u0,b.ask,u1,b.nm,u2,b.wi,u3,b.cm,u4,b.n,u5,b8,p8,(b.ks.length:Nat),c8,u6,valR (askQ l now fresh) b,fun w' hb=>by have:=sub b hmb hrb hb;unfold RV7 at this;rw [e8]at this;exact this, ?_⟩;rw [hab];simp only [valL,valK];refine iteI (fun h3 => ?_) (fun h3 => ?_)
   ·rw [if_pos h3];rintro x27 rfl;refine congrArg _ ?_;split <;> omega
   ·rw [if_neg h3];rintro x27 rfl;refine congrArg _ ?_;split <;> omega
theorem rObs{w:World}{v:Value}{l:List Sn}(h:SlAt w v 3 (l.flatMap snc))(hn:l.length < 4611686018427387904):Calls Tryz.prog 70 #[v] w (Vc.Ret (.bool (obsB l)) w):=by
 obtain⟨b0,p0,c0,e0,f0,g0⟩:=zpb h;have hno:=zsb f0;have F:¬ ObsP l→(Value.bool false)=.bool (obsB l):=fun hh=>zrb (Eq.symm (Bool.eq_false_iff.2 fun h=>hh ((zle l).1 h).1));rw [e0];refine zxc p0 (l.length:Nat) c0 b0 w _ ⟨fun L=>∃ (b:Bool) (i:Nat),L=[.b b,.i i]∧i≤l.length∧ObsP (l.take i),msO l.length,⟨false,0,rfl,Nat.zero_le _,by simp [ObsP]⟩, ?_⟩;rintro b1 x2 ⟨b,i,hy,hi,hO⟩;simp only [List.cons.injEq,Vl.i.injEq,Vl.b.injEq,and_true]at hy;obtain⟨rfl,rfl⟩:=hy;refine⟨by omega,hno,iteI (fun hlt => ?_) (fun hge => ?_)⟩
 ·have hk:l[i]? = some (l[i]'(by omega)):=List.getElem?_eq_getElem (by omega);generalize l[i]'(by omega)=z at hk;obtain⟨q0,q1,q2⟩:=g0 i z hk;have hnb:¬ b0=true:=fun hb=>by have:=f0 hb;omega
  have bad:¬ (nameB z.nm=true∧(0≤z.t∧z.t≤1073741824)∧(-1073741824≤z.v∧z.v≤1073741824))→(Value.bool false)=.bool (obsB l):=fun hh=>F fun hp=>hh (by
   have:=hp.1 z (List.mem_of_getElem? hk)
   simp only [snB,inB,Bool.and_eq_true,decide_eq_true_eq]at this;exact⟨this.1.1,this.1.2,this.2⟩)
  simp only [Int.toNat_natCast];refine⟨hnb,by omega,hlt,z.nm,q0,_,fun w' _=>ztp z.nm w',iteI (fun a1=>⟨hnb,by omega,hlt,z.t,q1,iteI (fun a2=>iteI (fun a3=>⟨hnb,by omega,hlt,z.v,q2,iteI (fun a4=>iteI (fun a5 => ?_) (fun a5=>bad fun hh=>a5 hh.2.2.2)) (fun a4=>bad fun hh=>a4 hh.2.2.1)⟩) (fun a3=>bad fun hh=>a3 hh.2.1.2)) (fun a2=>bad fun hh=>a2 hh.2.1.1)⟩) (fun a1=>bad fun hh=>a1 hh.1)⟩;refine⟨fun L=>∃ (b:Bool) (j:Nat),L=[.b b,.i j]∧j≤i∧∀ (k:Nat) (y:Sn),k < j→l[k]? = some y→y.nm=z.nm→y.t≤z.t,msO i,⟨_,0,rfl,Nat.zero_le _,fun k y hk=>absurd hk (Nat.not_lt_zero _)⟩, ?_⟩;rintro b3 x5 ⟨b,jj,hy,hj,hJ⟩;simp only [List.cons.injEq,Vl.i.injEq,Vl.b.injEq,and_true]at hy;obtain⟨rfl,rfl⟩:=hy;refine iteI (fun hjl => ?_) (fun hjg => ?_)
  ·have hkj:l[jj]? = some (l[jj]'(by omega)):=List.getElem?_eq_getElem (by omega);generalize l[jj]'(by omega)=y at hkj;obtain⟨u0,u1,u2⟩:=g0 jj y hkj;simp only [Int.toNat_natCast]
   have nxt:(y.nm=z.nm→y.t≤z.t)→∀ (k:Nat) (y':Sn),k < jj + 1→l[k]? = some y'→y'.nm=z.nm→y'.t≤z.t:=fun hh k y' hkk hy' hnm=>by
    by_cases hkl:k < jj
    ·exact hJ k y' hkl hy' hnm
    ·obtain rfl:k=jj:=by omega
     rw [hkj]at hy';obtain rfl:=Option.some.inj hy';exact hh hnm
   refine⟨hnb,by omega,by omega,y.nm,u0,hnb,by omega,hlt,z.nm,q0,iteI (fun e=>⟨hnb,by omega,by omega,y.t,u1,hnb,by omega,hlt,z.t,q1,iteI (fun e2 => ?_) (fun e2 => ?_)⟩) (fun e => ?_)⟩
   ·refine F fun hp => ?_
    have:=List.pairwise_iff_getElem.1 hp.2 jj i (by omega) (by omega) (by omega)
    rw [(List.getElem?_eq_some_iff.1 hkj).2,(List.getElem?_eq_some_iff.1 hk).2]at this
    have:=this e
    omega
   ·rintro x8 rfl;rw [zc (by omega)];exact⟨⟨_,jj + 1,rfl,by omega,nxt fun _=>by omega⟩,by simp only [msO];omega⟩
   ·rintro x6 rfl;rw [zc (by omega)];exact⟨⟨_,jj + 1,rfl,by omega,nxt fun hh=>absurd hh e⟩,by simp only [msO];omega⟩
  ·rintro x6 rfl;rw [zc (by omega)];obtain rfl:jj=i:=by omega
   refine⟨⟨_,jj + 1,rfl,by omega, ?_⟩,by simp only [msO];omega⟩;rw [List.take_add_one,hk];refine⟨fun x hx => ?_, ?_⟩
   ·rcases List.mem_append.1 hx with hx | hx
    ·exact hO.1 x hx
    ·simp only [Option.toList_some,List.mem_singleton]at hx;subst hx;simp only [snB,inB,Bool.and_eq_true,decide_eq_true_eq];exact⟨⟨a1,a2,a3⟩,a4,a5⟩
   ·rw [List.pairwise_append];refine⟨hO.2,by simp,fun x hx y hy hxy => ?_⟩;simp only [Option.toList_some,List.mem_singleton]at hy;subst hy;obtain⟨k,hkx⟩:=List.mem_iff_getElem?.1 hx
    have hkl:k < jj:=by
     have:=(List.getElem?_eq_some_iff.1 hkx).1
     rw [List.length_take]at this;omega
    rw [List.getElem?_take_of_lt hkl]at hkx;exact hJ k x hkl hkx hxy
 ·obtain rfl:i=l.length:=by omega
  rw [List.take_length]at hO;refine⟨by omega,hno,zrb ?_⟩;rw [Bool.eq_iff_iff,zle,decide_eq_true_eq];exact⟨fun hh=>⟨hO,by omega⟩,fun hh=>by omega⟩
theorem zwaa{w:World}{r:Rl}{v:Value}{l:List Sn}{now fresh:Int}(h:RlAt w r)(hsz:RlSz r)(hl:SlAt w v 3 (l.flatMap snc))(hn:l.length < 4611686018427387904):Calls Tryz.prog 30 #[RV7 r,v,.int .i64 now,.int .i64 fresh] w (Vc.Ret (.tuple #[.int .i64 (judgeI r l now fresh).1,.int .i64 (judgeI r l now fresh).2]) w):=by
 have h':=h;have hl':=hl;have hks:=zy h;obtain⟨b0,p0,c0,e0,f0,g0⟩:=zp hks.1;have hno:=zsb f0;have E:RV7 r=.agg #[.int .i64 r.op,.int .i64 r.ask,.string ⟨r.nm.toArray⟩,.int .i64 r.wi,.int .i64 r.cm,.int .i64 r.n,(if b0=true then .slice none 0 0 else .slice (some (Vc.qad p0 (Int.toNat ((r.ks.length:Nat):Int)) (Int.toNat c0))) (Int.toNat ((r.ks.length:Nat):Int)) (Int.toNat c0):Value)]:=by unfold RV7;rw [e0]
 rw [E];obtain⟨b1,p1,c1,e1,f1,g1⟩:=zpb hl;rw [e1];have J2:(validR r && obsB l)=false→(Value.tuple #[.int .i64 0,.int .i64 2])=.tuple #[.int .i64 (judgeI r l now fresh).1,.int .i64 (judgeI r l now fresh).2]:=fun hh=>by unfold judgeI;rw [if_pos hh]
 have J4:validR r=true→obsB l=true→¬ ((0≤now∧now≤1073741824)∧0≤fresh∧fresh≤1000)→(Value.tuple #[.int .i64 0,.int .i64 4])=.tuple #[.int .i64 (judgeI r l now fresh).1,.int .i64 (judgeI r l now fresh).2]:=fun h1 h2 hh=>by
  unfold judgeI;rw [h1,h2,if_neg (by decide),if_pos ?_];rw [Bool.eq_false_iff];intro h3;simp only [inB,Bool.and_eq_true,decide_eq_true_eq]at h3;exact hh ⟨h3.1,h3.2⟩
 refine zjg p0 p1 r.op r.ask r.wi r.cm r.n (r.ks.length:Nat) c0 (l.length:Nat) c1 now fresh b0 b1 r.nm w _ ⟨_,fun w' hb=>by rw [← E];exact zpaa (h'.below hb) hsz,iteI (fun hv=>⟨_,fun w' hb=>by rw [← e1];exact rObs (Vc.zab hb hl') hn,iteI (fun hob => ?_) (fun hob=>J2 (by rw [Bool.eq_false_iff.2 hob,Bool.and_false]))⟩) (fun hv=>J2 (by rw [Bool.eq_false_iff.2 hv,Bool.false_and]))⟩;refine iteI (fun a1=>iteI (fun a2=>iteI (fun a3=>iteI (fun a4=>⟨_,fun w' hb=>by rw [← E,← e1];exact zvaa hob ⟨a1,a2⟩ ⟨a3,a4⟩ _ (Nat.le_refl _) (zll hv) (h'.below hb) (Vc.zab hb hl'), ?_⟩) (fun a4=>J4 hv hob fun hh=>a4 hh.2.2)) (fun a3=>J4 hv hob fun hh=>a3 hh.2.1)) (fun a2=>J4 hv hob fun hh=>a2 hh.1.2)) (fun a1=>J4 hv hob fun hh=>a1 hh.1.1);unfold judgeI;rw [hv,hob,if_neg (by decide),if_neg (by simp [inB,a1,a2,a3,a4])]
end Go.Proofs.YtdjgnbkclcjiiaaGreatDoor
