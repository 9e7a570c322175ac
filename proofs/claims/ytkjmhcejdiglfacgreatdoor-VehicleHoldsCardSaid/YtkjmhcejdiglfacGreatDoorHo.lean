import Derived.Test.YtkjmhcejdiglfacGreatDoorGo
import Derived.Test.YtkjmhcejdiglfacGreatDoorTi
set_option linter.unusedVariables false
set_option linter.unusedSimpArgs false
set_option maxRecDepth 4000
namespace Go.Proofs.YtkjmhcejdiglfacGreatDoor
open Go Go.RowKit Vc Ul
attribute [local irreducible] Go.Calls
def btw(lo hi p:Int):Int:=lo + (hi - lo) / 65536 * p
theorem zcs{lo hi p:Int}(h1:lo≤hi)(p0:0≤p)(p1:p < 65536):lo≤btw lo hi p∧btw lo hi p≤hi∧0≤(hi - lo) / 65536 * p∧(hi - lo) / 65536 * p≤hi - lo:=by
 have h2:0≤(hi - lo) / 65536:=Int.ediv_nonneg (by omega) (by omega);have h3:0≤(hi - lo) / 65536 * p:=Int.mul_nonneg h2 p0;have h4:(hi - lo) / 65536 * p≤(hi - lo) / 65536 * 65536:=Int.mul_le_mul_of_nonneg_left (by omega) h2;unfold btw;omega
theorem zrp{lo hi p:Int}(w:World)(h0:0≤lo)(h1:lo≤hi)(h2:hi≤4611686018427387904)(p0:0≤p)(p1:p < 65536):Calls Tryz.prog 9 #[.agg #[.int .i64 lo,.int .i64 hi],.int .u16 p] w (Vc.Ret (.agg #[.int .i64 (btw lo hi p),.int .i64 (btw lo hi p)]) w):=by
 obtain⟨b1,b2,b3,b4⟩:=zcs h1 p0 p1;refine zne lo hi p w _ ?_;rintro x3 rfl x4 rfl x5 rfl x6 rfl x7 rfl;rw [zj (x:=hi - lo) (by omega),Int.tdiv_eq_ediv_of_nonneg (by omega),zj (x:=(hi - lo) / 65536) (by omega),zj (x:=p) (by omega),zj (x:=(hi - lo) / 65536 * p) (by omega),zj (by unfold btw at b2;omega)];rfl
theorem zxaa{n c:Int}(h0:0≤n)(h1:n≤4503599627370496)(c0:1≤c)(c1:c≤64):scale n n c=(n * c,n * c,0):=by
 have h2:=znd c0 c1 h0 h1;rw [Int.mul_comm c n]at h2;unfold scale;rw [if_pos (by simp only [ok,Bool.and_eq_true,decide_eq_true_eq];omega),Int.min_self,Int.max_self];unfold fit;rw [if_pos (by omega)]
theorem zlfa{x l:Int}(h0:0≤l)(h2:l≤4294967296)(ha:0≤x)(hb:x≤4611686018427387904):mul x x l l=(scd x l false,scd x l true,0):=by
 have h:=zsy h0 (Int.le_refl l) h2 ha (Int.le_refl x) hb;rw [← h];unfold mul;rw [Int.mul_comm l x,Bool.and_comm]
theorem zfv{n m l k:Int}(h0:0≤n)(h1:n≤m)(l0:0≤l)(l1:l≤k)(up:Bool):scd n l up≤scd m k up∧0≤scd n l up:=by
 have p1:n * l≤m * l:=Int.mul_le_mul_of_nonneg_right h1 l0;have p2:m * l≤m * k:=Int.mul_le_mul_of_nonneg_left l1 (by omega);have p3:0≤n * l:=Int.mul_nonneg h0 l0;unfold scd fl ce;split <;> omega
theorem zmfa{n l:Int}:scd n l false≤scd n l true:=by
 unfold scd fl ce;simp only [Bool.false_eq_true,if_false,if_true];omega
theorem zfo{lo hi l a b x:Int}(h0:0≤lo)(h1:lo≤l)(h2:l≤hi)(h3:hi≤4294967296)(ha:0≤a)(h4:a≤x)(h5:x≤b)(h6:b≤4611686018427387904):within (scd x l false) (scd x l true) (scd a lo false) (scd b hi true)=true:=by
 have m1:=zfv ha h4 h0 h1 false;have m2:=zfv (show 0≤x by omega) h5 (show 0≤l by omega) h2 true;have m3:=zmfa (n:=x) (l:=l)
 have m4:scd b hi true≤9223372036854775807:=by
  have p:b * hi≤b * 4294967296:=Int.mul_le_mul_of_nonneg_left h3 (by omega);unfold scd ce;simp only [if_true];omega
 simp only [within,ok,Bool.and_eq_true,decide_eq_true_eq];omega
theorem ziw{a b x c d q:Int}(ha:0≤a)(h1:a≤x)(h2:x≤b)(hb:b≤4503599627370496)(hc:1≤c)(h3:c≤q)(h4:q≤d)(hd:d≤4611686018427387904)(hg:(div a b c d).2.2=0)(hr:(div x x q q).2.2=0) :
  within (div x x q q).1 (div x x q q).2.1 (div a b c d).1 (div a b c d).2.1=true:=by
 rw [zcv ha (by omega) hb hc (by omega) hd]at hg ⊢;rw [zcv (by omega) (Int.le_refl x) (by omega) (by omega) (Int.le_refl q) (by omega)]at hr ⊢;by_cases g1:rdn a d≤9223372036854775807∧rup b c≤9223372036854775807
 ·by_cases g2:rdn x q≤9223372036854775807∧rup x q≤9223372036854775807
  ·rw [if_pos g1,if_pos g2];have m1:=zji ha h1 (show 1≤q by omega) h4;have m2:=zki (show 0≤x by omega) h2 hc h3;have m3:=zvy x q (by omega);simp only [within,ok,Bool.and_eq_true,decide_eq_true_eq];omega
  ·rw [if_neg g2]at hr;simp at hr
 ·rw [if_neg g1]at hg;simp at hg
theorem zxy{f g:En→Int}{v:Vh}{n lo hi:Int}(h:(pAt f g v n lo hi).2.2=0)(hb:0≤n∧n≤(v.ss.length:Int) - 1){s:Stg}(hs:v.ss[n.toNat]? = some s):(pCheck v).2.2=0∧(0≤lo∧lo≤hi∧hi≤4294967296)∧pAt f g v n lo hi=mul lo hi (sumE f s.es) (sumE g s.es):=by
 unfold pAt at h ⊢;by_cases h1:(pCheck v).2.2≠0
 ·rw [if_pos h1]at h;simp at h
 rw [if_neg h1,if_neg (by omega),hs]at h ⊢;simp only at h ⊢;by_cases h3:lo < 0∨hi < lo∨4294967296 < hi
 ·rw [if_pos h3]at h;simp at h
 rw [if_neg h3]at h ⊢;by_cases h4:0 < hi∧s.es.any (fun e=>decide (lo < e.le))=true
 ·rw [if_pos h4]at h;simp at h
 rw [if_neg h4];exact⟨by omega,by omega,rfl⟩
theorem zrda{v:Vh}{n:Int}(hv:(pCheck v).2.2=0)(hb:0≤n∧n≤(v.ss.length:Int) - 1){s:Stg}(hs:v.ss[n.toNat]? = some s)(h1:s.es.length=1):pBurn v n=div s.pl s.ph (sumE (·.fl) s.es) (sumE (·.fh) s.es):=zjfa hv hb hs (by omega)
theorem wf16{n:Int}(h:(Lit.int .u16 n).wf=true):0≤n∧n < 65536:=by
 simp [Lit.wf,IntKind.min,IntKind.max,IntKind.signed,IntKind.bits]at h;omega
def msH(n:Nat)(L:List Vl):Nat:=match L with
 | [_,.i k]=>n - k.toNat
 | _=>0
set_option maxHeartbeats 1000000 in
theorem zoj{w:World}{v:Vh}(hz:VhSz v)(h:VhAt w v)(hG:VGs w)(lo hi pt pf pp pl:Int)(h1:0≤pt∧pt < 65536)(h2:0≤pf∧pf < 65536)(h3:0≤pp∧pp < 65536)(h4:0≤pl∧pl < 65536) :
  Calls Tryz.prog 3 #[VHV v,.agg #[.int .i64 lo,.int .i64 hi],.agg #[.int .u16 pt,.int .u16 pf,.int .u16 pp,.int .u16 pl]] w (Vc.Ret (.bool true) w):=by
 have h':=h;obtain⟨b0,p0,c0,e0,f0,g0⟩:=zed h.st;obtain⟨b1,p1,c1,e1,f1,g1⟩:=zic h.dr;have hno:=zob f0;have hsn:=hz.sn;have E:VHV v=.agg #[.string ⟨v.nm.toArray⟩,(if b0=true then .slice none 0 0 else .slice (some (Vc.qad p0 (Int.toNat ((v.ss.length:Nat):Int)) (Int.toNat c0))) (Int.toNat ((v.ss.length:Nat):Int)) (Int.toNat c0):Value),.int .i64 v.yl,.int .i64 v.yh,(if b1=true then .slice none 0 0 else .slice (some (Vc.qad p1 (Int.toNat ((v.dr.length:Nat):Int)) (Int.toNat c1))) (Int.toNat ((v.dr.length:Nat):Int)) (Int.toNat c1):Value),.int .i64 v.ax,.int .i64 v.be]:=by unfold VHV;rw [e0,e1]
 rw [E];have T:∃ (b:Bool),(Vq w 5 #[] (.bool b))∧(Value.bool b)=.bool true:=⟨true,fun w' hb=>zdy w' (hG.keep hb),rfl⟩;refine ztc p0 p1 (v.ss.length:Nat) c0 v.yl v.yh (v.dr.length:Nat) c1 v.ax v.be lo hi pt pf pp pl b0 b1 v.nm w _ ⟨pGreat v,fun w' hb=>by rw [← E];exact zwy (h'.below hb) hz,iteI (fun _=>T) (fun _ => ?_)⟩;refine⟨fun L=>(∃ (b:Bool) (k:Nat),L=[.b b,.i k]∧k≤v.ss.length),msH v.ss.length,⟨false,0,rfl,Nat.zero_le _⟩, ?_⟩;rintro b3 x14 ⟨b,n,hy,hn0⟩;simp only [List.cons.injEq,Vl.i.injEq,Vl.b.injEq,and_true]at hy;obtain⟨rfl,rfl⟩:=hy;refine⟨by omega,hno,iteI (fun hlt => ?_) (fun hge=>T)⟩;have hn:n < v.ss.length:=by omega
 have hs:v.ss[n]? = some v.ss[n]:=List.getElem?_eq_getElem hn;have hm:v.ss[n]∈v.ss:=List.getElem_mem hn;generalize v.ss[n]=s at hs hm;obtain⟨k0,k1,k2,k3,k4,k5⟩:=g0 n s hs;have hes:=h.es s hm;obtain⟨b2,p2,c2,e2,f2,g2⟩:=zfd hes;have hno2:=zob f2;have hnil:¬ b0=true:=fun hb=>by have:=f0 hb;omega
 have hs':v.ss[((n:Nat):Int).toNat]? = some s:=hs
 have next:∀ x63:Int,x63=IntKind.i64.wrap (((n:Nat):Int) + 1)→(∃ (b:Bool) (k:Nat),([.b b3,.i x63]:List Vl)=[.b b,.i k]∧k≤v.ss.length)∧msH v.ss.length [.b b3,.i x63] < msH v.ss.length [.b b3,.i (n:Nat)]:=by
  rintro x63 rfl;rw [zj (by omega)];exact⟨⟨b3,n + 1,rfl,by omega⟩,by simp only [msH];omega⟩
 refine⟨_,_,_,fun w' hb=>by rw [← E];exact zqda (hG.keep hb) (h'.below hb) hz n lo hi,_,_,_,fun w' hb=>by rw [← E];exact ziga (hG.keep hb) (h'.below hb) hz n lo hi,_,_,_,fun w' hb=>by rw [← E];exact zjga (hG.keep hb) (h'.below hb) hz n, ?_⟩;refine iteI (fun z1 => ?_) (fun _=>next);obtain⟨hv,hl,m1⟩:=zxy z1 (by omega) hs';refine iteI (fun z2 => ?_) (fun _=>next);obtain⟨_,_,m2⟩:=zxy z2 (by omega) hs';refine iteI (fun z3 => ?_) (fun _=>next);simp only [Int.toNat_natCast];refine⟨hnil,by omega,by omega,b2,p2,(s.es.length:Nat),c2,by rw [k5,e2],by omega,hno2,iteI (fun ho => ?_) (fun _=>next)⟩;have ho':s.es.length=1:=by omega
 have m3:=zrda hv (by omega) hs' ho';have okv:=ztaa (decide_eq_true hv);have hr:=(okv.stg hm).2;have hpr:0≤s.pl∧s.pl≤s.ph∧s.ph≤4503599627370496:=by have:=(okv.stg hm).1;rw [Bool.and_eq_true]at this;exact zxba this.2
 obtain⟨e,he⟩:∃ e,s.es=[e]:=List.length_eq_one_iff.1 ho';have hre:=zme (hr e (by rw [he];simp));obtain⟨q0,q1,q2,q3,q4,q5,q6,q7,q8,q9,q10⟩:=g2 0 e (by rw [he];rfl);have hs1:∀ f:En→Int,sumE f s.es=e.n * f e:=fun f=>by rw [he];simp [sumE]
 rw [hs1,hs1]at m1 m2 m3;obtain⟨t1,t2,_⟩:=zcs (lo:=e.tl) (hi:=e.th) (p:=pt) (by omega) h1.1 h1.2;obtain⟨u1,u2,_⟩:=zcs (lo:=e.fl) (hi:=e.fh) (p:=pf) (by omega) h2.1 h2.2;obtain⟨v1,v2,_⟩:=zcs (lo:=s.pl) (hi:=s.ph) (p:=pp) (by omega) h3.1 h3.2;obtain⟨l1,l2,_⟩:=zcs (lo:=lo) (hi:=hi) (p:=pl) (by omega) h4.1 h4.2;have mm:∀ {a b:Int},a≤b→e.n * a≤e.n * b:=fun hab=>Int.mul_le_mul_of_nonneg_left hab (by omega);have a1:=znd (n:=e.n) (x:=e.tl) (by omega) (by omega) (by omega) (by omega);have a2:=znd (n:=e.n) (x:=e.th) (by omega) (by omega) (by omega) (by omega);have a3:=znd (n:=e.n) (x:=e.fl) (by omega) (by omega) (by omega) (by omega);have a4:=znd (n:=e.n) (x:=e.fh) (by omega) (by omega) (by omega) (by omega);have a5:e.n * 1≤e.n * e.fl:=mm (by omega);have i1:=mm t1;have i2:=mm t2;have i3:=mm u1;have i4:=mm u2;rw [zsy (by omega) (by omega) (by omega) (by omega) (by omega) (by omega)]at m1 m2;have sc1:=fun w'=>zao (btw e.tl e.th pt) (btw e.tl e.th pt) e.n w' ⟨by omega,by omega⟩ ⟨by omega,by omega⟩ ⟨by omega,by omega⟩;have sc2:=fun w'=>zao (btw e.fl e.fh pf) (btw e.fl e.fh pf) e.n w' ⟨by omega,by omega⟩ ⟨by omega,by omega⟩ ⟨by omega,by omega⟩;rw [zxaa (by omega) (by omega) (by omega) (by omega)]at sc1 sc2;rw [Int.mul_comm]at sc1 sc2;have mu1:=fun w'=>zkk (e.n * btw e.tl e.th pt) (e.n * btw e.tl e.th pt) (btw lo hi pl) (btw lo hi pl) w' ⟨by omega,by omega⟩ ⟨by omega,by omega⟩ ⟨by omega,by omega⟩ ⟨by omega,by omega⟩;have mu2:=fun w'=>zkk (e.n * btw e.fl e.fh pf) (e.n * btw e.fl e.fh pf) (btw lo hi pl) (btw lo hi pl) w' ⟨by omega,by omega⟩ ⟨by omega,by omega⟩ ⟨by omega,by omega⟩ ⟨by omega,by omega⟩;rw [zlfa (by omega) (by omega) (by omega) (by omega)]at mu1 mu2;have di:=fun w'=>znp (btw s.pl s.ph pp) (btw s.pl s.ph pp) (e.n * btw e.fl e.fh pf) (e.n * btw e.fl e.fh pf) w' ⟨by omega,by omega⟩ ⟨by omega,by omega⟩ ⟨by omega,by omega⟩ ⟨by omega,by omega⟩;refine⟨hnil,by omega,by omega,b2,p2,(s.es.length:Nat),c2,by rw [k5,e2],fun hb=>by have:=f2 hb;omega,by omega,e.nm,q0,e.n,q1,e.tl,q2,e.th,q3,e.fl,q4,e.fh,q5,e.le,q6,e.sl,q7,e.sh,q8,e.pl,q9,e.ph,q10, ?_⟩
 refine⟨_,_,fun w' _=>zrp w' (by omega) (by omega) (by omega) h4.1 h4.2,_,_,fun w' _=>zrp w' (by omega) (by omega) (by omega) h1.1 h1.2,_,_,_,fun w' _=>sc1 w',_,_,fun w' _=>zrp w' (by omega) (by omega) (by omega) h2.1 h2.2,_,_,_,fun w' _=>sc2 w',
  _,_,_,fun w' _=>mu1 w',_,_,_,fun w' _=>mu2 w',hnil,by omega,by omega,s.pl,k3,s.ph,k4,_,_,fun w' _=>zrp w' (by omega) (by omega) (by omega) h3.1 h3.2,_,_,_,fun w' _=>di w', ?_⟩
 refine iteI (fun _ => ?_) (fun hc=>absurd rfl hc);refine⟨_,fun w' _=>zdj _ _ _ _ w',iteI (fun _=>iteI (fun _ => ?_) (fun hc=>absurd rfl hc)) (fun hc=>absurd (by rw [m1];exact zfo (by omega) l1 l2 (by omega) (by omega) i1 i2 (by omega)) hc)⟩;refine⟨_,fun w' _=>zdj _ _ _ _ w',iteI (fun _=>iteI (fun z4 => ?_) (fun _=>next)) (fun hc=>absurd (by rw [m2];exact zfo (by omega) l1 l2 (by omega) (by omega) i3 i4 (by omega)) hc)⟩;refine⟨_,fun w' _=>zdj _ _ _ _ w',iteI (fun _=>next) (fun hc=>absurd (by rw [m3]at z3 ⊢;exact ziw hpr.1 v1 v2 hpr.2.2 (by omega) i3 i4 (by omega) z3 z4) hc)⟩
end Go.Proofs.YtkjmhcejdiglfacGreatDoor
