import Derived.Test.YtkbchjlnhgfpmaaGreatDoorGv
import Derived.Test.YtkbchjlnhgfpmaaGreatDoorCp
set_option linter.unusedVariables false
set_option linter.unusedSimpArgs false
set_option maxRecDepth 4000
namespace Go.Proofs.YtkbchjlnhgfpmaaGreatDoor
open Go Go.RowKit Vc
attribute [local irreducible] Go.Calls
theorem BB(lo hi least:Int)(w:World):Calls Tryz.prog 115 #[.agg #[.int .i64 lo,.int .i64 hi],.int .i64 least] w (Vc.aI (.bool (jl lo hi least)) w):=by
 refine Yi lo hi least w _ ?_;refine ae (λh=>ae (λh2 => ?_) (λh2 => ?_)) (λh => ?_)
 all_goals simp [jl,h, *]
theorem rO{w:World}{v:Value}{l:List Pt}(h:e_ w v 3 (l.flatMap yG)):∃(b0:Bool) (p0:Nat × Nat) (x1:Int),v=(if b0=true then .slice none 0 0 else .slice (some (Vc.iK p0 (Int.toNat (l.length:Int)) x1.toNat)) (Int.toNat (l.length:Int)) x1.toNat)/\(b0=true->l.length=0) /\
  (∀(i:Nat) (z:Pt),l[i]? = some z->w.cell? ⟨p0.1,p0.2+i*3+0,none⟩=some (.int .i64 z.a)/\w.cell? ⟨p0.1,p0.2+i*3+1,none⟩=some (.int .i64 z.lo)/\w.cell? ⟨p0.1,p0.2+i*3+2,none⟩=some (.int .i64 z.hi)):=by
 obtain⟨b0,p0,x1,h1,h2,h3⟩:=G9 h (by decide) (vQ Hz l);refine⟨b0,p0,x1,h1,h2,λi p hp => ?_⟩;simp only [Nat.add_assoc];exact⟨h3 (i*3+0) _ (zm Hz hp (by decide)),h3 (i*3+1) _ (zm Hz hp (by decide)),h3 (i*3+2) _ (zm Hz hp (by decide))⟩
theorem rP{w:World}{v:Value}{l:List f_}(h:e_ w v 6 (l.flatMap Bz)):∃(b0:Bool) (p0:Nat × Nat) (x1:Int),v=(if b0=true then .slice none 0 0 else .slice (some (Vc.iK p0 (Int.toNat (l.length:Int)) x1.toNat)) (Int.toNat (l.length:Int)) x1.toNat)/\(b0=true->l.length=0) /\
  (∀(i:Nat) (z:f_),l[i]? = some z->w.cell? ⟨p0.1,p0.2+i*6+0,none⟩=some (.string ⟨z.nm.toArray⟩)/\w.cell? ⟨p0.1,p0.2+i*6+1,none⟩=some (.int .i64 z.dl)/\w.cell? ⟨p0.1,p0.2+i*6+2,none⟩=some (.int .i64 z.dh) /\
   w.cell? ⟨p0.1,p0.2+i*6+3,none⟩=some (.int .i64 z.pl)/\w.cell? ⟨p0.1,p0.2+i*6+4,none⟩=some (.int .i64 z.ph)/\w.cell? ⟨p0.1,p0.2+i*6+5,none⟩=some z.v):=by
 obtain⟨b0,p0,x1,h1,h2,h3⟩:=G9 h (by decide) (vQ BA l);refine⟨b0,p0,x1,h1,h2,λi p hp => ?_⟩;simp only [Nat.add_assoc];exact⟨h3 (i*6+0) _ (zm BA hp (by decide)),h3 (i*6+1) _ (zm BA hp (by decide)),h3 (i*6+2) _ (zm BA hp (by decide)),h3 (i*6+3) _ (zm BA hp (by decide)),h3 (i*6+4) _ (zm BA hp (by decide)),h3 (i*6+5) _ (zm BA hp (by decide))⟩
theorem tD{w:World}{v:Value}{l:List En}(h:e_ w v 11 (l.flatMap enc)):∃(b0:Bool) (p0:Nat × Nat) (x1:Int),v=(if b0=true then .slice none 0 0 else .slice (some (Vc.iK p0 (Int.toNat (l.length:Int)) x1.toNat)) (Int.toNat (l.length:Int)) x1.toNat)/\(b0=true->l.length=0) /\
  (∀(i:Nat) (z:En),l[i]? = some z->w.cell? ⟨p0.1,p0.2+i*11+0,none⟩=some (.string ⟨z.nm.toArray⟩)/\w.cell? ⟨p0.1,p0.2+i*11+1,none⟩=some (.int .i64 z.n)/\w.cell? ⟨p0.1,p0.2+i*11+2,none⟩=some (.int .i64 z.tl) /\
   w.cell? ⟨p0.1,p0.2+i*11+3,none⟩=some (.int .i64 z.th)/\w.cell? ⟨p0.1,p0.2+i*11+4,none⟩=some (.int .i64 z.fl)/\w.cell? ⟨p0.1,p0.2+i*11+5,none⟩=some (.int .i64 z.fh)/\w.cell? ⟨p0.1,p0.2+i*11+6,none⟩=some (.int .i64 z.le) /\
   w.cell? ⟨p0.1,p0.2+i*11+7,none⟩=some (.int .i64 z.sl)/\w.cell? ⟨p0.1,p0.2+i*11+8,none⟩=some (.int .i64 z.sh)/\w.cell? ⟨p0.1,p0.2+i*11+9,none⟩=some (.int .i64 z.pl)/\w.cell? ⟨p0.1,p0.2+i*11+10,none⟩=some (.int .i64 z.ph)):=by
 obtain⟨b0,p0,x1,h1,h2,h3⟩:=G9 h (by decide) (vQ vw l);refine⟨b0,p0,x1,h1,h2,λi p hp => ?_⟩;simp only [Nat.add_assoc]
 exact⟨h3 (i*11+0) _ (zm vw hp (by decide)),h3 (i*11+1) _ (zm vw hp (by decide)),h3 (i*11+2) _ (zm vw hp (by decide)),h3 (i*11+3) _ (zm vw hp (by decide)),h3 (i*11+4) _ (zm vw hp (by decide)),h3 (i*11+5) _ (zm vw hp (by decide)),
  h3 (i*11+6) _ (zm vw hp (by decide)),h3 (i*11+7) _ (zm vw hp (by decide)),h3 (i*11+8) _ (zm vw hp (by decide)),h3 (i*11+9) _ (zm vw hp (by decide)),h3 (i*11+10) _ (zm vw hp (by decide))⟩
theorem zu{b:Bool}{n:Nat}(h:b=true->n=0):(¬b=true)\/((n:Int)=0):=by
 by_cases hb:b=true
 ·exact .inr (by rw [h hb];rfl)
 ·exact .inl hb
def HA(l:List Pt)(L:List Vl):Prop:=∃(b:Bool) (last:Int) (i:Nat),L=[.b b,.i last,.i i]/\i<=l.length/\kI last (l.drop i)=kI (-1) l
def HB(n:Nat)(L:List Vl):Nat:=match L with
 | [_,_,.i i]=>n-i.toNat
 |_=>0
theorem Qz{w:World}{v:Value}{l:List Pt}(h:e_ w v 3 (l.flatMap yG))(hn:l.length<4611686018427387904):Calls Tryz.prog 116 #[v] w (Vc.aI (.bool (jM l)) w):=by
 obtain⟨b0,p0,x1,rfl,h2,h3⟩:=rO h;have gR:=zu h2;refine Yj p0 (l.length:Nat) x1 b0 w _ ⟨by omega,gR,HA l,HB l.length,⟨false,-1,0,rfl,by omega,rfl⟩, ?_⟩;rintro b1 x2 x3 ⟨b,last,i,hy,hi,ht⟩;simp only [List.cons.injEq,Vl.b.injEq,Vl.i.injEq,and_true]at hy;obtain⟨rfl,rfl,rfl⟩:=hy;refine ae (λct => ?_) (λkq => ?_)
 ·have od:i<l.length:=by omega
  have hg:l[i]? = some l[i]:=List.getElem?_eq_getElem od;rw [List.drop_eq_getElem_cons od]at ht;generalize l[i]=p at hg ht;obtain⟨c1,c2,c3⟩:=h3 i p hg;refine⟨λhb=>by have:=h2 hb;omega,by omega,by omega,p.a, ?_,p.lo, ?_,p.hi, ?_, ?_⟩
  ·simp only [Int.toNat_natCast];exact c1
  ·simp only [Int.toNat_natCast];exact c2
  ·simp only [Int.toNat_natCast];exact c3
  have bad:(decide (x2<p.a) && decide (p.a<=4503599627370496) && jl p.lo p.hi 0)=false->(Value.bool false)=.bool (jM l):=λhb=>by
   rw [kI,hb,Bool.false_and]at ht;rw [jM,<-ht,Bool.false_and]
  refine ae (λh=>bad (by simp;omega)) (λh=>ae (λh'=>bad (by simp;omega)) (λh'=>⟨_,λw' _=>BB _ _ _ w',ae (λhb => ?_) (λhb=>bad (by simp [hb]))⟩));rintro x7 rfl;rw [zb (by omega)];refine⟨⟨b1,p.a,i+1,rfl,by omega, ?_⟩,by simp only [HB];omega⟩;rw [<-ht,kI,hb,decide_eq_true (by omega),decide_eq_true (by omega)];simp
 ·have y_:i=l.length:=by omega
  rw [y_,List.drop_length,kI]at ht;refine⟨by omega,gR,ae (λh => ?_) (λh => ?_)⟩
  ·refine nV ?_;rw [jM,<-ht,Bool.true_and,Bool.eq_iff_iff];simp only [decide_eq_true_eq,Bool.and_eq_true];omega
  ·refine nV ?_;rw [jM,<-ht,Bool.true_and,Bool.eq_iff_iff];simp only [decide_eq_true_eq,Bool.and_eq_true,Bool.false_eq_true,false_iff];omega
def Dk(pe:List (List UInt8))(es:List En)(L:List Vl):Prop:=∃(a:Int) (k:Nat),L=[.i a,.i k,.l ((pe++(es.take k).map (·.nm)).flatMap kH)]/\k<=es.length/\∀t,t<k->lR pe es t=0
def JZ(n:Nat)(L:List Vl):Nat:=match L with
 | [_,.i k,_]=>n-k.toNat
 |_=>0
theorem VX{es:List En}{k:Nat}{e:En}(h:es[k]? = some e):(es.take (k+1)).map (·.nm)=(es.take k).map (·.nm) ++ [e.nm]:=by
 rw [List.take_add_one,h];simp
theorem HC{pe:List (List UInt8)}{es:List En}{k:Nat}{e:En}(h:es[k]? = some e):lR pe es k=gZ (pe++(es.take k).map (·.nm)) e:=by unfold lR;rw [h]
theorem t3{w:World}{v:Value}{i:Nat}{pe:List (List UInt8)}{es:List En}{k:Nat}{e:En}{a:Int}{l3:List OV}(qC:l3.map (·.1)=(pe++(es.take k).map (·.nm)).flatMap kH)(he:es[k]? = some e)(hn:fD e.nm=true)
  (hp:e.nm ∉ pe++(es.take k).map (·.nm)) (hb:es.length<4611686018427387904) (hG:∀t,t<k->lR pe es t=0) (hv:gZ (pe++(es.take k).map (·.nm)) e≠0->CV (1,(i:Int),gZ (pe++(es.take k).map (·.nm)) e)=v) :
  cW e.n w e.tl e.th e.fl e.fh e.le (i:Nat) v e.sl e.sh e.pl e.ph l3 e.nm (k:Nat) (Dk pe es) a (JZ es.length):=by
 have hk:k<es.length:=(List.getElem?_eq_some_iff.1 he).1;have hF:gZ (pe++(es.take k).map (·.nm)) e=if jg e=false then 4 else 0:=by unfold gZ;rw [if_neg (by rw [hn];simp),if_neg hp]
 have bad:jg e=false->CV (1,(i:Int),4)=v:=λhr=>by
  rw [hF,if_pos hr]at hv;exact hv (by decide)
 unfold cW
 refine ae (λh1=>ae (λh2=>⟨_,λw' _=>BB _ _ _ w',ae (λh3=>⟨_,λw' _=>BB _ _ _ w',ae (λh4=>ae (λh5=>bad (by simp [jg,Int.not_le.2 h5])) (λh5=>ae (λh6=>bad (by simp [jg,Int.not_le.2 h6])) (λh6 =>
  ⟨_,λw' _=>BB _ _ _ w',ae (λh7=>⟨_,λw' _=>BB _ _ _ w',ae (λh8 => ?_) (λh8=>bad (by simp [jg,h8]))⟩) (λh7=>bad (by simp [jg,h7]))⟩))) (λh4=>bad (by simp [jg,h4]))⟩) (λh3=>bad (by simp [jg,h3]))⟩) (λh2=>bad (by simp [jg,h2]))) (λh1=>bad (by simp [jg,h1]))
 ·have hr:jg e=true:=by simp [jg,h1,h2,h3,h4,h7,h8];omega
  rw [qC,List.append_nil];refine⟨Ak _, ?_⟩;rintro dR rfl;refine ae (λh=>(hp (Dj.1 h)).elim) (λ_ => ?_);rintro fC rfl;rw [zb (by omega)];refine⟨⟨a,k+1, ?_,by omega,λt ht => ?_⟩,by simp only [JZ];omega⟩
  ·simp only [VX he,List.flatMap_append,List.append_assoc];rfl
  ·rcases Nat.lt_succ_iff_lt_or_eq.1 ht with ht|rfl
   ·exact hG t ht
   ·rw [HC he,hF,if_neg (by rw [hr];simp)]
theorem t2{w:World}{v:Value}{i:Nat}{pe:List (List UInt8)}{es:List En}{k:Nat}{a:Int}{l3:List OV}{b3:Bool}{p2:Nat × Nat}(QA:oN w)(qC:l3.map (·.1)=(pe++(es.take k).map (·.nm)).flatMap kH)(hk:k<es.length)(hb:es.length<4611686018427387904)
  (i_:∀e∈es,e.nm.length<4611686018427387904) (h2:b3=true->es.length=0)
  (h3:∀(i:Nat) (z:En),es[i]? = some z->w.cell? ⟨p2.1,p2.2+i*11+0,none⟩=some (.string ⟨z.nm.toArray⟩)/\w.cell? ⟨p2.1,p2.2+i*11+1,none⟩=some (.int .i64 z.n)/\w.cell? ⟨p2.1,p2.2+i*11+2,none⟩=some (.int .i64 z.tl) /\
   w.cell? ⟨p2.1,p2.2+i*11+3,none⟩=some (.int .i64 z.th)/\w.cell? ⟨p2.1,p2.2+i*11+4,none⟩=some (.int .i64 z.fl)/\w.cell? ⟨p2.1,p2.2+i*11+5,none⟩=some (.int .i64 z.fh)/\w.cell? ⟨p2.1,p2.2+i*11+6,none⟩=some (.int .i64 z.le) /\
   w.cell? ⟨p2.1,p2.2+i*11+7,none⟩=some (.int .i64 z.sl)/\w.cell? ⟨p2.1,p2.2+i*11+8,none⟩=some (.int .i64 z.sh)/\w.cell? ⟨p2.1,p2.2+i*11+9,none⟩=some (.int .i64 z.pl)/\w.cell? ⟨p2.1,p2.2+i*11+10,none⟩=some (.int .i64 z.ph))
  (hG:∀t,t<k->lR pe es t=0) (hv:∀e,es[k]? = some e->gZ (pe++(es.take k).map (·.nm)) e≠0->CV (1,(i:Int),gZ (pe++(es.take k).map (·.nm)) e)=v) :
  cX b3 (k:Nat) (es.length:Nat) w p2 l3 (i:Nat) v (Dk pe es) a (JZ es.length):=by
 have he:es[k]? = some es[k]:=List.getElem?_eq_getElem hk;have hm:es[k]∈es:=List.getElem_mem hk;generalize es[k]=e at he hm;obtain⟨c0,c1,c2,c3,c4,c5,c6,c7,c8,c9,VY⟩:=h3 k e he;have o8:=hv e he;unfold cX;simp only [Int.toNat_natCast];refine⟨λhb=>by have:=h2 hb;omega,by omega,by omega,e.nm,c0,e.n,c1,e.tl,c2,e.th,c3,e.fl,c4,e.fh,c5,e.le,c6,e.sl,c7,e.sh,c8,e.pl,c9,e.ph,VY,_,λw' gy=>P5 e.nm (QA.eK gy) (i_ e hm),ae (λhn => ?_) (λhn => ?_)⟩
 ·rw [qC,List.append_nil];refine⟨Ak _, ?_⟩;rintro ep rfl;refine ae (λhf => ?_) (λhf=>t3 qC he hn (λhm=>hf (Dj.2 hm)) hb hG o8);have hm:=Dj.1 hf;refine⟨true,VO hm,ae (λ_ => ?_) (λh=>(h rfl).elim)⟩;have hF:gZ (pe++(es.take k).map (·.nm)) e=8:=by unfold gZ;rw [if_neg (by rw [hn];simp),if_pos hm]
  rw [hF]at o8;exact o8 (by decide)
 ·have hF:gZ (pe++(es.take k).map (·.nm)) e=2:=by unfold gZ;rw [if_pos (by simpa using hn)]
  rw [hF]at o8;exact o8 (by decide)
def HD(ss:List f_)(L:List Vl):Prop:=∃(a b c:Int) (i:Nat),L=[.i a,.i b,.i c,.i i,.l ((cR (ss.take i)).flatMap kH),.l ((bN (ss.take i)).flatMap kH)]/\i<=ss.length/\∀t,t<i->lS ss t=0
def QB(n:Nat)(L:List Vl):Nat:=match L with
 | [_,_,_,.i i,_,_]=>n-i.toNat
 |_=>0
theorem t1{w:World}{v:Value}{i:Nat}{ss:List f_}{s:f_}{b3:Bool}{p2:Nat × Nat}{l0 l1:List OV}{x8 x9 az:Int}(QA:oN w)(hs:ss[i]? = some s)(gx:l0.map (·.1)=(cR (ss.take i)).flatMap kH)(oC:l1.map (·.1)=(bN (ss.take i)).flatMap kH)
  (mY:ss.length<4611686018427387904) (hb:s.es.length<4611686018427387904) (i_:∀e∈s.es,e.nm.length<4611686018427387904) (h2:b3=true->s.es.length=0)
  (h3:∀(i:Nat) (z:En),s.es[i]? = some z->w.cell? ⟨p2.1,p2.2+i*11+0,none⟩=some (.string ⟨z.nm.toArray⟩)/\w.cell? ⟨p2.1,p2.2+i*11+1,none⟩=some (.int .i64 z.n)/\w.cell? ⟨p2.1,p2.2+i*11+2,none⟩=some (.int .i64 z.tl) /\
   w.cell? ⟨p2.1,p2.2+i*11+3,none⟩=some (.int .i64 z.th)/\w.cell? ⟨p2.1,p2.2+i*11+4,none⟩=some (.int .i64 z.fl)/\w.cell? ⟨p2.1,p2.2+i*11+5,none⟩=some (.int .i64 z.fh)/\w.cell? ⟨p2.1,p2.2+i*11+6,none⟩=some (.int .i64 z.le) /\
   w.cell? ⟨p2.1,p2.2+i*11+7,none⟩=some (.int .i64 z.sl)/\w.cell? ⟨p2.1,p2.2+i*11+8,none⟩=some (.int .i64 z.sh)/\w.cell? ⟨p2.1,p2.2+i*11+9,none⟩=some (.int .i64 z.pl)/\w.cell? ⟨p2.1,p2.2+i*11+10,none⟩=some (.int .i64 z.ph))
  (hn:fD s.nm=true) (hp:s.nm ∉ cR (ss.take i)) (hG:∀t,t<i->lS ss t=0)
  (hv:iI (cR (ss.take i)) (bN (ss.take i)) s≠0->CV (1,(i:Int),iI (cR (ss.take i)) (bN (ss.take i)) s)=v) :
  cY w s.dl s.dh s.pl s.ph (s.es.length:Nat) b3 (i:Nat) v l0 s.nm l1 p2 (HD ss) x8 x9 az (QB ss.length):=by
 have hi:i<ss.length:=(List.getElem?_eq_some_iff.1 hs).1;have gR:=zu h2
 have hF:iI (cR (ss.take i)) (bN (ss.take i)) s=if (jl s.dl s.dh 1 && jl s.pl s.ph 0)=false then 4 else if 16<s.es.length then 3 else ku (bN (ss.take i)) s.es:=by
  unfold iI;rw [if_neg (by rw [hn];simp),if_neg hp]
 have bad:(jl s.dl s.dh 1 && jl s.pl s.ph 0)=false->CV (1,(i:Int),4)=v:=λhr=>by
  rw [hF,if_pos hr]at hv;exact hv (by decide)
 unfold cY;refine⟨_,λw' _=>BB _ _ _ w',ae (λg1=>⟨_,λw' _=>BB _ _ _ w',ae (λg2=>⟨by omega,gR,ae (λg3 => ?_) (λg3 => ?_)⟩) (λg2=>bad (by simp [g2]))⟩) (λg1=>bad (by simp [g1]))⟩
 ·rw [hF,if_neg (by simp [g1,g2]),if_pos (by omega)]at hv;exact hv (by decide)
 rw [if_neg (by simp [g1,g2]),if_neg (by omega)]at hF;rw [hF]at hv;rw [gx,List.append_nil];refine⟨Ak _, ?_⟩;rintro bc rfl;refine ae (λh=>(hp (Dj.1 h)).elim) (λ_ => ?_);refine⟨by omega,gR,Dk (bN (ss.take i)) s.es,JZ s.es.length,⟨0,0, ?_,Nat.zero_le _,λt ht=>by omega⟩, ?_⟩
 ·rw [oC,List.append_nil,List.take_zero,List.map_nil,List.append_nil];rfl
 rintro bn bz l2 ⟨a,k,hy,hk,QC⟩;simp only [List.cons.injEq,Vl.i.injEq,Vl.l.injEq,and_true,List.append_nil]at hy;obtain⟨rfl,rfl,gj⟩:=hy;refine ae (λct => ?_) (λkq => ?_)
 ·refine t2 QA gj (by omega) hb i_ h2 h3 QC (λe he dt => ?_);rw [VQ he QC dt]at hv;exact hv dt
 ·obtain rfl:k=s.es.length:=by omega
  rintro bg rfl;rw [zb (by omega)];refine⟨⟨x8,x9,az,i+1, ?_,by omega,λt ht => ?_⟩,by simp only [QB];omega⟩
  ·rw [gj,List.append_nil,List.take_length,VV hs,VU hs];simp only [List.flatMap_append];rfl
  ·rcases Nat.lt_succ_iff_lt_or_eq.1 ht with ht|rfl
   ·exact hG t ht
   ·unfold lS;rw [hs];show iI _ _ s=0;rw [hF];exact VR QC
theorem J0{w:World}{v:Vh}(hG:oN w)(h:iH w v)(hz:j9 v):Calls Tryz.prog 52 #[gY v] w (Vc.aI (CV (bU v)) w):=by
 obtain⟨b0,p0,c0,e0,f0,g0⟩:=rP h.st;obtain⟨b1,p1,c1,e1,f1,g1⟩:=rO h.dr;have gR:=zu f0;have By:=h.dr;unfold gY;rw [e0];rw [e1]at By ⊢;refine Yk p0 p1 (v.ss.length:Nat) c0 v.yl v.yh (v.dr.length:Nat) c1 v.ax v.be b0 b1 v.nm w _ ⟨_,λw' hb=>P5 v.nm (hG.eK hb) hz.nm,ae (λhn => ?_) (λhn => ?_)⟩;rotate_left
 ·unfold bU;rw [if_pos (.inl (by simpa using hn))];rfl
 refine⟨by omega,gR,ae (λh0 => ?_) (λh0 => ?_)⟩
 ·unfold bU;rw [if_pos (.inr (by omega))];rfl
 have Dl:v.ss.length≠0:=by omega
 refine⟨by omega,gR,ae (λh8 => ?_) (λh8 => ?_)⟩
 ·unfold bU;rw [if_neg (λh=>h.elim (λh=>by rw [hn]at h;cases h) Dl),if_pos (by omega)];rfl
 have HE:¬8<v.ss.length:=by omega
 refine⟨by omega,gR,HD v.ss,QB v.ss.length,⟨0,0,0,0,rfl,Nat.zero_le _,λt ht=>by omega⟩, ?_⟩;rintro x8 x9 az aA l0 l1 ⟨a,b,c,i,hy,hi,Dm⟩;simp only [List.cons.injEq,Vl.i.injEq,Vl.l.injEq,and_true,List.append_nil]at hy;obtain⟨rfl,rfl,rfl,rfl,gx,oC⟩:=hy;refine ae (λct => ?_) (λkq => ?_)
 ·have od:i<v.ss.length:=by omega
  have hs:v.ss[i]? = some v.ss[i]:=List.getElem?_eq_getElem od;have hm:v.ss[i]∈v.ss:=List.getElem_mem od;generalize v.ss[i]=s at hs hm;obtain⟨k0,k1,k2,k3,k4,k5⟩:=g0 i s hs;obtain⟨z1,z2,z3⟩:=hz.st s hm;obtain⟨b3,p2,c3,e3,f3,g3⟩:=tD (h.es s hm);have hv:=λdt=>VS hn Dl HE hs Dm dt;simp only [Int.toNat_natCast];refine⟨λhb=>by have:=f0 hb;omega,by omega,by omega,s.nm,k0,s.dl,k1,s.dh,k2,s.pl,k3,s.ph,k4,b3,p2,(s.es.length:Nat),c3,(by (try unfold Vc.rd);rw [k5,e3]),_,λw' hb=>P5 s.nm (hG.eK hb) z1,ae (λmY => ?_) (λmY => ?_)⟩
  ·rw [gx,List.append_nil];refine⟨Ak _, ?_⟩;rintro aX rfl;refine ae (λhf => ?_) (λhf=>t1 hG hs gx oC hz.sn z2 z3 f3 g3 mY (λhm=>hf (Dj.2 hm)) Dm hv);have hm:=Dj.1 hf;refine⟨true,VO hm,ae (λ_ => ?_) (λh=>(h rfl).elim)⟩;have hF:iI (cR (v.ss.take i)) (bN (v.ss.take i)) s=8:=by unfold iI;rw [if_neg (by rw [mY];simp),if_pos hm]
   rw [hF]at hv;exact hv (by decide)
  ·have hF:iI (cR (v.ss.take i)) (bN (v.ss.take i)) s=2:=by unfold iI;rw [if_pos (by simpa using mY)]
   rw [hF]at hv;exact hv (by decide)
 ·obtain rfl:i=v.ss.length:=by omega
  rw [VT hn Dl HE Dm];refine⟨_,λw' _=>BB _ _ _ w',ae (λq1 => ?_) (λq1 => ?_)⟩;rotate_left
  ·rw [if_pos (by simpa using q1)];rfl
  rw [if_neg (show ¬jl v.yl v.yh 0=false by rw [q1];simp)];refine⟨_,λw' hb=>Qz (zg hb By) hz.dn,ae (λq2 => ?_) (λq2 => ?_)⟩;rotate_left
  ·rw [if_pos (by simpa using q2)];rfl
  rw [if_neg (show ¬jM v.dr=false by rw [q2];simp)];have bad:(gC v.ax && gC v.be)=false->CV (4,0,4)=CV (if (gC v.ax && gC v.be)=false then (4,0,4)else (0,0,0)):=λhb=>by rw [if_pos hb]
  refine ae (λr1=>ae (λr2=>ae (λr3=>ae (λr4 => ?_) (λr4=>bad (by simp [gC,r4]))) (λr3=>bad (by simp [gC,r3]))) (λr2=>bad (by simp [gC,r2]))) (λr1=>bad (by simp [gC,r1]));rw [if_neg (by simp [gC, *])];rfl
end Go.Proofs.YtkbchjlnhgfpmaaGreatDoor
