import Derived.Test.YtocleppbcngcjaaGreatDoorGv
import Derived.Test.YtocleppbcngcjaaGreatDoorCp
set_option linter.unusedVariables false
set_option linter.unusedSimpArgs false
set_option maxRecDepth 4000
namespace Go.Proofs.YtocleppbcngcjaaGreatDoor
open Go Go.RowKit Vc
attribute [local irreducible] Go.Calls
theorem Ao(lo hi least:Int)(w:World):Calls Tryz.prog 92 #[.agg #[.int .i64 lo,.int .i64 hi],.int .i64 least] w (Vc.Ret (.bool (iw lo hi least)) w):=by
 refine XA lo hi least w _ ?_;refine aj (λh=>aj (λh2 => ?_) (λh2 => ?_)) (λh => ?_)
 all_goals simp [iw,h, *]
theorem w6{w:World}{v:Value}{l:List Pt}(h:dI w v 3 (l.flatMap rh)):∃(b0:Bool) (p0:Nat × Nat) (x1:Int),v=(if b0=true then .slice none 0 0 else .slice (some (Vc.dJ p0 (Int.toNat (l.length:Int)) x1.toNat)) (Int.toNat (l.length:Int)) x1.toNat)/\(b0=true->l.length=0) /\
  (∀(i:Nat) (z:Pt),l[i]? = some z->w.cell? ⟨p0.1,p0.2+i*3+0,none⟩=some (.int .i64 z.a)/\w.cell? ⟨p0.1,p0.2+i*3+1,none⟩=some (.int .i64 z.lo)/\w.cell? ⟨p0.1,p0.2+i*3+2,none⟩=some (.int .i64 z.hi)):=by
 obtain⟨b0,p0,x1,h1,h2,h3⟩:=FQ h (by decide) (zf ri l);refine⟨b0,p0,x1,h1,h2,λi p hp => ?_⟩;simp only [Nat.add_assoc];exact⟨h3 (i*3+0) _ (zg ri hp (by decide)),h3 (i*3+1) _ (zg ri hp (by decide)),h3 (i*3+2) _ (zg ri hp (by decide))⟩
theorem yL{w:World}{v:Value}{l:List cD}(h:dI w v 6 (l.flatMap jJ)):∃(b0:Bool) (p0:Nat × Nat) (x1:Int),v=(if b0=true then .slice none 0 0 else .slice (some (Vc.dJ p0 (Int.toNat (l.length:Int)) x1.toNat)) (Int.toNat (l.length:Int)) x1.toNat)/\(b0=true->l.length=0) /\
  (∀(i:Nat) (z:cD),l[i]? = some z->w.cell? ⟨p0.1,p0.2+i*6+0,none⟩=some (.string ⟨z.nm.toArray⟩)/\w.cell? ⟨p0.1,p0.2+i*6+1,none⟩=some (.int .i64 z.dl)/\w.cell? ⟨p0.1,p0.2+i*6+2,none⟩=some (.int .i64 z.dh) /\
   w.cell? ⟨p0.1,p0.2+i*6+3,none⟩=some (.int .i64 z.pl)/\w.cell? ⟨p0.1,p0.2+i*6+4,none⟩=some (.int .i64 z.ph)/\w.cell? ⟨p0.1,p0.2+i*6+5,none⟩=some z.v):=by
 obtain⟨b0,p0,x1,h1,h2,h3⟩:=FQ h (by decide) (zf zk l);refine⟨b0,p0,x1,h1,h2,λi p hp => ?_⟩;simp only [Nat.add_assoc];exact⟨h3 (i*6+0) _ (zg zk hp (by decide)),h3 (i*6+1) _ (zg zk hp (by decide)),h3 (i*6+2) _ (zg zk hp (by decide)),h3 (i*6+3) _ (zg zk hp (by decide)),h3 (i*6+4) _ (zg zk hp (by decide)),h3 (i*6+5) _ (zg zk hp (by decide))⟩
theorem B3{w:World}{v:Value}{l:List En}(h:dI w v 11 (l.flatMap enc)):∃(b0:Bool) (p0:Nat × Nat) (x1:Int),v=(if b0=true then .slice none 0 0 else .slice (some (Vc.dJ p0 (Int.toNat (l.length:Int)) x1.toNat)) (Int.toNat (l.length:Int)) x1.toNat)/\(b0=true->l.length=0) /\
  (∀(i:Nat) (z:En),l[i]? = some z->w.cell? ⟨p0.1,p0.2+i*11+0,none⟩=some (.string ⟨z.nm.toArray⟩)/\w.cell? ⟨p0.1,p0.2+i*11+1,none⟩=some (.int .i64 z.n)/\w.cell? ⟨p0.1,p0.2+i*11+2,none⟩=some (.int .i64 z.tl) /\
   w.cell? ⟨p0.1,p0.2+i*11+3,none⟩=some (.int .i64 z.th)/\w.cell? ⟨p0.1,p0.2+i*11+4,none⟩=some (.int .i64 z.fl)/\w.cell? ⟨p0.1,p0.2+i*11+5,none⟩=some (.int .i64 z.fh)/\w.cell? ⟨p0.1,p0.2+i*11+6,none⟩=some (.int .i64 z.le) /\
   w.cell? ⟨p0.1,p0.2+i*11+7,none⟩=some (.int .i64 z.sl)/\w.cell? ⟨p0.1,p0.2+i*11+8,none⟩=some (.int .i64 z.sh)/\w.cell? ⟨p0.1,p0.2+i*11+9,none⟩=some (.int .i64 z.pl)/\w.cell? ⟨p0.1,p0.2+i*11+10,none⟩=some (.int .i64 z.ph)):=by
 obtain⟨b0,p0,x1,h1,h2,h3⟩:=FQ h (by decide) (zf zm l);refine⟨b0,p0,x1,h1,h2,λi p hp => ?_⟩;simp only [Nat.add_assoc]
 exact⟨h3 (i*11+0) _ (zg zm hp (by decide)),h3 (i*11+1) _ (zg zm hp (by decide)),h3 (i*11+2) _ (zg zm hp (by decide)),h3 (i*11+3) _ (zg zm hp (by decide)),h3 (i*11+4) _ (zg zm hp (by decide)),h3 (i*11+5) _ (zg zm hp (by decide)),
  h3 (i*11+6) _ (zg zm hp (by decide)),h3 (i*11+7) _ (zg zm hp (by decide)),h3 (i*11+8) _ (zg zm hp (by decide)),h3 (i*11+9) _ (zg zm hp (by decide)),h3 (i*11+10) _ (zg zm hp (by decide))⟩
theorem qO{b:Bool}{n:Nat}(h:b=true->n=0):(¬b=true)∨((n:Int)=0):=by
 by_cases hb:b=true
 ·exact .inr (by rw [h hb];rfl)
 ·exact .inl hb
def F0(l:List Pt)(L:List Vl):Prop:=∃(b:Bool) (last:Int) (i:Nat),L=[.b b,.i last,.i i]/\i<=l.length/\jM last (l.drop i)=jM (-1) l
def F1(n:Nat)(L:List Vl):Nat:=match L with
 | [_,_,.i i]=>n-i.toNat
 |_=>0
theorem Yn{w:World}{v:Value}{l:List Pt}(h:dI w v 3 (l.flatMap rh))(hn:l.length<4611686018427387904):Calls Tryz.prog 93 #[v] w (Vc.Ret (.bool (jc l)) w):=by
 obtain⟨b0,p0,x1,rfl,h2,h3⟩:=w6 h;have mV:=qO h2;refine XB p0 (l.length:Nat) x1 b0 w _ ⟨by omega,mV,F0 l,F1 l.length,⟨false,-1,0,rfl,by omega,rfl⟩, ?_⟩;rintro b1 x2 x3 ⟨b,last,i,hy,hi,ht⟩;simp only [List.cons.injEq,Vl.b.injEq,Vl.i.injEq,and_true]at hy;obtain⟨rfl,rfl,rfl⟩:=hy;refine aj (λcn => ?_) (λkU => ?_)
 ·have nj:i<l.length:=by omega
  have hg:l[i]? = some l[i]:=List.getElem?_eq_getElem nj;rw [List.drop_eq_getElem_cons nj]at ht;generalize l[i]=p at hg ht;obtain⟨c1,c2,c3⟩:=h3 i p hg;refine⟨λhb=>by have:=h2 hb;omega,by omega,by omega,p.a, ?_,p.lo, ?_,p.hi, ?_, ?_⟩
  ·simp only [Int.toNat_natCast];exact c1
  ·simp only [Int.toNat_natCast];exact c2
  ·simp only [Int.toNat_natCast];exact c3
  have bad:(decide (x2<p.a) && decide (p.a<=4503599627370496) && iw p.lo p.hi 0)=false->(Value.bool false)=.bool (jc l):=λhb=>by
   rw [jM,hb,Bool.false_and]at ht;rw [jc,<-ht,Bool.false_and]
  refine aj (λh=>bad (by simp;omega)) (λh=>aj (λh'=>bad (by simp;omega)) (λh'=>⟨_,λw' _=>Ao _ _ _ w',aj (λhb => ?_) (λhb=>bad (by simp [hb]))⟩));rintro x7 rfl;rw [zj (by omega)];refine⟨⟨b1,p.a,i+1,rfl,by omega, ?_⟩,by simp only [F1];omega⟩;rw [<-ht,jM,hb,decide_eq_true (by omega),decide_eq_true (by omega)];simp
 ·have Ec:i=l.length:=by omega
  rw [Ec,List.drop_length,jM]at ht;refine⟨by omega,mV,aj (λh => ?_) (λh => ?_)⟩
  ·refine pt ?_;rw [jc,<-ht,Bool.true_and,Bool.eq_iff_iff];simp only [decide_eq_true_eq,Bool.and_eq_true];omega
  ·refine pt ?_;rw [jc,<-ht,Bool.true_and,Bool.eq_iff_iff];simp only [decide_eq_true_eq,Bool.and_eq_true,Bool.false_eq_true,false_iff];omega
def B4(pe:List (List UInt8))(es:List En)(L:List Vl):Prop:=∃(a:Int) (k:Nat),L=[.i a,.i k,.l ((pe++(es.take k).map (·.nm)).flatMap jI)]/\k<=es.length/\∀t,t<k->jK pe es t=0
def H5(n:Nat)(L:List Vl):Nat:=match L with
 | [_,.i k,_]=>n-k.toNat
 |_=>0
theorem Tw{es:List En}{k:Nat}{e:En}(h:es[k]? = some e):(es.take (k+1)).map (·.nm)=(es.take k).map (·.nm) ++ [e.nm]:=by
 rw [List.take_add_one,h];simp
theorem F3{pe:List (List UInt8)}{es:List En}{k:Nat}{e:En}(h:es[k]? = some e):jK pe es k=e_ (pe++(es.take k).map (·.nm)) e:=by unfold jK;rw [h]
theorem t3{w:World}{v:Value}{i:Nat}{pe:List (List UInt8)}{es:List En}{k:Nat}{e:En}{a:Int}{l3:List OV}(pJ:l3.map (·.1)=(pe++(es.take k).map (·.nm)).flatMap jI)(he:es[k]? = some e)(hn:du e.nm=true)
  (hp:e.nm ∉ pe++(es.take k).map (·.nm)) (hb:es.length<4611686018427387904) (hG:∀t,t<k->jK pe es t=0) (hv:e_ (pe++(es.take k).map (·.nm)) e≠0->CV (1,(i:Int),e_ (pe++(es.take k).map (·.nm)) e)=v) :
  cH e.n w e.tl e.th e.fl e.fh e.le (i:Nat) v e.sl e.sh e.pl e.ph l3 e.nm (k:Nat) (B4 pe es) a (H5 es.length):=by
 have hk:k<es.length:=(List.getElem?_eq_some_iff.1 he).1;have hF:e_ (pe++(es.take k).map (·.nm)) e=if ly e=false then 4 else 0:=by unfold e_;rw [if_neg (by rw [hn];simp),if_neg hp]
 have bad:ly e=false->CV (1,(i:Int),4)=v:=λhr=>by
  rw [hF,if_pos hr]at hv;exact hv (by decide)
 unfold cH
 refine aj (λh1=>aj (λh2=>⟨_,λw' _=>Ao _ _ _ w',aj (λh3=>⟨_,λw' _=>Ao _ _ _ w',aj (λh4=>aj (λh5=>bad (by simp [ly,Int.not_le.2 h5])) (λh5=>aj (λh6=>bad (by simp [ly,Int.not_le.2 h6])) (λh6 =>
  ⟨_,λw' _=>Ao _ _ _ w',aj (λh7=>⟨_,λw' _=>Ao _ _ _ w',aj (λh8 => ?_) (λh8=>bad (by simp [ly,h8]))⟩) (λh7=>bad (by simp [ly,h7]))⟩))) (λh4=>bad (by simp [ly,h4]))⟩) (λh3=>bad (by simp [ly,h3]))⟩) (λh2=>bad (by simp [ly,h2]))) (λh1=>bad (by simp [ly,h1]))
 ·have hr:ly e=true:=by simp [ly,h1,h2,h3,h4,h7,h8];omega
  rw [pJ,List.append_nil];refine⟨H4 _, ?_⟩;rintro jr rfl;refine aj (λh=>(hp (B2.1 h)).elim) (λ_ => ?_);rintro gX rfl;rw [zj (by omega)];refine⟨⟨a,k+1, ?_,by omega,λt ht => ?_⟩,by simp only [H5];omega⟩
  ·simp only [Tw he,List.flatMap_append,List.append_assoc];rfl
  ·rcases Nat.lt_succ_iff_lt_or_eq.1 ht with ht|rfl
   ·exact hG t ht
   ·rw [F3 he,hF,if_neg (by rw [hr];simp)]
theorem t2{w:World}{v:Value}{i:Nat}{pe:List (List UInt8)}{es:List En}{k:Nat}{a:Int}{l3:List OV}{b3:Bool}{p2:Nat × Nat}(ND:nu w)(pJ:l3.map (·.1)=(pe++(es.take k).map (·.nm)).flatMap jI)(hk:k<es.length)(hb:es.length<4611686018427387904)
  (fW:∀e∈es,e.nm.length<4611686018427387904) (h2:b3=true->es.length=0)
  (h3:∀(i:Nat) (z:En),es[i]? = some z->w.cell? ⟨p2.1,p2.2+i*11+0,none⟩=some (.string ⟨z.nm.toArray⟩)/\w.cell? ⟨p2.1,p2.2+i*11+1,none⟩=some (.int .i64 z.n)/\w.cell? ⟨p2.1,p2.2+i*11+2,none⟩=some (.int .i64 z.tl) /\
   w.cell? ⟨p2.1,p2.2+i*11+3,none⟩=some (.int .i64 z.th)/\w.cell? ⟨p2.1,p2.2+i*11+4,none⟩=some (.int .i64 z.fl)/\w.cell? ⟨p2.1,p2.2+i*11+5,none⟩=some (.int .i64 z.fh)/\w.cell? ⟨p2.1,p2.2+i*11+6,none⟩=some (.int .i64 z.le) /\
   w.cell? ⟨p2.1,p2.2+i*11+7,none⟩=some (.int .i64 z.sl)/\w.cell? ⟨p2.1,p2.2+i*11+8,none⟩=some (.int .i64 z.sh)/\w.cell? ⟨p2.1,p2.2+i*11+9,none⟩=some (.int .i64 z.pl)/\w.cell? ⟨p2.1,p2.2+i*11+10,none⟩=some (.int .i64 z.ph))
  (hG:∀t,t<k->jK pe es t=0) (hv:∀e,es[k]? = some e->e_ (pe++(es.take k).map (·.nm)) e≠0->CV (1,(i:Int),e_ (pe++(es.take k).map (·.nm)) e)=v) :
  cI b3 (k:Nat) (es.length:Nat) w p2 l3 (i:Nat) v (B4 pe es) a (H5 es.length):=by
 have he:es[k]? = some es[k]:=List.getElem?_eq_getElem hk;have hm:es[k]∈es:=List.getElem_mem hk;generalize es[k]=e at he hm;obtain⟨c0,c1,c2,c3,c4,c5,c6,c7,c8,c9,B5⟩:=h3 k e he;have mQ:=hv e he;unfold cI;simp only [Int.toNat_natCast];refine⟨λhb=>by have:=h2 hb;omega,by omega,by omega,e.nm,c0,e.n,c1,e.tl,c2,e.th,c3,e.fl,c4,e.fh,c5,e.le,c6,e.sl,c7,e.sh,c8,e.pl,c9,e.ph,B5,_,λw' gg=>M7 e.nm (ND.cA gg) (fW e hm),aj (λhn => ?_) (λhn => ?_)⟩
 ·rw [pJ,List.append_nil];refine⟨H4 _, ?_⟩;rintro iq rfl;refine aj (λhf => ?_) (λhf=>t3 pJ he hn (λhm=>hf (B2.2 hm)) hb hG mQ);have hm:=B2.1 hf;refine⟨true,Tq hm,aj (λ_ => ?_) (λh=>(h rfl).elim)⟩;have hF:e_ (pe++(es.take k).map (·.nm)) e=8:=by unfold e_;rw [if_neg (by rw [hn];simp),if_pos hm]
  rw [hF]at mQ;exact mQ (by decide)
 ·have hF:e_ (pe++(es.take k).map (·.nm)) e=2:=by unfold e_;rw [if_pos (by simpa using hn)]
  rw [hF]at mQ;exact mQ (by decide)
def F4(ss:List cD)(L:List Vl):Prop:=∃(a b c:Int) (i:Nat),L=[.i a,.i b,.i c,.i i,.l ((bZ (ss.take i)).flatMap jI),.l ((br (ss.take i)).flatMap jI)]/\i<=ss.length/\∀t,t<i->jL ss t=0
def NF(n:Nat)(L:List Vl):Nat:=match L with
 | [_,_,_,.i i,_,_]=>n-i.toNat
 |_=>0
theorem t1{w:World}{v:Value}{i:Nat}{ss:List cD}{s:cD}{b3:Bool}{p2:Nat × Nat}{l0 l1:List OV}{x8 x9 bd:Int}(ND:nu w)(hs:ss[i]? = some s)(fI:l0.map (·.1)=(bZ (ss.take i)).flatMap jI)(nC:l1.map (·.1)=(br (ss.take i)).flatMap jI)
  (se:ss.length<4611686018427387904) (hb:s.es.length<4611686018427387904) (fW:∀e∈s.es,e.nm.length<4611686018427387904) (h2:b3=true->s.es.length=0)
  (h3:∀(i:Nat) (z:En),s.es[i]? = some z->w.cell? ⟨p2.1,p2.2+i*11+0,none⟩=some (.string ⟨z.nm.toArray⟩)/\w.cell? ⟨p2.1,p2.2+i*11+1,none⟩=some (.int .i64 z.n)/\w.cell? ⟨p2.1,p2.2+i*11+2,none⟩=some (.int .i64 z.tl) /\
   w.cell? ⟨p2.1,p2.2+i*11+3,none⟩=some (.int .i64 z.th)/\w.cell? ⟨p2.1,p2.2+i*11+4,none⟩=some (.int .i64 z.fl)/\w.cell? ⟨p2.1,p2.2+i*11+5,none⟩=some (.int .i64 z.fh)/\w.cell? ⟨p2.1,p2.2+i*11+6,none⟩=some (.int .i64 z.le) /\
   w.cell? ⟨p2.1,p2.2+i*11+7,none⟩=some (.int .i64 z.sl)/\w.cell? ⟨p2.1,p2.2+i*11+8,none⟩=some (.int .i64 z.sh)/\w.cell? ⟨p2.1,p2.2+i*11+9,none⟩=some (.int .i64 z.pl)/\w.cell? ⟨p2.1,p2.2+i*11+10,none⟩=some (.int .i64 z.ph))
  (hn:du s.nm=true) (hp:s.nm ∉ bZ (ss.take i)) (hG:∀t,t<i->jL ss t=0)
  (hv:fw (bZ (ss.take i)) (br (ss.take i)) s≠0->CV (1,(i:Int),fw (bZ (ss.take i)) (br (ss.take i)) s)=v) :
  cJ w s.dl s.dh s.pl s.ph (s.es.length:Nat) b3 (i:Nat) v l0 s.nm l1 p2 (F4 ss) x8 x9 bd (NF ss.length):=by
 have hi:i<ss.length:=(List.getElem?_eq_some_iff.1 hs).1;have mV:=qO h2
 have hF:fw (bZ (ss.take i)) (br (ss.take i)) s=if (iw s.dl s.dh 1 && iw s.pl s.ph 0)=false then 4 else if 16<s.es.length then 3 else iE (br (ss.take i)) s.es:=by
  unfold fw;rw [if_neg (by rw [hn];simp),if_neg hp]
 have bad:(iw s.dl s.dh 1 && iw s.pl s.ph 0)=false->CV (1,(i:Int),4)=v:=λhr=>by
  rw [hF,if_pos hr]at hv;exact hv (by decide)
 unfold cJ;refine⟨_,λw' _=>Ao _ _ _ w',aj (λg1=>⟨_,λw' _=>Ao _ _ _ w',aj (λg2=>⟨by omega,mV,aj (λg3 => ?_) (λg3 => ?_)⟩) (λg2=>bad (by simp [g2]))⟩) (λg1=>bad (by simp [g1]))⟩
 ·rw [hF,if_neg (by simp [g1,g2]),if_pos (by omega)]at hv;exact hv (by decide)
 rw [if_neg (by simp [g1,g2]),if_neg (by omega)]at hF;rw [hF]at hv;rw [fI,List.append_nil];refine⟨H4 _, ?_⟩;rintro bX rfl;refine aj (λh=>(hp (B2.1 h)).elim) (λ_ => ?_);refine⟨by omega,mV,B4 (br (ss.take i)) s.es,H5 s.es.length,⟨0,0, ?_,Nat.zero_le _,λt ht=>by omega⟩, ?_⟩
 ·rw [nC,List.append_nil,List.take_zero,List.map_nil,List.append_nil];rfl
 rintro bU cd l2 ⟨a,k,hy,hk,NG⟩;simp only [List.cons.injEq,Vl.i.injEq,Vl.l.injEq,and_true,List.append_nil]at hy;obtain⟨rfl,rfl,fX⟩:=hy;refine aj (λcn => ?_) (λkU => ?_)
 ·refine t2 ND fX (by omega) hb fW h2 h3 NG (λe he cW => ?_);rw [Tr he NG cW]at hv;exact hv cW
 ·obtain rfl:k=s.es.length:=by omega
  rintro cY rfl;rw [zj (by omega)];refine⟨⟨x8,x9,bd,i+1, ?_,by omega,λt ht => ?_⟩,by simp only [NF];omega⟩
  ·rw [fX,List.append_nil,List.take_length,Tv hs,Tu hs];simp only [List.flatMap_append];rfl
  ·rcases Nat.lt_succ_iff_lt_or_eq.1 ht with ht|rfl
   ·exact hG t ht
   ·unfold jL;rw [hs];show fw _ _ s=0;rw [hF];exact NC NG
theorem NH{w:World}{v:Vh}(hG:nu w)(h:fZ w v)(hz:iv v):Calls Tryz.prog 45 #[fL v] w (Vc.Ret (CV (dT v)) w):=by
 obtain⟨b0,p0,c0,e0,f0,g0⟩:=yL h.st;obtain⟨b1,p1,c1,e1,f1,g1⟩:=w6 h.dr;have mV:=qO f0;have uT:=h.dr;unfold fL;rw [e0];rw [e1]at uT ⊢;refine XC p0 p1 (v.ss.length:Nat) c0 v.yl v.yh (v.dr.length:Nat) c1 v.ax v.be b0 b1 v.nm w _ ⟨_,λw' hb=>M7 v.nm (hG.cA hb) hz.nm,aj (λhn => ?_) (λhn => ?_)⟩;rotate_left
 ·unfold dT;rw [if_pos (.inl (by simpa using hn))];rfl
 refine⟨by omega,mV,aj (λh0 => ?_) (λh0 => ?_)⟩
 ·unfold dT;rw [if_pos (.inr (by omega))];rfl
 have B6:v.ss.length≠0:=by omega
 refine⟨by omega,mV,aj (λh8 => ?_) (λh8 => ?_)⟩
 ·unfold dT;rw [if_neg (λh=>h.elim (λh=>by rw [hn]at h;cases h) B6),if_pos (by omega)];rfl
 have F5:¬8<v.ss.length:=by omega
 refine⟨by omega,mV,F4 v.ss,NF v.ss.length,⟨0,0,0,0,rfl,Nat.zero_le _,λt ht=>by omega⟩, ?_⟩;rintro x8 x9 bd aS l0 l1 ⟨a,b,c,i,hy,hi,B7⟩;simp only [List.cons.injEq,Vl.i.injEq,Vl.l.injEq,and_true,List.append_nil]at hy;obtain⟨rfl,rfl,rfl,rfl,fI,nC⟩:=hy;refine aj (λcn => ?_) (λkU => ?_)
 ·have nj:i<v.ss.length:=by omega
  have hs:v.ss[i]? = some v.ss[i]:=List.getElem?_eq_getElem nj;have hm:v.ss[i]∈v.ss:=List.getElem_mem nj;generalize v.ss[i]=s at hs hm;obtain⟨k0,k1,k2,k3,k4,k5⟩:=g0 i s hs;obtain⟨z1,z2,z3⟩:=hz.st s hm;obtain⟨b3,p2,c3,e3,f3,g3⟩:=B3 (h.es s hm);have hv:=λcW=>Ts hn B6 F5 hs B7 cW;simp only [Int.toNat_natCast];refine⟨λhb=>by have:=f0 hb;omega,by omega,by omega,s.nm,k0,s.dl,k1,s.dh,k2,s.pl,k3,s.ph,k4,b3,p2,(s.es.length:Nat),c3,(by rw [k5,e3]),_,λw' hb=>M7 s.nm (hG.cA hb) z1,aj (λse => ?_) (λse => ?_)⟩
  ·rw [fI,List.append_nil];refine⟨H4 _, ?_⟩;rintro bx rfl;refine aj (λhf => ?_) (λhf=>t1 hG hs fI nC hz.sn z2 z3 f3 g3 se (λhm=>hf (B2.2 hm)) B7 hv);have hm:=B2.1 hf;refine⟨true,Tq hm,aj (λ_ => ?_) (λh=>(h rfl).elim)⟩;have hF:fw (bZ (v.ss.take i)) (br (v.ss.take i)) s=8:=by unfold fw;rw [if_neg (by rw [se];simp),if_pos hm]
   rw [hF]at hv;exact hv (by decide)
  ·have hF:fw (bZ (v.ss.take i)) (br (v.ss.take i)) s=2:=by unfold fw;rw [if_pos (by simpa using se)]
   rw [hF]at hv;exact hv (by decide)
 ·obtain rfl:i=v.ss.length:=by omega
  rw [Tt hn B6 F5 B7];refine⟨_,λw' _=>Ao _ _ _ w',aj (λq1 => ?_) (λq1 => ?_)⟩;rotate_left
  ·rw [if_pos (by simpa using q1)];rfl
  rw [if_neg (show ¬iw v.yl v.yh 0=false by rw [q1];simp)];refine⟨_,λw' hb=>Yn (wY hb uT) hz.dn,aj (λq2 => ?_) (λq2 => ?_)⟩;rotate_left
  ·rw [if_pos (by simpa using q2)];rfl
  rw [if_neg (show ¬jc v.dr=false by rw [q2];simp)];have bad:(fx v.ax && fx v.be)=false->CV (4,0,4)=CV (if (fx v.ax && fx v.be)=false then (4,0,4)else (0,0,0)):=λhb=>by rw [if_pos hb]
  refine aj (λr1=>aj (λr2=>aj (λr3=>aj (λr4 => ?_) (λr4=>bad (by simp [fx,r4]))) (λr3=>bad (by simp [fx,r3]))) (λr2=>bad (by simp [fx,r2]))) (λr1=>bad (by simp [fx,r1]));rw [if_neg (by simp [fx, *])];rfl
end Go.Proofs.YtocleppbcngcjaaGreatDoor
