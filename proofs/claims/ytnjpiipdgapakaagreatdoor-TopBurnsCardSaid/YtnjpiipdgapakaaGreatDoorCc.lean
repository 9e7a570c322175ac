import Derived.Test.YtnjpiipdgapakaaGreatDoorGv
import Derived.Test.YtnjpiipdgapakaaGreatDoorCp
set_option linter.unusedVariables false
set_option linter.unusedSimpArgs false
set_option maxRecDepth 4000
namespace Go.Proofs.YtnjpiipdgapakaaGreatDoor
open Go Go.RowKit Vc
attribute [local irreducible] Go.Calls
theorem yx(lo hi least:Int)(w:World):Calls Tryz.prog 62 #[.agg #[.int .i64 lo,.int .i64 hi],.int .i64 least] w (Vc.aw (.bool (mq lo hi least)) w):=by
 refine Wu lo hi least w _ ?_;refine af (λh=>af (λh2 => ?_) (λh2 => ?_)) (λh => ?_)
 all_goals simp [mq,h, *]
theorem yy{w:World}{v:Value}{l:List Pt}(h:gP w v 3 (l.flatMap AJ)):∃(b0:Bool) (p0:Nat × Nat) (x1:Int),v=(if b0=true then .slice none 0 0 else .slice (some (Vc.bR p0 (Int.toNat (l.length:Int)) x1.toNat)) (Int.toNat (l.length:Int)) x1.toNat)/\(b0=true->l.length=0) /\
  (∀(i:Nat) (z:Pt),l[i]? = some z->w.cell? ⟨p0.1,p0.2+i*3+0,none⟩=some (.int .i64 z.a)/\w.cell? ⟨p0.1,p0.2+i*3+1,none⟩=some (.int .i64 z.lo)/\w.cell? ⟨p0.1,p0.2+i*3+2,none⟩=some (.int .i64 z.hi)):=by
 obtain⟨b0,p0,x1,h1,h2,h3⟩:=GB h (by decide) (vN EJ l);refine⟨b0,p0,x1,h1,h2,λi p hp => ?_⟩;simp only [Nat.add_assoc];exact⟨h3 (i*3+0) _ (zm EJ hp (by decide)),h3 (i*3+1) _ (zm EJ hp (by decide)),h3 (i*3+2) _ (zm EJ hp (by decide))⟩
theorem AT{w:World}{v:Value}{l:List je}(h:gP w v 6 (l.flatMap BX)):∃(b0:Bool) (p0:Nat × Nat) (x1:Int),v=(if b0=true then .slice none 0 0 else .slice (some (Vc.bR p0 (Int.toNat (l.length:Int)) x1.toNat)) (Int.toNat (l.length:Int)) x1.toNat)/\(b0=true->l.length=0) /\
  (∀(i:Nat) (z:je),l[i]? = some z->w.cell? ⟨p0.1,p0.2+i*6+0,none⟩=some (.string ⟨z.nm.toArray⟩)/\w.cell? ⟨p0.1,p0.2+i*6+1,none⟩=some (.int .i64 z.dl)/\w.cell? ⟨p0.1,p0.2+i*6+2,none⟩=some (.int .i64 z.dh) /\
   w.cell? ⟨p0.1,p0.2+i*6+3,none⟩=some (.int .i64 z.pl)/\w.cell? ⟨p0.1,p0.2+i*6+4,none⟩=some (.int .i64 z.ph)/\w.cell? ⟨p0.1,p0.2+i*6+5,none⟩=some z.v):=by
 obtain⟨b0,p0,x1,h1,h2,h3⟩:=GB h (by decide) (vN yv l);refine⟨b0,p0,x1,h1,h2,λi p hp => ?_⟩;simp only [Nat.add_assoc];exact⟨h3 (i*6+0) _ (zm yv hp (by decide)),h3 (i*6+1) _ (zm yv hp (by decide)),h3 (i*6+2) _ (zm yv hp (by decide)),h3 (i*6+3) _ (zm yv hp (by decide)),h3 (i*6+4) _ (zm yv hp (by decide)),h3 (i*6+5) _ (zm yv hp (by decide))⟩
theorem B1{w:World}{v:Value}{l:List En}(h:gP w v 11 (l.flatMap enc)):∃(b0:Bool) (p0:Nat × Nat) (x1:Int),v=(if b0=true then .slice none 0 0 else .slice (some (Vc.bR p0 (Int.toNat (l.length:Int)) x1.toNat)) (Int.toNat (l.length:Int)) x1.toNat)/\(b0=true->l.length=0) /\
  (∀(i:Nat) (z:En),l[i]? = some z->w.cell? ⟨p0.1,p0.2+i*11+0,none⟩=some (.string ⟨z.nm.toArray⟩)/\w.cell? ⟨p0.1,p0.2+i*11+1,none⟩=some (.int .i64 z.n)/\w.cell? ⟨p0.1,p0.2+i*11+2,none⟩=some (.int .i64 z.tl) /\
   w.cell? ⟨p0.1,p0.2+i*11+3,none⟩=some (.int .i64 z.th)/\w.cell? ⟨p0.1,p0.2+i*11+4,none⟩=some (.int .i64 z.fl)/\w.cell? ⟨p0.1,p0.2+i*11+5,none⟩=some (.int .i64 z.fh)/\w.cell? ⟨p0.1,p0.2+i*11+6,none⟩=some (.int .i64 z.le) /\
   w.cell? ⟨p0.1,p0.2+i*11+7,none⟩=some (.int .i64 z.sl)/\w.cell? ⟨p0.1,p0.2+i*11+8,none⟩=some (.int .i64 z.sh)/\w.cell? ⟨p0.1,p0.2+i*11+9,none⟩=some (.int .i64 z.pl)/\w.cell? ⟨p0.1,p0.2+i*11+10,none⟩=some (.int .i64 z.ph)):=by
 obtain⟨b0,p0,x1,h1,h2,h3⟩:=GB h (by decide) (vN sX l);refine⟨b0,p0,x1,h1,h2,λi p hp => ?_⟩;simp only [Nat.add_assoc]
 exact⟨h3 (i*11+0) _ (zm sX hp (by decide)),h3 (i*11+1) _ (zm sX hp (by decide)),h3 (i*11+2) _ (zm sX hp (by decide)),h3 (i*11+3) _ (zm sX hp (by decide)),h3 (i*11+4) _ (zm sX hp (by decide)),h3 (i*11+5) _ (zm sX hp (by decide)),
  h3 (i*11+6) _ (zm sX hp (by decide)),h3 (i*11+7) _ (zm sX hp (by decide)),h3 (i*11+8) _ (zm sX hp (by decide)),h3 (i*11+9) _ (zm sX hp (by decide)),h3 (i*11+10) _ (zm sX hp (by decide))⟩
theorem rS{b:Bool}{n:Nat}(h:b=true->n=0):(¬b=true)∨((n:Int)=0):=by
 by_cases hb:b=true
 ·exact .inr (by rw [h hb];rfl)
 ·exact .inl hb
def ES(l:List Pt)(L:List Vl):Prop:=∃(b:Bool) (last:Int) (i:Nat),L=[.b b,.i last,.i i]/\i<=l.length/\qM last (l.drop i)=qM (-1) l
def ET(n:Nat)(L:List Vl):Nat:=match L with
 | [_,_,.i i]=>n-i.toNat
 |_=>0
theorem Wx{w:World}{v:Value}{l:List Pt}(h:gP w v 3 (l.flatMap AJ))(hn:l.length<4611686018427387904):Calls Tryz.prog 63 #[v] w (Vc.aw (.bool (mU l)) w):=by
 obtain⟨b0,p0,x1,rfl,h2,h3⟩:=yy h;have kH:=rS h2;refine Wv p0 (l.length:Nat) x1 b0 w _ ⟨by omega,kH,ES l,ET l.length,⟨false,-1,0,rfl,by omega,rfl⟩, ?_⟩;rintro b1 x2 x3 ⟨b,last,i,hy,hi,ht⟩;simp only [List.cons.injEq,Vl.b.injEq,Vl.i.injEq,and_true]at hy;obtain⟨rfl,rfl,rfl⟩:=hy;refine af (λcw => ?_) (λmN => ?_)
 ·have tn:i<l.length:=by omega
  have hg:l[i]? = some l[i]:=List.getElem?_eq_getElem tn;rw [List.drop_eq_getElem_cons tn]at ht;generalize l[i]=p at hg ht;obtain⟨c1,c2,c3⟩:=h3 i p hg;refine⟨λhb=>by have:=h2 hb;omega,by omega,by omega,p.a, ?_,p.lo, ?_,p.hi, ?_, ?_⟩
  ·simp only [Int.toNat_natCast];exact c1
  ·simp only [Int.toNat_natCast];exact c2
  ·simp only [Int.toNat_natCast];exact c3
  have bad:(decide (x2<p.a) && decide (p.a<=4503599627370496) && mq p.lo p.hi 0)=false->(Value.bool false)=.bool (mU l):=λhb=>by
   rw [qM,hb,Bool.false_and]at ht;rw [mU,<-ht,Bool.false_and]
  refine af (λh=>bad (by simp;omega)) (λh=>af (λh'=>bad (by simp;omega)) (λh'=>⟨_,λw' _=>yx _ _ _ w',af (λhb => ?_) (λhb=>bad (by simp [hb]))⟩));rintro x7 rfl;rw [zx (by omega)];refine⟨⟨b1,p.a,i+1,rfl,by omega, ?_⟩,by simp only [ET];omega⟩;rw [<-ht,qM,hb,decide_eq_true (by omega),decide_eq_true (by omega)];simp
 ·have H8:i=l.length:=by omega
  rw [H8,List.drop_length,qM]at ht;refine⟨by omega,kH,af (λh => ?_) (λh => ?_)⟩
  ·refine wU ?_;rw [mU,<-ht,Bool.true_and,Bool.eq_iff_iff];simp only [decide_eq_true_eq,Bool.and_eq_true];omega
  ·refine wU ?_;rw [mU,<-ht,Bool.true_and,Bool.eq_iff_iff];simp only [decide_eq_true_eq,Bool.and_eq_true,Bool.false_eq_true,false_iff];omega
def AU(pe:List (List UInt8))(es:List En)(L:List Vl):Prop:=∃(a:Int) (k:Nat),L=[.i a,.i k,.l ((pe++(es.take k).map (·.nm)).flatMap jm)]/\k<=es.length/\∀t,t<k->k8 pe es t=0
def GU(n:Nat)(L:List Vl):Nat:=match L with
 | [_,.i k,_]=>n-k.toNat
 |_=>0
theorem Wy{es:List En}{k:Nat}{e:En}(h:es[k]? = some e):(es.take (k+1)).map (·.nm)=(es.take k).map (·.nm) ++ [e.nm]:=by
 rw [List.take_add_one,h];simp
theorem MG{pe:List (List UInt8)}{es:List En}{k:Nat}{e:En}(h:es[k]? = some e):k8 pe es k=iZ (pe++(es.take k).map (·.nm)) e:=by unfold k8;rw [h]
theorem t3{w:World}{v:Value}{i:Nat}{pe:List (List UInt8)}{es:List En}{k:Nat}{e:En}{a:Int}{l3:List OV}(oG:l3.map (·.1)=(pe++(es.take k).map (·.nm)).flatMap jm)(he:es[k]? = some e)(hn:fU e.nm=true)
  (hp:e.nm ∉ pe++(es.take k).map (·.nm)) (hb:es.length<4611686018427387904) (hG:∀t,t<k->k8 pe es t=0) (hv:iZ (pe++(es.take k).map (·.nm)) e≠0->CV (1,(i:Int),iZ (pe++(es.take k).map (·.nm)) e)=v) :
  cF e.n w e.tl e.th e.fl e.fh e.le (i:Nat) v e.sl e.sh e.pl e.ph l3 e.nm (k:Nat) (AU pe es) a (GU es.length):=by
 have hk:k<es.length:=(List.getElem?_eq_some_iff.1 he).1;have hF:iZ (pe++(es.take k).map (·.nm)) e=if kt e=false then 4 else 0:=by unfold iZ;rw [if_neg (by rw [hn];simp),if_neg hp]
 have bad:kt e=false->CV (1,(i:Int),4)=v:=λhr=>by
  rw [hF,if_pos hr]at hv;exact hv (by decide)
 unfold cF
 refine af (λh1=>af (λh2=>⟨_,λw' _=>yx _ _ _ w',af (λh3=>⟨_,λw' _=>yx _ _ _ w',af (λh4=>af (λh5=>bad (by simp [kt,Int.not_le.2 h5])) (λh5=>af (λh6=>bad (by simp [kt,Int.not_le.2 h6])) (λh6 =>
  ⟨_,λw' _=>yx _ _ _ w',af (λh7=>⟨_,λw' _=>yx _ _ _ w',af (λh8 => ?_) (λh8=>bad (by simp [kt,h8]))⟩) (λh7=>bad (by simp [kt,h7]))⟩))) (λh4=>bad (by simp [kt,h4]))⟩) (λh3=>bad (by simp [kt,h3]))⟩) (λh2=>bad (by simp [kt,h2]))) (λh1=>bad (by simp [kt,h1]))
 ·have hr:kt e=true:=by simp [kt,h1,h2,h3,h4,h7,h8];omega
  rw [oG,List.append_nil];refine⟨GP _, ?_⟩;rintro ek rfl;refine af (λh=>(hp (AI.1 h)).elim) (λ_ => ?_);rintro eH rfl;rw [zx (by omega)];refine⟨⟨a,k+1, ?_,by omega,λt ht => ?_⟩,by simp only [GU];omega⟩
  ·simp only [Wy he,List.flatMap_append,List.append_assoc];rfl
  ·rcases Nat.lt_succ_iff_lt_or_eq.1 ht with ht|rfl
   ·exact hG t ht
   ·rw [MG he,hF,if_neg (by rw [hr];simp)]
theorem t2{w:World}{v:Value}{i:Nat}{pe:List (List UInt8)}{es:List En}{k:Nat}{a:Int}{l3:List OV}{b3:Bool}{p2:Nat × Nat}(Gk:nO w)(oG:l3.map (·.1)=(pe++(es.take k).map (·.nm)).flatMap jm)(hk:k<es.length)(hb:es.length<4611686018427387904)
  (iS:∀e∈es,e.nm.length<4611686018427387904) (h2:b3=true->es.length=0)
  (h3:∀(i:Nat) (z:En),es[i]? = some z->w.cell? ⟨p2.1,p2.2+i*11+0,none⟩=some (.string ⟨z.nm.toArray⟩)/\w.cell? ⟨p2.1,p2.2+i*11+1,none⟩=some (.int .i64 z.n)/\w.cell? ⟨p2.1,p2.2+i*11+2,none⟩=some (.int .i64 z.tl) /\
   w.cell? ⟨p2.1,p2.2+i*11+3,none⟩=some (.int .i64 z.th)/\w.cell? ⟨p2.1,p2.2+i*11+4,none⟩=some (.int .i64 z.fl)/\w.cell? ⟨p2.1,p2.2+i*11+5,none⟩=some (.int .i64 z.fh)/\w.cell? ⟨p2.1,p2.2+i*11+6,none⟩=some (.int .i64 z.le) /\
   w.cell? ⟨p2.1,p2.2+i*11+7,none⟩=some (.int .i64 z.sl)/\w.cell? ⟨p2.1,p2.2+i*11+8,none⟩=some (.int .i64 z.sh)/\w.cell? ⟨p2.1,p2.2+i*11+9,none⟩=some (.int .i64 z.pl)/\w.cell? ⟨p2.1,p2.2+i*11+10,none⟩=some (.int .i64 z.ph))
  (hG:∀t,t<k->k8 pe es t=0) (hv:∀e,es[k]? = some e->iZ (pe++(es.take k).map (·.nm)) e≠0->CV (1,(i:Int),iZ (pe++(es.take k).map (·.nm)) e)=v) :
  cG b3 (k:Nat) (es.length:Nat) w p2 l3 (i:Nat) v (AU pe es) a (GU es.length):=by
 have he:es[k]? = some es[k]:=List.getElem?_eq_getElem hk;have hm:es[k]∈es:=List.getElem_mem hk;generalize es[k]=e at he hm;obtain⟨c0,c1,c2,c3,c4,c5,c6,c7,c8,c9,Mm⟩:=h3 k e he;have nD:=hv e he;unfold cG;simp only [Int.toNat_natCast];refine⟨λhb=>by have:=h2 hb;omega,by omega,by omega,e.nm,c0,e.n,c1,e.tl,c2,e.th,c3,e.fl,c4,e.fh,c5,e.le,c6,e.sl,c7,e.sh,c8,e.pl,c9,e.ph,Mm,_,λw' eG=>Ma e.nm (Gk.eE eG) (iS e hm),af (λhn => ?_) (λhn => ?_)⟩
 ·rw [oG,List.append_nil];refine⟨GP _, ?_⟩;rintro cT rfl;refine af (λhf => ?_) (λhf=>t3 oG he hn (λhm=>hf (AI.2 hm)) hb hG nD);have hm:=AI.1 hf;refine⟨true,Rk hm,af (λ_ => ?_) (λh=>(h rfl).elim)⟩;have hF:iZ (pe++(es.take k).map (·.nm)) e=8:=by unfold iZ;rw [if_neg (by rw [hn];simp),if_pos hm]
  rw [hF]at nD;exact nD (by decide)
 ·have hF:iZ (pe++(es.take k).map (·.nm)) e=2:=by unfold iZ;rw [if_pos (by simpa using hn)]
  rw [hF]at nD;exact nD (by decide)
def EU(ss:List je)(L:List Vl):Prop:=∃(a b c:Int) (i:Nat),L=[.i a,.i b,.i c,.i i,.l ((dQ (ss.take i)).flatMap jm),.l ((dA (ss.take i)).flatMap jm)]/\i<=ss.length/\∀t,t<i->mr ss t=0
def MH(n:Nat)(L:List Vl):Nat:=match L with
 | [_,_,_,.i i,_,_]=>n-i.toNat
 |_=>0
theorem t1{w:World}{v:Value}{i:Nat}{ss:List je}{s:je}{b3:Bool}{p2:Nat × Nat}{l0 l1:List OV}{x8 x9 aR:Int}(Gk:nO w)(hs:ss[i]? = some s)(fP:l0.map (·.1)=(dQ (ss.take i)).flatMap jm)(mL:l1.map (·.1)=(dA (ss.take i)).flatMap jm)
  (vj:ss.length<4611686018427387904) (hb:s.es.length<4611686018427387904) (iS:∀e∈s.es,e.nm.length<4611686018427387904) (h2:b3=true->s.es.length=0)
  (h3:∀(i:Nat) (z:En),s.es[i]? = some z->w.cell? ⟨p2.1,p2.2+i*11+0,none⟩=some (.string ⟨z.nm.toArray⟩)/\w.cell? ⟨p2.1,p2.2+i*11+1,none⟩=some (.int .i64 z.n)/\w.cell? ⟨p2.1,p2.2+i*11+2,none⟩=some (.int .i64 z.tl) /\
   w.cell? ⟨p2.1,p2.2+i*11+3,none⟩=some (.int .i64 z.th)/\w.cell? ⟨p2.1,p2.2+i*11+4,none⟩=some (.int .i64 z.fl)/\w.cell? ⟨p2.1,p2.2+i*11+5,none⟩=some (.int .i64 z.fh)/\w.cell? ⟨p2.1,p2.2+i*11+6,none⟩=some (.int .i64 z.le) /\
   w.cell? ⟨p2.1,p2.2+i*11+7,none⟩=some (.int .i64 z.sl)/\w.cell? ⟨p2.1,p2.2+i*11+8,none⟩=some (.int .i64 z.sh)/\w.cell? ⟨p2.1,p2.2+i*11+9,none⟩=some (.int .i64 z.pl)/\w.cell? ⟨p2.1,p2.2+i*11+10,none⟩=some (.int .i64 z.ph))
  (hn:fU s.nm=true) (hp:s.nm ∉ dQ (ss.take i)) (hG:∀t,t<i->mr ss t=0)
  (hv:i5 (dQ (ss.take i)) (dA (ss.take i)) s≠0->CV (1,(i:Int),i5 (dQ (ss.take i)) (dA (ss.take i)) s)=v) :
  cH w s.dl s.dh s.pl s.ph (s.es.length:Nat) b3 (i:Nat) v l0 s.nm l1 p2 (EU ss) x8 x9 aR (MH ss.length):=by
 have hi:i<ss.length:=(List.getElem?_eq_some_iff.1 hs).1;have kH:=rS h2
 have hF:i5 (dQ (ss.take i)) (dA (ss.take i)) s=if (mq s.dl s.dh 1 && mq s.pl s.ph 0)=false then 4 else if 16<s.es.length then 3 else kJ (dA (ss.take i)) s.es:=by
  unfold i5;rw [if_neg (by rw [hn];simp),if_neg hp]
 have bad:(mq s.dl s.dh 1 && mq s.pl s.ph 0)=false->CV (1,(i:Int),4)=v:=λhr=>by
  rw [hF,if_pos hr]at hv;exact hv (by decide)
 unfold cH;refine⟨_,λw' _=>yx _ _ _ w',af (λg1=>⟨_,λw' _=>yx _ _ _ w',af (λg2=>⟨by omega,kH,af (λg3 => ?_) (λg3 => ?_)⟩) (λg2=>bad (by simp [g2]))⟩) (λg1=>bad (by simp [g1]))⟩
 ·rw [hF,if_neg (by simp [g1,g2]),if_pos (by omega)]at hv;exact hv (by decide)
 rw [if_neg (by simp [g1,g2]),if_neg (by omega)]at hF;rw [hF]at hv;rw [fP,List.append_nil];refine⟨GP _, ?_⟩;rintro bC rfl;refine af (λh=>(hp (AI.1 h)).elim) (λ_ => ?_);refine⟨by omega,kH,AU (dA (ss.take i)) s.es,GU s.es.length,⟨0,0, ?_,Nat.zero_le _,λt ht=>by omega⟩, ?_⟩
 ·rw [mL,List.append_nil,List.take_zero,List.map_nil,List.append_nil];rfl
 rintro bA bD l2 ⟨a,k,hy,hk,MI⟩;simp only [List.cons.injEq,Vl.i.injEq,Vl.l.injEq,and_true,List.append_nil]at hy;obtain⟨rfl,rfl,fZ⟩:=hy;refine af (λcw => ?_) (λmN => ?_)
 ·refine t2 Gk fZ (by omega) hb iS h2 h3 MI (λe he dO => ?_);rw [Mg he MI dO]at hv;exact hv dO
 ·obtain rfl:k=s.es.length:=by omega
  rintro bd rfl;rw [zx (by omega)];refine⟨⟨x8,x9,aR,i+1, ?_,by omega,λt ht => ?_⟩,by simp only [MH];omega⟩
  ·rw [fZ,List.append_nil,List.take_length,VO hs,VN hs];simp only [List.flatMap_append];rfl
  ·rcases Nat.lt_succ_iff_lt_or_eq.1 ht with ht|rfl
   ·exact hG t ht
   ·unfold mr;rw [hs];show i5 _ _ s=0;rw [hF];exact Mh MI
theorem MJ{w:World}{v:Vh}(hG:nO w)(h:jV w v)(hz:oB v):Calls Tryz.prog 36 #[kq v] w (Vc.aw (CV (bU v)) w):=by
 obtain⟨b0,p0,c0,e0,f0,g0⟩:=AT h.st;obtain⟨b1,p1,c1,e1,f1,g1⟩:=yy h.dr;have kH:=rS f0;have qK:=h.dr;unfold kq;rw [e0];rw [e1]at qK ⊢;refine Ww p0 p1 (v.ss.length:Nat) c0 v.yl v.yh (v.dr.length:Nat) c1 v.ax v.be b0 b1 v.nm w _ ⟨_,λw' hb=>Ma v.nm (hG.eE hb) hz.nm,af (λhn => ?_) (λhn => ?_)⟩;rotate_left
 ·unfold bU;rw [if_pos (.inl (by simpa using hn))];rfl
 refine⟨by omega,kH,af (λh0 => ?_) (λh0 => ?_)⟩
 ·unfold bU;rw [if_pos (.inr (by omega))];rfl
 have Aw:v.ss.length≠0:=by omega
 refine⟨by omega,kH,af (λh8 => ?_) (λh8 => ?_)⟩
 ·unfold bU;rw [if_neg (λh=>h.elim (λh=>by rw [hn]at h;cases h) Aw),if_pos (by omega)];rfl
 have Rt:¬8<v.ss.length:=by omega
 refine⟨by omega,kH,EU v.ss,MH v.ss.length,⟨0,0,0,0,rfl,Nat.zero_le _,λt ht=>by omega⟩, ?_⟩;rintro x8 x9 aR aN l0 l1 ⟨a,b,c,i,hy,hi,MK⟩;simp only [List.cons.injEq,Vl.i.injEq,Vl.l.injEq,and_true,List.append_nil]at hy;obtain⟨rfl,rfl,rfl,rfl,fP,mL⟩:=hy;refine af (λcw => ?_) (λmN => ?_)
 ·have tn:i<v.ss.length:=by omega
  have hs:v.ss[i]? = some v.ss[i]:=List.getElem?_eq_getElem tn;have hm:v.ss[i]∈v.ss:=List.getElem_mem tn;generalize v.ss[i]=s at hs hm;obtain⟨k0,k1,k2,k3,k4,k5⟩:=g0 i s hs;obtain⟨z1,z2,z3⟩:=hz.st s hm;obtain⟨b3,p2,c3,e3,f3,g3⟩:=B1 (h.es s hm);have hv:=λdO=>Mi hn Aw Rt hs MK dO;simp only [Int.toNat_natCast];refine⟨λhb=>by have:=f0 hb;omega,by omega,by omega,s.nm,k0,s.dl,k1,s.dh,k2,s.pl,k3,s.ph,k4,b3,p2,(s.es.length:Nat),c3,(by rw [k5,e3]),_,λw' hb=>Ma s.nm (hG.eE hb) z1,af (λvj => ?_) (λvj => ?_)⟩
  ·rw [fP,List.append_nil];refine⟨GP _, ?_⟩;rintro bz rfl;refine af (λhf => ?_) (λhf=>t1 hG hs fP mL hz.sn z2 z3 f3 g3 vj (λhm=>hf (AI.2 hm)) MK hv);have hm:=AI.1 hf;refine⟨true,Rk hm,af (λ_ => ?_) (λh=>(h rfl).elim)⟩;have hF:i5 (dQ (v.ss.take i)) (dA (v.ss.take i)) s=8:=by unfold i5;rw [if_neg (by rw [vj];simp),if_pos hm]
   rw [hF]at hv;exact hv (by decide)
  ·have hF:i5 (dQ (v.ss.take i)) (dA (v.ss.take i)) s=2:=by unfold i5;rw [if_pos (by simpa using vj)]
   rw [hF]at hv;exact hv (by decide)
 ·obtain rfl:i=v.ss.length:=by omega
  rw [Mj hn Aw Rt MK];refine⟨_,λw' _=>yx _ _ _ w',af (λq1 => ?_) (λq1 => ?_)⟩;rotate_left
  ·rw [if_pos (by simpa using q1)];rfl
  rw [if_neg (show ¬mq v.yl v.yh 0=false by rw [q1];simp)];refine⟨_,λw' hb=>Wx (sV hb qK) hz.dn,af (λq2 => ?_) (λq2 => ?_)⟩;rotate_left
  ·rw [if_pos (by simpa using q2)];rfl
  rw [if_neg (show ¬mU v.dr=false by rw [q2];simp)];have bad:(jn v.ax && jn v.be)=false->CV (4,0,4)=CV (if (jn v.ax && jn v.be)=false then (4,0,4)else (0,0,0)):=λhb=>by rw [if_pos hb]
  refine af (λr1=>af (λr2=>af (λr3=>af (λr4 => ?_) (λr4=>bad (by simp [jn,r4]))) (λr3=>bad (by simp [jn,r3]))) (λr2=>bad (by simp [jn,r2]))) (λr1=>bad (by simp [jn,r1]));rw [if_neg (by simp [jn, *])];rfl
end Go.Proofs.YtnjpiipdgapakaaGreatDoor
