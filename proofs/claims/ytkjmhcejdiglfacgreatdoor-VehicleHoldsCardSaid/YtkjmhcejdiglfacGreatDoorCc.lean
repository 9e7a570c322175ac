import Derived.Test.YtkjmhcejdiglfacGreatDoorGv
import Derived.Test.YtkjmhcejdiglfacGreatDoorCp
set_option linter.unusedVariables false
set_option linter.unusedSimpArgs false
set_option maxRecDepth 4000
namespace Go.Proofs.YtkjmhcejdiglfacGreatDoor
open Go Go.RowKit Vc
attribute [local irreducible] Go.Calls
theorem zwa(lo hi least:Int)(w:World):Calls Tryz.prog 97 #[.agg #[.int .i64 lo,.int .i64 hi],.int .i64 least] w (Vc.Ret (.bool (bdd lo hi least)) w):=by
 refine znh lo hi least w _ ?_;refine iteI (fun h=>iteI (fun h2 => ?_) (fun h2 => ?_)) (fun h => ?_)
 all_goals simp [bdd,h, *]
theorem zic{w:World}{v:Value}{l:List Pt}(h:SlAt w v 3 (l.flatMap ptc)):∃ (b0:Bool) (p0:Nat × Nat) (x1:Int),v=(if b0=true then .slice none 0 0 else .slice (some (Vc.qad p0 (Int.toNat (l.length:Int)) (Int.toNat x1))) (Int.toNat (l.length:Int)) (Int.toNat x1))∧(b0=true→l.length=0) ∧
  (∀ (i:Nat) (z:Pt),l[i]? = some z→w.cell? ⟨p0.1,p0.2 + i * 3 + 0,none⟩=some (.int .i64 z.a)∧w.cell? ⟨p0.1,p0.2 + i * 3 + 1,none⟩=some (.int .i64 z.lo)∧w.cell? ⟨p0.1,p0.2 + i * 3 + 2,none⟩=some (.int .i64 z.hi)):=by
 obtain⟨b0,p0,x1,h1,h2,h3⟩:=znt h (by decide) (ztf ztm l);refine⟨b0,p0,x1,h1,h2,fun i p hp => ?_⟩;simp only [Nat.add_assoc];exact⟨h3 (i * 3 + 0) _ (zx ztm hp (by decide)),h3 (i * 3 + 1) _ (zx ztm hp (by decide)),h3 (i * 3 + 2) _ (zx ztm hp (by decide))⟩
theorem zed{w:World}{v:Value}{l:List Stg}(h:SlAt w v 6 (l.flatMap stc)):∃ (b0:Bool) (p0:Nat × Nat) (x1:Int),v=(if b0=true then .slice none 0 0 else .slice (some (Vc.qad p0 (Int.toNat (l.length:Int)) (Int.toNat x1))) (Int.toNat (l.length:Int)) (Int.toNat x1))∧(b0=true→l.length=0) ∧
  (∀ (i:Nat) (z:Stg),l[i]? = some z→w.cell? ⟨p0.1,p0.2 + i * 6 + 0,none⟩=some (.string ⟨z.nm.toArray⟩)∧w.cell? ⟨p0.1,p0.2 + i * 6 + 1,none⟩=some (.int .i64 z.dl)∧w.cell? ⟨p0.1,p0.2 + i * 6 + 2,none⟩=some (.int .i64 z.dh) ∧
   w.cell? ⟨p0.1,p0.2 + i * 6 + 3,none⟩=some (.int .i64 z.pl)∧w.cell? ⟨p0.1,p0.2 + i * 6 + 4,none⟩=some (.int .i64 z.ph)∧w.cell? ⟨p0.1,p0.2 + i * 6 + 5,none⟩=some z.v):=by
 obtain⟨b0,p0,x1,h1,h2,h3⟩:=znt h (by decide) (ztf zif l);refine⟨b0,p0,x1,h1,h2,fun i p hp => ?_⟩;simp only [Nat.add_assoc];exact⟨h3 (i * 6 + 0) _ (zx zif hp (by decide)),h3 (i * 6 + 1) _ (zx zif hp (by decide)),h3 (i * 6 + 2) _ (zx zif hp (by decide)),h3 (i * 6 + 3) _ (zx zif hp (by decide)),h3 (i * 6 + 4) _ (zx zif hp (by decide)),h3 (i * 6 + 5) _ (zx zif hp (by decide))⟩
theorem zfd{w:World}{v:Value}{l:List En}(h:SlAt w v 11 (l.flatMap enc)):∃ (b0:Bool) (p0:Nat × Nat) (x1:Int),v=(if b0=true then .slice none 0 0 else .slice (some (Vc.qad p0 (Int.toNat (l.length:Int)) (Int.toNat x1))) (Int.toNat (l.length:Int)) (Int.toNat x1))∧(b0=true→l.length=0) ∧
  (∀ (i:Nat) (z:En),l[i]? = some z→w.cell? ⟨p0.1,p0.2 + i * 11 + 0,none⟩=some (.string ⟨z.nm.toArray⟩)∧w.cell? ⟨p0.1,p0.2 + i * 11 + 1,none⟩=some (.int .i64 z.n)∧w.cell? ⟨p0.1,p0.2 + i * 11 + 2,none⟩=some (.int .i64 z.tl) ∧
   w.cell? ⟨p0.1,p0.2 + i * 11 + 3,none⟩=some (.int .i64 z.th)∧w.cell? ⟨p0.1,p0.2 + i * 11 + 4,none⟩=some (.int .i64 z.fl)∧w.cell? ⟨p0.1,p0.2 + i * 11 + 5,none⟩=some (.int .i64 z.fh)∧w.cell? ⟨p0.1,p0.2 + i * 11 + 6,none⟩=some (.int .i64 z.le) ∧
   w.cell? ⟨p0.1,p0.2 + i * 11 + 7,none⟩=some (.int .i64 z.sl)∧w.cell? ⟨p0.1,p0.2 + i * 11 + 8,none⟩=some (.int .i64 z.sh)∧w.cell? ⟨p0.1,p0.2 + i * 11 + 9,none⟩=some (.int .i64 z.pl)∧w.cell? ⟨p0.1,p0.2 + i * 11 + 10,none⟩=some (.int .i64 z.ph)):=by
 obtain⟨b0,p0,x1,h1,h2,h3⟩:=znt h (by decide) (ztf zzb l);refine⟨b0,p0,x1,h1,h2,fun i p hp => ?_⟩;simp only [Nat.add_assoc]
 exact⟨h3 (i * 11 + 0) _ (zx zzb hp (by decide)),h3 (i * 11 + 1) _ (zx zzb hp (by decide)),h3 (i * 11 + 2) _ (zx zzb hp (by decide)),h3 (i * 11 + 3) _ (zx zzb hp (by decide)),h3 (i * 11 + 4) _ (zx zzb hp (by decide)),h3 (i * 11 + 5) _ (zx zzb hp (by decide)),
  h3 (i * 11 + 6) _ (zx zzb hp (by decide)),h3 (i * 11 + 7) _ (zx zzb hp (by decide)),h3 (i * 11 + 8) _ (zx zzb hp (by decide)),h3 (i * 11 + 9) _ (zx zzb hp (by decide)),h3 (i * 11 + 10) _ (zx zzb hp (by decide))⟩
theorem zob{b:Bool}{n:Nat}(h:b=true→n=0):(¬ b=true)∨((n:Int)=0):=by
 by_cases hb:b=true
 ·exact .inr (by rw [h hb];rfl)
 ·exact .inl hb
def InvTb(l:List Pt)(L:List Vl):Prop:=∃ (b:Bool) (last:Int) (i:Nat),L=[.b b,.i last,.i i]∧i≤l.length∧tblF last (l.drop i)=tblF (-1) l
def msTb(n:Nat)(L:List Vl):Nat:=match L with
 | [_,_,.i i]=>n - i.toNat
 | _=>0
theorem zgw{w:World}{v:Value}{l:List Pt}(h:SlAt w v 3 (l.flatMap ptc))(hn:l.length < 4611686018427387904):Calls Tryz.prog 98 #[v] w (Vc.Ret (.bool (tblB l)) w):=by
 obtain⟨b0,p0,x1,rfl,h2,h3⟩:=zic h;have hno:=zob h2;refine zyi p0 (l.length:Nat) x1 b0 w _ ⟨by omega,hno,InvTb l,msTb l.length,⟨false,-1,0,rfl,by omega,rfl⟩, ?_⟩;rintro b1 x2 x3 ⟨b,last,i,hy,hi,ht⟩;simp only [List.cons.injEq,Vl.b.injEq,Vl.i.injEq,and_true]at hy;obtain⟨rfl,rfl,rfl⟩:=hy;refine iteI (fun hlt => ?_) (fun hge => ?_)
 ·have hi':i < l.length:=by omega
  have hg:l[i]? = some l[i]:=List.getElem?_eq_getElem hi';rw [List.drop_eq_getElem_cons hi']at ht;generalize l[i]=p at hg ht;obtain⟨c1,c2,c3⟩:=h3 i p hg;refine⟨fun hb=>by have:=h2 hb;omega,by omega,by omega,p.a, ?_,p.lo, ?_,p.hi, ?_, ?_⟩
  ·simp only [Int.toNat_natCast];exact c1
  ·simp only [Int.toNat_natCast];exact c2
  ·simp only [Int.toNat_natCast];exact c3
  have bad:(decide (x2 < p.a) && decide (p.a≤4503599627370496) && bdd p.lo p.hi 0)=false→(Value.bool false)=.bool (tblB l):=fun hb=>by
   rw [tblF,hb,Bool.false_and]at ht;rw [tblB,← ht,Bool.false_and]
  refine iteI (fun h=>bad (by simp;omega)) (fun h=>iteI (fun h'=>bad (by simp;omega)) (fun h'=>⟨_,fun w' _=>zwa _ _ _ w',iteI (fun hb => ?_) (fun hb=>bad (by simp [hb]))⟩));rintro x7 rfl;rw [zj (by omega)];refine⟨⟨b1,p.a,i + 1,rfl,by omega, ?_⟩,by simp only [msTb];omega⟩;rw [← ht,tblF,hb,decide_eq_true (by omega),decide_eq_true (by omega)];simp
 ·have hie:i=l.length:=by omega
  rw [hie,List.drop_length,tblF]at ht;refine⟨by omega,hno,iteI (fun h => ?_) (fun h => ?_)⟩
  ·refine zcj ?_;rw [tblB,← ht,Bool.true_and,Bool.eq_iff_iff];simp only [decide_eq_true_eq,Bool.and_eq_true];omega
  ·refine zcj ?_;rw [tblB,← ht,Bool.true_and,Bool.eq_iff_iff];simp only [decide_eq_true_eq,Bool.and_eq_true,Bool.false_eq_true,false_iff];omega
def InvE(pe:List (List UInt8))(es:List En)(L:List Vl):Prop:=∃ (a:Int) (k:Nat),L=[.i a,.i k,.l ((pe++(es.take k).map (·.nm)).flatMap setE)]∧k≤es.length∧∀ t,t < k→engG pe es t=0
def msE(n:Nat)(L:List Vl):Nat:=match L with
 | [_,.i k,_]=>n - k.toNat
 | _=>0
theorem zhw{es:List En}{k:Nat}{e:En}(h:es[k]? = some e):(es.take (k + 1)).map (·.nm)=(es.take k).map (·.nm) ++ [e.nm]:=by
 rw [List.take_add_one,h];simp
theorem zjda{pe:List (List UInt8)}{es:List En}{k:Nat}{e:En}(h:es[k]? = some e):engG pe es k=engF (pe++(es.take k).map (·.nm)) e:=by unfold engG;rw [h]
theorem t3{w:World}{v:Value}{i:Nat}{pe:List (List UInt8)}{es:List En}{k:Nat}{e:En}{a:Int}{l3:List OV}(hl3:l3.map (·.1)=(pe++(es.take k).map (·.nm)).flatMap setE)(he:es[k]? = some e)(hn:pNamed e.nm=true)
  (hp:e.nm ∉ pe++(es.take k).map (·.nm)) (hb:es.length < 4611686018427387904) (hG:∀ t,t < k→engG pe es t=0) (hv:engF (pe++(es.take k).map (·.nm)) e≠0→CV (1,(i:Int),engF (pe++(es.take k).map (·.nm)) e)=v) :
  Vj_vehicle_Check_T3 e.n w e.tl e.th e.fl e.fh e.le (i:Nat) v e.sl e.sh e.pl e.ph l3 e.nm (k:Nat) (InvE pe es) a (msE es.length):=by
 have hk:k < es.length:=(List.getElem?_eq_some_iff.1 he).1;have hF:engF (pe++(es.take k).map (·.nm)) e=if rng e=false then 4 else 0:=by unfold engF;rw [if_neg (by rw [hn];simp),if_neg hp]
 have bad:rng e=false→CV (1,(i:Int),4)=v:=fun hr=>by
  rw [hF,if_pos hr]at hv;exact hv (by decide)
 unfold Vj_vehicle_Check_T3
 refine iteI (fun h1=>iteI (fun h2=>⟨_,fun w' _=>zwa _ _ _ w',iteI (fun h3=>⟨_,fun w' _=>zwa _ _ _ w',iteI (fun h4=>iteI (fun h5=>bad (by simp [rng,Int.not_le.2 h5])) (fun h5=>iteI (fun h6=>bad (by simp [rng,Int.not_le.2 h6])) (fun h6 =>
  ⟨_,fun w' _=>zwa _ _ _ w',iteI (fun h7=>⟨_,fun w' _=>zwa _ _ _ w',iteI (fun h8 => ?_) (fun h8=>bad (by simp [rng,h8]))⟩) (fun h7=>bad (by simp [rng,h7]))⟩))) (fun h4=>bad (by simp [rng,h4]))⟩) (fun h3=>bad (by simp [rng,h3]))⟩) (fun h2=>bad (by simp [rng,h2]))) (fun h1=>bad (by simp [rng,h1]))
 ·have hr:rng e=true:=by simp [rng,h1,h2,h3,h4,h7,h8];omega
  rw [hl3,List.append_nil];refine⟨zwu _, ?_⟩;rintro x33 rfl;refine iteI (fun h=>(hp (zfb.1 h)).elim) (fun _ => ?_);rintro x34 rfl;rw [zj (by omega)];refine⟨⟨a,k + 1, ?_,by omega,fun t ht => ?_⟩,by simp only [msE];omega⟩
  ·simp only [zhw he,List.flatMap_append,List.append_assoc];rfl
  ·rcases Nat.lt_succ_iff_lt_or_eq.1 ht with ht | rfl
   ·exact hG t ht
   ·rw [zjda he,hF,if_neg (by rw [hr];simp)]
theorem t2{w:World}{v:Value}{i:Nat}{pe:List (List UInt8)}{es:List En}{k:Nat}{a:Int}{l3:List OV}{b3:Bool}{p2:Nat × Nat}(hG0:VGs w)(hl3:l3.map (·.1)=(pe++(es.take k).map (·.nm)).flatMap setE)(hk:k < es.length)(hb:es.length < 4611686018427387904)
  (hsz:∀ e∈es,e.nm.length < 4611686018427387904) (h2:b3=true→es.length=0)
  (h3:∀ (i:Nat) (z:En),es[i]? = some z→w.cell? ⟨p2.1,p2.2 + i * 11 + 0,none⟩=some (.string ⟨z.nm.toArray⟩)∧w.cell? ⟨p2.1,p2.2 + i * 11 + 1,none⟩=some (.int .i64 z.n)∧w.cell? ⟨p2.1,p2.2 + i * 11 + 2,none⟩=some (.int .i64 z.tl) ∧
   w.cell? ⟨p2.1,p2.2 + i * 11 + 3,none⟩=some (.int .i64 z.th)∧w.cell? ⟨p2.1,p2.2 + i * 11 + 4,none⟩=some (.int .i64 z.fl)∧w.cell? ⟨p2.1,p2.2 + i * 11 + 5,none⟩=some (.int .i64 z.fh)∧w.cell? ⟨p2.1,p2.2 + i * 11 + 6,none⟩=some (.int .i64 z.le) ∧
   w.cell? ⟨p2.1,p2.2 + i * 11 + 7,none⟩=some (.int .i64 z.sl)∧w.cell? ⟨p2.1,p2.2 + i * 11 + 8,none⟩=some (.int .i64 z.sh)∧w.cell? ⟨p2.1,p2.2 + i * 11 + 9,none⟩=some (.int .i64 z.pl)∧w.cell? ⟨p2.1,p2.2 + i * 11 + 10,none⟩=some (.int .i64 z.ph))
  (hG:∀ t,t < k→engG pe es t=0) (hv:∀ e,es[k]? = some e→engF (pe++(es.take k).map (·.nm)) e≠0→CV (1,(i:Int),engF (pe++(es.take k).map (·.nm)) e)=v) :
  Vj_vehicle_Check_T2 b3 (k:Nat) (es.length:Nat) w p2 l3 (i:Nat) v (InvE pe es) a (msE es.length):=by
 have he:es[k]? = some es[k]:=List.getElem?_eq_getElem hk;have hm:es[k]∈es:=List.getElem_mem hk;generalize es[k]=e at he hm;obtain⟨c0,c1,c2,c3,c4,c5,c6,c7,c8,c9,c10⟩:=h3 k e he;have hv':=hv e he;unfold Vj_vehicle_Check_T2;simp only [Int.toNat_natCast];refine⟨fun hb=>by have:=h2 hb;omega,by omega,by omega,e.nm,c0,e.n,c1,e.tl,c2,e.th,c3,e.fl,c4,e.fh,c5,e.le,c6,e.sl,c7,e.sh,c8,e.pl,c9,e.ph,c10,_,fun w' hb'=>zqm e.nm (hG0.keep hb') (hsz e hm),iteI (fun hn => ?_) (fun hn => ?_)⟩
 ·rw [hl3,List.append_nil];refine⟨zwu _, ?_⟩;rintro x32 rfl;refine iteI (fun hf => ?_) (fun hf=>t3 hl3 he hn (fun hm=>hf (zfb.2 hm)) hb hG hv');have hm:=zfb.1 hf;refine⟨true,zsm hm,iteI (fun _ => ?_) (fun h=>(h rfl).elim)⟩;have hF:engF (pe++(es.take k).map (·.nm)) e=8:=by unfold engF;rw [if_neg (by rw [hn];simp),if_pos hm]
  rw [hF]at hv';exact hv' (by decide)
 ·have hF:engF (pe++(es.take k).map (·.nm)) e=2:=by unfold engF;rw [if_pos (by simpa using hn)]
  rw [hF]at hv';exact hv' (by decide)
def InvC(ss:List Stg)(L:List Vl):Prop:=∃ (a b c:Int) (i:Nat),L=[.i a,.i b,.i c,.i i,.l ((sNames (ss.take i)).flatMap setE),.l ((eNames (ss.take i)).flatMap setE)]∧i≤ss.length∧∀ t,t < i→stgG ss t=0
def msC(n:Nat)(L:List Vl):Nat:=match L with
 | [_,_,_,.i i,_,_]=>n - i.toNat
 | _=>0
theorem t1{w:World}{v:Value}{i:Nat}{ss:List Stg}{s:Stg}{b3:Bool}{p2:Nat × Nat}{l0 l1:List OV}{x8 x9 x10:Int}(hG0:VGs w)(hs:ss[i]? = some s)(hl0:l0.map (·.1)=(sNames (ss.take i)).flatMap setE)(hl1:l1.map (·.1)=(eNames (ss.take i)).flatMap setE)
  (hsn:ss.length < 4611686018427387904) (hb:s.es.length < 4611686018427387904) (hsz:∀ e∈s.es,e.nm.length < 4611686018427387904) (h2:b3=true→s.es.length=0)
  (h3:∀ (i:Nat) (z:En),s.es[i]? = some z→w.cell? ⟨p2.1,p2.2 + i * 11 + 0,none⟩=some (.string ⟨z.nm.toArray⟩)∧w.cell? ⟨p2.1,p2.2 + i * 11 + 1,none⟩=some (.int .i64 z.n)∧w.cell? ⟨p2.1,p2.2 + i * 11 + 2,none⟩=some (.int .i64 z.tl) ∧
   w.cell? ⟨p2.1,p2.2 + i * 11 + 3,none⟩=some (.int .i64 z.th)∧w.cell? ⟨p2.1,p2.2 + i * 11 + 4,none⟩=some (.int .i64 z.fl)∧w.cell? ⟨p2.1,p2.2 + i * 11 + 5,none⟩=some (.int .i64 z.fh)∧w.cell? ⟨p2.1,p2.2 + i * 11 + 6,none⟩=some (.int .i64 z.le) ∧
   w.cell? ⟨p2.1,p2.2 + i * 11 + 7,none⟩=some (.int .i64 z.sl)∧w.cell? ⟨p2.1,p2.2 + i * 11 + 8,none⟩=some (.int .i64 z.sh)∧w.cell? ⟨p2.1,p2.2 + i * 11 + 9,none⟩=some (.int .i64 z.pl)∧w.cell? ⟨p2.1,p2.2 + i * 11 + 10,none⟩=some (.int .i64 z.ph))
  (hn:pNamed s.nm=true) (hp:s.nm ∉ sNames (ss.take i)) (hG:∀ t,t < i→stgG ss t=0)
  (hv:stgF (sNames (ss.take i)) (eNames (ss.take i)) s≠0→CV (1,(i:Int),stgF (sNames (ss.take i)) (eNames (ss.take i)) s)=v) :
  Vj_vehicle_Check_T1 w s.dl s.dh s.pl s.ph (s.es.length:Nat) b3 (i:Nat) v l0 s.nm l1 p2 (InvC ss) x8 x9 x10 (msC ss.length):=by
 have hi:i < ss.length:=(List.getElem?_eq_some_iff.1 hs).1;have hno:=zob h2
 have hF:stgF (sNames (ss.take i)) (eNames (ss.take i)) s=if (bdd s.dl s.dh 1 && bdd s.pl s.ph 0)=false then 4 else if 16 < s.es.length then 3 else engsF (eNames (ss.take i)) s.es:=by
  unfold stgF;rw [if_neg (by rw [hn];simp),if_neg hp]
 have bad:(bdd s.dl s.dh 1 && bdd s.pl s.ph 0)=false→CV (1,(i:Int),4)=v:=fun hr=>by
  rw [hF,if_pos hr]at hv;exact hv (by decide)
 unfold Vj_vehicle_Check_T1;refine⟨_,fun w' _=>zwa _ _ _ w',iteI (fun g1=>⟨_,fun w' _=>zwa _ _ _ w',iteI (fun g2=>⟨by omega,hno,iteI (fun g3 => ?_) (fun g3 => ?_)⟩) (fun g2=>bad (by simp [g2]))⟩) (fun g1=>bad (by simp [g1]))⟩
 ·rw [hF,if_neg (by simp [g1,g2]),if_pos (by omega)]at hv;exact hv (by decide)
 rw [if_neg (by simp [g1,g2]),if_neg (by omega)]at hF;rw [hF]at hv;rw [hl0,List.append_nil];refine⟨zwu _, ?_⟩;rintro x19 rfl;refine iteI (fun h=>(hp (zfb.1 h)).elim) (fun _ => ?_);refine⟨by omega,hno,InvE (eNames (ss.take i)) s.es,msE s.es.length,⟨0,0, ?_,Nat.zero_le _,fun t ht=>by omega⟩, ?_⟩
 ·rw [hl1,List.append_nil,List.take_zero,List.map_nil,List.append_nil];rfl
 rintro x20 x21 l2 ⟨a,k,hy,hk,hGe⟩;simp only [List.cons.injEq,Vl.i.injEq,Vl.l.injEq,and_true,List.append_nil]at hy;obtain⟨rfl,rfl,hl2⟩:=hy;refine iteI (fun hlt => ?_) (fun hge => ?_)
 ·refine t2 hG0 hl2 (by omega) hb hsz h2 h3 hGe (fun e he hne => ?_);rw [zmy he hGe hne]at hv;exact hv hne
 ·obtain rfl:k=s.es.length:=by omega
  rintro x22 rfl;rw [zj (by omega)];refine⟨⟨x8,x9,x10,i + 1, ?_,by omega,fun t ht => ?_⟩,by simp only [msC];omega⟩
  ·rw [hl2,List.append_nil,List.take_length,zst hs,zrt hs];simp only [List.flatMap_append];rfl
  ·rcases Nat.lt_succ_iff_lt_or_eq.1 ht with ht | rfl
   ·exact hG t ht
   ·unfold stgG;rw [hs];show stgF _ _ s=0;rw [hF];exact zny hGe
theorem ztt{w:World}{v:Vh}(hG:VGs w)(h:VhAt w v)(hz:VhSz v):Calls Tryz.prog 48 #[VHV v] w (Vc.Ret (CV (pCheck v)) w):=by
 obtain⟨b0,p0,c0,e0,f0,g0⟩:=zed h.st;obtain⟨b1,p1,c1,e1,f1,g1⟩:=zic h.dr;have hno:=zob f0;have hdr:=h.dr;unfold VHV;rw [e0];rw [e1]at hdr ⊢;refine zak p0 p1 (v.ss.length:Nat) c0 v.yl v.yh (v.dr.length:Nat) c1 v.ax v.be b0 b1 v.nm w _ ⟨_,fun w' hb=>zqm v.nm (hG.keep hb) hz.nm,iteI (fun hn => ?_) (fun hn => ?_)⟩;rotate_left
 ·unfold pCheck;rw [if_pos (.inl (by simpa using hn))];rfl
 refine⟨by omega,hno,iteI (fun h0 => ?_) (fun h0 => ?_)⟩
 ·unfold pCheck;rw [if_pos (.inr (by omega))];rfl
 have h0':v.ss.length≠0:=by omega
 refine⟨by omega,hno,iteI (fun h8 => ?_) (fun h8 => ?_)⟩
 ·unfold pCheck;rw [if_neg (fun h=>h.elim (fun h=>by rw [hn]at h;cases h) h0'),if_pos (by omega)];rfl
 have h8':¬ 8 < v.ss.length:=by omega
 refine⟨by omega,hno,InvC v.ss,msC v.ss.length,⟨0,0,0,0,rfl,Nat.zero_le _,fun t ht=>by omega⟩, ?_⟩;rintro x8 x9 x10 x11 l0 l1 ⟨a,b,c,i,hy,hi,hGs⟩;simp only [List.cons.injEq,Vl.i.injEq,Vl.l.injEq,and_true,List.append_nil]at hy;obtain⟨rfl,rfl,rfl,rfl,hl0,hl1⟩:=hy;refine iteI (fun hlt => ?_) (fun hge => ?_)
 ·have hi':i < v.ss.length:=by omega
  have hs:v.ss[i]? = some v.ss[i]:=List.getElem?_eq_getElem hi';have hm:v.ss[i]∈v.ss:=List.getElem_mem hi';generalize v.ss[i]=s at hs hm;obtain⟨k0,k1,k2,k3,k4,k5⟩:=g0 i s hs;obtain⟨z1,z2,z3⟩:=hz.st s hm;obtain⟨b3,p2,c3,e3,f3,g3⟩:=zfd (h.es s hm);have hv:=fun hne=>zoy hn h0' h8' hs hGs hne;simp only [Int.toNat_natCast];refine⟨fun hb=>by have:=f0 hb;omega,by omega,by omega,s.nm,k0,s.dl,k1,s.dh,k2,s.pl,k3,s.ph,k4,b3,p2,(s.es.length:Nat),c3,(by rw [k5,e3]),_,fun w' hb=>zqm s.nm (hG.keep hb) z1,iteI (fun hsn => ?_) (fun hsn => ?_)⟩
  ·rw [hl0,List.append_nil];refine⟨zwu _, ?_⟩;rintro x18 rfl;refine iteI (fun hf => ?_) (fun hf=>t1 hG hs hl0 hl1 hz.sn z2 z3 f3 g3 hsn (fun hm=>hf (zfb.2 hm)) hGs hv);have hm:=zfb.1 hf;refine⟨true,zsm hm,iteI (fun _ => ?_) (fun h=>(h rfl).elim)⟩;have hF:stgF (sNames (v.ss.take i)) (eNames (v.ss.take i)) s=8:=by unfold stgF;rw [if_neg (by rw [hsn];simp),if_pos hm]
   rw [hF]at hv;exact hv (by decide)
  ·have hF:stgF (sNames (v.ss.take i)) (eNames (v.ss.take i)) s=2:=by unfold stgF;rw [if_pos (by simpa using hsn)]
   rw [hF]at hv;exact hv (by decide)
 ·obtain rfl:i=v.ss.length:=by omega
  rw [zpy hn h0' h8' hGs];refine⟨_,fun w' _=>zwa _ _ _ w',iteI (fun q1 => ?_) (fun q1 => ?_)⟩;rotate_left
  ·rw [if_pos (by simpa using q1)];rfl
  rw [if_neg (show ¬ bdd v.yl v.yh 0=false by rw [q1];simp)];refine⟨_,fun w' hb=>zgw (zle hb hdr) hz.dn,iteI (fun q2 => ?_) (fun q2 => ?_)⟩;rotate_left
  ·rw [if_pos (by simpa using q2)];rfl
  rw [if_neg (show ¬ tblB v.dr=false by rw [q2];simp)];have bad:(limB v.ax && limB v.be)=false→CV (4,0,4)=CV (if (limB v.ax && limB v.be)=false then (4,0,4)else (0,0,0)):=fun hb=>by rw [if_pos hb]
  refine iteI (fun r1=>iteI (fun r2=>iteI (fun r3=>iteI (fun r4 => ?_) (fun r4=>bad (by simp [limB,r4]))) (fun r3=>bad (by simp [limB,r3]))) (fun r2=>bad (by simp [limB,r2]))) (fun r1=>bad (by simp [limB,r1]));rw [if_neg (by simp [limB, *])];rfl
end Go.Proofs.YtkjmhcejdiglfacGreatDoor
