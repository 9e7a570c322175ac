import Derived.Test.YtfclibhhkphckaaGreatDoorLf
set_option linter.unusedVariables false
set_option linter.unusedSimpArgs false
set_option maxRecDepth 4000
namespace Go.Proofs.YtfclibhhkphckaaGreatDoor
open Go Go.RowKit Vc
attribute [local irreducible] Go.Calls
theorem zns{p:UInt8→Bool}{s:List UInt8}:∀ (m n:Nat),s.length - n≤m→runN p s n < s.length→p (s.getD (runN p s n) 0)=false
  | 0,n,hm,h=>by rw [zfi (by omega)]at h;omega
  | m + 1,n,hm,h=>by
    by_cases hn:n < s.length
    · cases hp:p (s.getD n 0)with
      | false=>rw [zwp hn hp]at h ⊢;exact hp
      | true=>rw [← zxp hn hp]at h ⊢;exact zns m (n + 1) (by omega) h
    · rw [zfi (by omega)]at h;omega
theorem zyv{p:UInt8→Bool}{s:List UInt8}{n:Nat}(h:runN p s n < s.length):p (s.getD (runN p s n) 0)=false:=zns _ n (Nat.le_refl _) h
theorem zfda{p:UInt8→Bool}{s:List UInt8}{n k:Nat}(h:k < ((s.drop n).takeWhile p).length):((s.drop n).takeWhile p)[k]=s.getD (n + k) 0∧n + k < s.length:=by
 have h1:=(List.takeWhile_sublist p (l:=s.drop n)).length_le;rw [List.length_drop]at h1;have h2:((s.drop n).takeWhile p)[k]=(s.drop n)[k]'(by rw [List.length_drop];omega):=(List.takeWhile_prefix p (l:=s.drop n)).getElem h;rw [h2,List.getElem_drop];have h3:n + k < s.length:=by omega
 exact⟨by simp [List.getD,h3],h3⟩
def nOf(D:List UInt8):Int:=(digs (D.take 18):Nat)
def mOf(D:List UInt8):Int:=(min 18 D.length:Nat)
def eOf(D:List UInt8):Int:=if 18 < D.length then 4 else 0
def pOf(D:List UInt8)(kb:Nat):Nat:=min 18 D.length - (D.length - kb)
def tpOf(D:List UInt8)(kb:Nat):Int:=(10:Int) ^ pOf D kb
theorem zgda{D:List UInt8}(hd:∀ b∈D,lD b=true):0≤nOf D∧nOf D < 1000000000000000000∧(D.length < 18→nOf D < 100000000000000000):=by
 have h1:=zvp _ (D.take 18) rfl fun b hb=>(zjk b).1 (hd b (List.mem_of_mem_take hb));have h2:=ztf (D.take 18).length (by rw [List.length_take];omega);unfold nOf;refine⟨by omega,by omega,fun h => ?_⟩;have h3:10 ^ (D.take 18).length≤10 ^ 17:=Nat.pow_le_pow_right (by omega) (by rw [List.length_take];omega);have h4:(10:Nat) ^ 17=100000000000000000:=by decide
 omega
theorem zwba{D:List UInt8}{c:UInt8}(h:D.length < 18):nOf (D ++ [c])=10 * nOf D + ((c.toNat - 48:Nat):Int):=by
 unfold nOf;rw [List.take_of_length_le (by simp;omega),List.take_of_length_le (by omega),zvm];simp
theorem zxba{D:List UInt8}{c:UInt8}(h:18≤D.length):nOf (D ++ [c])=nOf D:=by
 unfold nOf;rw [List.take_append_of_le_length h]
theorem zlz(D:List UInt8)(kb:Nat):1≤tpOf D kb∧tpOf D kb≤1000000000000000000:=by
 obtain⟨h1,h2⟩:=zuv (n:=pOf D kb) (by unfold pOf;omega);unfold tpOf;omega
theorem zmz{D:List UInt8}{c:UInt8}{kb:Nat}(h:D.length < 18)(hk:kb≤D.length):tpOf (D ++ [c]) (kb + 1)=10 * tpOf D kb:=by
 have:pOf (D ++ [c]) (kb + 1)=pOf D kb + 1:=by unfold pOf;simp only [List.length_append,List.length_cons,List.length_nil];omega
 unfold tpOf;rw [this,Int.pow_succ];omega
theorem znz{D:List UInt8}{c:UInt8}{kb:Nat}(h:18≤D.length)(hk:kb≤D.length):tpOf (D ++ [c]) (kb + 1)=tpOf D kb:=by
 have:pOf (D ++ [c]) (kb + 1)=pOf D kb:=by unfold pOf;simp only [List.length_append,List.length_cons,List.length_nil];omega
 unfold tpOf;rw [this]
theorem zos(D:List UInt8):tpOf D 0=1:=by
 have:pOf D 0=0:=by unfold pOf;omega
 unfold tpOf;rw [this];rfl
theorem zyba{D:List UInt8}{c:UInt8}(h:D.length < 18):mOf (D ++ [c])=mOf D + 1∧eOf (D ++ [c])=eOf D:=by
 unfold mOf eOf;simp only [List.length_append,List.length_cons,List.length_nil];exact⟨by omega,by rw [if_neg (by omega),if_neg (by omega)]⟩
theorem zzba{D:List UInt8}{c:UInt8}(h:18≤D.length):mOf (D ++ [c])=mOf D∧eOf (D ++ [c])=4:=by
 unfold mOf eOf;simp only [List.length_append,List.length_cons,List.length_nil];exact⟨by omega,by rw [if_pos (by omega)]⟩
def StN(b:Bool)(D:List UInt8)(kb to:Nat):List Vl := [.b b,.i (nOf D),.i (tpOf D kb),.i (mOf D),.i (eOf D),.i (to:Nat)]
def pointB(s:List UInt8)(a:Nat):Bool:=decide (runN lD s a + 1 < s.length∧(s.getD (runN lD s a) 0).toNat=46∧lD (s.getD (runN lD s a + 1) 0)=true)
def InvN(s:List UInt8)(a:Nat)(L:List Vl):Prop :=
 (∃ k,k≤(d1 s a).length∧L=StN false ((d1 s a).take k) 0 (a + k))∨(pointB s a=true∧∃ k,k≤(d2 s a).length∧L=StN true (d1 s a++(d2 s a).take k) k (runN lD s a + 1 + k))
def msN(n:Nat)(L:List Vl):Nat:=match L with
 | [_,_,_,_,_,.i x]=>n - x.toNat
 | _=>0
def tokR(s:List UInt8)(a:Nat):Tk:=⟨2,a,numTo s a,[],(madeR (nOf (d1 s a++d2 s a)) (tpOf (d1 s a++d2 s a) (d2 s a).length) 0 0 0).q,eOf (d1 s a++d2 s a)⟩
theorem ztga{s:List UInt8}{a to kb:Nat}{b:Bool}{D:List UInt8}(hs:s.length < 4611686018427387904)(hd:∀ x∈D,lD x=true)(hto:to < s.length)(hkb:kb≤D.length)(hb:b=false→kb=0)
    (hc:lD (s.getD to 0)=true) (hnext:InvN s a (StN b (D ++ [s.getD to 0]) (if b=true then kb + 1 else 0) (to + 1))) :
    ((mOf D < 18)→(
      ∀ x11:Int,x11=IntKind.i64.wrap (10 * nOf D) →
      ∀ x12:Int,x12=((s.length:Nat):Int) →
      (0≤((to:Nat):Int)) ∧
      (((to:Nat):Int) < x12) ∧
      ∀ x13:Int,x13=(((s.getD (Int.toNat ((to:Nat):Int)) 0).toNat:Nat):Int) →
      ∀ x14:Int,x14=IntKind.u8.wrap (x13 - 48) →
      ∀ x15:Int,x15=IntKind.i64.wrap (x14) →
      ∀ x16:Int,x16=IntKind.i64.wrap (x11 + x15) →
      ((b=true)→(
      ∀ x17:Int,x17=IntKind.i64.wrap (10 * tpOf D kb) →
      ∀ x18:Int,x18=IntKind.i64.wrap (mOf D + 1) →
      ∀ x19:Int,x19=IntKind.i64.wrap (((to:Nat):Int) + 1) →
      InvN s a [.b b,.i x16,.i x17,.i x18,.i (eOf D),.i x19]∧msN s.length [.b b,.i x16,.i x17,.i x18,.i (eOf D),.i x19] < msN s.length [.b b,.i (nOf D),.i (tpOf D kb),.i (mOf D),.i (eOf D),.i ((to:Nat):Int)]))∧(¬ (b=true)→(
      ∀ x17:Int,x17=IntKind.i64.wrap (mOf D + 1) →
      ∀ x18:Int,x18=IntKind.i64.wrap (((to:Nat):Int) + 1) →
      InvN s a [.b b,.i x16,.i (tpOf D kb),.i x17,.i (eOf D),.i x18]∧msN s.length [.b b,.i x16,.i (tpOf D kb),.i x17,.i (eOf D),.i x18] < msN s.length [.b b,.i (nOf D),.i (tpOf D kb),.i (mOf D),.i (eOf D),.i ((to:Nat):Int)]))))∧(¬ (mOf D < 18)→(
      ∀ x11:Int,x11=IntKind.i64.wrap (((to:Nat):Int) + 1) →
      InvN s a [.b b,.i (nOf D),.i (tpOf D kb),.i (mOf D),.i 4,.i x11]∧msN s.length [.b b,.i (nOf D),.i (tpOf D kb),.i (mOf D),.i 4,.i x11] < msN s.length [.b b,.i (nOf D),.i (tpOf D kb),.i (mOf D),.i (eOf D),.i ((to:Nat):Int)])):=by
  have hlen:mOf D < 18↔D.length < 18:=by unfold mOf;omega
  obtain⟨n1,n2,n3⟩:=zgda hd;have hcd:=(zjk _).1 hc;refine iteI (fun h => ?_) (fun h => ?_)
  · have hl:=hlen.1 h;have n4:=n3 hl;rintro x11 rfl x12 rfl;refine⟨by omega,by omega, ?_⟩;rintro x13 rfl x14 rfl x15 rfl x16 rfl;simp only [Int.toNat_natCast];have w1:IntKind.u8.wrap (((s.getD to 0).toNat:Int) - 48)=(((s.getD to 0).toNat - 48:Nat):Int):=by rw [IntKind.wrap_u8];omega
    have w2:IntKind.i64.wrap (IntKind.i64.wrap (10 * nOf D) + IntKind.i64.wrap (IntKind.u8.wrap (((s.getD to 0).toNat:Int) - 48)))=nOf (D ++ [s.getD to 0]):=by
      have e1:IntKind.i64.wrap (10 * nOf D)=10 * nOf D:=zh (by omega);have e2:IntKind.i64.wrap ((((s.getD to 0).toNat - 48:Nat):Int))=(((s.getD to 0).toNat - 48:Nat):Int):=zh (by omega);rw [w1,e1,e2,zh (by omega),zwba hl]
    obtain⟨m1,m2⟩:=zyba (c:=s.getD to 0) hl;have w3:IntKind.i64.wrap (mOf D + 1)=mOf (D ++ [s.getD to 0]):=by rw [zh (by unfold mOf;omega),m1]
    have w4:IntKind.i64.wrap ((to:Int) + 1)=((to + 1:Nat):Int):=by rw [zh (by omega)];omega
    have hms:∀ (v1 v2 v3 v4 v5 u1 u2 u3 u4 u5:Vl),msN s.length [v1,v2,v3,v4,v5,.i ((to + 1:Nat):Int)] < msN s.length [u1,u2,u3,u4,u5,.i (to:Int)]:=fun _ _ _ _ _ _ _ _ _ _=>by simp only [msN];omega
    refine iteI (fun hb1 => ?_) (fun hb1 => ?_)
    · subst hb1;rintro x17 rfl x18 rfl x19 rfl;obtain⟨t1,t2⟩:=zlz (D ++ [s.getD to 0]) (kb + 1);have t3:=zmz (c:=s.getD to 0) hl hkb;rw [w2,w3,w4,zh (by omega),← t3,← m2];rw [if_pos rfl]at hnext;exact⟨hnext,hms ..⟩
    · have hb2:b=false:=by simpa using hb1
      subst hb2
      have:=hb rfl
      subst this;rintro x17 rfl x18 rfl;rw [w2,w3,w4,zos,← zos (D ++ [s.getD to 0]),← m2];rw [if_neg (by simp)]at hnext;exact⟨hnext,hms ..⟩
  · have hl:18≤D.length:=by have:=mt hlen.2 h;omega
    rintro x11 rfl;obtain⟨m1,m2⟩:=zzba (c:=s.getD to 0) hl;have w4:IntKind.i64.wrap ((to:Int) + 1)=((to + 1:Nat):Int):=by rw [zh (by omega)];omega
    have hms:∀ (v1 v2 v3 v4 v5 u1 u2 u3 u4 u5:Vl),msN s.length [v1,v2,v3,v4,v5,.i ((to + 1:Nat):Int)] < msN s.length [u1,u2,u3,u4,u5,.i (to:Int)]:=fun _ _ _ _ _ _ _ _ _ _=>by simp only [msN];omega
    have t3:tpOf D kb=tpOf (D ++ [s.getD to 0]) (if b=true then kb + 1 else 0):=by
      cases b with
      | true=>exact (znz hl hkb).symm
      | false=>rw [hb rfl,zos];exact (zos _).symm
    rw [w4,t3,← m2,← m1,← zxba (c:=s.getD to 0) hl];exact⟨hnext,hms ..⟩
theorem endN{s:List UInt8}{a:Nat}{w:World}(D:List UInt8)(kb:Nat)(to:Nat)(hD:D=d1 s a++d2 s a)(hk:kb=(d2 s a).length)(ht:to=numTo s a) :
    ∃ (x9 x10 x11 x12 x13 x14:Int),(Vq w 160 #[.int .i64 (nOf D),.int .i64 (tpOf D kb),.int .i64 0,.int .i64 0,.int .i64 0] (.tuple #[.agg #[.int .i64 x9,.int .i64 x10,.int .i64 x11,.int .i64 x12,.int .i64 x13],.int .i64 x14])) ∧
      (.agg #[.int .i64 2,.int .i64 (a:Nat),.int .i64 (to:Nat),.string ⟨(([]:List UInt8)).toArray⟩,.int .i64 x9,.int .i64 x10,.int .i64 x11,.int .i64 x12,.int .i64 x13,.int .i64 (eOf D)]:Value)=tokV (tokR s a):=by
  subst hD hk ht
  have hdig:∀ b∈d1 s a++d2 s a,lD b=true:=fun b hb=>by
    rcases List.mem_append.1 hb with hb | hb
    · exact zym s a b hb
    · exact zwv s a b hb
  obtain⟨n1,n2,_⟩:=zgda hdig;obtain⟨t1,t2⟩:=zlz (d1 s a++d2 s a) (d2 s a).length;exact⟨_,_,_,_,_,_,fun w' _=>zaz _ _ 0 0 0 w' ⟨by omega,by omega⟩ ⟨by omega,by omega⟩ (by omega),rfl⟩
theorem zfu(s:List UInt8)(a:Nat)(ha:a≤s.length)(hs:s.length < 4611686018427387904)(w:World):Calls Tryz.prog 142 #[.string ⟨s.toArray⟩,.int .i64 a] w (Vc.Ret (tokV (tokR s a)) w):=by
 refine zif _ s w _ ⟨InvN s a,msN s.length,.inl ⟨0,by omega, ?_⟩, ?_⟩
 ·simp [StN,nOf,zos,mOf,eOf,digs]
 have hr:runN lD s a=a + (d1 s a).length:=rfl;have hrl:runN lD s a≤s.length:=zbh ha;rintro b0 x1 x2 x3 x4 x5 hI;rcases hI with ⟨k,hk,hl⟩ | ⟨hp,k,hk,hl⟩
 ·simp only [StN,List.cons.injEq,Vl.b.injEq,Vl.i.injEq,and_true]at hl;obtain⟨rfl,rfl,rfl,rfl,rfl,rfl⟩:=hl;have hdk:∀ x∈(d1 s a).take k,lD x=true:=fun x hx=>zym s a x (List.mem_of_mem_take hx);rintro x6 rfl;by_cases hkl:k < (d1 s a).length
  ·obtain⟨g1,g2⟩:=zfda (p:=lD) (s:=s) (n:=a) hkl;have hc:lD (s.getD (a + k) 0)=true:=by rw [← g1];exact zym s a _ (List.getElem_mem hkl)
   have hnext:InvN s a (StN false ((d1 s a).take k ++ [s.getD (a + k) 0]) 0 (a + k + 1)):=by
    refine .inl ⟨k + 1,by omega, ?_⟩;rw [List.take_add_one,List.getElem?_eq_getElem hkl];rw [show (d1 s a)[k]=s.getD (a + k) 0 from g1];rfl
   have hcd:=(zjk _).1 hc;refine iteI (fun h => ?_) (fun h=>by omega);rintro x7 rfl;refine⟨by omega,by omega, ?_⟩;rintro x8 rfl;simp only [Int.toNat_natCast];refine⟨true,fun w' _=>by rw [← hc];exact zzb _ w',iteI (fun _ => ?_) (fun h=>(h rfl).elim)⟩;rintro x9 rfl;refine⟨by omega,by omega, ?_⟩;rintro x10 rfl;refine iteI (fun h46=>by omega) (fun _ => ?_)
   have:=ztga (a:=a) (b:=false) (kb:=0) hs hdk g2 (by omega) (fun _=>rfl) hc hnext
   simp only [Int.toNat_natCast]at this;exact this
  ·have hke:k=(d1 s a).length:=by omega
   subst hke;rw [List.take_length];rw [← hr];have fin:pointB s a=false→_:=fun hp=>endN (s:=s) (a:=a) (w:=w) (d1 s a) 0 (runN lD s a) (by unfold d2;rw [if_neg (by simpa [pointB]using hp),List.append_nil]) (by unfold d2;rw [if_neg (by simpa [pointB]using hp)];rfl) (by unfold numTo;rw [if_neg (by simpa [pointB]using hp)]);refine iteI (fun h => ?_) (fun h=>fin (by simp only [pointB,decide_eq_false_iff_not];omega));rintro x7 rfl;refine⟨by omega,by omega, ?_⟩;rintro x8 rfl;simp only [Int.toNat_natCast];have hst:=zyv (p:=lD) (s:=s) (n:=a) (by omega);refine⟨false,fun w' _=>by rw [← hst];exact zzb _ w',iteI (fun h=>by cases h) (fun _=>iteI (fun h=>by cases h) (fun _ => ?_))⟩;rintro x9 rfl;refine⟨by omega,by omega, ?_⟩;rintro x10 rfl;refine iteI (fun h46 => ?_) (fun h46=>fin (by simp only [pointB,decide_eq_false_iff_not];omega));rintro x11 rfl x12 rfl;rw [zh (by omega)];refine iteI (fun h1 => ?_) (fun h1=>fin (by simp only [pointB,decide_eq_false_iff_not];omega));rintro x13 rfl x14 rfl;refine⟨by omega,by omega, ?_⟩;rintro x15 rfl;rw [show Int.toNat ((runN lD s a:Nat) + 1:Int)=runN lD s a + 1 by omega];refine⟨_,fun w' _=>zzb _ w',iteI (fun h2 => ?_) (fun h2=>fin (by simp only [pointB,decide_eq_false_iff_not];exact fun h=>h2 h.2.2))⟩;rintro x16 rfl;refine⟨by omega,by omega, ?_⟩;rintro x17 rfl;refine iteI (fun _ => ?_) (fun h=>(h h46).elim);rintro x18 rfl;have hpt:pointB s a=true:=by simp only [pointB,decide_eq_true_eq];exact⟨by omega,by omega,h2⟩
   refine⟨.inr ⟨hpt,0,by omega, ?_⟩,by simp only [msN];omega⟩;rw [List.take_zero,List.append_nil];simp [StN]
 ·simp only [StN,List.cons.injEq,Vl.b.injEq,Vl.i.injEq,and_true]at hl;obtain⟨rfl,rfl,rfl,rfl,rfl,rfl⟩:=hl
  have hdk:∀ x∈d1 s a++(d2 s a).take k,lD x=true:=fun x hx=>by
   rcases List.mem_append.1 hx with hx | hx
   ·exact zym s a x hx
   ·exact zwv s a x (List.mem_of_mem_take hx)
  have hpp:runN lD s a + 1 < s.length∧(s.getD (runN lD s a) 0).toNat=46∧lD (s.getD (runN lD s a + 1) 0)=true:=by simpa [pointB]using hp
  have h2e:d2 s a=(s.drop (runN lD s a + 1)).takeWhile lD:=by unfold d2;rw [if_pos hpp]
  have hN:numTo s a=runN lD s a + 1 + (d2 s a).length:=by unfold numTo;rw [if_pos hpp,h2e];rfl
  rintro x6 rfl;by_cases hkl:k < (d2 s a).length
  ·have hkl':k < ((s.drop (runN lD s a + 1)).takeWhile lD).length:=by rw [← h2e];exact hkl
   obtain⟨g1,g2⟩:=zfda (p:=lD) (s:=s) (n:=runN lD s a + 1) hkl';have g1':(d2 s a)[k]=s.getD (runN lD s a + 1 + k) 0:=by rw [← g1];simp only [h2e]
   have hc:lD (s.getD (runN lD s a + 1 + k) 0)=true:=by rw [← g1'];exact zwv s a _ (List.getElem_mem hkl)
   have hnext:InvN s a (StN true (d1 s a++(d2 s a).take k ++ [s.getD (runN lD s a + 1 + k) 0]) (k + 1) (runN lD s a + 1 + k + 1)):=by
    refine .inr ⟨hp,k + 1,by omega, ?_⟩;rw [List.take_add_one,List.getElem?_eq_getElem hkl,g1',← List.append_assoc];rfl
   have hcd:=(zjk _).1 hc;refine iteI (fun h => ?_) (fun h=>by omega);rintro x7 rfl;refine⟨by omega,by omega, ?_⟩;rintro x8 rfl;simp only [Int.toNat_natCast];refine⟨true,fun w' _=>by rw [← hc];exact zzb _ w',iteI (fun _ => ?_) (fun h=>(h rfl).elim)⟩;rintro x9 rfl;refine⟨by omega,by omega, ?_⟩;rintro x10 rfl;refine iteI (fun h46=>by omega) (fun _ => ?_)
   have:=ztga (a:=a) (b:=true) (kb:=k) hs hdk g2 (by rw [List.length_append,List.length_take];omega) (fun h=>by cases h) hc hnext
   simp only [Int.toNat_natCast]at this;exact this
  ·have hke:k=(d2 s a).length:=by omega
   subst hke;rw [List.take_length];have fin:=endN (s:=s) (a:=a) (w:=w) (d1 s a++d2 s a) (d2 s a).length (runN lD s a + 1 + (d2 s a).length) rfl rfl hN.symm;refine iteI (fun h => ?_) (fun h=>fin);rintro x7 rfl;refine⟨by omega,by omega, ?_⟩;rintro x8 rfl;simp only [Int.toNat_natCast];have hq:runN lD s (runN lD s a + 1)=runN lD s a + 1 + (d2 s a).length:=by rw [h2e];rfl
   have hst:=zyv (p:=lD) (s:=s) (n:=runN lD s a + 1) (by omega);rw [hq]at hst;exact⟨false,fun w' _=>by rw [← hst];exact zzb _ w',iteI (fun h=>by cases h) (fun _=>iteI (fun _=>fin) (fun h=>by simp at h))⟩
end Go.Proofs.YtfclibhhkphckaaGreatDoor
