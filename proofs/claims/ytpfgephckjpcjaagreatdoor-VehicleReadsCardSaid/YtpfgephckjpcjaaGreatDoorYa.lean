import Derived.Test.YtpfgephckjpcjaaGreatDoorLh
set_option linter.unusedVariables false
set_option linter.unusedSimpArgs false
namespace Go.Proofs.YtpfgephckjpcjaaGreatDoor
open Go Go.RowKit Vc
inductive Pr where
 |ok (v:Q5) (i:Nat)
 |err (a:Nat) (e:Int) (i:Nat) (q:Q5)
 |out
def Pr.bind(r:Pr)(g:Q5->Q5)(k:Q5->Nat->Pr):Pr :=
 match r with
 | .ok v i=>k v i
 | .err a e i q=>.err a e i (g q)
 | .out=>.out
theorem Pr.eV{r:Pr}{g:Q5->Q5}{k:Q5->Nat->Pr}{v:Q5}{j:Nat}(h:r.bind g k=.ok v j):∃u i,r=.ok u i/\k u i=.ok v j:=by
 cases r with
 |ok u i=>exact⟨u,i,rfl,h⟩
 |err a e i q=>cases h
 |out=>cases h
theorem Pr.dQ{r:Pr}{g:Q5->Q5}{k:Q5->Nat->Pr}{a i:Nat}{e:Int}{q:Q5}(h:r.bind g k=.err a e i q):(∃q',r=.err a e i q')∨∃u j,r=.ok u j/\k u j=.err a e i q:=by
 cases r with
 |ok u j=>exact .inr ⟨u,j,rfl,h⟩
 |err a e i q=>cases h;exact .inl ⟨_,rfl⟩
 |out=>cases h
def iW(s:List UInt8)(i:Nat)(x:List UInt8):Bool:=decide ((af s i).e=0) && decide ((af s i).text=x)
def jW(s:List UInt8)(i:Nat):Int:=if (af s i).e=0 then 5 else (af s i).e
def jm(s:List UInt8)(x:List UInt8)(u:Q5)(i:Nat):Pr:=if iW s i x=true then .ok u (af s i).to else .err (af s i).fr (jW s i) i u
def jn(f:Nat)(a b:Q5):Qr :=
 if f=0 then jk a.1 a.2.1 a.2.2.1 a.2.2.2.1 a.2.2.2.2 b.1 b.2.1 b.2.2.1 b.2.2.2.1 b.2.2.2.2
 else if f=1 then oz a.1 a.2.1 a.2.2.1 a.2.2.2.1 a.2.2.2.2 b.1 b.2.1 b.2.2.1 b.2.2.2.1 b.2.2.2.2
 else if f=2 then fU a.1 a.2.1 a.2.2.1 a.2.2.2.1 a.2.2.2.2 b.1 b.2.1 b.2.2.1 b.2.2.2.1 b.2.2.2.2
 else lS a.1 a.2.1 a.2.2.1 a.2.2.2.1 a.2.2.2.2 b.1 b.2.1 b.2.2.1 b.2.2.2.1 b.2.2.2.2
def bS(s:List UInt8)(f:Nat)(a b:Q5)(at' k:Nat):Pr :=
 if (af s k).e≠0 then .err (af s k).fr (af s k).e k (jn f a b).q else if (jn f a b).e≠0 then .err at' (jn f a b).e k (jn f a b).q else .ok (jn f a b).q k
def y_(q:Q5):Q5:=(IntKind.i64.wrap (0-q.1),q.2.1,q.2.2.1,q.2.2.2.1,q.2.2.2.2)
def eW(s:List UInt8)(i:Nat):Pr :=
 if (af s i).e≠0 then .err (af s i).fr (af s i).e i q0
 else match dG (af s (af s i).to).text with
  |some u=>if (af s (af s i).to).e=0 then bS s 2 (af s i).q u (af s (af s i).to).fr (af s (af s i).to).to else .ok (af s i).q (af s i).to
  |none=>.ok (af s i).q (af s i).to
def gP(s:List UInt8)(i:Nat):Pr :=
 match dG (af s i).text with
 |some u=>if (af s i).e≠0 then .err (af s i).fr (af s i).e i q0 else .ok u (af s i).to
 |none=>if (af s i).kind≠1∨dH (af s i).text=true then .err (af s i).fr (jW s i) i q0 else if (af s i).e≠0 then .err (af s i).fr (af s i).e i q0 else .err (af s i).fr 7 (af s i).to q0
mutual
def eO(s:List UInt8):Nat->Nat->Pr
  |0,_=>.out
  |n+1,i =>
    if iW s i [45]=true then (eO s n (af s i).to).bind y_ λq k=>.ok (y_ q) k
    else if iW s i [40]=true then (fF s n (af s i).to).bind id λq k=>jm s [41] q k
    else if (af s i).kind=2 then eW s i
    else gP s i
def dB(s:List UInt8):Nat->Nat->Pr
 |0,_=>.out
 |n+1,i=>(eO s n i).bind id λq k=>dZ s n q k
def dZ(s:List UInt8):Nat->Q5->Nat->Pr
  |0,_,_=>.out
  |n+1,q,i =>
    if iW s i [42]=true then (eO s n (af s i).to).bind (λr=>(jn 2 q r).q) λr k=>(bS s 2 q r (af s i).fr k).bind id λq k=>dZ s n q k
    else if iW s i [47]=true then (eO s n (af s i).to).bind (λr=>(jn 3 q r).q) λr k=>(bS s 3 q r (af s i).fr k).bind id λq k=>dZ s n q k
    else .ok q i
def fF(s:List UInt8):Nat->Nat->Pr
 |0,_=>.out
 |n+1,i=>(dB s n i).bind id λq k=>gU s n q k
def gU(s:List UInt8):Nat->Q5->Nat->Pr
  |0,_,_=>.out
  |n+1,q,i =>
    if iW s i [43]=true then (dB s n (af s i).to).bind (λr=>(jn 0 q r).q) λr k=>(bS s 0 q r (af s i).fr k).bind id λq k=>gU s n q k
    else if iW s i [45]=true then (dB s n (af s i).to).bind (λr=>(jn 1 q r).q) λr k=>(bS s 1 q r (af s i).fr k).bind id λq k=>gU s n q k
    else .ok q i
end
theorem MX:∀{l:List (List UInt8)} {s g:List UInt8},fe l s=some g->g∈l/\g.length<=s.length
  | [],_,_,h=>by cases h
  |e::r,s,g,h=>by
    unfold fe at h;split at h
    · rename_i hp;cases h;exact⟨by simp,(List.isPrefixOf_iff_prefix.1 hp).length_le⟩
    · obtain⟨h1,h2⟩:=MX h;exact⟨by simp [h1],h2⟩
theorem mz(s:List UInt8){i:Nat}(hi:i<=s.length):i<=(af s i).fr/\(af s i).fr<=(af s i).to/\(af s i).to<=s.length/\((af s i).text ≠ []->(af s i).fr<(af s i).to)/\((af s i).kind=2->i<(af s i).to):=by
  have h1:=xX lB s i;have h2:=yZ (p:=lB) hi;unfold af;generalize runN lB s i=a at h1 h2;dsimp only;split
  · rename_i ha;split
    · rename_i hL;have h3:=yZ (p:=lW) (s:=s) (n:=a) (by omega);have h4:=xX lW s a;have h5:=RG (cN s a (runN lW s a));rw [LO h3]at h5;refine⟨h1,Nat.le_add_right _ _,by dsimp only;omega,λh => ?_,λh=>by dsimp only at h;omega⟩
      have:0<(dY (cN s a (runN lW s a))).length:=List.length_pos_iff.2 h
      dsimp only;omega
    split
    · rename_i hL hD;have h3:=RH (s:=s) (a:=a) (by omega);have h4:=RI (s:=s) (a:=a)
      have h5:a<cm s a:=by
        have h6:a<runN lD s a:=by
          have:=Hx ha hD
          have:=xX lD s (a+1)
          omega
        unfold cm;split
        · have:=xX lD s (runN lD s a+1);omega
        · exact h6
      refine⟨h1,h4,h3,λh=>(h rfl).elim,λ_=>by dsimp only;omega⟩
    · cases hp:fe dA (s.drop a)with
      |some g =>
        obtain⟨g1,g2⟩:=MX hp;rw [List.length_drop]at g2;refine⟨h1,Nat.le_add_right _ _,by dsimp only;omega,λh => ?_,λh=>by dsimp only at h;omega⟩
        have:0<g.length:=List.length_pos_iff.2 h
        dsimp only;omega
      |none=>exact⟨h1,Nat.le_refl _,by dsimp only;omega,λh=>(h rfl).elim,λh=>by dsimp only at h;omega⟩
  · exact⟨h1,Nat.le_refl _,h2,λh=>(h rfl).elim,λh=>by dsimp only at h;omega⟩
theorem nB{s:List UInt8}{i:Nat}(hi:i<=s.length){x:List UInt8}(hx:x ≠ [])(h:iW s i x=true):i<(af s i).to/\(af s i).to<=s.length:=by
 unfold iW at h;rw [Bool.and_eq_true,decide_eq_true_eq,decide_eq_true_eq]at h;obtain⟨h1,_,h3,h4,_⟩:=mz s hi;exact⟨Nat.lt_of_le_of_lt h1 (h4 (by rw [h.2];exact hx)),h3⟩
theorem AK{s:List UInt8}{i:Nat}(hi:i<=s.length){x:List UInt8}(hx:x ≠ [])(h:iW s i x=true):(af s i).fr<(af s i).to:=by
 unfold iW at h;rw [Bool.and_eq_true,decide_eq_true_eq,decide_eq_true_eq]at h;exact (mz s hi).2.2.2.1 (by rw [h.2];exact hx)
def Pr.In(s:List UInt8)(i:Nat):Pr->Prop
 | .ok _ j=>i<=j/\j<=s.length
 | .err a e _ _=>a<=s.length/\e≠0
 | .out=>True
theorem Pr.In.bind{s:List UInt8}{i:Nat}{r:Pr}{g:Q5->Q5}{k:Q5->Nat->Pr}(h:r.In s i)(hk:∀v j,i<=j->j<=s.length->(k v j).In s j):(r.bind g k).In s i:=by
  cases r with
  |ok v j =>
    have h1:=hk v j h.1 h.2;show (k v j).In s i
    revert h1
    cases k v j with
    |ok v' j'=>exact λh1=>⟨Nat.le_trans h.1 h1.1,h1.2⟩
    |err a e _ _=>exact id
    |out=>exact id
  |err a e _ _=>exact h
  |out=>exact h
theorem Pr.In.lower{s:List UInt8}{i j:Nat}{r:Pr}(h:r.In s j)(sP:i<=j):r.In s i:=by
 cases r with
 |ok v k=>exact⟨Nat.le_trans sP h.1,h.2⟩
 |err a e _ _=>exact h
 |out=>exact h
theorem FV(s:List UInt8)(i:Nat):jW s i≠0:=by
 unfold jW;split
 ·decide
 ·assumption
theorem MY{s:List UInt8}{i:Nat}(hi:i<=s.length)(x:List UInt8)(u:Q5):(jm s x u i).In s i:=by
 obtain⟨h1,h2,h3,_⟩:=mz s hi;unfold jm;split
 ·exact⟨Nat.le_trans h1 h2,h3⟩
 ·exact⟨Nat.le_trans h2 h3,FV s i⟩
theorem zp{s:List UInt8}{f at' k:Nat}{a b:Q5}(hk:k<=s.length)(ha:at'<=s.length):(bS s f a b at' k).In s k:=by
 obtain⟨h1,h2,h3,_⟩:=mz s hk;unfold bS;split
 ·rename_i h;exact⟨Nat.le_trans h2 h3,h⟩
 split
 ·rename_i h;exact⟨ha,h⟩
 ·exact⟨Nat.le_refl _,hk⟩
theorem WD{s:List UInt8}{i:Nat}(hi:i<=s.length):(eW s i).In s i:=by
 obtain⟨h1,h2,h3,_⟩:=mz s hi;obtain⟨g1,g2,g3,_⟩:=mz s h3;unfold eW;split
 ·rename_i h;exact⟨Nat.le_trans h2 h3,h⟩
 ·split
  ·split
   ·exact (zp g3 (Nat.le_trans g2 g3)).lower (by omega)
   ·exact⟨Nat.le_trans h1 h2,h3⟩
  ·exact⟨Nat.le_trans h1 h2,h3⟩
theorem MZ{s:List UInt8}{i:Nat}(hi:i<=s.length):(gP s i).In s i:=by
 obtain⟨h1,h2,h3,_⟩:=mz s hi;unfold gP;split
 ·split
  ·rename_i h;exact⟨Nat.le_trans h2 h3,h⟩
  ·exact⟨Nat.le_trans h1 h2,h3⟩
 ·split
  ·exact⟨Nat.le_trans h2 h3,FV s i⟩
  split
  ·rename_i h;exact⟨Nat.le_trans h2 h3,h⟩
  ·exact⟨Nat.le_trans h2 h3,by decide⟩
theorem pA(s:List UInt8){i:Nat}(hi:i<=s.length):(af s i).fr<=s.length:=by
 obtain⟨h1,h2,h3,_⟩:=mz s hi;omega
theorem gw(s:List UInt8):∀n,(∀i,i<=s.length->(eO s n i).In s i)/\(∀i,i<=s.length->(dB s n i).In s i)/\(∀i q,i<=s.length->(dZ s n q i).In s i)/\(∀i,i<=s.length->(fF s n i).In s i)/\(∀i q,i<=s.length->(gU s n q i).In s i)
  |0=>⟨λ_ _=>by simp only [eO];trivial,λ_ _=>by simp only [dB];trivial,λ_ _ _=>by simp only [dZ];trivial,λ_ _=>by simp only [fF];trivial,λ_ _ _=>by simp only [gU];trivial⟩
  |n+1=>by
    obtain⟨h1,h2,h3,h4,h5⟩:=gw s n;refine⟨λi hi => ?_,λi hi => ?_,λi q hi => ?_,λi hi => ?_,λi q hi => ?_⟩
    · rw [eO];split
      · rename_i h;obtain⟨g1,g2⟩:=nB hi (by decide) h;exact ((h1 _ g2).bind (g:=y_) (k:=λr k=>Pr.ok (y_ r) k) λr k _ hk=>⟨Nat.le_refl _,hk⟩).lower (Nat.le_of_lt g1)
      split
      · rename_i h;obtain⟨g1,g2⟩:=nB hi (by decide) h;exact ((h4 _ g2).bind λr k _ hk=>MY hk _ _).lower (Nat.le_of_lt g1)
      split
      · exact WD hi
      · exact MZ hi
    · rw [dB];exact (h1 _ hi).bind λr k _ hk=>h3 _ _ hk
    · rw [dZ];have hf:=pA s hi;split
      · rename_i h;obtain⟨g1,g2⟩:=nB hi (by decide) h;exact ((h1 _ g2).bind λr k _ hk=>(zp hk hf).bind λq k _ hk=>h3 _ _ hk).lower (Nat.le_of_lt g1)
      split
      · rename_i h;obtain⟨g1,g2⟩:=nB hi (by decide) h;exact ((h1 _ g2).bind λr k _ hk=>(zp hk hf).bind λq k _ hk=>h3 _ _ hk).lower (Nat.le_of_lt g1)
      · exact⟨Nat.le_refl _,hi⟩
    · rw [fF];exact (h2 _ hi).bind λr k _ hk=>h5 _ _ hk
    · rw [gU];have hf:=pA s hi;split
      · rename_i h;obtain⟨g1,g2⟩:=nB hi (by decide) h;exact ((h2 _ g2).bind λr k _ hk=>(zp hk hf).bind λq k _ hk=>h5 _ _ hk).lower (Nat.le_of_lt g1)
      split
      · rename_i h;obtain⟨g1,g2⟩:=nB hi (by decide) h;exact ((h2 _ g2).bind λr k _ hk=>(zp hk hf).bind λq k _ hk=>h5 _ _ hk).lower (Nat.le_of_lt g1)
      · exact⟨Nat.le_refl _,hi⟩
def Pr.rM:Pr->Prop
 | .out=>False
 |_=>True
theorem vo{s:List UInt8}{i:Nat}{r:Pr}{g:Q5->Q5}{k:Q5->Nat->Pr}(hr:r.rM)(nz:r.In s i)(hk:∀v j,i<=j->j<=s.length->(k v j).rM):(r.bind g k).rM:=by
 cases r with
 |ok v j=>exact hk v j nz.1 nz.2
 |err a e _ _=>trivial
 |out=>exact hr
theorem M0(s:List UInt8)(x:List UInt8)(u:Q5)(i:Nat):(jm s x u i).rM:=by unfold jm;split<;>trivial
theorem FW(s:List UInt8)(f at' k:Nat)(a b:Q5):(bS s f a b at' k).rM:=by unfold bS;split;trivial;split<;>trivial
theorem WE(s:List UInt8)(i:Nat):(eW s i).rM:=by
 unfold eW;split
 ·trivial
 ·split
  ·split
   ·exact FW ..
   ·trivial
  ·trivial
theorem M1(s:List UInt8)(i:Nat):(gP s i).rM:=by
 unfold gP;split
 ·split<;>trivial
 ·split
  ·trivial
  split<;>trivial
theorem FX(s:List UInt8):∀n,(∀i,i<=s.length->4*(s.length-i)+1<=n->(eO s n i).rM)/\(∀i,i<=s.length->4*(s.length-i)+2<=n->(dB s n i).rM)/\(∀i q,i<=s.length->4*(s.length-i)+1<=n->(dZ s n q i).rM)/\(∀i,i<=s.length->4*(s.length-i)+3<=n->(fF s n i).rM)/\(∀i q,i<=s.length->4*(s.length-i)+1<=n->(gU s n q i).rM)
  |0=>⟨λ_ _ h=>by omega,λ_ _ h=>by omega,λ_ _ _ h=>by omega,λ_ _ h=>by omega,λ_ _ _ h=>by omega⟩
  |n+1=>by
    obtain⟨h1,h2,h3,h4,h5⟩:=FX s n;obtain⟨i1,i2,i3,i4,i5⟩:=gw s n;refine⟨λi hi hf => ?_,λi hi hf => ?_,λi q hi hf => ?_,λi hi hf => ?_,λi q hi hf => ?_⟩
    · rw [eO];split
      · rename_i h;obtain⟨g1,g2⟩:=nB hi (by decide) h;exact vo (h1 _ g2 (by omega)) (i1 _ g2) λ_ _ _ _=>trivial
      split
      · rename_i h;obtain⟨g1,g2⟩:=nB hi (by decide) h;exact vo (h4 _ g2 (by omega)) (i4 _ g2) λ_ _ _ hj=>M0 ..
      split
      · exact WE ..
      · exact M1 ..
    · rw [dB];exact vo (h1 _ hi (by omega)) (i1 _ hi) λv j g1 hj=>h3 _ _ hj (by omega)
    · rw [dZ];have BN:=pA s hi;split
      · rename_i h;obtain⟨g1,g2⟩:=nB hi (by decide) h;exact vo (h1 _ g2 (by omega)) (i1 _ g2) λv j g3 hj=>vo (FW ..) (zp hj BN) λq k g4 hk=>h3 _ _ hk (by omega)
      split
      · rename_i h;obtain⟨g1,g2⟩:=nB hi (by decide) h;exact vo (h1 _ g2 (by omega)) (i1 _ g2) λv j g3 hj=>vo (FW ..) (zp hj BN) λq k g4 hk=>h3 _ _ hk (by omega)
      · trivial
    · rw [fF];exact vo (h2 _ hi (by omega)) (i2 _ hi) λv j g1 hj=>h5 _ _ hj (by omega)
    · rw [gU];have BN:=pA s hi;split
      · rename_i h;obtain⟨g1,g2⟩:=nB hi (by decide) h;exact vo (h2 _ g2 (by omega)) (i2 _ g2) λv j g3 hj=>vo (FW ..) (zp hj BN) λq k g4 hk=>h5 _ _ hk (by omega)
      split
      · rename_i h;obtain⟨g1,g2⟩:=nB hi (by decide) h;exact vo (h2 _ g2 (by omega)) (i2 _ g2) λv j g3 hj=>vo (FW ..) (zp hj BN) λq k g4 hk=>h5 _ _ hk (by omega)
      · trivial
def fL(s:List UInt8):Q5 × Nat × Int :=
 match fF s (4*s.length+3) 0 with
 | .ok r i=>if (af s i).kind≠0 then (q0,(af s i).fr,jW s i)else (r,0,0)
 | .err a e _ _=>(q0,a,e)
 | .out=>(q0,0,0)
theorem FY(s:List UInt8):(fF s (4*s.length+3) 0).rM:=(FX s _).2.2.2.1 0 (Nat.zero_le _) (by omega)
theorem M3{a d:Int}(ha:0<=a)(sw:a<=1000000000000000000)(hd:1<=d)(Aa:d<=1000000000000000000):(fN a d 0 0 0).e=0:=by
 have j7:0<Int.gcd a d:=Int.gcd_pos_of_ne_zero_right _ (by omega);have WG:=Int.gcd_dvd_left a d;have rI:=Int.gcd_dvd_right a d;have h1:=Int.gcd_ediv_gcd_ediv_gcd j7;generalize hg:Int.gcd a d=g at *;obtain⟨n,rfl⟩:=WG;obtain⟨m,rfl⟩:=rI;have C2:(0:Int)<(g:Int):=by omega
 rw [Int.mul_ediv_cancel_left _ (by omega),Int.mul_ediv_cancel_left _ (by omega)]at h1
 have hn:0<=n:=by
  by_cases h:n<0
  ·have:=Int.mul_neg_of_pos_of_neg C2 h;omega
  ·omega
 have hm:1<=m:=by
  by_cases h:m<1
  ·have:=Int.mul_le_mul_of_nonneg_left (show m<=0 by omega) (Int.le_of_lt C2);omega
  ·omega
 have XN:n<=(g:Int)*n:=by
  have:=Int.mul_le_mul_of_nonneg_right (show (1:Int)<=(g:Int) by omega) hn;omega
 have TA:m<=(g:Int)*m:=by
  have:=Int.mul_le_mul_of_nonneg_right (show (1:Int)<=(g:Int) by omega) (show (0:Int)<=m by omega);omega
 have Bi:iy n m 0 0 0=true:=by
  simp only [iy,Bool.and_eq_true,decide_eq_true_eq];refine⟨⟨⟨⟨⟨by omega,by omega⟩,by omega⟩,by omega⟩,h1⟩,by omega⟩
 unfold fN;rw [hg,Int.mul_tdiv_cancel_left _ (by omega),Int.mul_tdiv_cancel_left _ (by omega),if_pos Bi]
theorem M4(s:List UInt8)(a:Nat):(kK (cN s a (cm s a))).2=oN (d1 s a++d2 s a)/\(oN (d1 s a++d2 s a)=0->uR s a=⟨2,a,cm s a,[],(kK (cN s a (cm s a))).1,(kK (cN s a (cm s a))).2⟩):=by
 obtain⟨h1,h2⟩:=RX s a
 have Cm:∀b∈d1 s a++d2 s a,lD b=true:=λb hb=>by
  rcases List.mem_append.1 hb with hb|hb
  ·exact AG s a b hb
  ·exact FN s a b hb
 have hl:(d1 s a++d2 s a).length=(d1 s a).length+(d2 s a).length:=List.length_append;unfold uR kK;rw [h1,h2];by_cases h:18<(d1 s a).length+(d2 s a).length
 ·have he:oN (d1 s a++d2 s a)=4:=by unfold oN;rw [if_pos (by omega)]
  rw [if_pos h,he];exact⟨rfl,λh=>by omega⟩
 ·have he:oN (d1 s a++d2 s a)=0:=by unfold oN;rw [if_neg (by omega)]
  have hn:my (d1 s a++d2 s a)=(iV (d1 s a++d2 s a):Nat):=by unfold my;rw [List.take_of_length_le (by omega)]
  have ht:fV (d1 s a++d2 s a) (d2 s a).length=(10:Int) ^ (d2 s a).length:=by
   have:uQ (d1 s a++d2 s a) (d2 s a).length=(d2 s a).length:=by unfold uQ;omega
   unfold fV;rw [this]
  obtain⟨n1,n2,_⟩:=Cl Cm;obtain⟨t1,t2⟩:=MG (d1 s a++d2 s a) (d2 s a).length;have hm:(fN (my (d1 s a++d2 s a)) (fV (d1 s a++d2 s a) (d2 s a).length) 0 0 0).e=0:=M3 n1 (by omega) t1 t2;rw [hn,ht]at hm;rw [if_neg h,he,hn,ht];exact⟨hm,λ_=>by rw [hm]⟩
theorem FZ(s:List UInt8)(n:Nat):(jl s n).e=(af s n).e/\((af s n).e=0->jl s n=af s n):=by
 obtain⟨h1,h2⟩:=M4 s (runN lB s n);unfold jl af;simp only [];by_cases h:runN lB s n<s.length
 ·rw [if_pos h,if_pos h];by_cases hD:lD (s.getD (runN lB s n) 0)=true
  ·have hL:¬lL (s.getD (runN lB s n) 0)=true:=by
    have:=(y8 _).1 hD
    simp only [lL,Bool.or_eq_true,decide_eq_true_eq];omega
   rw [if_pos hD,if_neg hL,if_pos hD];exact⟨h1.symm,λh=>h2 (by rw [<-h1];exact h)⟩
  ·rw [if_neg hD,if_neg hD];exact⟨rfl,λ_=>rfl⟩
 ·rw [if_neg h,if_neg h];exact⟨rfl,λ_=>rfl⟩
end Go.Proofs.YtpfgephckjpcjaaGreatDoor
