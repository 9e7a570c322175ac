import Derived.Test.YtpfgephckjpcjaaGreatDoorLd
set_option linter.unusedVariables false
set_option linter.unusedSimpArgs false
set_option maxRecDepth 4000
namespace Go.Proofs.YtpfgephckjpcjaaGreatDoor
open Go Go.RowKit Vc
attribute [local irreducible] Go.Calls
theorem FM(p:UInt8->Bool)(l:List UInt8):l.drop (l.takeWhile p).length=l.dropWhile p/\l.take (l.takeWhile p).length=l.takeWhile p:=by
 have h:=List.takeWhile_append_dropWhile (p:=p) (l:=l);have h1:(l.takeWhile p++l.dropWhile p).drop (l.takeWhile p).length=l.dropWhile p:=List.drop_left;have h2:(l.takeWhile p++l.dropWhile p).take (l.takeWhile p).length=l.takeWhile p:=List.take_left;rw [h]at h1 h2;exact⟨h1,h2⟩
theorem y8(c:UInt8):lD c=true↔48<=c.toNat/\c.toNat<=57:=by simp [lD]
theorem RW{d r:List UInt8}(hd:∀b∈d,lD b=true):da (d++46::r)=d/\dF (d++46::r)=r/\da d=d/\dF d=[]:=by
  induction d with
  |nil=>exact⟨rfl,rfl,rfl,rfl⟩
  |cons b d ih =>
    have hb:=(y8 b).1 (hd b (by simp));have hn:decide (b.toNat≠46)=true:=by simp;omega
    obtain⟨i1,i2,i3,i4⟩:=ih λx hx=>hd x (by simp [hx]);unfold da dF at *;simp only [List.cons_append,List.takeWhile_cons,List.dropWhile_cons,hn,if_true,i1,i2,i3,i4,and_self]
def d1(s:List UInt8)(a:Nat):List UInt8:=(s.drop a).takeWhile lD
def d2(s:List UInt8)(a:Nat):List UInt8:=if runN lD s a+1<s.length/\(s.getD (runN lD s a) 0).toNat=46/\lD (s.getD (runN lD s a+1) 0)=true then (s.drop (runN lD s a+1)).takeWhile lD else []
theorem AG(s:List UInt8)(a:Nat):∀b∈d1 s a,lD b=true:=λb hb=>List.all_eq_true.1 (List.all_takeWhile (l:=s.drop a) (p:=lD)) b hb
theorem FN(s:List UInt8)(a:Nat):∀b∈d2 s a,lD b=true:=λb hb=>by
 unfold d2 at hb;split at hb
 ·exact List.all_eq_true.1 (List.all_takeWhile (l:=s.drop (runN lD s a+1)) (p:=lD)) b hb
 ·cases hb
theorem RX(s:List UInt8)(a:Nat):da (cN s a (cm s a))=d1 s a/\dF (cN s a (cm s a))=d2 s a:=by
 have hr:runN lD s a=a+(d1 s a).length:=rfl;obtain⟨t1,t2⟩:=FM lD (s.drop a);unfold cm d2;split
 ·rename_i h;obtain⟨h1,h2,h3⟩:=h;have AH:s.drop (runN lD s a)=s[runN lD s a]::s.drop (runN lD s a+1):=List.drop_eq_getElem_cons (by omega)
  have hb:s[runN lD s a]=46:=UInt8.toNat_inj.1 (by
   have:s.getD (runN lD s a) 0=s[runN lD s a]'(by omega):=by simp [List.getD,show runN lD s a<s.length by omega]
   rw [<-this,h2];rfl)
  rw [hb]at AH;obtain⟨u1,u2⟩:=FM lD (s.drop (runN lD s a+1))
  have e1:s.drop a=d1 s a++46::s.drop (runN lD s a+1):=by
   rw [<-AH,hr,<-List.drop_drop]
   conv=>lhs;rw [<-List.take_append_drop (d1 s a).length (s.drop a)]
   congr 1
  have e2:cN s a (runN lD s (runN lD s a+1))=d1 s a++46::(s.drop (runN lD s a+1)).takeWhile lD:=by
   have e3:runN lD s (runN lD s a+1)-a=(d1 s a).length+(1+((s.drop (runN lD s a+1)).takeWhile lD).length):=by
    have:runN lD s (runN lD s a+1)=runN lD s a+1+((s.drop (runN lD s a+1)).takeWhile lD).length:=rfl
    rw [this,hr];omega
   unfold cN;rw [e3,e1,List.take_length_add_append,Nat.add_comm 1,List.take_succ_cons,u2]
  rw [e2];obtain⟨i1,i2,_,_⟩:=RW (r:=(s.drop (runN lD s a+1)).takeWhile lD) (AG s a);exact⟨i1,i2⟩
 ·have e2:cN s a (runN lD s a)=d1 s a:=by
   unfold cN;rw [hr,Nat.add_sub_cancel_left];exact t2
  rw [e2];obtain⟨_,_,i3,i4⟩:=RW (r := []) (AG s a);exact⟨i3,i4⟩
theorem Mv(s:List UInt8)(a:Nat):∀b∈da (cN s a (cm s a))++dF (cN s a (cm s a)),48<=b.toNat/\b.toNat<=57:=by
 obtain⟨h1,h2⟩:=RX s a;rw [h1,h2];intro b hb;rcases List.mem_append.1 hb with hb|hb
 ·exact (y8 b).1 (AG s a b hb)
 ·exact (y8 b).1 (FN s a b hb)
theorem Mw(s:List UInt8)(a b:Nat):List.take (Int.toNat (b:Int)-Int.toNat (a:Int)) (List.drop (Int.toNat (a:Int)) s)=cN s a b:=by simp [cN]
theorem Mx{s:List UInt8}{a:Nat}:List.take (Int.toNat ((s.length:Nat):Int)-Int.toNat ((a:Nat):Int)) (List.drop (Int.toNat ((a:Nat):Int)) s)=s.drop a:=by
 refine List.take_of_length_le ?_;rw [List.length_drop];simp
theorem HD(s:List UInt8)(a:Nat){w:World}(hG:pz w)(hs:s.length<4611686018427387904)(t:List UInt8)(ht:t=cN s a (cm s a)) :
  Calls Tryz.prog 43 #[.string ⟨t.toArray⟩] w (Vc.aR (.tuple #[fj (kK (cN s a (cm s a))).1,.int .i64 (kK (cN s a (cm s a))).2]) w):=by
 subst ht;refine Mu _ hG ?_ (Mv s a);unfold cN;rw [List.length_take,List.length_drop];omega
theorem My(s:List UInt8)(n:Nat){w:World}(hG:pz w)(hn:n<=s.length)(hs:s.length < 4611686018427387904) :
    Calls Tryz.prog 15 #[.string ⟨s.toArray⟩,.int .i64 n] w (Vc.aR (nh (af s n)) w):=by
  have ha:=yZ (p:=lB) hn
  have hR:∀a,a=runN lB s n->af s n=if a<s.length then
    (if lL (s.getD a 0)=true then ⟨1,a,a+(dY (cN s a (runN lW s a))).length,dY (cN s a (runN lW s a)),q0,if 32<(dY (cN s a (runN lW s a))).length then 5 else 0⟩
    else if lD (s.getD a 0)=true then ⟨2,a,cm s a,[],(kK (cN s a (cm s a))).1,(kK (cN s a (cm s a))).2⟩
    else match fe dA (s.drop a)with
      |some g=>⟨3,a,a+g.length,g,q0,0⟩
      |none=>⟨3,a,a,[],q0,5⟩)else ⟨0,a,a,[],q0,0⟩:=λa h=>by subst h;rfl
  refine Va _ s w _ ⟨(runN lB s n:Nat),λw' _=>Wx s n hn hs w', ?_⟩;rintro x2 rfl;rw [hR _ rfl];clear hR;generalize runN lB s n=a at ha ⊢;refine aa (λh => ?_) (λh => ?_)
  · rw [if_neg (by omega)];rfl
  have eD:a<s.length:=by omega
  rw [if_pos eD];rintro x3 rfl;refine⟨by omega,by omega, ?_⟩;rintro x4 rfl;simp only [Int.toNat_natCast];refine⟨_,λw' _=>RQ _ w',aa (λhL => ?_) (λhL => ?_)⟩
  · rw [if_pos hL];have hw:=yZ (p:=lW) ha;have hg:=xX lW s a;refine⟨(runN lW s a:Nat),λw' _=>Wy s a ha hs w',⟨by omega,by omega,by omega⟩, ?_⟩;rintro s1 rfl;simp only [Int.toNat_natCast];have e1:List.take (runN lW s a-a) (List.drop a s)=cN s a (runN lW s a):=rfl;have e2:(cN s a (runN lW s a)).length<=s.length-a:=by rw [LO hw];omega
    refine⟨_,λw' _=>Mp _ (by rw [e1];omega) w', ?_⟩;rw [e1];have e3:=RG (cN s a (runN lW s a));generalize dY (cN s a (runN lW s a))=t at e3 ⊢;rintro x6 rfl x7 rfl x8 rfl;rw [zk (by omega)];refine aa (λh => ?_) (λh => ?_)
    · rw [if_pos (by omega)];simp only [nh,q0,Int.natCast_add]
    · rw [if_neg (by omega)];simp only [nh,q0,Int.natCast_add]
  rw [if_neg hL];rintro x5 rfl;refine⟨by omega,by omega, ?_⟩;rintro x6 rfl;refine⟨_,λw' _=>HC _ w',aa (λhD => ?_) (λhD => ?_)⟩
  · rw [if_pos hD];have hw:=yZ (p:=lD) ha;have hg:=xX lD s a;have XL:=RH (s:=s) ha;have XM:=RI (s:=s) (a:=a);refine⟨(runN lD s a:Nat),λw' _=>RR s a ha hs w', ?_⟩;rintro x8 rfl x9 rfl;have fin:∀e:Nat,e=cm s a->List.take (Int.toNat ((e:Nat):Int)-a) (List.drop a s)=cN s a (cm s a):=λe h=>by subst h;rfl
    refine aa (λh1 => ?_) (λh1 => ?_)
    · rw [zk (by omega)]at h1;rintro ar rfl;refine⟨by omega,by omega, ?_⟩;rintro aC rfl;simp only [Int.toNat_natCast];refine aa (λh2 => ?_) (λh2 => ?_)
      · rintro aA rfl au rfl;rw [zk (by omega)];refine⟨by omega,by omega, ?_⟩;rintro ao rfl;rw [show Int.toNat ((runN lD s a:Nat)+1:Int)=runN lD s a+1 by omega];refine⟨_,λw' _=>HC _ w',aa (λh3 => ?_) (λh3 => ?_)⟩
        · have hc:runN lD s a+1<s.length/\(s.getD (runN lD s a) 0).toNat=46/\lD (s.getD (runN lD s a+1) 0)=true:=⟨by omega,by omega,h3⟩;have hN:cm s a=runN lD s (runN lD s a+1):=by unfold cm;rw [if_pos hc]
          rintro aD rfl;refine⟨(runN lD s (runN lD s a+1):Nat),λw' _=>by have:=RR s (runN lD s a+1) (by omega) hs w';simpa using this,⟨by omega,by omega,by omega⟩, ?_⟩;rintro s1 rfl;refine⟨_,_,_,_,_,_,λw' hb=>HD s a (hG.jf hb) hs _ (fin _ hN.symm), ?_⟩;rw [<-hN];rfl
        · have hc:¬(runN lD s a+1<s.length/\(s.getD (runN lD s a) 0).toNat=46/\lD (s.getD (runN lD s a+1) 0)=true):=λh=>h3 h.2.2;have hN:cm s a=runN lD s a:=by unfold cm;rw [if_neg hc]
          refine⟨⟨by omega,by omega,by omega⟩, ?_⟩;rintro s1 rfl;refine⟨_,_,_,_,_,_,λw' hb=>HD s a (hG.jf hb) hs _ (fin _ hN.symm), ?_⟩;rw [<-hN];rfl
      · have hc:¬(runN lD s a+1<s.length/\(s.getD (runN lD s a) 0).toNat=46/\lD (s.getD (runN lD s a+1) 0)=true):=λh=>h2 (by omega);have hN:cm s a=runN lD s a:=by unfold cm;rw [if_neg hc]
        refine⟨⟨by omega,by omega,by omega⟩, ?_⟩;rintro s1 rfl;refine⟨_,_,_,_,_,_,λw' hb=>HD s a (hG.jf hb) hs _ (fin _ hN.symm), ?_⟩;rw [<-hN];rfl
    · rw [zk (by omega)]at h1;have hc:¬(runN lD s a+1<s.length/\(s.getD (runN lD s a) 0).toNat=46/\lD (s.getD (runN lD s a+1) 0)=true):=λh=>h1 (by omega);have hN:cm s a=runN lD s a:=by unfold cm;rw [if_neg hc]
      refine⟨⟨by omega,by omega,by omega⟩, ?_⟩;rintro s1 rfl;refine⟨_,_,_,_,_,_,λw' hb=>HD s a (hG.jf hb) hs _ (fin _ hN.symm), ?_⟩;rw [<-hN];rfl
  rw [if_neg hD];unfold dA;have g:=hG.g3;have RY:List.take (Int.toNat ((s.length:Nat):Int)-Int.toNat ((a:Nat):Int)) (List.drop (Int.toNat ((a:Nat):Int)) s)=s.drop a:=Mx;simp only [Int.toNat_natCast]at RY
  iterate 13
    (refine⟨g, ?_⟩
     rintro _ rfl;refine⟨⟨by omega,by omega,by omega⟩, ?_⟩;rintro _ rfl;simp only [Int.toNat_natCast];rw [RY];refine⟨_,λw' _=>Wz _ _ w',aa (λh => ?_) (λh => ?_)⟩
     · refine⟨g, ?_⟩;rintro _ rfl;rw [fe,if_pos h,zk (by omega)];rfl
     rw [fe,if_neg h];clear h)
  rfl
end Go.Proofs.YtpfgephckjpcjaaGreatDoor
