import Derived.Test.YtkjmhcejdiglfacGreatDoorLd
set_option linter.unusedVariables false
set_option linter.unusedSimpArgs false
set_option maxRecDepth 4000
namespace Go.Proofs.YtkjmhcejdiglfacGreatDoor
open Go Go.RowKit Vc
attribute [local irreducible] Go.Calls
theorem zwba(p:UInt8→Bool)(l:List UInt8):l.drop (l.takeWhile p).length=l.dropWhile p∧l.take (l.takeWhile p).length=l.takeWhile p:=by
 have h:=List.takeWhile_append_dropWhile (p:=p) (l:=l);have h1:(l.takeWhile p++l.dropWhile p).drop (l.takeWhile p).length=l.dropWhile p:=List.drop_left;have h2:(l.takeWhile p++l.dropWhile p).take (l.takeWhile p).length=l.takeWhile p:=List.take_left;rw [h]at h1 h2;exact⟨h1,h2⟩
theorem zhy(c:UInt8):lD c=true↔48≤c.toNat∧c.toNat≤57:=by simp [lD]
theorem zvu{d r:List UInt8}(hd:∀ b∈d,lD b=true):wholeL (d++46::r)=d∧partL (d++46::r)=r∧wholeL d=d∧partL d=[]:=by
  induction d with
  | nil=>exact⟨rfl,rfl,rfl,rfl⟩
  | cons b d ih =>
    have hb:=(zhy b).1 (hd b (by simp));have hn:decide (b.toNat≠46)=true:=by simp;omega
    obtain⟨i1,i2,i3,i4⟩:=ih fun x hx=>hd x (by simp [hx]);unfold wholeL partL at *;simp only [List.cons_append,List.takeWhile_cons,List.dropWhile_cons,hn,if_true,i1,i2,i3,i4,and_self]
def d1(s:List UInt8)(a:Nat):List UInt8:=(s.drop a).takeWhile lD
def d2(s:List UInt8)(a:Nat):List UInt8:=if runN lD s a + 1 < s.length∧(s.getD (runN lD s a) 0).toNat=46∧lD (s.getD (runN lD s a + 1) 0)=true then (s.drop (runN lD s a + 1)).takeWhile lD else []
theorem ziy(s:List UInt8)(a:Nat):∀ b∈d1 s a,lD b=true:=fun b hb=>List.all_eq_true.1 (List.all_takeWhile (l:=s.drop a) (p:=lD)) b hb
theorem zffa(s:List UInt8)(a:Nat):∀ b∈d2 s a,lD b=true:=fun b hb=>by
 unfold d2 at hb;split at hb
 ·exact List.all_eq_true.1 (List.all_takeWhile (l:=s.drop (runN lD s a + 1)) (p:=lD)) b hb
 ·cases hb
theorem zqaa(s:List UInt8)(a:Nat):wholeL (cutL s a (numTo s a))=d1 s a∧partL (cutL s a (numTo s a))=d2 s a:=by
 have hr:runN lD s a=a + (d1 s a).length:=rfl;obtain⟨t1,t2⟩:=zwba lD (s.drop a);unfold numTo d2;split
 ·rename_i h;obtain⟨h1,h2,h3⟩:=h;have hdrop:s.drop (runN lD s a)=s[runN lD s a]::s.drop (runN lD s a + 1):=List.drop_eq_getElem_cons (by omega)
  have hb:s[runN lD s a]=46:=UInt8.toNat_inj.1 (by
   have:s.getD (runN lD s a) 0=s[runN lD s a]'(by omega):=by simp [List.getD,show runN lD s a < s.length by omega]
   rw [← this,h2];rfl)
  rw [hb]at hdrop;obtain⟨u1,u2⟩:=zwba lD (s.drop (runN lD s a + 1))
  have e1:s.drop a=d1 s a++46::s.drop (runN lD s a + 1):=by
   rw [← hdrop,hr,← List.drop_drop]
   conv=>lhs;rw [← List.take_append_drop (d1 s a).length (s.drop a)]
   congr 1
  have e2:cutL s a (runN lD s (runN lD s a + 1))=d1 s a++46::(s.drop (runN lD s a + 1)).takeWhile lD:=by
   have e3:runN lD s (runN lD s a + 1) - a=(d1 s a).length + (1 + ((s.drop (runN lD s a + 1)).takeWhile lD).length):=by
    have:runN lD s (runN lD s a + 1)=runN lD s a + 1 + ((s.drop (runN lD s a + 1)).takeWhile lD).length:=rfl
    rw [this,hr];omega
   unfold cutL;rw [e3,e1,List.take_length_add_append,Nat.add_comm 1,List.take_succ_cons,u2]
  rw [e2];obtain⟨i1,i2,_,_⟩:=zvu (r:=(s.drop (runN lD s a + 1)).takeWhile lD) (ziy s a);exact⟨i1,i2⟩
 ·have e2:cutL s a (runN lD s a)=d1 s a:=by
   unfold cutL;rw [hr,Nat.add_sub_cancel_left];exact t2
  rw [e2];obtain⟨_,_,i3,i4⟩:=zvu (r := []) (ziy s a);exact⟨i3,i4⟩
theorem zida(s:List UInt8)(a:Nat):∀ b∈wholeL (cutL s a (numTo s a))++partL (cutL s a (numTo s a)),48≤b.toNat∧b.toNat≤57:=by
 obtain⟨h1,h2⟩:=zqaa s a;rw [h1,h2];intro b hb;rcases List.mem_append.1 hb with hb | hb
 ·exact (zhy b).1 (ziy s a b hb)
 ·exact (zhy b).1 (zffa s a b hb)
theorem zjy{s:List UInt8}{a:Nat}:List.take (Int.toNat ((s.length:Nat):Int) - Int.toNat ((a:Nat):Int)) (List.drop (Int.toNat ((a:Nat):Int)) s)=s.drop a:=by
 refine List.take_of_length_le ?_;rw [List.length_drop];simp
theorem zsf(s:List UInt8)(a:Nat){w:World}(hG:VGs w)(hs:s.length < 4611686018427387904)(t:List UInt8)(ht:t=cutL s a (numTo s a)) :
  Calls Tryz.prog 65 #[.string ⟨t.toArray⟩] w (Vc.Ret (.tuple #[q5V (pVal (cutL s a (numTo s a))).1,.int .i64 (pVal (cutL s a (numTo s a))).2]) w):=by
 subst ht;refine zgy _ hG ?_ (zida s a);unfold cutL;rw [List.length_take,List.length_drop];omega
theorem zraa(s:List UInt8)(n:Nat){w:World}(hG:VGs w)(hn:n≤s.length)(hs:s.length < 4611686018427387904) :
    Calls Tryz.prog 36 #[.string ⟨s.toArray⟩,.int .i64 n] w (Vc.Ret (tokV (pScan s n)) w):=by
  have ha:=zpm (p:=lB) hn
  have hR:∀ a,a=runN lB s n→pScan s n=if a < s.length then
    (if lL (s.getD a 0)=true then ⟨1,a,a + (trimR (cutL s a (runN lW s a))).length,trimR (cutL s a (runN lW s a)),q0,if 32 < (trimR (cutL s a (runN lW s a))).length then 5 else 0⟩
    else if lD (s.getD a 0)=true then ⟨2,a,numTo s a,[],(pVal (cutL s a (numTo s a))).1,(pVal (cutL s a (numTo s a))).2⟩
    else match pSign signL (s.drop a)with
      | some g=>⟨3,a,a + g.length,g,q0,0⟩
      | none=>⟨3,a,a,[],q0,5⟩)else ⟨0,a,a,[],q0,0⟩:=fun a h=>by subst h;rfl
  refine zim _ s w _ ⟨(runN lB s n:Nat),fun w' _=>zdw s n hn hs w', ?_⟩;rintro x2 rfl;rw [hR _ rfl];clear hR;generalize runN lB s n=a at ha ⊢;refine iteI (fun h => ?_) (fun h => ?_)
  · rw [if_neg (by omega)];rfl
  have hlt:a < s.length:=by omega
  rw [if_pos hlt];rintro x3 rfl;refine⟨by omega,by omega, ?_⟩;rintro x4 rfl;simp only [Int.toNat_natCast];refine⟨_,fun w' _=>zco _ w',iteI (fun hL => ?_) (fun hL => ?_)⟩
  · rw [if_pos hL];have hw:=zpm (p:=lW) ha;have hg:=zom lW s a;refine⟨(runN lW s a:Nat),fun w' _=>zew s a ha hs w',⟨by omega,by omega,by omega⟩, ?_⟩;rintro s1 rfl;simp only [Int.toNat_natCast];have e1:List.take (runN lW s a - a) (List.drop a s)=cutL s a (runN lW s a):=rfl;have e2:(cutL s a (runN lW s a)).length≤s.length - a:=by rw [zkaa hw];omega
    refine⟨_,fun w' _=>zey _ (by rw [e1];omega) w', ?_⟩;rw [e1];have e3:=zcy (cutL s a (runN lW s a));generalize trimR (cutL s a (runN lW s a))=t at e3 ⊢;rintro x6 rfl x7 rfl x8 rfl;rw [zj (by omega)];refine iteI (fun h => ?_) (fun h => ?_)
    · rw [if_pos (by omega)];simp only [tokV,q0,Int.natCast_add]
    · rw [if_neg (by omega)];simp only [tokV,q0,Int.natCast_add]
  rw [if_neg hL];rintro x5 rfl;refine⟨by omega,by omega, ?_⟩;rintro x6 rfl;refine⟨_,fun w' _=>zgi _ w',iteI (fun hD => ?_) (fun hD => ?_)⟩
  · rw [if_pos hD];have hw:=zpm (p:=lD) ha;have hg:=zom lD s a;have hnt:=zlaa (s:=s) ha;have hng:=zmaa (s:=s) (a:=a);refine⟨(runN lD s a:Nat),fun w' _=>zdo s a ha hs w', ?_⟩;rintro x8 rfl x9 rfl;have fin:∀ e:Nat,e=numTo s a→List.take (Int.toNat ((e:Nat):Int) - a) (List.drop a s)=cutL s a (numTo s a):=fun e h=>by subst h;rfl
    refine iteI (fun h1 => ?_) (fun h1 => ?_)
    · rw [zj (by omega)]at h1;rintro x10 rfl;refine⟨by omega,by omega, ?_⟩;rintro x11 rfl;simp only [Int.toNat_natCast];refine iteI (fun h2 => ?_) (fun h2 => ?_)
      · rintro x12 rfl x13 rfl;rw [zj (by omega)];refine⟨by omega,by omega, ?_⟩;rintro x14 rfl;rw [show Int.toNat ((runN lD s a:Nat) + 1:Int)=runN lD s a + 1 by omega];refine⟨_,fun w' _=>zgi _ w',iteI (fun h3 => ?_) (fun h3 => ?_)⟩
        · have hc:runN lD s a + 1 < s.length∧(s.getD (runN lD s a) 0).toNat=46∧lD (s.getD (runN lD s a + 1) 0)=true:=⟨by omega,by omega,h3⟩;have hN:numTo s a=runN lD s (runN lD s a + 1):=by unfold numTo;rw [if_pos hc]
          rintro x15 rfl;refine⟨(runN lD s (runN lD s a + 1):Nat),fun w' _=>by have:=zdo s (runN lD s a + 1) (by omega) hs w';simpa using this,⟨by omega,by omega,by omega⟩, ?_⟩;rintro s1 rfl;refine⟨_,_,_,_,_,_,fun w' hb=>zsf s a (hG.keep hb) hs _ (fin _ hN.symm), ?_⟩;rw [← hN];rfl
        · have hc:¬ (runN lD s a + 1 < s.length∧(s.getD (runN lD s a) 0).toNat=46∧lD (s.getD (runN lD s a + 1) 0)=true):=fun h=>h3 h.2.2;have hN:numTo s a=runN lD s a:=by unfold numTo;rw [if_neg hc]
          refine⟨⟨by omega,by omega,by omega⟩, ?_⟩;rintro s1 rfl;refine⟨_,_,_,_,_,_,fun w' hb=>zsf s a (hG.keep hb) hs _ (fin _ hN.symm), ?_⟩;rw [← hN];rfl
      · have hc:¬ (runN lD s a + 1 < s.length∧(s.getD (runN lD s a) 0).toNat=46∧lD (s.getD (runN lD s a + 1) 0)=true):=fun h=>h2 (by omega);have hN:numTo s a=runN lD s a:=by unfold numTo;rw [if_neg hc]
        refine⟨⟨by omega,by omega,by omega⟩, ?_⟩;rintro s1 rfl;refine⟨_,_,_,_,_,_,fun w' hb=>zsf s a (hG.keep hb) hs _ (fin _ hN.symm), ?_⟩;rw [← hN];rfl
    · rw [zj (by omega)]at h1;have hc:¬ (runN lD s a + 1 < s.length∧(s.getD (runN lD s a) 0).toNat=46∧lD (s.getD (runN lD s a + 1) 0)=true):=fun h=>h1 (by omega);have hN:numTo s a=runN lD s a:=by unfold numTo;rw [if_neg hc]
      refine⟨⟨by omega,by omega,by omega⟩, ?_⟩;rintro s1 rfl;refine⟨_,_,_,_,_,_,fun w' hb=>zsf s a (hG.keep hb) hs _ (fin _ hN.symm), ?_⟩;rw [← hN];rfl
  rw [if_neg hD];unfold signL;have g:=hG.g3;have hdr:List.take (Int.toNat ((s.length:Nat):Int) - Int.toNat ((a:Nat):Int)) (List.drop (Int.toNat ((a:Nat):Int)) s)=s.drop a:=zjy;simp only [Int.toNat_natCast]at hdr
  iterate 13
    (refine⟨g, ?_⟩
     rintro _ rfl;refine⟨⟨by omega,by omega,by omega⟩, ?_⟩;rintro _ rfl;simp only [Int.toNat_natCast];rw [hdr];refine⟨_,fun w' _=>zop _ _ w',iteI (fun h => ?_) (fun h => ?_)⟩
     · refine⟨g, ?_⟩;rintro _ rfl;rw [pSign,if_pos h,zj (by omega)];rfl
     rw [pSign,if_neg h];clear h)
  rfl
theorem zqm(s:List UInt8){w:World}(hG:VGs w)(hs:s.length < 4611686018427387904):Calls Tryz.prog 94 #[.string ⟨s.toArray⟩] w (Vc.Ret (.bool (pNamed s)) w):=by
 refine zck s w _ ⟨_,_,_,_,_,_,_,_,_,_,fun w' hb=>zraa s 0 (hG.keep hb) (Nat.zero_le _) hs, ?_⟩;unfold pNamed;generalize pScan s 0=t;refine iteI (fun h1=>iteI (fun h2=>iteI (fun h3 => ?_) (fun h3 => ?_)) (fun h2 => ?_)) (fun h1 => ?_)
 ·rintro x9 rfl;refine iteI (fun h4=>⟨_,fun w' hb=>zyr s (hG.keep hb), ?_⟩) (fun h4 => ?_)
  ·rw [decide_eq_true ⟨h1,h2,by omega,by omega⟩,Bool.true_and]
  ·rw [decide_eq_false (by omega),Bool.false_and]
 all_goals rw [decide_eq_false (by omega),Bool.false_and]
end Go.Proofs.YtkjmhcejdiglfacGreatDoor
