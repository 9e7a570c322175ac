import Derived.Test.YtkbchjlnhgfpmaaGreatDoorLd
set_option linter.unusedVariables false
set_option linter.unusedSimpArgs false
set_option maxRecDepth 4000
namespace Go.Proofs.YtkbchjlnhgfpmaaGreatDoor
open Go Go.RowKit Vc
attribute [local irreducible] Go.Calls
theorem Hm(p:UInt8->Bool)(l:List UInt8):l.drop (l.takeWhile p).length=l.dropWhile p/\l.take (l.takeWhile p).length=l.takeWhile p:=by
 have h:=List.takeWhile_append_dropWhile (p:=p) (l:=l);have h1:(l.takeWhile p++l.dropWhile p).drop (l.takeWhile p).length=l.dropWhile p:=List.drop_left;have h2:(l.takeWhile p++l.dropWhile p).take (l.takeWhile p).length=l.takeWhile p:=List.take_left;rw [h]at h1 h2;exact⟨h1,h2⟩
theorem Bw(c:UInt8):lD c=true↔48<=c.toNat/\c.toNat<=57:=by simp [lD]
theorem Hn{d r:List UInt8}(hd:∀b∈d,lD b=true):cL (d++46::r)=d/\de (d++46::r)=r/\cL d=d/\de d=[]:=by
  induction d with
  |nil=>exact⟨rfl,rfl,rfl,rfl⟩
  |cons b d ih =>
    have hb:=(Bw b).1 (hd b (by simp));have hn:decide (b.toNat≠46)=true:=by simp;omega
    obtain⟨i1,i2,i3,i4⟩:=ih λx hx=>hd x (by simp [hx]);unfold cL de at *;simp only [List.cons_append,List.takeWhile_cons,List.dropWhile_cons,hn,if_true,i1,i2,i3,i4,and_self]
def d1(s:List UInt8)(a:Nat):List UInt8:=(s.drop a).takeWhile lD
def d2(s:List UInt8)(a:Nat):List UInt8:=if runN lD s a+1<s.length/\(s.getD (runN lD s a) 0).toNat=46/\lD (s.getD (runN lD s a+1) 0)=true then (s.drop (runN lD s a+1)).takeWhile lD else []
theorem Dg(s:List UInt8)(a:Nat):∀b∈d1 s a,lD b=true:=λb hb=>List.all_eq_true.1 (List.all_takeWhile (l:=s.drop a) (p:=lD)) b hb
theorem Ah(s:List UInt8)(a:Nat):∀b∈d2 s a,lD b=true:=λb hb=>by
 unfold d2 at hb;split at hb
 ·exact List.all_eq_true.1 (List.all_takeWhile (l:=s.drop (runN lD s a+1)) (p:=lD)) b hb
 ·cases hb
theorem PZ(s:List UInt8)(a:Nat):cL (cK s a (cx s a))=d1 s a/\de (cK s a (cx s a))=d2 s a:=by
 have hr:runN lD s a=a+(d1 s a).length:=rfl;obtain⟨t1,t2⟩:=Hm lD (s.drop a);unfold cx d2;split
 ·rename_i h;obtain⟨h1,h2,h3⟩:=h;have Bx:s.drop (runN lD s a)=s[runN lD s a]::s.drop (runN lD s a+1):=List.drop_eq_getElem_cons (by omega)
  have hb:s[runN lD s a]=46:=UInt8.toNat_inj.1 (by
   have:s.getD (runN lD s a) 0=s[runN lD s a]'(by omega):=by simp [List.getD,show runN lD s a<s.length by omega]
   rw [<-this,h2];rfl)
  rw [hb]at Bx;obtain⟨u1,u2⟩:=Hm lD (s.drop (runN lD s a+1))
  have e1:s.drop a=d1 s a++46::s.drop (runN lD s a+1):=by
   rw [<-Bx,hr,<-List.drop_drop]
   conv=>lhs;rw [<-List.take_append_drop (d1 s a).length (s.drop a)]
   congr 1
  have e2:cK s a (runN lD s (runN lD s a+1))=d1 s a++46::(s.drop (runN lD s a+1)).takeWhile lD:=by
   have e3:runN lD s (runN lD s a+1)-a=(d1 s a).length+(1+((s.drop (runN lD s a+1)).takeWhile lD).length):=by
    have:runN lD s (runN lD s a+1)=runN lD s a+1+((s.drop (runN lD s a+1)).takeWhile lD).length:=rfl
    rw [this,hr];omega
   unfold cK;rw [e3,e1,List.take_length_add_append,Nat.add_comm 1,List.take_succ_cons,u2]
  rw [e2];obtain⟨i1,i2,_,_⟩:=Hn (r:=(s.drop (runN lD s a+1)).takeWhile lD) (Dg s a);exact⟨i1,i2⟩
 ·have e2:cK s a (runN lD s a)=d1 s a:=by
   unfold cK;rw [hr,Nat.add_sub_cancel_left];exact t2
  rw [e2];obtain⟨_,_,i3,i4⟩:=Hn (r := []) (Dg s a);exact⟨i3,i4⟩
theorem P1(s:List UInt8)(a:Nat):∀b∈cL (cK s a (cx s a))++de (cK s a (cx s a)),48<=b.toNat/\b.toNat<=57:=by
 obtain⟨h1,h2⟩:=PZ s a;rw [h1,h2];intro b hb;rcases List.mem_append.1 hb with hb|hb
 ·exact (Bw b).1 (Dg s a b hb)
 ·exact (Bw b).1 (Ah s a b hb)
theorem P2(s:List UInt8)(a b:Nat):List.take (Int.toNat (b:Int)-Int.toNat (a:Int)) (List.drop (Int.toNat (a:Int)) s)=cK s a b:=by simp [cK]
theorem P3{s:List UInt8}{a:Nat}:List.take (Int.toNat ((s.length:Nat):Int)-Int.toNat ((a:Nat):Int)) (List.drop (Int.toNat ((a:Nat):Int)) s)=s.drop a:=by
 refine List.take_of_length_le ?_;rw [List.length_drop];simp
theorem JV(s:List UInt8)(a:Nat){w:World}(hG:oN w)(hs:s.length<4611686018427387904)(t:List UInt8)(ht:t=cK s a (cx s a)) :
  Calls Tryz.prog 79 #[.string ⟨t.toArray⟩] w (Vc.aI (.tuple #[O_ (mJ (cK s a (cx s a))).1,.int .i64 (mJ (cK s a (cx s a))).2]) w):=by
 subst ht;refine PY _ hG ?_ (P1 s a);unfold cK;rw [List.length_take,List.length_drop];omega
theorem P4(s:List UInt8)(n:Nat){w:World}(hG:oN w)(hn:n<=s.length)(hs:s.length < 4611686018427387904) :
    Calls Tryz.prog 38 #[.string ⟨s.toArray⟩,.int .i64 n] w (Vc.aI (oL (gN s n)) w):=by
  have ha:=Da (p:=lB) hn
  have hR:∀a,a=runN lB s n->gN s n=if a<s.length then
    (if lL (s.getD a 0)=true then ⟨1,a,a+(dP (cK s a (runN lW s a))).length,dP (cK s a (runN lW s a)),q0,if 32<(dP (cK s a (runN lW s a))).length then 5 else 0⟩
    else if lD (s.getD a 0)=true then ⟨2,a,cx s a,[],(mJ (cK s a (cx s a))).1,(mJ (cK s a (cx s a))).2⟩
    else match gv dQ (s.drop a)with
      |some g=>⟨3,a,a+g.length,g,q0,0⟩
      |none=>⟨3,a,a,[],q0,5⟩)else ⟨0,a,a,[],q0,0⟩:=λa h=>by subst h;rfl
  refine YJ _ s w _ ⟨(runN lB s n:Nat),λw' _=>PQ s n hn hs w', ?_⟩;rintro x2 rfl;rw [hR _ rfl];clear hR;generalize runN lB s n=a at ha ⊢;refine ae (λh => ?_) (λh => ?_)
  · rw [if_neg (by omega)];rfl
  have ct:a<s.length:=by omega
  rw [if_pos ct];rintro x3 rfl;refine⟨by omega,by omega, ?_⟩;rintro x4 rfl;simp only [Int.toNat_natCast];refine⟨_,λw' _=>Vw _ w',ae (λhL => ?_) (λhL => ?_)⟩
  · rw [if_pos hL];have hw:=Da (p:=lW) ha;have hg:=Eo lW s a;refine⟨(runN lW s a:Nat),λw' _=>PR s a ha hs w',⟨by omega,by omega,by omega⟩, ?_⟩;rintro s1 rfl;simp only [Int.toNat_natCast];have e1:List.take (runN lW s a-a) (List.drop a s)=cK s a (runN lW s a):=rfl;have e2:(cK s a (runN lW s a)).length<=s.length-a:=by rw [Hh hw];omega
    refine⟨_,λw' _=>PT _ (by rw [e1];omega) w', ?_⟩;rw [e1];have e3:=O9 (cK s a (runN lW s a));generalize dP (cK s a (runN lW s a))=t at e3 ⊢;rintro x6 rfl x7 rfl x8 rfl;rw [zb (by omega)];refine ae (λh => ?_) (λh => ?_)
    · rw [if_pos (by omega)];simp only [oL,q0,Int.natCast_add]
    · rw [if_neg (by omega)];simp only [oL,q0,Int.natCast_add]
  rw [if_neg hL];rintro x5 rfl;refine⟨by omega,by omega, ?_⟩;rintro x6 rfl;refine⟨_,λw' _=>JU _ w',ae (λhD => ?_) (λhD => ?_)⟩
  · rw [if_pos hD];have hw:=Da (p:=lD) ha;have hg:=Eo lD s a;have hnt:=O' (s:=s) ha;have hng:=Pa (s:=s) (a:=a);refine⟨(runN lD s a:Nat),λw' _=>Vx s a ha hs w', ?_⟩;rintro x8 rfl x9 rfl;have fin:∀e:Nat,e=cx s a->List.take (Int.toNat ((e:Nat):Int)-a) (List.drop a s)=cK s a (cx s a):=λe h=>by subst h;rfl
    refine ae (λh1 => ?_) (λh1 => ?_)
    · rw [zb (by omega)]at h1;rintro az rfl;refine⟨by omega,by omega, ?_⟩;rintro aA rfl;simp only [Int.toNat_natCast];refine ae (λh2 => ?_) (λh2 => ?_)
      · rintro aH rfl aP rfl;rw [zb (by omega)];refine⟨by omega,by omega, ?_⟩;rintro aL rfl;rw [show Int.toNat ((runN lD s a:Nat)+1:Int)=runN lD s a+1 by omega];refine⟨_,λw' _=>JU _ w',ae (λh3 => ?_) (λh3 => ?_)⟩
        · have hc:runN lD s a+1<s.length/\(s.getD (runN lD s a) 0).toNat=46/\lD (s.getD (runN lD s a+1) 0)=true:=⟨by omega,by omega,h3⟩;have hN:cx s a=runN lD s (runN lD s a+1):=by unfold cx;rw [if_pos hc]
          rintro aS rfl;refine⟨(runN lD s (runN lD s a+1):Nat),λw' _=>by have:=Vx s (runN lD s a+1) (by omega) hs w';simpa using this,⟨by omega,by omega,by omega⟩, ?_⟩;rintro s1 rfl;refine⟨_,_,_,_,_,_,λw' hb=>JV s a (hG.eK hb) hs _ (fin _ hN.symm), ?_⟩;rw [<-hN];rfl
        · have hc:¬(runN lD s a+1<s.length/\(s.getD (runN lD s a) 0).toNat=46/\lD (s.getD (runN lD s a+1) 0)=true):=λh=>h3 h.2.2;have hN:cx s a=runN lD s a:=by unfold cx;rw [if_neg hc]
          refine⟨⟨by omega,by omega,by omega⟩, ?_⟩;rintro s1 rfl;refine⟨_,_,_,_,_,_,λw' hb=>JV s a (hG.eK hb) hs _ (fin _ hN.symm), ?_⟩;rw [<-hN];rfl
      · have hc:¬(runN lD s a+1<s.length/\(s.getD (runN lD s a) 0).toNat=46/\lD (s.getD (runN lD s a+1) 0)=true):=λh=>h2 (by omega);have hN:cx s a=runN lD s a:=by unfold cx;rw [if_neg hc]
        refine⟨⟨by omega,by omega,by omega⟩, ?_⟩;rintro s1 rfl;refine⟨_,_,_,_,_,_,λw' hb=>JV s a (hG.eK hb) hs _ (fin _ hN.symm), ?_⟩;rw [<-hN];rfl
    · rw [zb (by omega)]at h1;have hc:¬(runN lD s a+1<s.length/\(s.getD (runN lD s a) 0).toNat=46/\lD (s.getD (runN lD s a+1) 0)=true):=λh=>h1 (by omega);have hN:cx s a=runN lD s a:=by unfold cx;rw [if_neg hc]
      refine⟨⟨by omega,by omega,by omega⟩, ?_⟩;rintro s1 rfl;refine⟨_,_,_,_,_,_,λw' hb=>JV s a (hG.eK hb) hs _ (fin _ hN.symm), ?_⟩;rw [<-hN];rfl
  rw [if_neg hD];unfold dQ;have g:=hG.g3;have By:List.take (Int.toNat ((s.length:Nat):Int)-Int.toNat ((a:Nat):Int)) (List.drop (Int.toNat ((a:Nat):Int)) s)=s.drop a:=P3;simp only [Int.toNat_natCast]at By
  iterate 13
    (refine⟨g, ?_⟩
     rintro _ rfl;refine⟨⟨by omega,by omega,by omega⟩, ?_⟩;rintro _ rfl;simp only [Int.toNat_natCast];rw [By];refine⟨_,λw' _=>ztt _ _ w',ae (λh => ?_) (λh => ?_)⟩
     · refine⟨g, ?_⟩;rintro _ rfl;rw [gv,if_pos h,zb (by omega)];rfl
     rw [gv,if_neg h];clear h)
  rfl
theorem P5(s:List UInt8){w:World}(hG:oN w)(hs:s.length<4611686018427387904):Calls Tryz.prog 112 #[.string ⟨s.toArray⟩] w (Vc.aI (.bool (fD s)) w):=by
 refine YK s w _ ⟨_,_,_,_,_,_,_,_,_,_,λw' hb=>P4 s 0 (hG.eK hb) (Nat.zero_le _) hs, ?_⟩;unfold fD;generalize gN s 0=t;refine ae (λh1=>ae (λh2=>ae (λh3 => ?_) (λh3 => ?_)) (λh2 => ?_)) (λh1 => ?_)
 ·rintro x9 rfl;refine ae (λh4=>⟨_,λw' hb=>ztw s (hG.eK hb), ?_⟩) (λh4 => ?_)
  ·rw [decide_eq_true ⟨h1,h2,by omega,by omega⟩,Bool.true_and]
  ·rw [decide_eq_false (by omega),Bool.false_and]
 all_goals rw [decide_eq_false (by omega),Bool.false_and]
end Go.Proofs.YtkbchjlnhgfpmaaGreatDoor
