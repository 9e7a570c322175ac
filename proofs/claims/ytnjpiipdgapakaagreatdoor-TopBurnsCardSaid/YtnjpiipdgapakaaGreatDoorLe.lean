import Derived.Test.YtnjpiipdgapakaaGreatDoorLd
set_option linter.unusedVariables false
set_option linter.unusedSimpArgs false
set_option maxRecDepth 4000
namespace Go.Proofs.YtnjpiipdgapakaaGreatDoor
open Go Go.RowKit Vc
attribute [local irreducible] Go.Calls
theorem EH(p:UInt8->Bool)(l:List UInt8):l.drop (l.takeWhile p).length=l.dropWhile p/\l.take (l.takeWhile p).length=l.takeWhile p:=by
 have h:=List.takeWhile_append_dropWhile (p:=p) (l:=l);have h1:(l.takeWhile p++l.dropWhile p).drop (l.takeWhile p).length=l.dropWhile p:=List.drop_left;have h2:(l.takeWhile p++l.dropWhile p).take (l.takeWhile p).length=l.takeWhile p:=List.take_left;rw [h]at h1 h2;exact⟨h1,h2⟩
theorem AG(c:UInt8):lD c=true↔48<=c.toNat/\c.toNat<=57:=by simp [lD]
theorem Rf{d r:List UInt8}(hd:∀b∈d,lD b=true):cf (d++46::r)=d/\cK (d++46::r)=r/\cf d=d/\cK d=[]:=by
  induction d with
  |nil=>exact⟨rfl,rfl,rfl,rfl⟩
  |cons b d ih =>
    have hb:=(AG b).1 (hd b (by simp));have hn:decide (b.toNat≠46)=true:=by simp;omega
    obtain⟨i1,i2,i3,i4⟩:=ih λx hx=>hd x (by simp [hx]);unfold cf cK at *;simp only [List.cons_append,List.takeWhile_cons,List.dropWhile_cons,hn,if_true,i1,i2,i3,i4,and_self]
def d1(s:List UInt8)(a:Nat):List UInt8:=(s.drop a).takeWhile lD
def d2(s:List UInt8)(a:Nat):List UInt8:=if runN lD s a+1<s.length/\(s.getD (runN lD s a) 0).toNat=46/\lD (s.getD (runN lD s a+1) 0)=true then (s.drop (runN lD s a+1)).takeWhile lD else []
theorem AH(s:List UInt8)(a:Nat):∀b∈d1 s a,lD b=true:=λb hb=>List.all_eq_true.1 (List.all_takeWhile (l:=s.drop a) (p:=lD)) b hb
theorem L7(s:List UInt8)(a:Nat):∀b∈d2 s a,lD b=true:=λb hb=>by
 unfold d2 at hb;split at hb
 ·exact List.all_eq_true.1 (List.all_takeWhile (l:=s.drop (runN lD s a+1)) (p:=lD)) b hb
 ·cases hb
theorem L8(s:List UInt8)(a:Nat):cf (eQ s a (cB s a))=d1 s a/\cK (eQ s a (cB s a))=d2 s a:=by
 have hr:runN lD s a=a+(d1 s a).length:=rfl;obtain⟨t1,t2⟩:=EH lD (s.drop a);unfold cB d2;split
 ·rename_i h;obtain⟨h1,h2,h3⟩:=h;have yu:s.drop (runN lD s a)=s[runN lD s a]::s.drop (runN lD s a+1):=List.drop_eq_getElem_cons (by omega)
  have hb:s[runN lD s a]=46:=UInt8.toNat_inj.1 (by
   have:s.getD (runN lD s a) 0=s[runN lD s a]'(by omega):=by simp [List.getD,show runN lD s a<s.length by omega]
   rw [<-this,h2];rfl)
  rw [hb]at yu;obtain⟨u1,u2⟩:=EH lD (s.drop (runN lD s a+1))
  have e1:s.drop a=d1 s a++46::s.drop (runN lD s a+1):=by
   rw [<-yu,hr,<-List.drop_drop]
   conv=>lhs;rw [<-List.take_append_drop (d1 s a).length (s.drop a)]
   congr 1
  have e2:eQ s a (runN lD s (runN lD s a+1))=d1 s a++46::(s.drop (runN lD s a+1)).takeWhile lD:=by
   have e3:runN lD s (runN lD s a+1)-a=(d1 s a).length+(1+((s.drop (runN lD s a+1)).takeWhile lD).length):=by
    have:runN lD s (runN lD s a+1)=runN lD s a+1+((s.drop (runN lD s a+1)).takeWhile lD).length:=rfl
    rw [this,hr];omega
   unfold eQ;rw [e3,e1,List.take_length_add_append,Nat.add_comm 1,List.take_succ_cons,u2]
  rw [e2];obtain⟨i1,i2,_,_⟩:=Rf (r:=(s.drop (runN lD s a+1)).takeWhile lD) (AH s a);exact⟨i1,i2⟩
 ·have e2:eQ s a (runN lD s a)=d1 s a:=by
   unfold eQ;rw [hr,Nat.add_sub_cancel_left];exact t2
  rw [e2];obtain⟨_,_,i3,i4⟩:=Rf (r := []) (AH s a);exact⟨i3,i4⟩
theorem L9(s:List UInt8)(a:Nat):∀b∈cf (eQ s a (cB s a))++cK (eQ s a (cB s a)),48<=b.toNat/\b.toNat<=57:=by
 obtain⟨h1,h2⟩:=L8 s a;rw [h1,h2];intro b hb;rcases List.mem_append.1 hb with hb|hb
 ·exact (AG b).1 (AH s a b hb)
 ·exact (AG b).1 (L7 s a b hb)
theorem L_{s:List UInt8}{a:Nat}:List.take (Int.toNat ((s.length:Nat):Int)-Int.toNat ((a:Nat):Int)) (List.drop (Int.toNat ((a:Nat):Int)) s)=s.drop a:=by
 refine List.take_of_length_le ?_;rw [List.length_drop];simp
theorem GN(s:List UInt8)(a:Nat){w:World}(hG:nO w)(hs:s.length<4611686018427387904)(t:List UInt8)(ht:t=eQ s a (cB s a)) :
  Calls Tryz.prog 128 #[.string ⟨t.toArray⟩] w (Vc.aw (.tuple #[LW (k7 (eQ s a (cB s a))).1,.int .i64 (k7 (eQ s a (cB s a))).2]) w):=by
 subst ht;refine L6 _ hG ?_ (L9 s a);unfold eQ;rw [List.length_take,List.length_drop];omega
theorem L'(s:List UInt8)(n:Nat){w:World}(hG:nO w)(hn:n<=s.length)(hs:s.length < 4611686018427387904) :
    Calls Tryz.prog 91 #[.string ⟨s.toArray⟩,.int .i64 n] w (Vc.aw (AD (mo s n)) w):=by
  have ha:=EE (p:=lB) hn
  have hR:∀a,a=runN lB s n->mo s n=if a<s.length then
    (if lL (s.getD a 0)=true then ⟨1,a,a+(gX (eQ s a (runN lW s a))).length,gX (eQ s a (runN lW s a)),q0,if 32<(gX (eQ s a (runN lW s a))).length then 5 else 0⟩
    else if lD (s.getD a 0)=true then ⟨2,a,cB s a,[],(k7 (eQ s a (cB s a))).1,(k7 (eQ s a (cB s a))).2⟩
    else match pN vf (s.drop a)with
      |some g=>⟨3,a,a+g.length,g,q0,0⟩
      |none=>⟨3,a,a,[],q0,5⟩)else ⟨0,a,a,[],q0,0⟩:=λa h=>by subst h;rfl
  refine Vo _ s w _ ⟨(runN lB s n:Nat),λw' _=>VG s n hn hs w', ?_⟩;rintro x2 rfl;rw [hR _ rfl];clear hR;generalize runN lB s n=a at ha ⊢;refine af (λh => ?_) (λh => ?_)
  · rw [if_neg (by omega)];rfl
  have cw:a<s.length:=by omega
  rw [if_pos cw];rintro x3 rfl;refine⟨by omega,by omega, ?_⟩;rintro x4 rfl;simp only [Int.toNat_natCast];refine⟨_,λw' _=>Rb _ w',af (λhL => ?_) (λhL => ?_)⟩
  · rw [if_pos hL];have hw:=EE (p:=lW) ha;have hg:=ED lW s a;refine⟨(runN lW s a:Nat),λw' _=>VH s a ha hs w',⟨by omega,by omega,by omega⟩, ?_⟩;rintro s1 rfl;simp only [Int.toNat_natCast];have e1:List.take (runN lW s a-a) (List.drop a s)=eQ s a (runN lW s a):=rfl;have e2:(eQ s a (runN lW s a)).length<=s.length-a:=by rw [LV hw];omega
    refine⟨_,λw' _=>L0 _ (by rw [e1];omega) w', ?_⟩;rw [e1];have e3:=LU (eQ s a (runN lW s a));generalize gX (eQ s a (runN lW s a))=t at e3 ⊢;rintro x6 rfl x7 rfl x8 rfl;rw [zx (by omega)];refine af (λh => ?_) (λh => ?_)
    · rw [if_pos (by omega)];simp only [AD,q0,Int.natCast_add]
    · rw [if_neg (by omega)];simp only [AD,q0,Int.natCast_add]
  rw [if_neg hL];rintro x5 rfl;refine⟨by omega,by omega, ?_⟩;rintro x6 rfl;refine⟨_,λw' _=>GM _ w',af (λhD => ?_) (λhD => ?_)⟩
  · rw [if_pos hD];have hw:=EE (p:=lD) ha;have hg:=ED lD s a;have Xy:=LX (s:=s) ha;have Xz:=LY (s:=s) (a:=a);refine⟨(runN lD s a:Nat),λw' _=>Rc s a ha hs w', ?_⟩;rintro x8 rfl x9 rfl;have fin:∀e:Nat,e=cB s a->List.take (Int.toNat ((e:Nat):Int)-a) (List.drop a s)=eQ s a (cB s a):=λe h=>by subst h;rfl
    refine af (λh1 => ?_) (λh1 => ?_)
    · rw [zx (by omega)]at h1;rintro aR rfl;refine⟨by omega,by omega, ?_⟩;rintro aN rfl;simp only [Int.toNat_natCast];refine af (λh2 => ?_) (λh2 => ?_)
      · rintro bg rfl bo rfl;rw [zx (by omega)];refine⟨by omega,by omega, ?_⟩;rintro bc rfl;rw [show Int.toNat ((runN lD s a:Nat)+1:Int)=runN lD s a+1 by omega];refine⟨_,λw' _=>GM _ w',af (λh3 => ?_) (λh3 => ?_)⟩
        · have hc:runN lD s a+1<s.length/\(s.getD (runN lD s a) 0).toNat=46/\lD (s.getD (runN lD s a+1) 0)=true:=⟨by omega,by omega,h3⟩;have hN:cB s a=runN lD s (runN lD s a+1):=by unfold cB;rw [if_pos hc]
          rintro bt rfl;refine⟨(runN lD s (runN lD s a+1):Nat),λw' _=>by have:=Rc s (runN lD s a+1) (by omega) hs w';simpa using this,⟨by omega,by omega,by omega⟩, ?_⟩;rintro s1 rfl;refine⟨_,_,_,_,_,_,λw' hb=>GN s a (hG.eE hb) hs _ (fin _ hN.symm), ?_⟩;rw [<-hN];rfl
        · have hc:¬(runN lD s a+1<s.length/\(s.getD (runN lD s a) 0).toNat=46/\lD (s.getD (runN lD s a+1) 0)=true):=λh=>h3 h.2.2;have hN:cB s a=runN lD s a:=by unfold cB;rw [if_neg hc]
          refine⟨⟨by omega,by omega,by omega⟩, ?_⟩;rintro s1 rfl;refine⟨_,_,_,_,_,_,λw' hb=>GN s a (hG.eE hb) hs _ (fin _ hN.symm), ?_⟩;rw [<-hN];rfl
      · have hc:¬(runN lD s a+1<s.length/\(s.getD (runN lD s a) 0).toNat=46/\lD (s.getD (runN lD s a+1) 0)=true):=λh=>h2 (by omega);have hN:cB s a=runN lD s a:=by unfold cB;rw [if_neg hc]
        refine⟨⟨by omega,by omega,by omega⟩, ?_⟩;rintro s1 rfl;refine⟨_,_,_,_,_,_,λw' hb=>GN s a (hG.eE hb) hs _ (fin _ hN.symm), ?_⟩;rw [<-hN];rfl
    · rw [zx (by omega)]at h1;have hc:¬(runN lD s a+1<s.length/\(s.getD (runN lD s a) 0).toNat=46/\lD (s.getD (runN lD s a+1) 0)=true):=λh=>h1 (by omega);have hN:cB s a=runN lD s a:=by unfold cB;rw [if_neg hc]
      refine⟨⟨by omega,by omega,by omega⟩, ?_⟩;rintro s1 rfl;refine⟨_,_,_,_,_,_,λw' hb=>GN s a (hG.eE hb) hs _ (fin _ hN.symm), ?_⟩;rw [<-hN];rfl
  rw [if_neg hD];unfold vf;have g:=hG.g3;have qK:List.take (Int.toNat ((s.length:Nat):Int)-Int.toNat ((a:Nat):Int)) (List.drop (Int.toNat ((a:Nat):Int)) s)=s.drop a:=L_;simp only [Int.toNat_natCast]at qK
  iterate 13
    (refine⟨g, ?_⟩
     rintro _ rfl;refine⟨⟨by omega,by omega,by omega⟩, ?_⟩;rintro _ rfl;simp only [Int.toNat_natCast];rw [qK];refine⟨_,λw' _=>VI _ _ w',af (λh => ?_) (λh => ?_)⟩
     · refine⟨g, ?_⟩;rintro _ rfl;rw [pN,if_pos h,zx (by omega)];rfl
     rw [pN,if_neg h];clear h)
  rfl
theorem Ma(s:List UInt8){w:World}(hG:nO w)(hs:s.length<4611686018427387904):Calls Tryz.prog 59 #[.string ⟨s.toArray⟩] w (Vc.aw (.bool (fU s)) w):=by
 refine Vp s w _ ⟨_,_,_,_,_,_,_,_,_,_,λw' hb=>L' s 0 (hG.eE hb) (Nat.zero_le _) hs, ?_⟩;unfold fU;generalize mo s 0=t;refine af (λh1=>af (λh2=>af (λh3 => ?_) (λh3 => ?_)) (λh2 => ?_)) (λh1 => ?_)
 ·rintro x9 rfl;refine af (λh4=>⟨_,λw' hb=>VJ s (hG.eE hb), ?_⟩) (λh4 => ?_)
  ·rw [decide_eq_true ⟨h1,h2,by omega,by omega⟩,Bool.true_and]
  ·rw [decide_eq_false (by omega),Bool.false_and]
 all_goals rw [decide_eq_false (by omega),Bool.false_and]
end Go.Proofs.YtnjpiipdgapakaaGreatDoor
