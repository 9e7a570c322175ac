import Derived.Test.YtnjpiipdgapakaaGreatDoorLc
set_option linter.unusedVariables false
set_option linter.unusedSimpArgs false
set_option maxRecDepth 4000
namespace Go.Proofs.YtnjpiipdgapakaaGreatDoor
open Go Go.RowKit Vc
attribute [local irreducible] Go.Calls
def yr(o:Option Q5):Value:=match o with
 |some q=>.tuple #[LW q,.bool true]
 |none=>.tuple #[QV 0 0 0 0 0,.bool false]
theorem L1(s:List UInt8){w:World}(hG:nO w):Calls Tryz.prog 132 #[.string ⟨s.toArray⟩] w (Vc.aw (yr (pM s)) w):=by
 refine Vm s w _ ⟨hG.g0, ?_⟩;unfold pM rQ
 iterate 14 (refine af (λh=>by rw [rR,if_pos h];rfl) (λh => ?_);rw [rR,if_neg h];clear h)
 rfl
theorem L2(o:Option Q5):∃(x0 x1 x2 x3 x4:Int),yr o=.tuple #[.agg #[.int .i64 x0,.int .i64 x1,.int .i64 x2,.int .i64 x3,.int .i64 x4],.bool o.isSome]:=by
 cases o with
 |none=>exact⟨_,_,_,_,_,rfl⟩
 |some q=>exact⟨_,_,_,_,_,rfl⟩
theorem VJ(s:List UInt8){w:World}(hG:nO w):Calls Tryz.prog 92 #[.string ⟨s.toArray⟩] w (Vc.aw (.bool (iQ s)) w):=by
 obtain⟨x0,x1,x2,x3,x4,hu⟩:=L2 (pM s);refine Vn s w _ ⟨x0,x1,x2,x3,x4,(pM s).isSome,λw' hb=>by rw [<-hu];exact L1 s (hG.eE hb), ?_⟩;have g:=hG.g14
 iterate 228 (refine⟨g, ?_⟩)
 refine af (λh=>by unfold iQ;rw [h];rfl) (λh => ?_);unfold iQ;rw [Bool.eq_false_iff.2 h,Bool.false_or];unfold yq
 iterate 18 (refine af (λh=>by rw [GK,if_pos h]) (λh => ?_);rw [GK,if_neg h])
 rfl
theorem L3{s:List UInt8}:Lib.indexByte s 46<0->cf s=s/\cK s=[]:=by
  induction s with
  |nil=>intro _;exact⟨rfl,rfl⟩
  |cons b r ih =>
    intro h;unfold Lib.indexByte at h;by_cases hb:b=46
    · subst hb;simp at h
    · have hn:b.toNat≠46:=λe=>hb (UInt8.toNat_inj.1 (by rw [e];rfl));rw [if_neg (by simpa using hb)]at h
      have hr:Lib.indexByte r 46<0:=by
        have:=Lib.indexByte_ge r 46
        split at h<;>rename_i h1
        · have:=eq_of_beq h1;omega
        · omega
      obtain⟨i1,i2⟩:=ih hr;unfold cf cK at *;rw [List.takeWhile_cons,List.dropWhile_cons,decide_eq_true hn];exact⟨by rw [if_pos rfl,i1],by rw [if_pos rfl,i2]⟩
theorem L4{s:List UInt8}:∀{i:Nat},Lib.indexByte s 46=i->cf s=s.take i/\cK s=s.drop (i+1)/\i<s.length:=by
  induction s with
  |nil=>intro i h;simp [Lib.indexByte]at h
  |cons b r ih =>
    intro i h;unfold Lib.indexByte at h;by_cases hb:b=46
    · subst hb;simp only [beq_self_eq_true,if_true]at h;obtain rfl:i=0:=by omega
      exact⟨rfl,rfl,by simp⟩
    · have hn:b.toNat≠46:=λe=>hb (UInt8.toNat_inj.1 (by rw [e];rfl));rw [if_neg (by simpa using hb)]at h;have hr:=Lib.indexByte_ge r 46;split at h<;>rename_i h1
      · omega
      · obtain⟨j,rfl⟩:∃j:Nat,i=j+1:=⟨i-1,by have:Lib.indexByte r 46 ≠ -1:=λe=>h1 (by rw [e];rfl);omega⟩;obtain⟨i1,i2,i3⟩:=ih (i:=j) (by omega);unfold cf cK at *;rw [List.takeWhile_cons,List.dropWhile_cons,decide_eq_true hn];exact⟨by rw [if_pos rfl,i1];rfl,by rw [if_pos rfl,i2];rfl,by simp;omega⟩
theorem EG(s:List UInt8)(hs:s.length<4611686018427387904):∃b:Bool,∀w,Calls Tryz.prog 147 #[.string ⟨s.toArray⟩,.string ⟨#[46]⟩] w (Vc.aw (.tuple #[.string ⟨(cf s).toArray⟩,.string ⟨(cK s).toArray⟩,.bool b]) w):=by
 by_cases h0:[46]=s
 ·refine⟨true,λw=>Lx s w _ (af (λ_ => ?_) (λh=>(h h0).elim))⟩;subst h0;refine⟨by simp, ?_⟩;rintro s1 rfl x0 rfl;refine⟨by simp, ?_⟩;rintro s2 rfl;rfl
 ·rcases Int.lt_or_le (Lib.indexByte s 46) 0 with h|h
  ·obtain⟨e1,e2⟩:=L3 h;refine⟨false,λw=>Lx s w _ (af (λh=>(h0 h).elim) (λ_=>⟨_,⟨rfl,λw'=>EF s w'⟩,af (λh'=>by omega) (λ_ => ?_)⟩))⟩;rw [e1,e2]
  ·obtain⟨i,hi⟩:=Int.eq_ofNat_of_zero_le h;obtain⟨e1,e2,e3⟩:=L4 hi;refine⟨true,λw=>Lx s w _ (af (λh=>(h0 h).elim) (λ_=>⟨_,⟨rfl,λw'=>EF s w'⟩,af (λ_ => ?_) (λh'=>by omega)⟩))⟩;rw [hi];refine⟨by omega, ?_⟩;rintro s1 rfl x1 rfl x2 rfl;rw [zx (by omega)];refine⟨by omega, ?_⟩;rintro s2 rfl;rw [e1,e2];have a1:List.take (Int.toNat ((i:Nat):Int)-Int.toNat 0) (List.drop (Int.toNat 0) s)=s.take i:=by simp
   have a2:List.take (Int.toNat ((s.length:Nat):Int)-Int.toNat (((i:Nat):Int)+1)) (List.drop (Int.toNat (((i:Nat):Int)+1)) s)=s.drop (i+1):=by
    rw [show Int.toNat (((i:Nat):Int)+1)=i+1 by omega];refine List.take_of_length_le ?_;rw [List.length_drop];simp
   rw [a1,a2]
theorem L5{n:Nat}(h:n<=18):(10:Int) ^ n<=1000000000000000000/\0<(10:Int) ^ n:=by
 have h1:=EA n h;have h2:((10 ^ n:Nat):Int)=(10:Int) ^ n:=Int.natCast_pow 10 n;have h3:0<(10:Int) ^ n:=Int.pow_pos (by omega);exact⟨by rw [<-h2];exact Int.ofNat_le.2 h1,h3⟩
theorem L6(s:List UInt8){w:World}(hG:nO w)(hs:s.length<4611686018427387904)(hd:∀b∈cf s++cK s,48<=b.toNat/\b.toNat<=57) :
  Calls Tryz.prog 128 #[.string ⟨s.toArray⟩] w (Vc.aw (.tuple #[LW (k7 s).1,.int .i64 (k7 s).2]) w):=by
 have hl:(cf s).length+(cK s).length<=s.length+0:=by
  unfold cf cK;have h1:=congrArg List.length (List.takeWhile_append_dropWhile (p:=λc:UInt8=>decide (c.toNat≠46)) (l:=s));rw [List.length_append]at h1;rw [List.length_drop];omega
 by_cases h:18<(cf s).length+(cK s).length
 ·have hv:k7 s=(q0,4):=by unfold k7;rw [if_pos h]
  rw [hv];obtain⟨b,hb⟩:=EG s hs;exact VF s _ _ b w hb h (by omega)
 ·have VK:(iA (cf s++cK s):Int)<1000000000000000000:=by
   have h1:=LM _ (cf s++cK s) rfl hd;have h2:=EA (cf s++cK s).length (by rw [List.length_append];omega);omega
  obtain⟨p1,p2⟩:=L5 (n:=(cK s).length) (by omega);have hv:k7 s=((nN (iA (cf s++cK s)) ((10:Int) ^ (cK s).length) 0 0 0).q,(nN (iA (cf s++cK s)) ((10:Int) ^ (cK s).length) 0 0 0).e):=by unfold k7;rw [if_neg h]
  rw [hv];obtain⟨b,hb⟩:=EG s hs;exact Vv s _ _ b w _ _ hb (by omega) hd hG.g4 (λw'=>LI _ _ 0 0 0 w' ⟨by omega,by omega⟩ ⟨by omega,by omega⟩ (by omega)) ⟨_,_,_,_,_,rfl⟩
end Go.Proofs.YtnjpiipdgapakaaGreatDoor
