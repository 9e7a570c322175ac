import Derived.Test.YtpfgephckjpcjaaGreatDoorLc
set_option linter.unusedVariables false
set_option linter.unusedSimpArgs false
set_option maxRecDepth 4000
namespace Go.Proofs.YtpfgephckjpcjaaGreatDoor
open Go Go.RowKit Vc
attribute [local irreducible] Go.Calls
def AF(o:Option Q5):Value:=match o with
 |some q=>.tuple #[fj q,.bool true]
 |none=>.tuple #[QV 0 0 0 0 0,.bool false]
theorem Mq(s:List UInt8){w:World}(hG:pz w):Calls Tryz.prog 132 #[.string ⟨s.toArray⟩] w (Vc.aR (AF (dG s)) w):=by
 refine U_ s w _ ⟨hG.g0, ?_⟩;unfold dG kC
 iterate 14 (refine aa (λh=>by rw [oB,if_pos h];rfl) (λh => ?_);rw [oB,if_neg h];clear h)
 rfl
theorem Mr(o:Option Q5):∃(x0 x1 x2 x3 x4:Int),AF o=.tuple #[.agg #[.int .i64 x0,.int .i64 x1,.int .i64 x2,.int .i64 x3,.int .i64 x4],.bool o.isSome]:=by
 cases o with
 |none=>exact⟨_,_,_,_,_,rfl⟩
 |some q=>exact⟨_,_,_,_,_,rfl⟩
theorem WA(s:List UInt8){w:World}(hG:pz w):Calls Tryz.prog 107 #[.string ⟨s.toArray⟩] w (Vc.aR (.bool (dH s)) w):=by
 obtain⟨x0,x1,x2,x3,x4,hu⟩:=Mr (dG s);refine U' s w _ ⟨x0,x1,x2,x3,x4,(dG s).isSome,λw' hb=>by rw [<-hu];exact Mq s (hG.jf hb), ?_⟩;have g:=hG.g14
 iterate 228 (refine⟨g, ?_⟩)
 refine aa (λh=>by unfold dH;rw [h];rfl) (λh => ?_);unfold dH;rw [Bool.eq_false_iff.2 h,Bool.false_or];unfold rE
 iterate 18 (refine aa (λh=>by rw [AB,if_pos h]) (λh => ?_);rw [AB,if_neg h])
 rfl
theorem Ms{s:List UInt8}:Lib.indexByte s 46<0->da s=s/\dF s=[]:=by
  induction s with
  |nil=>intro _;exact⟨rfl,rfl⟩
  |cons b r ih =>
    intro h;unfold Lib.indexByte at h;by_cases hb:b=46
    · subst hb;simp at h
    · have hn:b.toNat≠46:=λe=>hb (UInt8.toNat_inj.1 (by rw [e];rfl));rw [if_neg (by simpa using hb)]at h
      have hr:Lib.indexByte r 46<0:=by
        have:=Lib.indexByte_ge r 46
        split at h<;>rename_i h1
        · have:=eq_of_beq h1;omega
        · omega
      obtain⟨i1,i2⟩:=ih hr;unfold da dF at *;rw [List.takeWhile_cons,List.dropWhile_cons,decide_eq_true hn];exact⟨by rw [if_pos rfl,i1],by rw [if_pos rfl,i2]⟩
theorem Mt{s:List UInt8}:∀{i:Nat},Lib.indexByte s 46=i->da s=s.take i/\dF s=s.drop (i+1)/\i<s.length:=by
  induction s with
  |nil=>intro i h;simp [Lib.indexByte]at h
  |cons b r ih =>
    intro i h;unfold Lib.indexByte at h;by_cases hb:b=46
    · subst hb;simp only [beq_self_eq_true,if_true]at h;obtain rfl:i=0:=by omega
      exact⟨rfl,rfl,by simp⟩
    · have hn:b.toNat≠46:=λe=>hb (UInt8.toNat_inj.1 (by rw [e];rfl));rw [if_neg (by simpa using hb)]at h;have hr:=Lib.indexByte_ge r 46;split at h<;>rename_i h1
      · omega
      · obtain⟨j,rfl⟩:∃j:Nat,i=j+1:=⟨i-1,by have:Lib.indexByte r 46 ≠ -1:=λe=>h1 (by rw [e];rfl);omega⟩;obtain⟨i1,i2,i3⟩:=ih (i:=j) (by omega);unfold da dF at *;rw [List.takeWhile_cons,List.dropWhile_cons,decide_eq_true hn];exact⟨by rw [if_pos rfl,i1];rfl,by rw [if_pos rfl,i2];rfl,by simp;omega⟩
theorem FL(s:List UInt8)(hs:s.length<4611686018427387904):∃b:Bool,∀w,Calls Tryz.prog 91 #[.string ⟨s.toArray⟩,.string ⟨#[46]⟩] w (Vc.aR (.tuple #[.string ⟨(da s).toArray⟩,.string ⟨(dF s).toArray⟩,.bool b]) w):=by
 by_cases h0:[46]=s
 ·refine⟨true,λw=>KQ s w _ (aa (λ_ => ?_) (λh=>(h h0).elim))⟩;subst h0;refine⟨by simp, ?_⟩;rintro s1 rfl x0 rfl;refine⟨by simp, ?_⟩;rintro s2 rfl;rfl
 ·rcases Int.lt_or_le (Lib.indexByte s 46) 0 with h|h
  ·obtain⟨e1,e2⟩:=Ms h;refine⟨false,λw=>KQ s w _ (aa (λh=>(h0 h).elim) (λ_=>⟨_,⟨rfl,λw'=>vn s w'⟩,aa (λh'=>by omega) (λ_ => ?_)⟩))⟩;rw [e1,e2]
  ·obtain⟨i,hi⟩:=Int.eq_ofNat_of_zero_le h;obtain⟨e1,e2,e3⟩:=Mt hi;refine⟨true,λw=>KQ s w _ (aa (λh=>(h0 h).elim) (λ_=>⟨_,⟨rfl,λw'=>vn s w'⟩,aa (λ_ => ?_) (λh'=>by omega)⟩))⟩;rw [hi];refine⟨by omega, ?_⟩;rintro s1 rfl x1 rfl x2 rfl;rw [zk (by omega)];refine⟨by omega, ?_⟩;rintro s2 rfl;rw [e1,e2];have a1:List.take (Int.toNat ((i:Nat):Int)-Int.toNat 0) (List.drop (Int.toNat 0) s)=s.take i:=by simp
   have a2:List.take (Int.toNat ((s.length:Nat):Int)-Int.toNat (((i:Nat):Int)+1)) (List.drop (Int.toNat (((i:Nat):Int)+1)) s)=s.drop (i+1):=by
    rw [show Int.toNat (((i:Nat):Int)+1)=i+1 by omega];refine List.take_of_length_le ?_;rw [List.length_drop];simp
   rw [a1,a2]
theorem RU{n:Nat}(h:n<=18):(10:Int) ^ n<=1000000000000000000/\0<(10:Int) ^ n:=by
 have h1:=Da n h;have h2:((10 ^ n:Nat):Int)=(10:Int) ^ n:=Int.natCast_pow 10 n;have h3:0<(10:Int) ^ n:=Int.pow_pos (by omega);exact⟨by rw [<-h2];exact Int.ofNat_le.2 h1,h3⟩
theorem Mu(s:List UInt8){w:World}(hG:pz w)(hs:s.length<4611686018427387904)(hd:∀b∈da s++dF s,48<=b.toNat/\b.toNat<=57) :
  Calls Tryz.prog 43 #[.string ⟨s.toArray⟩] w (Vc.aR (.tuple #[fj (kK s).1,.int .i64 (kK s).2]) w):=by
 have hl:(da s).length+(dF s).length<=s.length+0:=by
  unfold da dF;have h1:=congrArg List.length (List.takeWhile_append_dropWhile (p:=λc:UInt8=>decide (c.toNat≠46)) (l:=s));rw [List.length_append]at h1;rw [List.length_drop];omega
 by_cases h:18<(da s).length+(dF s).length
 ·have hv:kK s=(q0,4):=by unfold kK;rw [if_pos h]
  rw [hv];obtain⟨b,hb⟩:=FL s hs;exact V5 s _ _ b w hb h (by omega)
 ·have WB:(iV (da s++dF s):Int)<1000000000000000000:=by
   have h1:=Hr _ (da s++dF s) rfl hd;have h2:=Da (da s++dF s).length (by rw [List.length_append];omega);omega
  obtain⟨p1,p2⟩:=RU (n:=(dF s).length) (by omega);have hv:kK s=((fN (iV (da s++dF s)) ((10:Int) ^ (dF s).length) 0 0 0).q,(fN (iV (da s++dF s)) ((10:Int) ^ (dF s).length) 0 0 0).e):=by unfold kK;rw [if_neg h]
  rw [hv];obtain⟨b,hb⟩:=FL s hs;exact xi s _ _ b w _ _ hb (by omega) hd hG.g4 (λw'=>Lw _ _ 0 0 0 w' ⟨by omega,by omega⟩ ⟨by omega,by omega⟩ (by omega)) ⟨_,_,_,_,_,rfl⟩
end Go.Proofs.YtpfgephckjpcjaaGreatDoor
