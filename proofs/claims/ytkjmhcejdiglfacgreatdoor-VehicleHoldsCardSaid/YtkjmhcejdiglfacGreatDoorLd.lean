import Derived.Test.YtkjmhcejdiglfacGreatDoorLc
set_option linter.unusedVariables false
set_option linter.unusedSimpArgs false
set_option maxRecDepth 4000
namespace Go.Proofs.YtkjmhcejdiglfacGreatDoor
open Go Go.RowKit Vc
attribute [local irreducible] Go.Calls
def unitV(o:Option Q5):Value:=match o with
 | some q=>.tuple #[q5V q,.bool true]
 | none=>.tuple #[QV 0 0 0 0 0,.bool false]
theorem zoaa(s:List UInt8){w:World}(hG:VGs w):Calls Tryz.prog 129 #[.string ⟨s.toArray⟩] w (Vc.Ret (unitV (pUnit s)) w):=by
 refine zhm s w _ ⟨hG.g0, ?_⟩;unfold pUnit unitTab
 iterate 14 (refine iteI (fun h=>by rw [pFind,if_pos h];rfl) (fun h => ?_);rw [pFind,if_neg h];clear h)
 rfl
theorem zfy(o:Option Q5):∃ (x0 x1 x2 x3 x4:Int),unitV o=.tuple #[.agg #[.int .i64 x0,.int .i64 x1,.int .i64 x2,.int .i64 x3,.int .i64 x4],.bool o.isSome]:=by
 cases o with
 | none=>exact⟨_,_,_,_,_,rfl⟩
 | some q=>exact⟨_,_,_,_,_,rfl⟩
theorem zyr(s:List UInt8){w:World}(hG:VGs w):Calls Tryz.prog 114 #[.string ⟨s.toArray⟩] w (Vc.Ret (.bool (pReserved s)) w):=by
 obtain⟨x0,x1,x2,x3,x4,hu⟩:=zfy (pUnit s);refine zlg s w _ ⟨x0,x1,x2,x3,x4,(pUnit s).isSome,fun w' hb=>by rw [← hu];exact zoaa s (hG.keep hb), ?_⟩;have g:=hG.g14
 iterate 228 (refine⟨g, ?_⟩)
 refine iteI (fun h=>by unfold pReserved;rw [h];rfl) (fun h => ?_);unfold pReserved;rw [Bool.eq_false_iff.2 h,Bool.false_or];unfold wordL
 iterate 18 (refine iteI (fun h=>by rw [pIn,if_pos h]) (fun h => ?_);rw [pIn,if_neg h])
 rfl
theorem zefa{s:List UInt8}:Lib.indexByte s 46 < 0→wholeL s=s∧partL s=[]:=by
  induction s with
  | nil=>intro _;exact⟨rfl,rfl⟩
  | cons b r ih =>
    intro h;unfold Lib.indexByte at h;by_cases hb:b=46
    · subst hb;simp at h
    · have hn:b.toNat≠46:=fun e=>hb (UInt8.toNat_inj.1 (by rw [e];rfl));rw [if_neg (by simpa using hb)]at h
      have hr:Lib.indexByte r 46 < 0:=by
        have:=Lib.indexByte_ge r 46
        split at h <;> rename_i h1
        · have:=eq_of_beq h1;omega
        · omega
      obtain⟨i1,i2⟩:=ih hr;unfold wholeL partL at *;rw [List.takeWhile_cons,List.dropWhile_cons,decide_eq_true hn];exact⟨by rw [if_pos rfl,i1],by rw [if_pos rfl,i2]⟩
theorem zhda{s:List UInt8}:∀ {i:Nat},Lib.indexByte s 46=i→wholeL s=s.take i∧partL s=s.drop (i + 1)∧i < s.length:=by
  induction s with
  | nil=>intro i h;simp [Lib.indexByte]at h
  | cons b r ih =>
    intro i h;unfold Lib.indexByte at h;by_cases hb:b=46
    · subst hb;simp only [beq_self_eq_true,if_true]at h;obtain rfl:i=0:=by omega
      exact⟨rfl,rfl,by simp⟩
    · have hn:b.toNat≠46:=fun e=>hb (UInt8.toNat_inj.1 (by rw [e];rfl));rw [if_neg (by simpa using hb)]at h;have hr:=Lib.indexByte_ge r 46;split at h <;> rename_i h1
      · omega
      · obtain⟨j,rfl⟩:∃ j:Nat,i=j + 1:=⟨i - 1,by have:Lib.indexByte r 46 ≠ -1:=fun e=>h1 (by rw [e];rfl);omega⟩;obtain⟨i1,i2,i3⟩:=ih (i:=j) (by omega);unfold wholeL partL at *;rw [List.takeWhile_cons,List.dropWhile_cons,decide_eq_true hn];exact⟨by rw [if_pos rfl,i1];rfl,by rw [if_pos rfl,i2];rfl,by simp;omega⟩
theorem cutB(s:List UInt8)(hs:s.length < 4611686018427387904):∃ b:Bool,∀ w,Calls Tryz.prog 106 #[.string ⟨s.toArray⟩,.string ⟨#[46]⟩] w (Vc.Ret (.tuple #[.string ⟨(wholeL s).toArray⟩,.string ⟨(partL s).toArray⟩,.bool b]) w):=by
 by_cases h0:[46]=s
 ·refine⟨true,fun w=>zjd s w _ (iteI (fun _ => ?_) (fun h=>(h h0).elim))⟩;subst h0;refine⟨by simp, ?_⟩;rintro s1 rfl x0 rfl;refine⟨by simp, ?_⟩;rintro s2 rfl;rfl
 ·rcases Int.lt_or_le (Lib.indexByte s 46) 0 with h | h
  ·obtain⟨e1,e2⟩:=zefa h;refine⟨false,fun w=>zjd s w _ (iteI (fun h=>(h0 h).elim) (fun _=>⟨_,⟨rfl,fun w'=>zhc s w'⟩,iteI (fun h'=>by omega) (fun _ => ?_)⟩))⟩;rw [e1,e2]
  ·obtain⟨i,hi⟩:=Int.eq_ofNat_of_zero_le h;obtain⟨e1,e2,e3⟩:=zhda hi;refine⟨true,fun w=>zjd s w _ (iteI (fun h=>(h0 h).elim) (fun _=>⟨_,⟨rfl,fun w'=>zhc s w'⟩,iteI (fun _ => ?_) (fun h'=>by omega)⟩))⟩;rw [hi];refine⟨by omega, ?_⟩;rintro s1 rfl x1 rfl x2 rfl;rw [zj (by omega)];refine⟨by omega, ?_⟩;rintro s2 rfl;rw [e1,e2];have a1:List.take (Int.toNat ((i:Nat):Int) - Int.toNat 0) (List.drop (Int.toNat 0) s)=s.take i:=by simp
   have a2:List.take (Int.toNat ((s.length:Nat):Int) - Int.toNat (((i:Nat):Int) + 1)) (List.drop (Int.toNat (((i:Nat):Int) + 1)) s)=s.drop (i + 1):=by
    rw [show Int.toNat (((i:Nat):Int) + 1)=i + 1 by omega];refine List.take_of_length_le ?_;rw [List.length_drop];simp
   rw [a1,a2]
theorem zpaa{n:Nat}(h:n≤18):(10:Int) ^ n≤1000000000000000000∧0 < (10:Int) ^ n:=by
 have h1:=zvh n h;have h2:((10 ^ n:Nat):Int)=(10:Int) ^ n:=Int.natCast_pow 10 n;have h3:0 < (10:Int) ^ n:=Int.pow_pos (by omega);exact⟨by rw [← h2];exact Int.ofNat_le.2 h1,h3⟩
theorem zgy(s:List UInt8){w:World}(hG:VGs w)(hs:s.length < 4611686018427387904)(hd:∀ b∈wholeL s++partL s,48≤b.toNat∧b.toNat≤57) :
  Calls Tryz.prog 65 #[.string ⟨s.toArray⟩] w (Vc.Ret (.tuple #[q5V (pVal s).1,.int .i64 (pVal s).2]) w):=by
 have hl:(wholeL s).length + (partL s).length≤s.length + 0:=by
  unfold wholeL partL;have h1:=congrArg List.length (List.takeWhile_append_dropWhile (p:=fun c:UInt8=>decide (c.toNat≠46)) (l:=s));rw [List.length_append]at h1;rw [List.length_drop];omega
 by_cases h:18 < (wholeL s).length + (partL s).length
 ·have hv:pVal s=(q0,4):=by unfold pVal;rw [if_pos h]
  rw [hv];obtain⟨b,hb⟩:=cutB s hs;exact zbw s _ _ b w hb h (by omega)
 ·have hl18:(digs (wholeL s++partL s):Int) < 1000000000000000000:=by
   have h1:=zmt _ (wholeL s++partL s) rfl hd;have h2:=zvh (wholeL s++partL s).length (by rw [List.length_append];omega);omega
  obtain⟨p1,p2⟩:=zpaa (n:=(partL s).length) (by omega);have hv:pVal s=((madeR (digs (wholeL s++partL s)) ((10:Int) ^ (partL s).length) 0 0 0).q,(madeR (digs (wholeL s++partL s)) ((10:Int) ^ (partL s).length) 0 0 0).e):=by unfold pVal;rw [if_neg h]
  rw [hv];obtain⟨b,hb⟩:=cutB s hs;exact zma s _ _ b w _ _ hb (by omega) hd hG.g4 (fun w'=>zay _ _ 0 0 0 w' ⟨by omega,by omega⟩ ⟨by omega,by omega⟩ (by omega)) ⟨_,_,_,_,_,rfl⟩
end Go.Proofs.YtkjmhcejdiglfacGreatDoor
