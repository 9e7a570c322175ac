import Derived.Test.YtnjpiipdgapakaaGreatDoorGk
import Derived.Test.YtnjpiipdgapakaaGreatDoorLx
import Derived.Test.YtnjpiipdgapakaaGreatDoorVal2
import Derived.Test.YtnjpiipdgapakaaGreatDoorQp
import Derived.Test.YtnjpiipdgapakaaGreatDoorAwv
set_option linter.unusedVariables false
set_option linter.unusedSimpArgs false
namespace Go.Proofs.YtnjpiipdgapakaaGreatDoor
open Go Go.RowKit Vc
theorem Rb(c:UInt8)(w:World):Calls Tryz.prog 124 #[.int .u8 (c.toNat:Int)] w (Vc.aw (.bool (lL c)) w):=by
 refine Ve _ w _ ?_;unfold lL;refine af (λh=>af (λh' => ?_) λh'=>af (λh2 => ?_) λh2 => ?_) λh=>af (λh2 => ?_) λh2 => ?_
 all_goals (refine wU ?_;rw [Bool.eq_iff_iff];simp;omega)
theorem GM(c:UInt8)(w:World):Calls Tryz.prog 126 #[.int .u8 (c.toNat:Int)] w (Vc.aw (.bool (lD c)) w):=by
 refine Vf _ w _ ?_;unfold lD;refine af (λh => ?_) λh => ?_
 all_goals (refine wU ?_;rw [Bool.eq_iff_iff];simp;omega)
def xf(p:UInt8->Bool)(s:List UInt8)(n:Nat)(l:List Vl):Prop:=∃i:Nat,l=[.i i]/\n<=i/\i<=s.length/\runN p s i=runN p s n
def BV(s:List UInt8)(l:List Vl):Nat:=match l with
 | [.i x]=>s.length-x.toNat
 |_=>0
theorem BW{p:UInt8->Bool}{s:List UInt8}{n i:Nat}(hs:s.length<4611686018427387904)(h1:n<=i)(h2:i<s.length)(h3:runN p s i=runN p s n)(hp:p (s.getD i 0)=true) :
  xf p s n [.i (IntKind.i64.wrap ((i:Int)+1))]/\BV s [.i (IntKind.i64.wrap ((i:Int)+1))]<BV s [.i (i:Int)]:=by
 rw [zx (by omega)];refine⟨⟨i+1,rfl,by omega,by omega,(LS h2 hp).trans h3⟩, ?_⟩;simp only [BV];omega
theorem AE{p:UInt8->Bool}{s:List UInt8}{n i:Nat}(h2:i<s.length)(h3:runN p s i=runN p s n)(hp:p (s.getD i 0)=false):(Value.int .i64 (i:Int))=.int .i64 (runN p s n:Nat):=by
 rw [<-h3,LR h2 hp]
theorem AF{p:UInt8->Bool}{s:List UInt8}{n i:Nat}(h2:s.length<=i)(h3:runN p s i=runN p s n):(Value.int .i64 (i:Int))=.int .i64 (runN p s n:Nat):=by
 rw [<-h3,LQ h2]
theorem VG(s:List UInt8)(n:Nat)(h:n<=s.length)(hs:s.length<4611686018427387904)(w:World):Calls Tryz.prog 122 #[.string ⟨s.toArray⟩,.int .i64 n,.func (.func 123) #[] #[]] w (Vc.aw (.int .i64 (runN lB s n:Nat)) w):=by
 refine Vd _ s w _ ⟨xf lB s n,BV s,⟨n,rfl,Nat.le_refl _,h,rfl⟩, ?_⟩;rintro x1 ⟨i,hl,h1,h2,h3⟩;simp only [List.cons.injEq,Vc.Vl.i.injEq,and_true]at hl;subst hl;rintro x2 rfl;refine af (λcw => ?_) (λmN=>AF (by omega) h3);have hi:i<s.length:=by omega
 rintro x3 rfl;refine⟨by omega,by omega, ?_⟩;rintro x4 rfl;simp only [Int.toNat_natCast];refine af (λe => ?_) (λe=>af (λe' => ?_) (λe' => ?_))
 ·rintro x5 rfl;exact BW hs h1 hi h3 (by simp only [lB,decide_eq_true_eq];omega)
 ·rintro x5 rfl;exact BW hs h1 hi h3 (by simp only [lB,decide_eq_true_eq];omega)
 ·exact AE hi h3 (by simp only [lB,decide_eq_false_iff_not];omega)
theorem VH(s:List UInt8)(n:Nat)(h:n<=s.length)(hs:s.length<4611686018427387904)(w:World):Calls Tryz.prog 122 #[.string ⟨s.toArray⟩,.int .i64 n,.func (.func 125) #[] #[]] w (Vc.aw (.int .i64 (runN lW s n:Nat)) w):=by
 refine Vg _ s w _ ⟨xf lW s n,BV s,⟨n,rfl,Nat.le_refl _,h,rfl⟩, ?_⟩;rintro x1 ⟨i,hl,h1,h2,h3⟩;simp only [List.cons.injEq,Vc.Vl.i.injEq,and_true]at hl;subst hl;rintro x2 rfl;refine af (λcw => ?_) (λmN=>AF (by omega) h3);have hi:i<s.length:=by omega
 rintro x3 rfl;refine⟨by omega,by omega, ?_⟩;rintro x4 rfl;simp only [Int.toNat_natCast];refine⟨_,λw' _=>Rb _ w', ?_⟩;refine af (λe => ?_) (λe=>⟨_,λw' _=>GM _ w',af (λe' => ?_) (λe'=>af (λe2 => ?_) (λe2 => ?_))⟩)
 ·rintro x5 rfl;exact BW hs h1 hi h3 (by rw [lW,e,Bool.true_or])
 ·rintro x5 rfl;exact BW hs h1 hi h3 (by rw [lW,e',Bool.true_or,Bool.or_true])
 ·rintro x5 rfl;exact BW hs h1 hi h3 (by rw [lW,decide_eq_true (by omega),Bool.or_true,Bool.or_true])
 ·exact AE hi h3 (by rw [lW,Bool.eq_false_iff.2 e,Bool.eq_false_iff.2 e',decide_eq_false (by omega)];rfl)
theorem Rc(s:List UInt8)(n:Nat)(h:n<=s.length)(hs:s.length<4611686018427387904)(w:World):Calls Tryz.prog 122 #[.string ⟨s.toArray⟩,.int .i64 n,.func (.func 126) #[] #[]] w (Vc.aw (.int .i64 (runN lD s n:Nat)) w):=by
 refine Vi _ s w _ ⟨xf lD s n,BV s,⟨n,rfl,Nat.le_refl _,h,rfl⟩, ?_⟩;rintro x1 ⟨i,hl,h1,h2,h3⟩;simp only [List.cons.injEq,Vc.Vl.i.injEq,and_true]at hl;subst hl;rintro x2 rfl;refine af (λcw => ?_) (λmN=>AF (by omega) h3);have hi:i<s.length:=by omega
 rintro x3 rfl;refine⟨by omega,by omega, ?_⟩;rintro x4 rfl;simp only [Int.toNat_natCast];refine⟨_,λw' _=>GM _ w',af (λe => ?_) (λe => ?_)⟩
 ·rintro x5 rfl;exact BW hs h1 hi h3 e
 ·exact AE hi h3 (Bool.eq_false_iff.2 e)
theorem Rd(s p:List UInt8):(decide (s.take p.length=p))=p.isPrefixOf s:=by
 rw [Bool.eq_iff_iff,decide_eq_true_eq,List.isPrefixOf_iff_prefix,List.prefix_iff_eq_take];exact eq_comm
theorem VI(s p:List UInt8)(w:World):Calls Tryz.prog 131 #[.string ⟨s.toArray⟩,.string ⟨p.toArray⟩] w (Vc.aw (.bool (p.isPrefixOf s)) w):=by
 refine Vj s p w _ ?_;rintro x0 rfl x1 rfl;refine af (λh => ?_) (λh => ?_)
 ·rintro x2 rfl;refine⟨by omega, ?_⟩;rintro s2 rfl;refine wU ?_;rw [<-Rd];simp
 ·refine wU ?_;rw [<-Rd,eq_comm,decide_eq_false_iff_not];intro e
  have:=congrArg List.length e
  rw [List.length_take]at this;omega
def LZ(s:List UInt8)(l:List Vl):Prop:=∃t,l=[.s t]/\t.length<=s.length/\gX t=gX s
def Re(l:List Vl):Nat:=match l with
 | [.s t]=>t.length
 |_=>0
theorem L0(s:List UInt8)(hs:s.length<4611686018427387904)(w:World):Calls Tryz.prog 127 #[.string ⟨s.toArray⟩,.string ⟨(([45]:List UInt8)).toArray⟩] w (Vc.aw (.string ⟨(gX s).toArray⟩) w):=by
 refine Vk s w _ ?_;refine af (λh => ?_) (λh => ?_)
 ·subst h;rfl
 refine⟨LZ s,Re,⟨s,rfl,Nat.le_refl _,rfl⟩, ?_⟩;rintro s1 ⟨t,hl,h1,h2⟩;simp only [List.cons.injEq,Vc.Vl.s.injEq,and_true]at hl;subst hl;rintro x0 rfl;refine af (λh0 => ?_) (λh0 => ?_)
 ·rintro x1 rfl x2 rfl x3 rfl;rw [zx (by omega)];refine⟨by omega,by omega, ?_⟩;rintro x4 rfl;obtain⟨r,c,rfl⟩:∃r c,s1=r ++ [c]:=⟨s1.dropLast,s1.getLast (by intro h;rw [h]at h0;simp at h0),(List.dropLast_concat_getLast _).symm⟩
  have hg:(r ++ [c]).getD (((r ++ [c]).length:Int)-1).toNat 0=c:=by
   have:(((r ++ [c]).length:Int)-1).toNat=r.length:=by simp
   rw [this];simp [List.getD]
  rw [hg];rw [VE]at h2;refine af (λe => ?_) (λe => ?_)
  ·rintro x5 rfl x6 rfl;rw [zx (by omega)];refine⟨by simp;omega, ?_⟩;rintro s2 rfl;have hr:List.take ((((r ++ [c]).length:Int)-1).toNat-Int.toNat 0) (List.drop (Int.toNat 0) (r ++ [c]))=r:=by simp
   rw [hr];rw [if_pos (by omega)]at h2;exact⟨⟨r,rfl,by simp at h1;omega,h2⟩,by simp [Re]⟩
  ·rw [if_neg (by omega)]at h2;rw [h2]
 ·have:s1=[]:=List.eq_nil_of_length_eq_zero (by omega)
  subst this;rw [<-h2];rfl
end Go.Proofs.YtnjpiipdgapakaaGreatDoor
