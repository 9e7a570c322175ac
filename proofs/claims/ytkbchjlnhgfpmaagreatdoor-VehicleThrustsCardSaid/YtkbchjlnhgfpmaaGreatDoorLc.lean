import Derived.Test.YtkbchjlnhgfpmaaGreatDoorGk
import Derived.Test.YtkbchjlnhgfpmaaGreatDoorLx
import Derived.Test.YtkbchjlnhgfpmaaGreatDoorVal2
import Derived.Test.YtkbchjlnhgfpmaaGreatDoorQp
import Derived.Test.YtkbchjlnhgfpmaaGreatDoorAwv
set_option linter.unusedVariables false
set_option linter.unusedSimpArgs false
namespace Go.Proofs.YtkbchjlnhgfpmaaGreatDoor
open Go Go.RowKit Vc
theorem Vw(c:UInt8)(w:World):Calls Tryz.prog 75 #[.int .u8 (c.toNat:Int)] w (Vc.aI (.bool (lL c)) w):=by
 refine YB _ w _ ?_;unfold lL;refine ae (λh=>ae (λh' => ?_) λh'=>ae (λh2 => ?_) λh2 => ?_) λh=>ae (λh2 => ?_) λh2 => ?_
 all_goals (refine nV ?_;rw [Bool.eq_iff_iff];simp;omega)
theorem JU(c:UInt8)(w:World):Calls Tryz.prog 77 #[.int .u8 (c.toNat:Int)] w (Vc.aI (.bool (lD c)) w):=by
 refine YC _ w _ ?_;unfold lD;refine ae (λh => ?_) λh => ?_
 all_goals (refine nV ?_;rw [Bool.eq_iff_iff];simp;omega)
def vt(p:UInt8->Bool)(s:List UInt8)(n:Nat)(l:List Vl):Prop:=∃i:Nat,l=[.i i]/\n<=i/\i<=s.length/\runN p s i=runN p s n
def Bu(s:List UInt8)(l:List Vl):Nat:=match l with
 | [.i x]=>s.length-x.toNat
 |_=>0
theorem xR{p:UInt8->Bool}{s:List UInt8}{n i:Nat}(hs:s.length<4611686018427387904)(h1:n<=i)(h2:i<s.length)(h3:runN p s i=runN p s n)(hp:p (s.getD i 0)=true) :
  vt p s n [.i (IntKind.i64.wrap ((i:Int)+1))]/\Bu s [.i (IntKind.i64.wrap ((i:Int)+1))]<Bu s [.i (i:Int)]:=by
 rw [zb (by omega)];refine⟨⟨i+1,rfl,by omega,by omega,(O7 h2 hp).trans h3⟩, ?_⟩;simp only [Bu];omega
theorem De{p:UInt8->Bool}{s:List UInt8}{n i:Nat}(h2:i<s.length)(h3:runN p s i=runN p s n)(hp:p (s.getD i 0)=false):(Value.int .i64 (i:Int))=.int .i64 (runN p s n:Nat):=by
 rw [<-h3,JP h2 hp]
theorem Df{p:UInt8->Bool}{s:List UInt8}{n i:Nat}(h2:s.length<=i)(h3:runN p s i=runN p s n):(Value.int .i64 (i:Int))=.int .i64 (runN p s n:Nat):=by
 rw [<-h3,Hg h2]
theorem PQ(s:List UInt8)(n:Nat)(h:n<=s.length)(hs:s.length<4611686018427387904)(w:World):Calls Tryz.prog 73 #[.string ⟨s.toArray⟩,.int .i64 n,.func (.func 74) #[] #[]] w (Vc.aI (.int .i64 (runN lB s n:Nat)) w):=by
 refine YA _ s w _ ⟨vt lB s n,Bu s,⟨n,rfl,Nat.le_refl _,h,rfl⟩, ?_⟩;rintro x1 ⟨i,hl,h1,h2,h3⟩;simp only [List.cons.injEq,Vc.Vl.i.injEq,and_true]at hl;subst hl;rintro x2 rfl;refine ae (λct => ?_) (λkq=>Df (by omega) h3);have hi:i<s.length:=by omega
 rintro x3 rfl;refine⟨by omega,by omega, ?_⟩;rintro x4 rfl;simp only [Int.toNat_natCast];refine ae (λe => ?_) (λe=>ae (λe' => ?_) (λe' => ?_))
 ·rintro x5 rfl;exact xR hs h1 hi h3 (by simp only [lB,decide_eq_true_eq];omega)
 ·rintro x5 rfl;exact xR hs h1 hi h3 (by simp only [lB,decide_eq_true_eq];omega)
 ·exact De hi h3 (by simp only [lB,decide_eq_false_iff_not];omega)
theorem PR(s:List UInt8)(n:Nat)(h:n<=s.length)(hs:s.length<4611686018427387904)(w:World):Calls Tryz.prog 73 #[.string ⟨s.toArray⟩,.int .i64 n,.func (.func 76) #[] #[]] w (Vc.aI (.int .i64 (runN lW s n:Nat)) w):=by
 refine YD _ s w _ ⟨vt lW s n,Bu s,⟨n,rfl,Nat.le_refl _,h,rfl⟩, ?_⟩;rintro x1 ⟨i,hl,h1,h2,h3⟩;simp only [List.cons.injEq,Vc.Vl.i.injEq,and_true]at hl;subst hl;rintro x2 rfl;refine ae (λct => ?_) (λkq=>Df (by omega) h3);have hi:i<s.length:=by omega
 rintro x3 rfl;refine⟨by omega,by omega, ?_⟩;rintro x4 rfl;simp only [Int.toNat_natCast];refine⟨_,λw' _=>Vw _ w', ?_⟩;refine ae (λe => ?_) (λe=>⟨_,λw' _=>JU _ w',ae (λe' => ?_) (λe'=>ae (λe2 => ?_) (λe2 => ?_))⟩)
 ·rintro x5 rfl;exact xR hs h1 hi h3 (by rw [lW,e,Bool.true_or])
 ·rintro x5 rfl;exact xR hs h1 hi h3 (by rw [lW,e',Bool.true_or,Bool.or_true])
 ·rintro x5 rfl;exact xR hs h1 hi h3 (by rw [lW,decide_eq_true (by omega),Bool.or_true,Bool.or_true])
 ·exact De hi h3 (by rw [lW,Bool.eq_false_iff.2 e,Bool.eq_false_iff.2 e',decide_eq_false (by omega)];rfl)
theorem Vx(s:List UInt8)(n:Nat)(h:n<=s.length)(hs:s.length<4611686018427387904)(w:World):Calls Tryz.prog 73 #[.string ⟨s.toArray⟩,.int .i64 n,.func (.func 77) #[] #[]] w (Vc.aI (.int .i64 (runN lD s n:Nat)) w):=by
 refine YE _ s w _ ⟨vt lD s n,Bu s,⟨n,rfl,Nat.le_refl _,h,rfl⟩, ?_⟩;rintro x1 ⟨i,hl,h1,h2,h3⟩;simp only [List.cons.injEq,Vc.Vl.i.injEq,and_true]at hl;subst hl;rintro x2 rfl;refine ae (λct => ?_) (λkq=>Df (by omega) h3);have hi:i<s.length:=by omega
 rintro x3 rfl;refine⟨by omega,by omega, ?_⟩;rintro x4 rfl;simp only [Int.toNat_natCast];refine⟨_,λw' _=>JU _ w',ae (λe => ?_) (λe => ?_)⟩
 ·rintro x5 rfl;exact xR hs h1 hi h3 e
 ·exact De hi h3 (Bool.eq_false_iff.2 e)
theorem Hj(s p:List UInt8):(decide (s.take p.length=p))=p.isPrefixOf s:=by
 rw [Bool.eq_iff_iff,decide_eq_true_eq,List.isPrefixOf_iff_prefix,List.prefix_iff_eq_take];exact eq_comm
theorem ztt(s p:List UInt8)(w:World):Calls Tryz.prog 82 #[.string ⟨s.toArray⟩,.string ⟨p.toArray⟩] w (Vc.aI (.bool (p.isPrefixOf s)) w):=by
 refine YF s p w _ ?_;rintro x0 rfl x1 rfl;refine ae (λh => ?_) (λh => ?_)
 ·rintro x2 rfl;refine⟨by omega, ?_⟩;rintro s2 rfl;refine nV ?_;rw [<-Hj];simp
 ·refine nV ?_;rw [<-Hj,eq_comm,decide_eq_false_iff_not];intro e
  have:=congrArg List.length e
  rw [List.length_take]at this;omega
def PS(s:List UInt8)(l:List Vl):Prop:=∃t,l=[.s t]/\t.length<=s.length/\dP t=dP s
def Vy(l:List Vl):Nat:=match l with
 | [.s t]=>t.length
 |_=>0
theorem PT(s:List UInt8)(hs:s.length<4611686018427387904)(w:World):Calls Tryz.prog 78 #[.string ⟨s.toArray⟩,.string ⟨(([45]:List UInt8)).toArray⟩] w (Vc.aI (.string ⟨(dP s).toArray⟩) w):=by
 refine YG s w _ ?_;refine ae (λh => ?_) (λh => ?_)
 ·subst h;rfl
 refine⟨PS s,Vy,⟨s,rfl,Nat.le_refl _,rfl⟩, ?_⟩;rintro s1 ⟨t,hl,h1,h2⟩;simp only [List.cons.injEq,Vc.Vl.s.injEq,and_true]at hl;subst hl;rintro x0 rfl;refine ae (λh0 => ?_) (λh0 => ?_)
 ·rintro x1 rfl x2 rfl x3 rfl;rw [zb (by omega)];refine⟨by omega,by omega, ?_⟩;rintro x4 rfl;obtain⟨r,c,rfl⟩:∃r c,s1=r ++ [c]:=⟨s1.dropLast,s1.getLast (by intro h;rw [h]at h0;simp at h0),(List.dropLast_concat_getLast _).symm⟩
  have hg:(r ++ [c]).getD (((r ++ [c]).length:Int)-1).toNat 0=c:=by
   have:(((r ++ [c]).length:Int)-1).toNat=r.length:=by simp
   rw [this];simp [List.getD]
  rw [hg];rw [O8]at h2;refine ae (λe => ?_) (λe => ?_)
  ·rintro x5 rfl x6 rfl;rw [zb (by omega)];refine⟨by simp;omega, ?_⟩;rintro s2 rfl;have hr:List.take ((((r ++ [c]).length:Int)-1).toNat-Int.toNat 0) (List.drop (Int.toNat 0) (r ++ [c]))=r:=by simp
   rw [hr];rw [if_pos (by omega)]at h2;exact⟨⟨r,rfl,by simp at h1;omega,h2⟩,by simp [Vy]⟩
  ·rw [if_neg (by omega)]at h2;rw [h2]
 ·have:s1=[]:=List.eq_nil_of_length_eq_zero (by omega)
  subst this;rw [<-h2];rfl
end Go.Proofs.YtkbchjlnhgfpmaaGreatDoor
