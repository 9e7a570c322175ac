import Derived.Test.YtpfgephckjpcjaaGreatDoorGk
import Derived.Test.YtpfgephckjpcjaaGreatDoorLx
import Derived.Test.YtpfgephckjpcjaaGreatDoorVal2
import Derived.Test.YtpfgephckjpcjaaGreatDoorQp
import Derived.Test.YtpfgephckjpcjaaGreatDoorAwv
set_option linter.unusedVariables false
set_option linter.unusedSimpArgs false
namespace Go.Proofs.YtpfgephckjpcjaaGreatDoor
open Go Go.RowKit Vc
theorem RQ(c:UInt8)(w:World):Calls Tryz.prog 39 #[.int .u8 (c.toNat:Int)] w (Vc.aR (.bool (lL c)) w):=by
 refine U4 _ w _ ?_;unfold lL;refine aa (λh=>aa (λh' => ?_) λh'=>aa (λh2 => ?_) λh2 => ?_) λh=>aa (λh2 => ?_) λh2 => ?_
 all_goals (refine xV ?_;rw [Bool.eq_iff_iff];simp;omega)
theorem HC(c:UInt8)(w:World):Calls Tryz.prog 41 #[.int .u8 (c.toNat:Int)] w (Vc.aR (.bool (lD c)) w):=by
 refine U5 _ w _ ?_;unfold lD;refine aa (λh => ?_) λh => ?_
 all_goals (refine xV ?_;rw [Bool.eq_iff_iff];simp;omega)
def uO(p:UInt8->Bool)(s:List UInt8)(n:Nat)(l:List Vl):Prop:=∃i:Nat,l=[.i i]/\n<=i/\i<=s.length/\runN p s i=runN p s n
def AE(s:List UInt8)(l:List Vl):Nat:=match l with
 | [.i x]=>s.length-x.toNat
 |_=>0
theorem xm{p:UInt8->Bool}{s:List UInt8}{n i:Nat}(hs:s.length<4611686018427387904)(h1:n<=i)(h2:i<s.length)(h3:runN p s i=runN p s n)(hp:p (s.getD i 0)=true) :
  uO p s n [.i (IntKind.i64.wrap ((i:Int)+1))]/\AE s [.i (IntKind.i64.wrap ((i:Int)+1))]<AE s [.i (i:Int)]:=by
 rw [zk (by omega)];refine⟨⟨i+1,rfl,by omega,by omega,(Hx h2 hp).trans h3⟩, ?_⟩;simp only [AE];omega
theorem Ci{p:UInt8->Bool}{s:List UInt8}{n i:Nat}(h2:i<s.length)(h3:runN p s i=runN p s n)(hp:p (s.getD i 0)=false):(Value.int .i64 (i:Int))=.int .i64 (runN p s n:Nat):=by
 rw [<-h3,Hw h2 hp]
theorem Cj{p:UInt8->Bool}{s:List UInt8}{n i:Nat}(h2:s.length<=i)(h3:runN p s i=runN p s n):(Value.int .i64 (i:Int))=.int .i64 (runN p s n:Nat):=by
 rw [<-h3,FJ h2]
theorem Wx(s:List UInt8)(n:Nat)(h:n<=s.length)(hs:s.length<4611686018427387904)(w:World):Calls Tryz.prog 37 #[.string ⟨s.toArray⟩,.int .i64 n,.func (.func 38) #[] #[]] w (Vc.aR (.int .i64 (runN lB s n:Nat)) w):=by
 refine U3 _ s w _ ⟨uO lB s n,AE s,⟨n,rfl,Nat.le_refl _,h,rfl⟩, ?_⟩;rintro x1 ⟨i,hl,h1,h2,h3⟩;simp only [List.cons.injEq,Vc.Vl.i.injEq,and_true]at hl;subst hl;rintro x2 rfl;refine aa (λeD => ?_) (λoV=>Cj (by omega) h3);have hi:i<s.length:=by omega
 rintro x3 rfl;refine⟨by omega,by omega, ?_⟩;rintro x4 rfl;simp only [Int.toNat_natCast];refine aa (λe => ?_) (λe=>aa (λe' => ?_) (λe' => ?_))
 ·rintro x5 rfl;exact xm hs h1 hi h3 (by simp only [lB,decide_eq_true_eq];omega)
 ·rintro x5 rfl;exact xm hs h1 hi h3 (by simp only [lB,decide_eq_true_eq];omega)
 ·exact Ci hi h3 (by simp only [lB,decide_eq_false_iff_not];omega)
theorem Wy(s:List UInt8)(n:Nat)(h:n<=s.length)(hs:s.length<4611686018427387904)(w:World):Calls Tryz.prog 37 #[.string ⟨s.toArray⟩,.int .i64 n,.func (.func 40) #[] #[]] w (Vc.aR (.int .i64 (runN lW s n:Nat)) w):=by
 refine U6 _ s w _ ⟨uO lW s n,AE s,⟨n,rfl,Nat.le_refl _,h,rfl⟩, ?_⟩;rintro x1 ⟨i,hl,h1,h2,h3⟩;simp only [List.cons.injEq,Vc.Vl.i.injEq,and_true]at hl;subst hl;rintro x2 rfl;refine aa (λeD => ?_) (λoV=>Cj (by omega) h3);have hi:i<s.length:=by omega
 rintro x3 rfl;refine⟨by omega,by omega, ?_⟩;rintro x4 rfl;simp only [Int.toNat_natCast];refine⟨_,λw' _=>RQ _ w', ?_⟩;refine aa (λe => ?_) (λe=>⟨_,λw' _=>HC _ w',aa (λe' => ?_) (λe'=>aa (λe2 => ?_) (λe2 => ?_))⟩)
 ·rintro x5 rfl;exact xm hs h1 hi h3 (by rw [lW,e,Bool.true_or])
 ·rintro x5 rfl;exact xm hs h1 hi h3 (by rw [lW,e',Bool.true_or,Bool.or_true])
 ·rintro x5 rfl;exact xm hs h1 hi h3 (by rw [lW,decide_eq_true (by omega),Bool.or_true,Bool.or_true])
 ·exact Ci hi h3 (by rw [lW,Bool.eq_false_iff.2 e,Bool.eq_false_iff.2 e',decide_eq_false (by omega)];rfl)
theorem RR(s:List UInt8)(n:Nat)(h:n<=s.length)(hs:s.length<4611686018427387904)(w:World):Calls Tryz.prog 37 #[.string ⟨s.toArray⟩,.int .i64 n,.func (.func 41) #[] #[]] w (Vc.aR (.int .i64 (runN lD s n:Nat)) w):=by
 refine U7 _ s w _ ⟨uO lD s n,AE s,⟨n,rfl,Nat.le_refl _,h,rfl⟩, ?_⟩;rintro x1 ⟨i,hl,h1,h2,h3⟩;simp only [List.cons.injEq,Vc.Vl.i.injEq,and_true]at hl;subst hl;rintro x2 rfl;refine aa (λeD => ?_) (λoV=>Cj (by omega) h3);have hi:i<s.length:=by omega
 rintro x3 rfl;refine⟨by omega,by omega, ?_⟩;rintro x4 rfl;simp only [Int.toNat_natCast];refine⟨_,λw' _=>HC _ w',aa (λe => ?_) (λe => ?_)⟩
 ·rintro x5 rfl;exact xm hs h1 hi h3 e
 ·exact Ci hi h3 (Bool.eq_false_iff.2 e)
theorem RS(s p:List UInt8):(decide (s.take p.length=p))=p.isPrefixOf s:=by
 rw [Bool.eq_iff_iff,decide_eq_true_eq,List.isPrefixOf_iff_prefix,List.prefix_iff_eq_take];exact eq_comm
theorem Wz(s p:List UInt8)(w:World):Calls Tryz.prog 46 #[.string ⟨s.toArray⟩,.string ⟨p.toArray⟩] w (Vc.aR (.bool (p.isPrefixOf s)) w):=by
 refine U8 s p w _ ?_;rintro x0 rfl x1 rfl;refine aa (λh => ?_) (λh => ?_)
 ·rintro x2 rfl;refine⟨by omega, ?_⟩;rintro s2 rfl;refine xV ?_;rw [<-RS];simp
 ·refine xV ?_;rw [<-RS,eq_comm,decide_eq_false_iff_not];intro e
  have:=congrArg List.length e
  rw [List.length_take]at this;omega
def Mo(s:List UInt8)(l:List Vl):Prop:=∃t,l=[.s t]/\t.length<=s.length/\dY t=dY s
def RT(l:List Vl):Nat:=match l with
 | [.s t]=>t.length
 |_=>0
theorem Mp(s:List UInt8)(hs:s.length<4611686018427387904)(w:World):Calls Tryz.prog 42 #[.string ⟨s.toArray⟩,.string ⟨(([45]:List UInt8)).toArray⟩] w (Vc.aR (.string ⟨(dY s).toArray⟩) w):=by
 refine U9 s w _ ?_;refine aa (λh => ?_) (λh => ?_)
 ·subst h;rfl
 refine⟨Mo s,RT,⟨s,rfl,Nat.le_refl _,rfl⟩, ?_⟩;rintro s1 ⟨t,hl,h1,h2⟩;simp only [List.cons.injEq,Vc.Vl.s.injEq,and_true]at hl;subst hl;rintro x0 rfl;refine aa (λh0 => ?_) (λh0 => ?_)
 ·rintro x1 rfl x2 rfl x3 rfl;rw [zk (by omega)];refine⟨by omega,by omega, ?_⟩;rintro x4 rfl;obtain⟨r,c,rfl⟩:∃r c,s1=r ++ [c]:=⟨s1.dropLast,s1.getLast (by intro h;rw [h]at h0;simp at h0),(List.dropLast_concat_getLast _).symm⟩
  have hg:(r ++ [c]).getD (((r ++ [c]).length:Int)-1).toNat 0=c:=by
   have:(((r ++ [c]).length:Int)-1).toNat=r.length:=by simp
   rw [this];simp [List.getD]
  rw [hg];rw [LN]at h2;refine aa (λe => ?_) (λe => ?_)
  ·rintro x5 rfl x6 rfl;rw [zk (by omega)];refine⟨by simp;omega, ?_⟩;rintro s2 rfl;have hr:List.take ((((r ++ [c]).length:Int)-1).toNat-Int.toNat 0) (List.drop (Int.toNat 0) (r ++ [c]))=r:=by simp
   rw [hr];rw [if_pos (by omega)]at h2;exact⟨⟨r,rfl,by simp at h1;omega,h2⟩,by simp [RT]⟩
  ·rw [if_neg (by omega)]at h2;rw [h2]
 ·have:s1=[]:=List.eq_nil_of_length_eq_zero (by omega)
  subst this;rw [<-h2];rfl
end Go.Proofs.YtpfgephckjpcjaaGreatDoor
