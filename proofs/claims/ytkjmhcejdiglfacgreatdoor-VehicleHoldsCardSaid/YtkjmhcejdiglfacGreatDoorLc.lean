import Derived.Test.YtkjmhcejdiglfacGreatDoorGk
import Derived.Test.YtkjmhcejdiglfacGreatDoorLx
import Derived.Test.YtkjmhcejdiglfacGreatDoorVal2
import Derived.Test.YtkjmhcejdiglfacGreatDoorQp
import Derived.Test.YtkjmhcejdiglfacGreatDoorAwv
set_option linter.unusedVariables false
set_option linter.unusedSimpArgs false
namespace Go.Proofs.YtkjmhcejdiglfacGreatDoor
open Go Go.RowKit Vc
theorem zco(c:UInt8)(w:World):Calls Tryz.prog 61 #[.int .u8 (c.toNat:Int)] w (Vc.Ret (.bool (lL c)) w):=by
 refine zzi _ w _ ?_;unfold lL;refine iteI (fun h=>iteI (fun h' => ?_) fun h'=>iteI (fun h2 => ?_) fun h2 => ?_) fun h=>iteI (fun h2 => ?_) fun h2 => ?_
 all_goals (refine zcj ?_;rw [Bool.eq_iff_iff];simp;omega)
theorem zgi(c:UInt8)(w:World):Calls Tryz.prog 63 #[.int .u8 (c.toNat:Int)] w (Vc.Ret (.bool (lD c)) w):=by
 refine zbk _ w _ ?_;unfold lD;refine iteI (fun h => ?_) fun h => ?_
 all_goals (refine zcj ?_;rw [Bool.eq_iff_iff];simp;omega)
def InvW(p:UInt8→Bool)(s:List UInt8)(n:Nat)(l:List Vl):Prop:=∃ i:Nat,l=[.i i]∧n≤i∧i≤s.length∧runN p s i=runN p s n
def msW(s:List UInt8)(l:List Vl):Nat:=match l with
 | [.i x]=>s.length - x.toNat
 | _=>0
theorem zcw{p:UInt8→Bool}{s:List UInt8}{n i:Nat}(hs:s.length < 4611686018427387904)(h1:n≤i)(h2:i < s.length)(h3:runN p s i=runN p s n)(hp:p (s.getD i 0)=true) :
  InvW p s n [.i (IntKind.i64.wrap ((i:Int) + 1))]∧msW s [.i (IntKind.i64.wrap ((i:Int) + 1))] < msW s [.i (i:Int)]:=by
 rw [zj (by omega)];refine⟨⟨i + 1,rfl,by omega,by omega,(zjaa h2 hp).trans h3⟩, ?_⟩;simp only [msW];omega
theorem zgda{p:UInt8→Bool}{s:List UInt8}{n i:Nat}(h2:i < s.length)(h3:runN p s i=runN p s n)(hp:p (s.getD i 0)=false):(Value.int .i64 (i:Int))=.int .i64 (runN p s n:Nat):=by
 rw [← h3,zdda h2 hp]
theorem endW{p:UInt8→Bool}{s:List UInt8}{n i:Nat}(h2:s.length≤i)(h3:runN p s i=runN p s n):(Value.int .i64 (i:Int))=.int .i64 (runN p s n:Nat):=by
 rw [← h3,ziaa h2]
theorem zdw(s:List UInt8)(n:Nat)(h:n≤s.length)(hs:s.length < 4611686018427387904)(w:World):Calls Tryz.prog 59 #[.string ⟨s.toArray⟩,.int .i64 n,.func (.func 60) #[] #[]] w (Vc.Ret (.int .i64 (runN lB s n:Nat)) w):=by
 refine zoh _ s w _ ⟨InvW lB s n,msW s,⟨n,rfl,Nat.le_refl _,h,rfl⟩, ?_⟩;rintro x1 ⟨i,hl,h1,h2,h3⟩;simp only [List.cons.injEq,Vc.Vl.i.injEq,and_true]at hl;subst hl;rintro x2 rfl;refine iteI (fun hlt => ?_) (fun hge=>endW (by omega) h3);have hi:i < s.length:=by omega
 rintro x3 rfl;refine⟨by omega,by omega, ?_⟩;rintro x4 rfl;simp only [Int.toNat_natCast];refine iteI (fun e => ?_) (fun e=>iteI (fun e' => ?_) (fun e' => ?_))
 ·rintro x5 rfl;exact zcw hs h1 hi h3 (by simp only [lB,decide_eq_true_eq];omega)
 ·rintro x5 rfl;exact zcw hs h1 hi h3 (by simp only [lB,decide_eq_true_eq];omega)
 ·exact zgda hi h3 (by simp only [lB,decide_eq_false_iff_not];omega)
theorem zew(s:List UInt8)(n:Nat)(h:n≤s.length)(hs:s.length < 4611686018427387904)(w:World):Calls Tryz.prog 59 #[.string ⟨s.toArray⟩,.int .i64 n,.func (.func 62) #[] #[]] w (Vc.Ret (.int .i64 (runN lW s n:Nat)) w):=by
 refine zph _ s w _ ⟨InvW lW s n,msW s,⟨n,rfl,Nat.le_refl _,h,rfl⟩, ?_⟩;rintro x1 ⟨i,hl,h1,h2,h3⟩;simp only [List.cons.injEq,Vc.Vl.i.injEq,and_true]at hl;subst hl;rintro x2 rfl;refine iteI (fun hlt => ?_) (fun hge=>endW (by omega) h3);have hi:i < s.length:=by omega
 rintro x3 rfl;refine⟨by omega,by omega, ?_⟩;rintro x4 rfl;simp only [Int.toNat_natCast];refine⟨_,fun w' _=>zco _ w', ?_⟩;refine iteI (fun e => ?_) (fun e=>⟨_,fun w' _=>zgi _ w',iteI (fun e' => ?_) (fun e'=>iteI (fun e2 => ?_) (fun e2 => ?_))⟩)
 ·rintro x5 rfl;exact zcw hs h1 hi h3 (by rw [lW,e,Bool.true_or])
 ·rintro x5 rfl;exact zcw hs h1 hi h3 (by rw [lW,e',Bool.true_or,Bool.or_true])
 ·rintro x5 rfl;exact zcw hs h1 hi h3 (by rw [lW,decide_eq_true (by omega),Bool.or_true,Bool.or_true])
 ·exact zgda hi h3 (by rw [lW,Bool.eq_false_iff.2 e,Bool.eq_false_iff.2 e',decide_eq_false (by omega)];rfl)
theorem zdo(s:List UInt8)(n:Nat)(h:n≤s.length)(hs:s.length < 4611686018427387904)(w:World):Calls Tryz.prog 59 #[.string ⟨s.toArray⟩,.int .i64 n,.func (.func 63) #[] #[]] w (Vc.Ret (.int .i64 (runN lD s n:Nat)) w):=by
 refine zqh _ s w _ ⟨InvW lD s n,msW s,⟨n,rfl,Nat.le_refl _,h,rfl⟩, ?_⟩;rintro x1 ⟨i,hl,h1,h2,h3⟩;simp only [List.cons.injEq,Vc.Vl.i.injEq,and_true]at hl;subst hl;rintro x2 rfl;refine iteI (fun hlt => ?_) (fun hge=>endW (by omega) h3);have hi:i < s.length:=by omega
 rintro x3 rfl;refine⟨by omega,by omega, ?_⟩;rintro x4 rfl;simp only [Int.toNat_natCast];refine⟨_,fun w' _=>zgi _ w',iteI (fun e => ?_) (fun e => ?_)⟩
 ·rintro x5 rfl;exact zcw hs h1 hi h3 e
 ·exact zgda hi h3 (Bool.eq_false_iff.2 e)
theorem zuu(s p:List UInt8):(decide (s.take p.length=p))=p.isPrefixOf s:=by
 rw [Bool.eq_iff_iff,decide_eq_true_eq,List.isPrefixOf_iff_prefix,List.prefix_iff_eq_take];exact eq_comm
theorem zop(s p:List UInt8)(w:World):Calls Tryz.prog 68 #[.string ⟨s.toArray⟩,.string ⟨p.toArray⟩] w (Vc.Ret (.bool (p.isPrefixOf s)) w):=by
 refine zuf s p w _ ?_;rintro x0 rfl x1 rfl;refine iteI (fun h => ?_) (fun h => ?_)
 ·rintro x2 rfl;refine⟨by omega, ?_⟩;rintro s2 rfl;refine zcj ?_;rw [← zuu];simp
 ·refine zcj ?_;rw [← zuu,eq_comm,decide_eq_false_iff_not];intro e
  have:=congrArg List.length e
  rw [List.length_take]at this;omega
def InvT(s:List UInt8)(l:List Vl):Prop:=∃ t,l=[.s t]∧t.length≤s.length∧trimR t=trimR s
def msT(l:List Vl):Nat:=match l with
 | [.s t]=>t.length
 | _=>0
theorem zey(s:List UInt8)(hs:s.length < 4611686018427387904)(w:World):Calls Tryz.prog 64 #[.string ⟨s.toArray⟩,.string ⟨(([45]:List UInt8)).toArray⟩] w (Vc.Ret (.string ⟨(trimR s).toArray⟩) w):=by
 refine zvf s w _ ?_;refine iteI (fun h => ?_) (fun h => ?_)
 ·subst h;rfl
 refine⟨InvT s,msT,⟨s,rfl,Nat.le_refl _,rfl⟩, ?_⟩;rintro s1 ⟨t,hl,h1,h2⟩;simp only [List.cons.injEq,Vc.Vl.s.injEq,and_true]at hl;subst hl;rintro x0 rfl;refine iteI (fun h0 => ?_) (fun h0 => ?_)
 ·rintro x1 rfl x2 rfl x3 rfl;rw [zj (by omega)];refine⟨by omega,by omega, ?_⟩;rintro x4 rfl;obtain⟨r,c,rfl⟩:∃ r c,s1=r ++ [c]:=⟨s1.dropLast,s1.getLast (by intro h;rw [h]at h0;simp at h0),(List.dropLast_concat_getLast _).symm⟩
  have hg:(r ++ [c]).getD (((r ++ [c]).length:Int) - 1).toNat 0=c:=by
   have:(((r ++ [c]).length:Int) - 1).toNat=r.length:=by simp
   rw [this];simp [List.getD]
  rw [hg];rw [zaw]at h2;refine iteI (fun e => ?_) (fun e => ?_)
  ·rintro x5 rfl x6 rfl;rw [zj (by omega)];refine⟨by simp;omega, ?_⟩;rintro s2 rfl;have hr:List.take ((((r ++ [c]).length:Int) - 1).toNat - Int.toNat 0) (List.drop (Int.toNat 0) (r ++ [c]))=r:=by simp
   rw [hr];rw [if_pos (by omega)]at h2;exact⟨⟨r,rfl,by simp at h1;omega,h2⟩,by simp [msT]⟩
  ·rw [if_neg (by omega)]at h2;rw [h2]
 ·have:s1=[]:=List.eq_nil_of_length_eq_zero (by omega)
  subst this;rw [← h2];rfl
end Go.Proofs.YtkjmhcejdiglfacGreatDoor
