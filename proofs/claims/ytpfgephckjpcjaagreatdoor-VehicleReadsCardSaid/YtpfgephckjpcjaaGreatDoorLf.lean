import Derived.Test.YtpfgephckjpcjaaGreatDoorGr
import Derived.Test.YtpfgephckjpcjaaGreatDoorLe
import Derived.Test.YtpfgephckjpcjaaGreatDoorCq
set_option linter.unusedVariables false
set_option linter.unusedSimpArgs false
set_option maxRecDepth 4000
namespace Go.Proofs.YtpfgephckjpcjaaGreatDoor
open Go Go.RowKit Vc
attribute [local irreducible] Go.Calls
theorem RZ(c:UInt8)(w:World):Calls Tryz.prog 59 #[.int .u8 (c.toNat:Int)] w (Vc.aR (.bool (lL c)) w):=by
 refine UW _ w _ ?_;unfold lL;refine aa (λh=>aa (λh' => ?_) λh'=>aa (λh2 => ?_) λh2 => ?_) λh=>aa (λh2 => ?_) λh2 => ?_
 all_goals (refine xV ?_;rw [Bool.eq_iff_iff];simp;omega)
theorem Ck(c:UInt8)(w:World):Calls Tryz.prog 57 #[.int .u8 (c.toNat:Int)] w (Vc.aR (.bool (lD c)) w):=by
 refine UX _ w _ ?_;unfold lD;refine aa (λh => ?_) λh => ?_
 all_goals (refine xV ?_;rw [Bool.eq_iff_iff];simp;omega)
def idxOf:List (List UInt8)->List UInt8->Int
 | [],_ => -1
 |e::r,s=>if e=s then 0 else if idxOf r s = -1 then -1 else idxOf r s+1
theorem MB:∀(l:List (List UInt8)) (s:List UInt8),-1<=idxOf l s
 | [],s=>Int.le_refl _
 |e::r,s=>by have:=MB r s;unfold idxOf;split<;>(try split)<;>omega
theorem R0{s:List UInt8}:∀{l:List (List UInt8)} {i:Nat} {e:List UInt8},(∀j e',j<i->l[j]? = some e'->e'≠s)->l[i]? = some e->e=s->idxOf l s=i
  | [],i,e,_,h,_=>by simp at h
  |a::r,0,e,_,h,he=>by
    simp only [List.getElem?_cons_zero,Option.some.injEq]at h;rw [idxOf,if_pos (h.trans he)];rfl
  |a::r,i+1,e,hb,h,he=>by
    have h0:a≠s:=hb 0 a (by omega) rfl;have ih:=R0 (l:=r) (i:=i) (λj e' hj hl=>hb (j+1) e' (by omega) (by simpa using hl)) (by simpa using h) he;rw [idxOf,if_neg h0,ih,if_neg (by omega)];simp
theorem R3{s:List UInt8}:∀{l:List (List UInt8)},(∀(j:Nat) (e':List UInt8),l[j]? = some e'->e'≠s)->idxOf l s = -1
  | [],_=>rfl
  |a::r,hb=>by
    rw [idxOf,if_neg (hb 0 a rfl),if_pos (R3 λj e' hl=>hb (j+1) e' (by simpa using hl))]
def uP(s:List UInt8):List Value := [.string ⟨s.toArray⟩]
def MC(l:List (List UInt8))(s:List UInt8)(L:List Vl):Prop:=∃(a:Int) (i:Nat),L=[.i a,.i i]/\i<=l.length/\∀j e',j<i->l[j]? = some e'->e'≠s
def R4(n:Nat)(L:List Vl):Nat:=match L with
 | [_,.i i]=>n-i.toNat
 |_=>0
theorem MD(l:List (List UInt8))(s:List UInt8){w:World}{v:Value}(h:vT w v 1 (l.flatMap uP))(hn:l.length<4611686018427387904):Calls Tryz.prog 60 #[v,.string ⟨s.toArray⟩] w (Vc.aR (.int .i64 (idxOf l s)) w):=by
 obtain⟨b0,p0,x1,rfl,h2,h3⟩:=MA h (by decide) (Mz (f:=uP) (c:=1) (λ_=>rfl) l);refine UY p0 (l.length:Nat) x1 b0 s w _ ⟨MC l s,R4 l.length,⟨_,0,rfl,by omega,λj e' hj=>by omega⟩, ?_⟩;rintro x2 x3 ⟨a,i,hy,hi,hb⟩;simp only [List.cons.injEq,Vc.Vl.i.injEq,and_true]at hy;obtain⟨rfl,rfl⟩:=hy;refine⟨by omega, ?_,aa (λeD => ?_) (λoV => ?_)⟩
 ·by_cases iE:b0=true
  ·right;rw [h2 iE];rfl
  ·exact .inl iE
 ·have zY:i<l.length:=by omega
  have hg:l[i]? = some l[i]:=List.getElem?_eq_getElem zY;have hc:=h3 (i*1+0) _ (FO (f:=uP) (c:=1) (λ_=>rfl) hg (by decide));refine⟨λiE=>by have:=h2 iE;omega,by omega,by omega,l[i], ?_,aa (λe => ?_) (λe => ?_)⟩
  ·simp only [Int.toNat_natCast];exact hc
  ·rw [R0 hb hg e]
  ·rintro x4 rfl;rw [zk (by omega)];refine⟨⟨x2,i+1,rfl,by omega,λj e' hj hl => ?_⟩,by simp only [R4];omega⟩;rcases Nat.lt_succ_iff_lt_or_eq.1 hj with hj|rfl
   ·exact hb j e' hj hl
   ·rw [hg]at hl;cases hl;exact e
 ·rw [R3 λj e' hl=>hb j e' (by have:=(List.getElem?_eq_some_iff.1 hl).1;omega) hl]
def gI(s:List UInt8):Int:=idxOf (kC.map (·.1)) s
theorem AJ(s:List UInt8)(w:World):Calls Tryz.prog 134 #[.string ⟨s.toArray⟩] w (Vc.aR (.int .i64 (gI s)) w):=by
 refine UZ s w _ ?_;unfold gI kC;simp only [List.map_cons,List.map_nil]
 iterate 14 (refine aa (λh=>by subst h;rfl) (λh => ?_))
 simp only [idxOf,if_false,if_true, *]
theorem R5(s:List UInt8):(0<=gI s)↔(dG s).isSome=true:=by
  unfold gI dG;generalize kC=l
  induction l with
  |nil=>simp [idxOf,oB]
  |cons e r ih =>
    simp only [List.map_cons,idxOf,oB];split
    · simp
    · have:=MB (r.map (·.1)) s
      split
      · rename_i h;rw [h]at ih;simpa using ih
      · rw [<-ih];omega
theorem FP(l:List (List UInt8))(s:List UInt8):AB l s=true↔s∈l:=by
  induction l with
  |nil=>simp [AB]
  |cons e r ih =>
    unfold AB;split
    · rename_i h;simp [h]
    · rename_i h;simp [h,ih]
theorem R6(s:List UInt8)(w:World):Calls Tryz.prog 136 #[.string ⟨s.toArray⟩] w (Vc.aR (.bool (dH s)) w):=by
 refine U0 s w _ ?_
 have hw:∀e,e∈rE->e=s->dH s=true:=λe he h=>by
  subst h;unfold dH;rw [(FP _ _).2 he,Bool.or_true]
 iterate 18 (refine aa (λh=>by rw [hw _ (by decide) h]) (λh => ?_))
 refine⟨_,λw' _=>AJ s w', ?_⟩;refine xV ?_
 have hn:AB rE s=false:=Bool.eq_false_iff.2 λhp=>by
  have:=(FP _ _).1 hp
  simp only [rE,List.mem_cons,List.not_mem_nil,or_false,eq_comm (a:=s)]at this;simp_all
 unfold dH;rw [hn,Bool.or_false,Bool.eq_iff_iff,<-R5];simp
end Go.Proofs.YtpfgephckjpcjaaGreatDoor
