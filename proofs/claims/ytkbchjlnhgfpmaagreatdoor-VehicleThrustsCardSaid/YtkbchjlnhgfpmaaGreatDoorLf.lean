import Derived.Test.YtkbchjlnhgfpmaaGreatDoorGr
import Derived.Test.YtkbchjlnhgfpmaaGreatDoorLe
import Derived.Test.YtkbchjlnhgfpmaaGreatDoorCq
set_option linter.unusedVariables false
set_option linter.unusedSimpArgs false
set_option maxRecDepth 4000
namespace Go.Proofs.YtkbchjlnhgfpmaaGreatDoor
open Go Go.RowKit Vc
attribute [local irreducible] Go.Calls
theorem Vz(c:UInt8)(w:World):Calls Tryz.prog 186 #[.int .u8 (c.toNat:Int)] w (Vc.aI (.bool (lL c)) w):=by
 refine Ys _ w _ ?_;unfold lL;refine ae (λh=>ae (λh' => ?_) λh'=>ae (λh2 => ?_) λh2 => ?_) λh=>ae (λh2 => ?_) λh2 => ?_
 all_goals (refine nV ?_;rw [Bool.eq_iff_iff];simp;omega)
theorem Dh(c:UInt8)(w:World):Calls Tryz.prog 184 #[.int .u8 (c.toNat:Int)] w (Vc.aI (.bool (lD c)) w):=by
 refine Yt _ w _ ?_;unfold lD;refine ae (λh => ?_) λh => ?_
 all_goals (refine nV ?_;rw [Bool.eq_iff_iff];simp;omega)
def idxOf:List (List UInt8)->List UInt8->Int
 | [],_ => -1
 |e::r,s=>if e=s then 0 else if idxOf r s = -1 then -1 else idxOf r s+1
theorem P6:∀(l:List (List UInt8)) (s:List UInt8),-1<=idxOf l s
 | [],s=>Int.le_refl _
 |e::r,s=>by have:=P6 r s;unfold idxOf;split<;>(try split)<;>omega
theorem Ho{s:List UInt8}:∀{l:List (List UInt8)} {i:Nat} {e:List UInt8},(∀j e',j<i->l[j]? = some e'->e'≠s)->l[i]? = some e->e=s->idxOf l s=i
  | [],i,e,_,h,_=>by simp at h
  |a::r,0,e,_,h,he=>by
    simp only [List.getElem?_cons_zero,Option.some.injEq]at h;rw [idxOf,if_pos (h.trans he)];rfl
  |a::r,i+1,e,hb,h,he=>by
    have h0:a≠s:=hb 0 a (by omega) rfl;have ih:=Ho (l:=r) (i:=i) (λj e' hj hl=>hb (j+1) e' (by omega) (by simpa using hl)) (by simpa using h) he;rw [idxOf,if_neg h0,ih,if_neg (by omega)];simp
theorem VA{s:List UInt8}:∀{l:List (List UInt8)},(∀(j:Nat) (e':List UInt8),l[j]? = some e'->e'≠s)->idxOf l s = -1
  | [],_=>rfl
  |a::r,hb=>by
    rw [idxOf,if_neg (hb 0 a rfl),if_pos (VA λj e' hl=>hb (j+1) e' (by simpa using hl))]
def vu(s:List UInt8):List Value := [.string ⟨s.toArray⟩]
def P7(l:List (List UInt8))(s:List UInt8)(L:List Vl):Prop:=∃(a:Int) (i:Nat),L=[.i a,.i i]/\i<=l.length/\∀j e',j<i->l[j]? = some e'->e'≠s
def VC(n:Nat)(L:List Vl):Nat:=match L with
 | [_,.i i]=>n-i.toNat
 |_=>0
theorem P8(l:List (List UInt8))(s:List UInt8){w:World}{v:Value}(h:e_ w v 1 (l.flatMap vu))(hn:l.length<4611686018427387904):Calls Tryz.prog 187 #[v,.string ⟨s.toArray⟩] w (Vc.aI (.int .i64 (idxOf l s)) w):=by
 obtain⟨b0,p0,x1,rfl,h2,h3⟩:=G9 h (by decide) (vQ (f:=vu) (c:=1) (λ_=>rfl) l);refine Yu p0 (l.length:Nat) x1 b0 s w _ ⟨P7 l s,VC l.length,⟨_,0,rfl,by omega,λj e' hj=>by omega⟩, ?_⟩;rintro x2 x3 ⟨a,i,hy,hi,hb⟩;simp only [List.cons.injEq,Vc.Vl.i.injEq,and_true]at hy;obtain⟨rfl,rfl⟩:=hy;refine⟨by omega, ?_,ae (λct => ?_) (λkq => ?_)⟩
 ·by_cases ff:b0=true
  ·right;rw [h2 ff];rfl
  ·exact .inl ff
 ·have od:i<l.length:=by omega
  have hg:l[i]? = some l[i]:=List.getElem?_eq_getElem od;have hc:=h3 (i*1+0) _ (zm (f:=vu) (c:=1) (λ_=>rfl) hg (by decide));refine⟨λff=>by have:=h2 ff;omega,by omega,by omega,l[i], ?_,ae (λe => ?_) (λe => ?_)⟩
  ·simp only [Int.toNat_natCast];exact hc
  ·rw [Ho hb hg e]
  ·rintro x4 rfl;rw [zb (by omega)];refine⟨⟨x2,i+1,rfl,by omega,λj e' hj hl => ?_⟩,by simp only [VC];omega⟩;rcases Nat.lt_succ_iff_lt_or_eq.1 hj with hj|rfl
   ·exact hb j e' hj hl
   ·rw [hg]at hl;cases hl;exact e
 ·rw [VA λj e' hl=>hb j e' (by have:=(List.getElem?_eq_some_iff.1 hl).1;omega) hl]
def qy(s:List UInt8):Int:=idxOf (lu.map (·.1)) s
theorem P9(s:List UInt8)(w:World):Calls Tryz.prog 189 #[.string ⟨s.toArray⟩] w (Vc.aI (.int .i64 (qy s)) w):=by
 refine Yv s w _ ?_;unfold qy lu;simp only [List.map_cons,List.map_nil]
 iterate 14 (refine ae (λh=>by subst h;rfl) (λh => ?_))
 simp only [idxOf,if_false,if_true, *]
theorem P_(s:List UInt8):(0<=qy s)↔(nY s).isSome=true:=by
  unfold qy nY;generalize lu=l
  induction l with
  |nil=>simp [idxOf,pf]
  |cons e r ih =>
    simp only [List.map_cons,idxOf,pf];split
    · simp
    · have:=P6 (r.map (·.1)) s
      split
      · rename_i h;rw [h]at ih;simpa using ih
      · rw [<-ih];omega
theorem Hp(l:List (List UInt8))(s:List UInt8):Bs l s=true↔s∈l:=by
  induction l with
  |nil=>simp [Bs]
  |cons e r ih =>
    unfold Bs;split
    · rename_i h;simp [h]
    · rename_i h;simp [h,ih]
theorem zvt(s:List UInt8)(w:World):Calls Tryz.prog 165 #[.string ⟨s.toArray⟩] w (Vc.aI (.bool (eQ s)) w):=by
 refine Yw s w _ ?_
 have hw:∀e,e∈rN->e=s->eQ s=true:=λe he h=>by
  subst h;unfold eQ;rw [(Hp _ _).2 he,Bool.or_true]
 iterate 18 (refine ae (λh=>by rw [hw _ (by decide) h]) (λh => ?_))
 refine⟨_,λw' _=>P9 s w', ?_⟩;refine nV ?_
 have hn:Bs rN s=false:=Bool.eq_false_iff.2 λhp=>by
  have:=(Hp _ _).1 hp
  simp only [rN,List.mem_cons,List.not_mem_nil,or_false,eq_comm (a:=s)]at this;simp_all
 unfold eQ;rw [hn,Bool.or_false,Bool.eq_iff_iff,<-P_];simp
end Go.Proofs.YtkbchjlnhgfpmaaGreatDoor
