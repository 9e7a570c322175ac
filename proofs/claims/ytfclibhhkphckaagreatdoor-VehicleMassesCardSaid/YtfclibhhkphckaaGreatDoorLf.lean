import Derived.Test.YtfclibhhkphckaaGreatDoorGr
import Derived.Test.YtfclibhhkphckaaGreatDoorLe
import Derived.Test.YtfclibhhkphckaaGreatDoorCq
set_option linter.unusedVariables false
set_option linter.unusedSimpArgs false
set_option maxRecDepth 4000
namespace Go.Proofs.YtfclibhhkphckaaGreatDoor
open Go Go.RowKit Vc
attribute [local irreducible] Go.Calls
theorem zan(c:UInt8)(w:World):Calls Tryz.prog 143 #[.int .u8 (c.toNat:Int)] w (Vc.Ret (.bool (lL c)) w):=by
 refine zhf _ w _ ?_;unfold lL;refine iteI (fun h=>iteI (fun h' => ?_) fun h'=>iteI (fun h2 => ?_) fun h2 => ?_) fun h=>iteI (fun h2 => ?_) fun h2 => ?_
 all_goals (refine zke ?_;rw [Bool.eq_iff_iff];simp;omega)
theorem zzb(c:UInt8)(w:World):Calls Tryz.prog 141 #[.int .u8 (c.toNat:Int)] w (Vc.Ret (.bool (lD c)) w):=by
 refine zzf _ w _ ?_;unfold lD;refine iteI (fun h => ?_) fun h => ?_
 all_goals (refine zke ?_;rw [Bool.eq_iff_iff];simp;omega)
def idxOf:List (List UInt8)→List UInt8→Int
 | [],_ => -1
 | e::r,s=>if e=s then 0 else if idxOf r s = -1 then -1 else idxOf r s + 1
theorem zaq:∀ (l:List (List UInt8)) (s:List UInt8),-1≤idxOf l s
 | [],s=>Int.le_refl _
 | e::r,s=>by have:=zaq r s;unfold idxOf;split <;> (try split) <;> omega
theorem zxv{s:List UInt8}:∀ {l:List (List UInt8)} {i:Nat} {e:List UInt8},(∀ j e',j < i→l[j]? = some e'→e'≠s)→l[i]? = some e→e=s→idxOf l s=i
  | [],i,e,_,h,_=>by simp at h
  | a::r,0,e,_,h,he=>by
    simp only [List.getElem?_cons_zero,Option.some.injEq]at h;rw [idxOf,if_pos (h.trans he)];rfl
  | a::r,i + 1,e,hb,h,he=>by
    have h0:a≠s:=hb 0 a (by omega) rfl;have ih:=zxv (l:=r) (i:=i) (fun j e' hj hl=>hb (j + 1) e' (by omega) (by simpa using hl)) (by simpa using h) he;rw [idxOf,if_neg h0,ih,if_neg (by omega)];simp
theorem zno{s:List UInt8}:∀ {l:List (List UInt8)},(∀ (j:Nat) (e':List UInt8),l[j]? = some e'→e'≠s)→idxOf l s = -1
  | [],_=>rfl
  | a::r,hb=>by
    rw [idxOf,if_neg (hb 0 a rfl),if_pos (zno fun j e' hl=>hb (j + 1) e' (by simpa using hl))]
def strV(s:List UInt8):List Value := [.string ⟨s.toArray⟩]
def InvI(l:List (List UInt8))(s:List UInt8)(L:List Vl):Prop:=∃ (a:Int) (i:Nat),L=[.i a,.i i]∧i≤l.length∧∀ j e',j < i→l[j]? = some e'→e'≠s
def msI(n:Nat)(L:List Vl):Nat:=match L with
 | [_,.i i]=>n - i.toNat
 | _=>0
theorem zjz(l:List (List UInt8))(s:List UInt8){w:World}{v:Value}(h:SlAt w v 1 (l.flatMap strV))(hn:l.length < 4611686018427387904):Calls Tryz.prog 144 #[v,.string ⟨s.toArray⟩] w (Vc.Ret (.int .i64 (idxOf l s)) w):=by
 obtain⟨b0,p0,x1,rfl,h2,h3⟩:=zzp h (by decide) (zm (f:=strV) (c:=1) (fun _=>rfl) l);refine zag p0 (l.length:Nat) x1 b0 s w _ ⟨InvI l s,msI l.length,⟨_,0,rfl,by omega,fun j e' hj=>by omega⟩, ?_⟩;rintro x2 x3 ⟨a,i,hy,hi,hb⟩;simp only [List.cons.injEq,Vc.Vl.i.injEq,and_true]at hy;obtain⟨rfl,rfl⟩:=hy;refine⟨by omega, ?_,iteI (fun hlt => ?_) (fun hge => ?_)⟩
 ·by_cases hb0:b0=true
  ·right;rw [h2 hb0];rfl
  ·exact .inl hb0
 ·have hi':i < l.length:=by omega
  have hg:l[i]? = some l[i]:=List.getElem?_eq_getElem hi';have hc:=h3 (i * 1 + 0) _ (zp (f:=strV) (c:=1) (fun _=>rfl) hg (by decide));refine⟨fun hb0=>by have:=h2 hb0;omega,by omega,by omega,l[i], ?_,iteI (fun e => ?_) (fun e => ?_)⟩
  ·simp only [Int.toNat_natCast];exact hc
  ·rw [zxv hb hg e]
  ·rintro x4 rfl;rw [zh (by omega)];refine⟨⟨x2,i + 1,rfl,by omega,fun j e' hj hl => ?_⟩,by simp only [msI];omega⟩;rcases Nat.lt_succ_iff_lt_or_eq.1 hj with hj | rfl
   ·exact hb j e' hj hl
   ·rw [hg]at hl;cases hl;exact e
 ·rw [zno fun j e' hl=>hb j e' (by have:=(List.getElem?_eq_some_iff.1 hl).1;omega) hl]
def unitIx(s:List UInt8):Int:=idxOf (unitTab.map (·.1)) s
theorem zuba(s:List UInt8)(w:World):Calls Tryz.prog 146 #[.string ⟨s.toArray⟩] w (Vc.Ret (.int .i64 (unitIx s)) w):=by
 refine ztg s w _ ?_;unfold unitIx unitTab;simp only [List.map_cons,List.map_nil]
 iterate 14 (refine iteI (fun h=>by subst h;rfl) (fun h => ?_))
 simp only [idxOf,if_false,if_true, *]
theorem zvba(s:List UInt8):(0≤unitIx s)↔(pUnit s).isSome=true:=by
  unfold unitIx pUnit;generalize unitTab=l
  induction l with
  | nil=>simp [idxOf,pFind]
  | cons e r ih =>
    simp only [List.map_cons,idxOf,pFind];split
    · simp
    · have:=zaq (r.map (·.1)) s
      split
      · rename_i h;rw [h]at ih;simpa using ih
      · rw [← ih];omega
theorem zkz(l:List (List UInt8))(s:List UInt8):pIn l s=true↔s∈l:=by
  induction l with
  | nil=>simp [pIn]
  | cons e r ih =>
    unfold pIn;split
    · rename_i h;simp [h]
    · rename_i h;simp [h,ih]
theorem zbq(s:List UInt8)(w:World):Calls Tryz.prog 120 #[.string ⟨s.toArray⟩] w (Vc.Ret (.bool (pReserved s)) w):=by
 refine zje s w _ ?_
 have hw:∀ e,e∈wordL→e=s→pReserved s=true:=fun e he h=>by
  subst h;unfold pReserved;rw [(zkz _ _).2 he,Bool.or_true]
 iterate 18 (refine iteI (fun h=>by rw [hw _ (by decide) h]) (fun h => ?_))
 refine⟨_,fun w' _=>zuba s w', ?_⟩;refine zke ?_
 have hn:pIn wordL s=false:=Bool.eq_false_iff.2 fun hp=>by
  have:=(zkz _ _).1 hp
  simp only [wordL,List.mem_cons,List.not_mem_nil,or_false,eq_comm (a:=s)]at this;simp_all
 unfold pReserved;rw [hn,Bool.or_false,Bool.eq_iff_iff,← zvba];simp
end Go.Proofs.YtfclibhhkphckaaGreatDoor
