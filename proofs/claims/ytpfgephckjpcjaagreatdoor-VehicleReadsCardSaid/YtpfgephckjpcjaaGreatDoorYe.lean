import Derived.Test.YtpfgephckjpcjaaGreatDoorYb
import Derived.Test.YtpfgephckjpcjaaGreatDoorYd
import Derived.Test.YtpfgephckjpcjaaGreatDoorSw
set_option linter.unusedVariables false
set_option linter.unusedSimpArgs false
set_option maxRecDepth 100000
namespace Go.Proofs.YtpfgephckjpcjaaGreatDoor
open Go Go.RowKit Vc
attribute [local irreducible] Go.Calls
theorem NU{w:World}{s:List UInt8}(hG:pz w)(hl:s.length<=20000):Calls Tryz.prog 5 #[.string ⟨s.toArray⟩] w (Vc.aR (AT (fL s)) w):=by
  have hs:s.length<4611686018427387904:=by omega
  have Su:∀(b:Nat) (w':World),Below w.heap.size w w'->w.heap.size<=b->w'.heap[b]? = some (.cells (xv s 0) PT)->PC s 0 b w':=λb w' hb Qi hc=>⟨⟨hG.jf hb,λg hg=>by have:=hG.lt g hg;omega⟩,hs,Nat.zero_le _,hc⟩;have fX:=FY s;have nz:=(gw s (4*s.length+3)).2.2.2.1 0 (Nat.zero_le _);refine WQ s w _ ?_;rintro x0 rfl;refine aa (λh=>absurd h (by omega)) (λ_ => ?_);refine⟨_,_,_,_,_,_,_,_,_,_,λw' hb=>My s 0 (hG.jf hb) (Nat.zero_le _) hs, ?_⟩;unfold fL;cases hr:fF s (4*s.length+3) 0 with
  |out=>rw [hr]at fX;exact fX.elim
  |err a e j q =>
    rw [hr]at nz;exact .inr ⟨_,_,λβ w' hb hh=>(Sk (Su _ w' hb hh.1.1 hh.1.2)).err hr,λv0 hv=>aa (λh=>absurd h nz.2) (λ_=>rfl)⟩
  |ok r k =>
    dsimp only;left;refine⟨_,_,_,_,_,_,_,_,_,_,_,_,_,_,_,λβ w' hb hh=>(Sk (Su _ w' hb hh.1.1 hh.1.2)).ok hr, ?_⟩;by_cases kd:(af s k).kind=0
    · rw [if_neg (λh=>h kd)];exact aa (λ_=>rfl) (λh=>absurd kd h)
    · rw [if_pos kd];by_cases e0:(af s k).e=0
      · rw [HG e0];exact aa (λh=>absurd h kd) (λ_=>aa (λ_=>λv0 hv=>rfl) (λh=>absurd e0 h))
      · rw [HH e0];exact aa (λh=>absurd h kd) (λ_=>aa (λh=>absurd h e0) (λ_=>λv0 hv=>aa (λh=>absurd h e0) (λ_=>rfl)))
theorem W3{w:World}(s:List UInt8)(hG:pz w):Calls Tryz.prog 3 #[.string ⟨s.toArray⟩] w (Vc.aR (.bool true) w):=by
 refine WW s w _ ?_;rintro x0 rfl;refine aa (λ_=>⟨true,λw' hb=>RP w' (hG.jf hb),rfl⟩) (λh => ?_);have hl:s.length<=20000:=by omega
 exact⟨_,_,_,_,_,_,_,λw' hb=>NU (hG.jf hb) hl,_,_,_,_,_,_,_,λw' _=>Nz hl w',aa (λ_=>aa (λ_=>aa (λ_=>⟨_,λw' hb=>NS _ _ _ _ _ (zt hG.g15 hb),_,λw' _=>NT _ _ _ _ _ w',aa (λ_=>⟨true,λw' hb=>RP w' (hG.jf hb),rfl⟩) (λh=>absurd rfl h)⟩) (λh=>absurd rfl h)) (λh=>absurd rfl h)) (λh=>absurd ⟨rfl,rfl,rfl,rfl,rfl⟩ h)⟩
theorem W4{w:World}(x:ByteArray)(hG:pz w):Calls Tryz.prog 3 #[.string x] w (Vc.aR (.bool true) w):=by
 have h:=W3 x.data.toList hG
 rwa [show (⟨x.data.toList.toArray⟩:ByteArray)=x by simp]at h
end Go.Proofs.YtpfgephckjpcjaaGreatDoor
