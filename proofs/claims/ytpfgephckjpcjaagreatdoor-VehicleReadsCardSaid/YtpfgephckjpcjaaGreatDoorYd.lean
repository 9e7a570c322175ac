import Derived.Test.YtpfgephckjpcjaaGreatDoorYa
import Derived.Test.YtpfgephckjpcjaaGreatDoorYr
set_option linter.unusedVariables false
set_option linter.unusedSimpArgs false
set_option maxRecDepth 100000
namespace Go.Proofs.YtpfgephckjpcjaaGreatDoor
open Go Go.RowKit Vc
attribute [local irreducible] Go.Calls
abbrev gy(s:List UInt8)(i:Nat)(a e:Int):Value := .agg #[.string ⟨s.toArray⟩,.int .i64 (i:Nat),.slice none 0 0,.int .i64 a,.int .i64 e]
def rT(s:List UInt8)(i:Nat):Tk:=⟨(af s i).kind,(af s i).fr,(af s i).to,(af s i).text,(jl s i).q,(af s i).e⟩
theorem jZ{s:List UInt8}{i:Nat}(hi:i<=s.length)(hs:s.length<4611686018427387904)(w:World):Calls Tryz.prog 19 #[.string ⟨s.toArray⟩,.int .i64 (i:Nat)] w (Vc.aR (nh (rT s i)) w):=by
 have h:=MV s i (w:=w) hi hs;obtain⟨h1,h2,h3,h4,_⟩:=MW s i;have h5:=(FZ s i).1;unfold rT;rw [<-h1,<-h2,<-h3,<-h4,<-h5];exact h
theorem Ng{s:List UInt8}{i:Nat}(h:(af s i).e=0):(rT s i).q=(af s i).q:=by
 show (jl s i).q=_;rw [(FZ s i).2 h]
theorem HJ{s:List UInt8}{i:Nat}{x:List UInt8}:iW s i x=true↔(af s i).e=0/\(af s i).text=x:=by
 unfold iW;rw [Bool.and_eq_true,decide_eq_true_eq,decide_eq_true_eq]
theorem Nh{s:List UInt8}{i:Nat}(h:(af s i).e=0):jW s i=5:=by unfold jW;rw [if_pos h]
theorem Ct{s:List UInt8}{i:Nat}(h:¬(af s i).e=0):jW s i=(af s i).e:=by unfold jW;rw [if_neg h]
theorem AO(s:List UInt8)(i a:Nat)(e:Int)(w:World):Calls Tryz.prog 62 #[gy s i 0 0,.int .i64 (a:Nat),.int .i64 e] w (Vc.aR (gy s i (a:Nat) e) w) :=
 Sl (0,0) (i:Nat) 0 0 0 0 (a:Nat) e true s w _ (aa (λ_=>rfl) (λh=>absurd rfl h))
theorem xz(s:List UInt8)(i:Nat)(a e:Int)(a' e':Int)(he:e≠0)(w:World):Calls Tryz.prog 62 #[gy s i a e,.int .i64 a',.int .i64 e'] w (Vc.aR (gy s i a e) w) :=
 Sl (0,0) (i:Nat) 0 0 a e a' e' true s w _ (aa (λh=>absurd h he) (λ_=>rfl))
theorem De{s:List UInt8}{i:Nat}(hi:i<=s.length)(hs:s.length<4611686018427387904)(w:World):Calls Tryz.prog 20 #[gy s i 0 0] w (Vc.aR (gy s i ((af s i).fr:Nat) (jW s i)) w):=by
 by_cases h:(af s i).e=0
 ·rw [Nh h];exact Nc (0,0) (i:Nat) 0 0 0 0 true s w _ ⟨_,_,_,_,_,_,_,_,_,_,λw' _=>jZ hi hs w',aa (λ_=>⟨_,_,true,(0,0),0,0,_,_,λw' _=>AO s i _ _ w',rfl⟩) (λh'=>absurd h h')⟩
 ·rw [Ct h];exact Nc (0,0) (i:Nat) 0 0 0 0 true s w _ ⟨_,_,_,_,_,_,_,_,_,_,λw' _=>jZ hi hs w',aa (λh'=>absurd h' h) (λ_=>⟨_,_,true,(0,0),0,0,_,_,λw' _=>AO s i _ _ w',rfl⟩)⟩
theorem Ni{s:List UInt8}{i:Nat}(hi:i<=s.length)(hs:s.length<4611686018427387904)(a e:Int)(he:e≠0)(w:World):Calls Tryz.prog 20 #[gy s i a e] w (Vc.aR (gy s i a e) w) :=
 Nc (0,0) (i:Nat) 0 0 a e true s w _ ⟨_,_,_,_,_,_,_,_,_,_,λw' _=>jZ hi hs w',aa (λ_=>⟨_,_,true,(0,0),0,0,_,_,λw' _=>xz s i a e _ _ he w',rfl⟩) (λ_=>⟨_,_,true,(0,0),0,0,_,_,λw' _=>xz s i a e _ _ he w',rfl⟩)⟩
theorem AQ{s:List UInt8}{i:Nat}(hi:i<=s.length)(hs:s.length<4611686018427387904)(a e:Int)(h:(af s i).e=0)(w:World):Calls Tryz.prog 99 #[gy s i a e] w (Vc.aR (gy s i a e) w) :=
 Nd (0,0) (i:Nat) 0 0 a e true s w _ ⟨_,_,_,_,_,_,_,_,_,_,λw' _=>jZ hi hs w',aa (λ_=>rfl) (λh'=>absurd h h')⟩
theorem HK{s:List UInt8}{i:Nat}(hi:i<=s.length)(hs:s.length<4611686018427387904)(h:¬(af s i).e=0)(w:World):Calls Tryz.prog 99 #[gy s i 0 0] w (Vc.aR (gy s i ((af s i).fr:Nat) (af s i).e) w) :=
 Nd (0,0) (i:Nat) 0 0 0 0 true s w _ ⟨_,_,_,_,_,_,_,_,_,_,λw' _=>jZ hi hs w',aa (λh'=>absurd h' h) (λ_=>⟨_,_,true,(0,0),0,0,_,_,λw' _=>AO s i _ _ w',rfl⟩)⟩
theorem HL{s:List UInt8}{i:Nat}(hi:i<=s.length)(hs:s.length<4611686018427387904)(a e:Int)(he:e≠0)(w:World):Calls Tryz.prog 99 #[gy s i a e] w (Vc.aR (gy s i a e) w) :=
 Nd (0,0) (i:Nat) 0 0 a e true s w _ ⟨_,_,_,_,_,_,_,_,_,_,λw' _=>jZ hi hs w',aa (λ_=>rfl) (λ_=>⟨_,_,true,(0,0),0,0,_,_,λw' _=>xz s i a e _ _ he w',rfl⟩)⟩
theorem zu{s x:List UInt8}{i:Nat}{b:Bool}(hi:i<=s.length)(hs:s.length<4611686018427387904)(hb:iW s i x=b)(w:World):Calls Tryz.prog 55 #[gy s i 0 0,.string ⟨x.toArray⟩] w (Vc.aR (.bool b) w) :=
 Sm (0,0) (i:Nat) 0 0 0 0 true s x w _ ⟨_,_,_,_,_,_,_,_,_,_,λw' _=>jZ hi hs w',aa (λ_=>aa (λh=>by subst hb;show Value.bool (decide ((af s i).text=x))=_;unfold iW;rw [decide_eq_true (show (af s i).e=0 from h),Bool.true_and]) (λh=>by subst hb;show Value.bool false=_;unfold iW;rw [decide_eq_false (show ¬(af s i).e=0 from h),Bool.false_and])) (λh=>absurd rfl h)⟩
theorem xA{s x:List UInt8}{i:Nat}(hi:i<=s.length)(hs:s.length<4611686018427387904)(a e:Int)(he:e≠0)(w:World):Calls Tryz.prog 55 #[gy s i a e,.string ⟨x.toArray⟩] w (Vc.aR (.bool false) w) :=
 Sm (0,0) (i:Nat) 0 0 a e true s x w _ ⟨_,_,_,_,_,_,_,_,_,_,λw' _=>jZ hi hs w',aa (λh=>absurd h he) (λ_=>rfl)⟩
theorem Df{s x:List UInt8}{i:Nat}(hi:i<=s.length)(hs:s.length<4611686018427387904)(h:iW s i x=true)(w:World):Calls Tryz.prog 133 #[gy s i 0 0,.string ⟨x.toArray⟩] w (Vc.aR (gy s (af s i).to 0 0) w) :=
 Nf (0,0) (i:Nat) 0 0 0 0 true s x w _ ⟨true,λw' _=>zu hi hs h w',aa (λ_=>⟨_,_,_,_,_,_,_,_,_,_,λw' _=>jZ hi hs w',rfl⟩) (λh=>absurd rfl h)⟩
theorem Nj{s x:List UInt8}{i:Nat}(hi:i<=s.length)(hs:s.length<4611686018427387904)(h:iW s i x=false)(w:World):Calls Tryz.prog 133 #[gy s i 0 0,.string ⟨x.toArray⟩] w (Vc.aR (gy s i ((af s i).fr:Nat) (jW s i)) w) :=
 Nf (0,0) (i:Nat) 0 0 0 0 true s x w _ ⟨false,λw' _=>zu hi hs h w',aa (λh=>by cases h) (λ_=>⟨_,_,true,(0,0),0,0,_,_,λw' _=>De hi hs w',rfl⟩)⟩
theorem Nk{s x:List UInt8}{i:Nat}(hi:i<=s.length)(hs:s.length<4611686018427387904)(a e:Int)(he:e≠0)(w:World):Calls Tryz.prog 133 #[gy s i a e,.string ⟨x.toArray⟩] w (Vc.aR (gy s i a e) w) :=
 Nf (0,0) (i:Nat) 0 0 a e true s x w _ ⟨false,λw' _=>xA hi hs a e he w',aa (λh=>by cases h) (λ_=>⟨_,_,true,(0,0),0,0,_,_,λw' _=>Ni hi hs a e he w',rfl⟩)⟩
def qw(s:List UInt8):Pr->Value
 | .ok v j=>.tuple #[gy s j 0 0,fj v]
 | .err a e i q=>.tuple #[gy s i (a:Nat) e,fj q]
 | .out=>.nilIface
def Pr.Ok(s:List UInt8):Pr->Prop
 | .err _ e i _=>i<=s.length/\e≠0
 |_=>True
theorem zB(a b:Q5)(w:World):Calls Tryz.prog 100 #[fj a,fj b] w (Vc.aR (QE (jn 0 a b)) w):=Rv _ _ _ _ _ _ _ _ _ _ w
theorem Nn{s:List UInt8}{k:Nat}(hk:k<=s.length)(hs:s.length<4611686018427387904)(a b:Q5)(p:Nat)(w:World):Calls Tryz.prog 56 #[gy s k 0 0,fj a,fj b,.string ⟨(([43]:List UInt8)).toArray⟩,.int .i64 (p:Nat)] w (Vc.aR (qw s (bS s 0 a b p k)) w):=by
 unfold bS;by_cases eP:(af s k).e≠0
 ·rw [if_pos eP];exact zd (0,0) (k:Nat) 0 0 _ _ a.1 a.2.1 a.2.2.1 a.2.2.2.1 a.2.2.2.2 b.1 b.2.1 b.2.2.1 b.2.2.2.1 b.2.2.2.2 (p:Nat) true s [43] w _ ⟨_,_,true,(0,0),0,0,_,_,λw' _=>HK hk hs eP w',aa (λ_=>⟨_,_,_,_,_,_,λw' _=>zB a b w',aa (λ_=>rfl) (λh'=>⟨_,_,true,(0,0),0,0,_,_,λw' _=>xz s k _ _ _ _ eP w',rfl⟩)⟩) (λh=>absurd rfl h)⟩
 rw [if_neg eP];have e0:(af s k).e=0:=Decidable.not_not.1 eP;by_cases h:(jn 0 a b).e=0
 ·rw [if_neg (λh'=>h' h)];exact zd (0,0) (k:Nat) 0 0 _ _ a.1 a.2.1 a.2.2.1 a.2.2.2.1 a.2.2.2.2 b.1 b.2.1 b.2.2.1 b.2.2.2.1 b.2.2.2.2 (p:Nat) true s [43] w _ ⟨_,_,true,(0,0),0,0,_,_,λw' _=>AQ hk hs 0 0 e0 w',aa (λ_=>⟨_,_,_,_,_,_,λw' _=>zB a b w',aa (λ_=>rfl) (λh'=>absurd h h')⟩) (λh=>absurd rfl h)⟩
 ·rw [if_pos h];exact zd (0,0) (k:Nat) 0 0 _ _ a.1 a.2.1 a.2.2.1 a.2.2.2.1 a.2.2.2.2 b.1 b.2.1 b.2.2.1 b.2.2.2.1 b.2.2.2.2 (p:Nat) true s [43] w _ ⟨_,_,true,(0,0),0,0,_,_,λw' _=>AQ hk hs 0 0 e0 w',aa (λ_=>⟨_,_,_,_,_,_,λw' _=>zB a b w',aa (λh'=>absurd h' h) (λ_=>⟨_,_,true,(0,0),0,0,_,_,λw' _=>AO s k p _ w',rfl⟩)⟩) (λh=>absurd rfl h)⟩
theorem No{s:List UInt8}{k:Nat}(hk:k<=s.length)(hs:s.length<4611686018427387904)(a b:Q5)(p:Nat)(a' e:Int)(eP:e≠0)(w:World):Calls Tryz.prog 56 #[gy s k a' e,fj a,fj b,.string ⟨(([43]:List UInt8)).toArray⟩,.int .i64 (p:Nat)] w (Vc.aR (.tuple #[gy s k a' e,fj (jn 0 a b).q]) w) :=
 zd (0,0) (k:Nat) 0 0 _ _ a.1 a.2.1 a.2.2.1 a.2.2.2.1 a.2.2.2.2 b.1 b.2.1 b.2.2.1 b.2.2.2.1 b.2.2.2.2 (p:Nat) true s [43] w _ ⟨_,_,true,(0,0),0,0,_,_,λw' _=>HL hk hs a' e eP w',aa (λ_=>⟨_,_,_,_,_,_,λw' _=>zB a b w',aa (λ_=>rfl) (λh'=>⟨_,_,true,(0,0),0,0,_,_,λw' _=>xz s k _ _ _ _ eP w',rfl⟩)⟩) (λh=>absurd rfl h)⟩
theorem zC(a b:Q5)(w:World):Calls Tryz.prog 101 #[fj a,fj b] w (Vc.aR (QE (jn 1 a b)) w):=VY _ _ _ _ _ _ _ _ _ _ w
theorem Np{s:List UInt8}{k:Nat}(hk:k<=s.length)(hs:s.length<4611686018427387904)(a b:Q5)(p:Nat)(w:World):Calls Tryz.prog 56 #[gy s k 0 0,fj a,fj b,.string ⟨(([45]:List UInt8)).toArray⟩,.int .i64 (p:Nat)] w (Vc.aR (qw s (bS s 1 a b p k)) w):=by
 unfold bS;by_cases eP:(af s k).e≠0
 ·rw [if_pos eP];exact zd (0,0) (k:Nat) 0 0 _ _ a.1 a.2.1 a.2.2.1 a.2.2.2.1 a.2.2.2.2 b.1 b.2.1 b.2.2.1 b.2.2.2.1 b.2.2.2.2 (p:Nat) true s [45] w _ ⟨_,_,true,(0,0),0,0,_,_,λw' _=>HK hk hs eP w',aa (λh=>by cases h) (λ_=>aa (λ_=>⟨_,_,_,_,_,_,λw' _=>zC a b w',aa (λ_=>rfl) (λh'=>⟨_,_,true,(0,0),0,0,_,_,λw' _=>xz s k _ _ _ _ eP w',rfl⟩)⟩) (λh=>absurd rfl h))⟩
 rw [if_neg eP];have e0:(af s k).e=0:=Decidable.not_not.1 eP;by_cases h:(jn 1 a b).e=0
 ·rw [if_neg (λh'=>h' h)];exact zd (0,0) (k:Nat) 0 0 _ _ a.1 a.2.1 a.2.2.1 a.2.2.2.1 a.2.2.2.2 b.1 b.2.1 b.2.2.1 b.2.2.2.1 b.2.2.2.2 (p:Nat) true s [45] w _ ⟨_,_,true,(0,0),0,0,_,_,λw' _=>AQ hk hs 0 0 e0 w',aa (λh=>by cases h) (λ_=>aa (λ_=>⟨_,_,_,_,_,_,λw' _=>zC a b w',aa (λ_=>rfl) (λh'=>absurd h h')⟩) (λh=>absurd rfl h))⟩
 ·rw [if_pos h];exact zd (0,0) (k:Nat) 0 0 _ _ a.1 a.2.1 a.2.2.1 a.2.2.2.1 a.2.2.2.2 b.1 b.2.1 b.2.2.1 b.2.2.2.1 b.2.2.2.2 (p:Nat) true s [45] w _ ⟨_,_,true,(0,0),0,0,_,_,λw' _=>AQ hk hs 0 0 e0 w',aa (λh=>by cases h) (λ_=>aa (λ_=>⟨_,_,_,_,_,_,λw' _=>zC a b w',aa (λh'=>absurd h' h) (λ_=>⟨_,_,true,(0,0),0,0,_,_,λw' _=>AO s k p _ w',rfl⟩)⟩) (λh=>absurd rfl h))⟩
theorem Nq{s:List UInt8}{k:Nat}(hk:k<=s.length)(hs:s.length<4611686018427387904)(a b:Q5)(p:Nat)(a' e:Int)(eP:e≠0)(w:World):Calls Tryz.prog 56 #[gy s k a' e,fj a,fj b,.string ⟨(([45]:List UInt8)).toArray⟩,.int .i64 (p:Nat)] w (Vc.aR (.tuple #[gy s k a' e,fj (jn 1 a b).q]) w) :=
 zd (0,0) (k:Nat) 0 0 _ _ a.1 a.2.1 a.2.2.1 a.2.2.2.1 a.2.2.2.2 b.1 b.2.1 b.2.2.1 b.2.2.2.1 b.2.2.2.2 (p:Nat) true s [45] w _ ⟨_,_,true,(0,0),0,0,_,_,λw' _=>HL hk hs a' e eP w',aa (λh=>by cases h) (λ_=>aa (λ_=>⟨_,_,_,_,_,_,λw' _=>zC a b w',aa (λ_=>rfl) (λh'=>⟨_,_,true,(0,0),0,0,_,_,λw' _=>xz s k _ _ _ _ eP w',rfl⟩)⟩) (λh=>absurd rfl h))⟩
theorem zD(a b:Q5)(w:World):Calls Tryz.prog 102 #[fj a,fj b] w (Vc.aR (QE (jn 2 a b)) w):=LB _ _ _ _ _ _ _ _ _ _ w
theorem F4{s:List UInt8}{k:Nat}(hk:k<=s.length)(hs:s.length<4611686018427387904)(a b:Q5)(p:Nat)(w:World):Calls Tryz.prog 56 #[gy s k 0 0,fj a,fj b,.string ⟨(([42]:List UInt8)).toArray⟩,.int .i64 (p:Nat)] w (Vc.aR (qw s (bS s 2 a b p k)) w):=by
 unfold bS;by_cases eP:(af s k).e≠0
 ·rw [if_pos eP];exact zd (0,0) (k:Nat) 0 0 _ _ a.1 a.2.1 a.2.2.1 a.2.2.2.1 a.2.2.2.2 b.1 b.2.1 b.2.2.1 b.2.2.2.1 b.2.2.2.2 (p:Nat) true s [42] w _ ⟨_,_,true,(0,0),0,0,_,_,λw' _=>HK hk hs eP w',aa (λh=>by cases h) (λ_=>aa (λh=>by cases h) (λ_=>aa (λ_=>⟨_,_,_,_,_,_,λw' _=>zD a b w',aa (λ_=>rfl) (λh'=>⟨_,_,true,(0,0),0,0,_,_,λw' _=>xz s k _ _ _ _ eP w',rfl⟩)⟩) (λh=>absurd rfl h)))⟩
 rw [if_neg eP];have e0:(af s k).e=0:=Decidable.not_not.1 eP;by_cases h:(jn 2 a b).e=0
 ·rw [if_neg (λh'=>h' h)];exact zd (0,0) (k:Nat) 0 0 _ _ a.1 a.2.1 a.2.2.1 a.2.2.2.1 a.2.2.2.2 b.1 b.2.1 b.2.2.1 b.2.2.2.1 b.2.2.2.2 (p:Nat) true s [42] w _ ⟨_,_,true,(0,0),0,0,_,_,λw' _=>AQ hk hs 0 0 e0 w',aa (λh=>by cases h) (λ_=>aa (λh=>by cases h) (λ_=>aa (λ_=>⟨_,_,_,_,_,_,λw' _=>zD a b w',aa (λ_=>rfl) (λh'=>absurd h h')⟩) (λh=>absurd rfl h)))⟩
 ·rw [if_pos h];exact zd (0,0) (k:Nat) 0 0 _ _ a.1 a.2.1 a.2.2.1 a.2.2.2.1 a.2.2.2.2 b.1 b.2.1 b.2.2.1 b.2.2.2.1 b.2.2.2.2 (p:Nat) true s [42] w _ ⟨_,_,true,(0,0),0,0,_,_,λw' _=>AQ hk hs 0 0 e0 w',aa (λh=>by cases h) (λ_=>aa (λh=>by cases h) (λ_=>aa (λ_=>⟨_,_,_,_,_,_,λw' _=>zD a b w',aa (λh'=>absurd h' h) (λ_=>⟨_,_,true,(0,0),0,0,_,_,λw' _=>AO s k p _ w',rfl⟩)⟩) (λh=>absurd rfl h)))⟩
theorem Nr{s:List UInt8}{k:Nat}(hk:k<=s.length)(hs:s.length<4611686018427387904)(a b:Q5)(p:Nat)(a' e:Int)(eP:e≠0)(w:World):Calls Tryz.prog 56 #[gy s k a' e,fj a,fj b,.string ⟨(([42]:List UInt8)).toArray⟩,.int .i64 (p:Nat)] w (Vc.aR (.tuple #[gy s k a' e,fj (jn 2 a b).q]) w) :=
 zd (0,0) (k:Nat) 0 0 _ _ a.1 a.2.1 a.2.2.1 a.2.2.2.1 a.2.2.2.2 b.1 b.2.1 b.2.2.1 b.2.2.2.1 b.2.2.2.2 (p:Nat) true s [42] w _ ⟨_,_,true,(0,0),0,0,_,_,λw' _=>HL hk hs a' e eP w',aa (λh=>by cases h) (λ_=>aa (λh=>by cases h) (λ_=>aa (λ_=>⟨_,_,_,_,_,_,λw' _=>zD a b w',aa (λ_=>rfl) (λh'=>⟨_,_,true,(0,0),0,0,_,_,λw' _=>xz s k _ _ _ _ eP w',rfl⟩)⟩) (λh=>absurd rfl h)))⟩
theorem zE(a b:Q5)(w:World):Calls Tryz.prog 103 #[fj a,fj b] w (Vc.aR (QE (jn 3 a b)) w):=LD _ _ _ _ _ _ _ _ _ _ w
theorem Ns{s:List UInt8}{k:Nat}(hk:k<=s.length)(hs:s.length<4611686018427387904)(a b:Q5)(p:Nat)(w:World):Calls Tryz.prog 56 #[gy s k 0 0,fj a,fj b,.string ⟨(([47]:List UInt8)).toArray⟩,.int .i64 (p:Nat)] w (Vc.aR (qw s (bS s 3 a b p k)) w):=by
 unfold bS;by_cases eP:(af s k).e≠0
 ·rw [if_pos eP];exact zd (0,0) (k:Nat) 0 0 _ _ a.1 a.2.1 a.2.2.1 a.2.2.2.1 a.2.2.2.2 b.1 b.2.1 b.2.2.1 b.2.2.2.1 b.2.2.2.2 (p:Nat) true s [47] w _ ⟨_,_,true,(0,0),0,0,_,_,λw' _=>HK hk hs eP w',aa (λh=>by cases h) (λ_=>aa (λh=>by cases h) (λ_=>aa (λh=>by cases h) (λ_=>⟨_,_,_,_,_,_,λw' _=>zE a b w',aa (λ_=>rfl) (λh'=>⟨_,_,true,(0,0),0,0,_,_,λw' _=>xz s k _ _ _ _ eP w',rfl⟩)⟩)))⟩
 rw [if_neg eP];have e0:(af s k).e=0:=Decidable.not_not.1 eP;by_cases h:(jn 3 a b).e=0
 ·rw [if_neg (λh'=>h' h)];exact zd (0,0) (k:Nat) 0 0 _ _ a.1 a.2.1 a.2.2.1 a.2.2.2.1 a.2.2.2.2 b.1 b.2.1 b.2.2.1 b.2.2.2.1 b.2.2.2.2 (p:Nat) true s [47] w _ ⟨_,_,true,(0,0),0,0,_,_,λw' _=>AQ hk hs 0 0 e0 w',aa (λh=>by cases h) (λ_=>aa (λh=>by cases h) (λ_=>aa (λh=>by cases h) (λ_=>⟨_,_,_,_,_,_,λw' _=>zE a b w',aa (λ_=>rfl) (λh'=>absurd h h')⟩)))⟩
 ·rw [if_pos h];exact zd (0,0) (k:Nat) 0 0 _ _ a.1 a.2.1 a.2.2.1 a.2.2.2.1 a.2.2.2.2 b.1 b.2.1 b.2.2.1 b.2.2.2.1 b.2.2.2.2 (p:Nat) true s [47] w _ ⟨_,_,true,(0,0),0,0,_,_,λw' _=>AQ hk hs 0 0 e0 w',aa (λh=>by cases h) (λ_=>aa (λh=>by cases h) (λ_=>aa (λh=>by cases h) (λ_=>⟨_,_,_,_,_,_,λw' _=>zE a b w',aa (λh'=>absurd h' h) (λ_=>⟨_,_,true,(0,0),0,0,_,_,λw' _=>AO s k p _ w',rfl⟩)⟩)))⟩
theorem Nt{s:List UInt8}{k:Nat}(hk:k<=s.length)(hs:s.length<4611686018427387904)(a b:Q5)(p:Nat)(a' e:Int)(eP:e≠0)(w:World):Calls Tryz.prog 56 #[gy s k a' e,fj a,fj b,.string ⟨(([47]:List UInt8)).toArray⟩,.int .i64 (p:Nat)] w (Vc.aR (.tuple #[gy s k a' e,fj (jn 3 a b).q]) w) :=
 zd (0,0) (k:Nat) 0 0 _ _ a.1 a.2.1 a.2.2.1 a.2.2.2.1 a.2.2.2.2 b.1 b.2.1 b.2.2.1 b.2.2.2.1 b.2.2.2.2 (p:Nat) true s [47] w _ ⟨_,_,true,(0,0),0,0,_,_,λw' _=>HL hk hs a' e eP w',aa (λh=>by cases h) (λ_=>aa (λh=>by cases h) (λ_=>aa (λh=>by cases h) (λ_=>⟨_,_,_,_,_,_,λw' _=>zE a b w',aa (λ_=>rfl) (λh'=>⟨_,_,true,(0,0),0,0,_,_,λw' _=>xz s k _ _ _ _ eP w',rfl⟩)⟩)))⟩
theorem F5{s:List UInt8}{u:Q5}(h:dG s=some u):0<=gI s/\gI s<14/\UL[Int.toNat (gI s)*6+1]? = some (.int .i64 u.1)/\UL[Int.toNat (gI s)*6+2]? = some (.int .i64 u.2.1)/\UL[Int.toNat (gI s)*6+3]? = some (.int .i64 u.2.2.1)/\UL[Int.toNat (gI s)*6+4]? = some (.int .i64 u.2.2.2.1)/\UL[Int.toNat (gI s)*6+5]? = some (.int .i64 u.2.2.2.2):=by
  unfold dG kC at h
  iterate 14
    (rw [oB]at h
     split at h
     · rename_i e;subst e;cases h;exact⟨by decide,by decide,rfl,rfl,rfl,rfl,rfl⟩)
  cases h
theorem F6{s:List UInt8}(h:dG s=none):gI s<0:=by
 have:=R5 s
 rw [h]at this;simp only [Option.isSome_none,Bool.false_eq_true,iff_false]at this;omega
theorem Sn(s:List UInt8)(i:Nat):((af s i).kind=0/\(af s i).text=[])∨(af s i).kind=1∨((af s i).kind=2/\(af s i).text=[])∨((af s i).kind=3/\((af s i).text=[]∨(af s i).text∈dA)):=by
 unfold af;dsimp only;split
 ·split
  ·exact .inr (.inl rfl)
  split
  ·exact .inr (.inr (.inl ⟨rfl,rfl⟩))
  ·cases hp:fe dA (s.drop (runN lB s i))with
   |some g=>exact .inr (.inr (.inr ⟨rfl,.inr (MX hp).1⟩))
   |none=>exact .inr (.inr (.inr ⟨rfl,.inl rfl⟩))
 ·exact .inl ⟨rfl,rfl⟩
theorem Nu{s:List UInt8}{i:Nat}(h:(af s i).kind=0):(af s i).e=0:=by
 unfold af at h ⊢;dsimp only at h ⊢;split
 ·rename_i h1;rw [if_pos h1]at h;split at h
  ·cases h
  split at h
  ·cases h
  ·split at h<;>cases h
 ·rfl
theorem Nv{s:List UInt8}{i:Nat}{u:Q5}(h:dG (af s i).text=some u):(af s i).kind=1:=by
 have e0:dG []=none:=rfl;have e1:∀g∈dA,dG g=none:=by decide
 rcases Sn s i with ⟨_,h2⟩|h1|⟨_,h2⟩|⟨_,h2|h2⟩
 ·rw [h2,e0]at h;cases h
 ·exact h1
 ·rw [h2,e0]at h;cases h
 ·rw [h2,e0]at h;cases h
 ·rw [e1 _ h2]at h;cases h
theorem o3(s:List UInt8)(n:Nat):(∀i,i<=s.length->(eO s n i).Ok s)/\(∀i,i<=s.length->(dB s n i).Ok s)/\(∀i q,i<=s.length->(dZ s n q i).Ok s)/\(∀i,i<=s.length->(fF s n i).Ok s)/\(∀i q,i<=s.length->(gU s n q i).Ok s):=by
  have vp:∀{r:Pr} {g:Q5->Q5} {k:Q5->Nat->Pr} {i:Nat},r.Ok s->r.In s i->(∀v j,j<=s.length->(k v j).Ok s)->(r.bind g k).Ok s:=λ{r g k i} h nz hk=>by
    cases r with
    |ok v j=>exact hk v j nz.2
    |err a e i q=>exact h
    |out=>trivial
  have app:∀{f:Nat} {a b:Q5} {p k:Nat},k<=s.length->(bS s f a b p k).Ok s:=λ{f a b p k} hk=>by
    unfold bS;split
    · rename_i h;exact⟨hk,h⟩
    split
    · rename_i h;exact⟨hk,h⟩
    · trivial
  have WX:∀{x:List UInt8} {u:Q5} {k:Nat},k<=s.length->(jm s x u k).Ok s:=λ{x u k} hk=>by
    unfold jm;split
    · trivial
    · exact⟨hk,FV s k⟩
  have num:∀{i:Nat},i<=s.length->(eW s i).Ok s:=λ{i} hi=>by
    unfold eW;split
    · rename_i h;exact⟨hi,h⟩
    have ht:=(mz s hi).2.2.1;split
    · split
      · exact app (mz s ht).2.2.1
      · trivial
    · trivial
  have WY:∀{i:Nat},i<=s.length->(gP s i).Ok s:=λ{i} hi=>by
    unfold gP;split
    · split
      · rename_i h;exact⟨hi,h⟩
      · trivial
    · split
      · exact⟨hi,FV s i⟩
      split
      · rename_i h;exact⟨hi,h⟩
      · exact⟨(mz s hi).2.2.1,by decide⟩
  induction n with
  |zero=>exact⟨λ_ _=>by simp only [eO];trivial,λ_ _=>by simp only [dB];trivial,λ_ _ _=>by simp only [dZ];trivial,λ_ _=>by simp only [fF];trivial,λ_ _ _=>by simp only [gU];trivial⟩
  |succ n ih =>
    obtain⟨h1,h2,h3,h4,h5⟩:=ih;obtain⟨i1,i2,i3,i4,i5⟩:=gw s n;refine⟨λi hi => ?_,λi hi => ?_,λi q hi => ?_,λi hi => ?_,λi q hi => ?_⟩
    · have ht:=(mz s hi).2.2.1;rw [eO];split
      · exact vp (h1 _ ht) (i1 _ ht) λ_ _ _=>trivial
      split
      · exact vp (h4 _ ht) (i4 _ ht) λ_ _ hj=>WX hj
      split
      · exact num hi
      · exact WY hi
    · rw [dB];exact vp (h1 _ hi) (i1 _ hi) λ_ _ hj=>h3 _ _ hj
    · have ht:=(mz s hi).2.2.1;rw [dZ];split
      · exact vp (h1 _ ht) (i1 _ ht) λv j hj=>vp (app hj) (zp hj (pA s hi)) λ_ _ hj=>h3 _ _ hj
      split
      · exact vp (h1 _ ht) (i1 _ ht) λv j hj=>vp (app hj) (zp hj (pA s hi)) λ_ _ hj=>h3 _ _ hj
      · trivial
    · rw [fF];exact vp (h2 _ hi) (i2 _ hi) λ_ _ hj=>h5 _ _ hj
    · have ht:=(mz s hi).2.2.1;rw [gU];split
      · exact vp (h2 _ ht) (i2 _ ht) λv j hj=>vp (app hj) (zp hj (pA s hi)) λ_ _ hj=>h5 _ _ hj
      split
      · exact vp (h2 _ ht) (i2 _ ht) λv j hj=>vp (app hj) (zp hj (pA s hi)) λ_ _ hj=>h5 _ _ hj
      · trivial
def xY(f:FuncId)(args:Array Value)(s:List UInt8)(r:Pr):Prop:=r.rM->∀w,Calls Tryz.prog f args w (Vc.aR (qw s r) w)
set_option maxHeartbeats 1000000 in
theorem Nw{s:List UInt8}{i n:Nat}(hi:i<=s.length)(hs:s.length < 4611686018427387904)(F3:∀ j,j<=s.length->xY 98 #[gy s j 0 0] s (eO s n j))(Dd:∀ j,j<=s.length->xY 18 #[gy s j 0 0] s (fF s n j)) :
    xY 98 #[gy s i 0 0] s (eO s (n+1) i):=by
  have ht:=(mz s hi).2.2.1;intro hf w;rw [eO]at hf ⊢;by_cases g:iW s i [45]=true
  · rw [if_pos g]at hf ⊢;have ih:=F3 _ ht;cases hq:eO s n (af s i).to with
    |out=>rw [hq]at hf;exact hf.elim
    |ok u k =>
      rw [hq]at ih;exact zf (0,0) (i:Nat) 0 0 0 0 true s w _ ⟨true,λw' _=>zu hi hs g w',aa (λ_=>⟨_,_,true,(0,0),0,0,_,_,λw' _=>Df hi hs g w',_,_,true,(0,0),0,0,_,_,_,_,_,_,_,λw' _=>ih trivial w',λx hx=>by subst hx;rfl⟩) (λh=>absurd rfl h)⟩
    |err a e j q =>
      rw [hq]at ih;exact zf (0,0) (i:Nat) 0 0 0 0 true s w _ ⟨true,λw' _=>zu hi hs g w',aa (λ_=>⟨_,_,true,(0,0),0,0,_,_,λw' _=>Df hi hs g w',_,_,true,(0,0),0,0,_,_,_,_,_,_,_,λw' _=>ih trivial w',λx hx=>by subst hx;rfl⟩) (λh=>absurd rfl h)⟩
  rw [if_neg g]at hf ⊢;have o1:=Bool.eq_false_iff.2 g;clear g;by_cases g:iW s i [40]=true
  · rw [if_pos g]at hf ⊢;have ih:=Dd _ ht;cases hq:fF s n (af s i).to with
    |out=>rw [hq]at hf;exact hf.elim
    |ok u k =>
      have hk:k<=s.length:=by have:=(gw s n).2.2.2.1 _ ht;rw [hq]at this;exact this.2
      rw [hq]at ih;show Calls _ _ _ _ (Vc.aR (qw s (jm s [41] u k)) w);unfold jm;by_cases HM:iW s k [41]=true
      · rw [if_pos HM];exact zf (0,0) (i:Nat) 0 0 0 0 true s w _ ⟨false,λw' _=>zu hi hs o1 w',aa (λh=>by cases h) (λ_=>⟨true,λw' _=>zu hi hs g w',aa (λ_=>⟨_,_,true,(0,0),0,0,_,_,λw' _=>Df hi hs g w',_,_,true,(0,0),0,0,_,_,_,_,_,_,_,λw' _=>ih trivial w',_,_,true,(0,0),0,0,_,_,λw' _=>Df hk hs HM w',rfl⟩) (λh=>absurd rfl h)⟩)⟩
      · rw [if_neg HM];exact zf (0,0) (i:Nat) 0 0 0 0 true s w _ ⟨false,λw' _=>zu hi hs o1 w',aa (λh=>by cases h) (λ_=>⟨true,λw' _=>zu hi hs g w',aa (λ_=>⟨_,_,true,(0,0),0,0,_,_,λw' _=>Df hi hs g w',_,_,true,(0,0),0,0,_,_,_,_,_,_,_,λw' _=>ih trivial w',_,_,true,(0,0),0,0,_,_,λw' _=>Nj hk hs (Bool.eq_false_iff.2 HM) w',rfl⟩) (λh=>absurd rfl h)⟩)⟩
    |err a e j q =>
      have hj:=(o3 s n).2.2.2.1 _ ht;rw [hq]at ih hj;exact zf (0,0) (i:Nat) 0 0 0 0 true s w _ ⟨false,λw' _=>zu hi hs o1 w',aa (λh=>by cases h) (λ_=>⟨true,λw' _=>zu hi hs g w',aa (λ_=>⟨_,_,true,(0,0),0,0,_,_,λw' _=>Df hi hs g w',_,_,true,(0,0),0,0,_,_,_,_,_,_,_,λw' _=>ih trivial w',_,_,true,(0,0),0,0,_,_,λw' _=>Nk hj.1 hs _ _ hj.2 w',rfl⟩) (λh=>absurd rfl h)⟩)⟩
  rw [if_neg g]at hf ⊢;have uT:=Bool.eq_false_iff.2 g;clear g;by_cases t0:(af s i).e=0;rotate_left
  · have e:(if (af s i).kind=2 then eW s i else gP s i)=.err (af s i).fr (jW s i) i q0:=by
      rw [Ct t0];split
      · unfold eW;rw [if_pos t0]
      · unfold gP;split
        · rw [if_pos t0]
        · split
          · rw [Ct t0]
          · first|rfl|rw [if_pos t0]
    rw [e];exact zf (0,0) (i:Nat) 0 0 0 0 true s w _ ⟨false,λw' _=>zu hi hs o1 w',aa (λh=>by cases h) (λ_=>⟨false,λw' _=>zu hi hs uT w',aa (λh=>by cases h) (λ_=>⟨_,_,_,_,_,_,_,_,_,_,λw' _=>jZ hi hs w',aa (λ_=>aa (λh=>absurd h t0) (λ_=>⟨_,_,true,(0,0),0,0,_,_,λw' _=>De hi hs w',rfl⟩)) (λh=>absurd rfl h)⟩)⟩)⟩
  have rq:=Ng t0
  have So:gP s i=.err (af s i).fr (jW s i) i q0->(af s i).kind=0∨(af s i).kind=3->Calls Tryz.prog 98 #[gy s i 0 0] w (Vc.aR (qw s (gP s i)) w):=λe hk=>by
    rw [e];exact zf (0,0) (i:Nat) 0 0 0 0 true s w _ ⟨false,λw' _=>zu hi hs o1 w',aa (λh=>by cases h) (λ_=>⟨false,λw' _=>zu hi hs uT w',aa (λh=>by cases h) (λ_=>⟨_,_,_,_,_,_,_,_,_,_,λw' _=>jZ hi hs w',aa (λ_=>aa (λ_=>aa (λ_=>⟨_,_,true,(0,0),0,0,_,_,λw' _=>De hi hs w',rfl⟩) (λk0=>aa (λ_=>⟨_,_,true,(0,0),0,0,_,_,λw' _=>De hi hs w',rfl⟩) (λk3=>(hk.elim k0 k3).elim))) (λh=>absurd t0 h)) (λh=>absurd rfl h)⟩)⟩)⟩
  rcases Sn s i with ⟨k0,hx⟩|k1|⟨k2,hx⟩|⟨k3,hx⟩
  · rw [if_neg (by omega)]at hf ⊢;refine So ?_ (.inl k0);have e0:dG []=none:=rfl;unfold gP;rw [hx,e0];dsimp only;rw [if_pos (.inl (by omega))]
  · rw [if_neg (by omega)]at hf ⊢;unfold gP at hf ⊢;cases hu:dG (af s i).text with
    |some u =>
      obtain⟨u0,u1,u2,u3,u4,u5,u6⟩:=F5 hu;rw [hu]at hf;dsimp only;rw [if_neg (λh=>h t0)];exact zf (0,0) (i:Nat) 0 0 0 0 true s w _ ⟨false,λw' _=>zu hi hs o1 w',aa (λh=>by cases h) (λ_=>⟨false,λw' _=>zu hi hs uT w',aa (λh=>by cases h) (λ_=>⟨_,_,_,_,_,_,_,_,_,_,λw' _=>jZ hi hs w',aa (λ_=>aa (λ_=>aa (λh=>absurd (k1.symm.trans h) (by decide)) (λ_=>aa (λh=>absurd (k1.symm.trans h) (by decide)) (λ_=>aa (λh=>absurd (k1.symm.trans h) (by decide)) (λ_=>⟨_,λw' _=>AJ _ w',aa (λ_=>⟨u0,u1,_,u2,_,u3,_,u4,_,u5,_,u6,rfl⟩) (λh=>absurd u0 h)⟩)))) (λh=>absurd t0 h)) (λh=>absurd rfl h)⟩)⟩)⟩
    |none =>
      have hn:=F6 hu;dsimp only;cases hr:dH (af s i).text with
      |true =>
        rw [if_pos (.inr rfl)];exact zf (0,0) (i:Nat) 0 0 0 0 true s w _ ⟨false,λw' _=>zu hi hs o1 w',aa (λh=>by cases h) (λ_=>⟨false,λw' _=>zu hi hs uT w',aa (λh=>by cases h) (λ_=>⟨_,_,_,_,_,_,_,_,_,_,λw' _=>jZ hi hs w',aa (λ_=>aa (λ_=>aa (λh=>absurd (k1.symm.trans h) (by decide)) (λ_=>aa (λh=>absurd (k1.symm.trans h) (by decide)) (λ_=>aa (λh=>absurd (k1.symm.trans h) (by decide)) (λ_=>⟨_,λw' _=>AJ _ w',aa (λh=>absurd hn (Int.not_lt.2 h)) (λ_=>⟨true,λw' _=>by rw [<-hr];exact R6 _ w',aa (λ_=>⟨_,_,true,(0,0),0,0,_,_,λw' _=>De hi hs w',rfl⟩) (λh=>absurd rfl h)⟩)⟩)))) (λh=>absurd t0 h)) (λh=>absurd rfl h)⟩)⟩)⟩
      |false =>
        rw [if_neg (by simp [k1]),if_neg (λh=>h t0)];exact zf (0,0) (i:Nat) 0 0 0 0 true s w _ ⟨false,λw' _=>zu hi hs o1 w',aa (λh=>by cases h) (λ_=>⟨false,λw' _=>zu hi hs uT w',aa (λh=>by cases h) (λ_=>⟨_,_,_,_,_,_,_,_,_,_,λw' _=>jZ hi hs w',aa (λ_=>aa (λ_=>aa (λh=>absurd (k1.symm.trans h) (by decide)) (λ_=>aa (λh=>absurd (k1.symm.trans h) (by decide)) (λ_=>aa (λh=>absurd (k1.symm.trans h) (by decide)) (λ_=>⟨_,λw' _=>AJ _ w',aa (λh=>absurd hn (Int.not_lt.2 h)) (λ_=>⟨false,λw' _=>by rw [<-hr];exact R6 _ w',aa (λh=>by cases h) (λ_=>⟨_,_,true,(0,0),0,0,_,_,λw' _=>AO s _ _ 7 w',rfl⟩)⟩)⟩)))) (λh=>absurd t0 h)) (λh=>absurd rfl h)⟩)⟩)⟩
  · rw [if_pos k2]at hf ⊢;unfold eW at hf ⊢;rw [if_neg (λh=>h t0)]at hf ⊢;rw [<-rq]at hf ⊢;cases hu:dG (af s (af s i).to).text with
    |none =>
      have hn:=F6 hu;exact zf (0,0) (i:Nat) 0 0 0 0 true s w _ ⟨false,λw' _=>zu hi hs o1 w',aa (λh=>by cases h) (λ_=>⟨false,λw' _=>zu hi hs uT w',aa (λh=>by cases h) (λ_=>⟨_,_,_,_,_,_,_,_,_,_,λw' _=>jZ hi hs w',aa (λ_=>aa (λ_=>aa (λh=>absurd (k2.symm.trans h) (by decide)) (λ_=>aa (λh=>absurd (k2.symm.trans h) (by decide)) (λ_=>aa (λ_=>⟨_,_,_,_,_,_,_,_,_,_,λw' _=>jZ ht hs w',_,λw' _=>AJ _ w',aa (λ_=>aa (λ_=>aa (λ_=>rfl) (λh=>absurd hn h)) (λ_=>rfl)) (λ_=>rfl)⟩) (λh=>absurd k2 h)))) (λh=>absurd t0 h)) (λh=>absurd rfl h)⟩)⟩)⟩
    |some u =>
      obtain⟨u0,u1,u2,u3,u4,u5,u6⟩:=F5 hu;have ku:=Nv hu;dsimp only;by_cases t1:(af s (af s i).to).e=0
      · rw [if_pos t1];have WZ:=(mz s ht).2.2.1;have AP:=F4 WZ hs (rT s i).q u (af s (af s i).to).fr;cases hp:bS s 2 (rT s i).q u (af s (af s i).to).fr (af s (af s i).to).to with
        |out=>rw [hp]at AP;exact absurd hp (by unfold bS;split;(intro h;cases h);split<;>(intro h;cases h))
        |ok v j =>
          rw [hp]at AP;exact zf (0,0) (i:Nat) 0 0 0 0 true s w _ ⟨false,λw' _=>zu hi hs o1 w',aa (λh=>by cases h) (λ_=>⟨false,λw' _=>zu hi hs uT w',aa (λh=>by cases h) (λ_=>⟨_,_,_,_,_,_,_,_,_,_,λw' _=>jZ hi hs w',aa (λ_=>aa (λ_=>aa (λh=>absurd (k2.symm.trans h) (by decide)) (λ_=>aa (λh=>absurd (k2.symm.trans h) (by decide)) (λ_=>aa (λ_=>⟨_,_,_,_,_,_,_,_,_,_,λw' _=>jZ ht hs w',_,λw' _=>AJ _ w',aa (λ_=>aa (λ_=>aa (λh=>absurd u0 (Int.not_le.2 h)) (λ_=>⟨u0,u1,_,u2,_,u3,_,u4,_,u5,_,u6,_,_,true,(0,0),0,0,_,_,_,_,_,_,_,λw' _=>AP w',rfl⟩)) (λh=>absurd t1 h)) (λh=>absurd ku h)⟩) (λh=>absurd k2 h)))) (λh=>absurd t0 h)) (λh=>absurd rfl h)⟩)⟩)⟩
        |err a e j q =>
          rw [hp]at AP;exact zf (0,0) (i:Nat) 0 0 0 0 true s w _ ⟨false,λw' _=>zu hi hs o1 w',aa (λh=>by cases h) (λ_=>⟨false,λw' _=>zu hi hs uT w',aa (λh=>by cases h) (λ_=>⟨_,_,_,_,_,_,_,_,_,_,λw' _=>jZ hi hs w',aa (λ_=>aa (λ_=>aa (λh=>absurd (k2.symm.trans h) (by decide)) (λ_=>aa (λh=>absurd (k2.symm.trans h) (by decide)) (λ_=>aa (λ_=>⟨_,_,_,_,_,_,_,_,_,_,λw' _=>jZ ht hs w',_,λw' _=>AJ _ w',aa (λ_=>aa (λ_=>aa (λh=>absurd u0 (Int.not_le.2 h)) (λ_=>⟨u0,u1,_,u2,_,u3,_,u4,_,u5,_,u6,_,_,true,(0,0),0,0,_,_,_,_,_,_,_,λw' _=>AP w',rfl⟩)) (λh=>absurd t1 h)) (λh=>absurd ku h)⟩) (λh=>absurd k2 h)))) (λh=>absurd t0 h)) (λh=>absurd rfl h)⟩)⟩)⟩
      · rw [if_neg t1];exact zf (0,0) (i:Nat) 0 0 0 0 true s w _ ⟨false,λw' _=>zu hi hs o1 w',aa (λh=>by cases h) (λ_=>⟨false,λw' _=>zu hi hs uT w',aa (λh=>by cases h) (λ_=>⟨_,_,_,_,_,_,_,_,_,_,λw' _=>jZ hi hs w',aa (λ_=>aa (λ_=>aa (λh=>absurd (k2.symm.trans h) (by decide)) (λ_=>aa (λh=>absurd (k2.symm.trans h) (by decide)) (λ_=>aa (λ_=>⟨_,_,_,_,_,_,_,_,_,_,λw' _=>jZ ht hs w',_,λw' _=>AJ _ w',aa (λ_=>aa (λh=>absurd h t1) (λ_=>rfl)) (λ_=>rfl)⟩) (λh=>absurd k2 h)))) (λh=>absurd t0 h)) (λh=>absurd rfl h)⟩)⟩)⟩
  · rw [if_neg (by omega)]at hf ⊢;refine So ?_ (.inr k3)
    have hn:dG (af s i).text=none:=by
      have e0:dG []=none:=rfl;have e1:∀g∈dA,dG g=none:=by decide
      rcases hx with hx|hx
      · rw [hx,e0]
      · exact e1 _ hx
    unfold gP;rw [hn];dsimp only;rw [if_pos (.inl (by omega))]
def oO(s:List UInt8)(i:Nat)(a e:Int)(q:Q5):List Vl := [.i (i:Nat),.s s,.v (.slice none 0 0),.i a,.i e,.i q.1,.i q.2.1,.i q.2.2.1,.i q.2.2.2.1,.i q.2.2.2.2]
def AR(n:Nat):List Vl->Nat
 | .i x::_::_::_ :: .i e::_=>if e=0 then n+2-x.toNat else 0
 |_=>0
theorem zF{s:List UInt8}{i j:Nat}{q r:Q5}(h:i<j)(hj:j<=s.length):AR s.length (oO s j 0 0 r)<AR s.length (oO s i 0 0 q):=by
 simp only [AR,oO,if_true];omega
theorem AS{s:List UInt8}{i j:Nat}{a e:Int}{q r:Q5}(he:e≠0)(hi:i<=s.length):AR s.length (oO s j a e r)<AR s.length (oO s i 0 0 q):=by
 simp only [AR,oO,if_true,if_neg he];omega
set_option maxHeartbeats 1000000 in
theorem Nx{s:List UInt8}{i n:Nat}(hi:i<=s.length)(hs:s.length < 4611686018427387904)(ih:∀ m,m<=n->∀ j,j<=s.length->xY 98 #[gy s j 0 0] s (eO s m j)) :
    xY 54 #[gy s i 0 0] s (dB s (n+1) i):=by
  intro hf w;rw [dB]at hf ⊢;have h0:=ih n (Nat.le_refl _) i hi;have dJ:=(gw s n).1 i hi;have Ce:=(o3 s n).1 i hi
  have F7:∀ (fin:Pr) (fK:fin.Ok s) (i0:Nat) (a0 e0:Int) (q0:Q5),(∀ w',Calls Tryz.prog 98 #[gy s i 0 0] w' (Vc.aR (.tuple #[gy s i0 a0 e0,fj q0]) w')) ->
      ((∃(a:Nat) (e:Int) (j:Nat) (q:Q5),fin=.err a e j q/\oO s i0 a0 e0 q0=oO s j (a:Nat) e q)∨(∃(m k:Nat) (q:Q5),oO s i0 a0 e0 q0=oO s k 0 0 q/\k<=s.length/\m<=n/\dZ s m q k=fin))->fin.rM->Calls Tryz.prog 54 #[gy s i 0 0] w (Vc.aR (qw s fin) w):=by
    intro fin fK i0 a0 e0 q0 hc mY fX;refine WT (0,0) (i:Nat) 0 0 0 0 true s w _ ⟨_,_,true,(0,0),0,0,_,_,_,_,_,_,_,λw' _=>hc w',λL=>(∃(a:Nat) (e:Int) (j:Nat) (q:Q5),fin=.err a e j q/\L=oO s j (a:Nat) e q)∨(∃(m k:Nat) (q:Q5),L=oO s k 0 0 q/\k<=s.length/\m<=n/\dZ s m q k=fin),AR s.length,mY, ?_⟩;rintro aD s2 b2 p2 az aS aU bh a_ bC bI bu bJ (⟨a,e,j,q,hF,hy⟩|⟨m,k,q,hy,hk,hm,hr⟩)
    · simp only [oO,List.cons.injEq,Vl.v.injEq,Vl.i.injEq,Vl.s.injEq,and_true]at hy;obtain⟨rfl,lX,xB,rfl,rfl,rfl,rfl,rfl,rfl,rfl⟩:=hy;replace lX:=lX.symm;subst lX;cases b2 with
      |false=>simp at xB
      |true =>
      clear xB;rw [hF]at fK;rw [hF];exact⟨false,λw' _=>xA fK.1 hs _ _ fK.2 w',aa (λh=>by cases h) (λ_=>⟨false,λw' _=>xA fK.1 hs _ _ fK.2 w',aa (λh=>by cases h) (λ_=>rfl)⟩)⟩
    · simp only [oO,List.cons.injEq,Vl.v.injEq,Vl.i.injEq,Vl.s.injEq,and_true]at hy;obtain⟨rfl,lX,xB,rfl,rfl,rfl,rfl,rfl,rfl,rfl⟩:=hy;replace lX:=lX.symm;subst lX;cases b2 with
      |false=>simp at xB
      |true =>
      clear xB;cases m with
      |zero=>rw [dZ]at hr;rw [<-hr]at fX;exact fX.elim
      |succ m =>
      rw [dZ]at hr;have ht:=(mz s hk).2.2.1;by_cases g:iW s k [42]=true
      · rw [if_pos g]at hr;have eD:=(nB hk (by decide) g).1;have te:=(HJ.1 g).2;have oD:=ih m (by omega) _ ht;have k_:=(gw s m).1 _ ht;have jP:=(o3 s m).1 _ ht;cases hq:eO s m (af s k).to with
        |out=>rw [hq]at hr;rw [<-hr]at fX;exact fX.elim
        |err a e j r =>
          rw [hq]at hr oD jP;exact⟨true,λw' _=>zu hk hs g w',aa (λ_=>⟨_,_,_,_,_,_,_,_,_,_,λw' _=>jZ hk hs w',_,_,true,(0,0),0,0,_,_,_,_,_,_,_,λw' _=>oD trivial w',_,_,true,(0,0),0,0,_,_,_,_,_,_,_,λw' _=>by rw [show (rT s k).text=[42] from te];exact Nr jP.1 hs q r _ _ _ jP.2 w',⟨.inl ⟨_,_,_,_,hr.symm,rfl⟩,AS (q:=q) (r:=(jn 2 q r).q) jP.2 hk⟩⟩) (λh=>absurd rfl h)⟩
        |ok r j =>
          rw [hq]at hr oD k_;have hj:=k_.2;have h1:=k_.1;have AP:=F4 hj hs q r (af s k).fr;have gR:=zp (s:=s) (f:=2) (a:=q) (b:=r) (at':=(af s k).fr) hj (pA s hk);have kH:((bS s 2 q r (af s k).fr j).bind id λq k=>dZ s m q k)=fin:=hr;clear hr;cases hp:bS s 2 q r (af s k).fr j with
          |out=>rw [hp]at kH;rw [<-kH]at fX;exact fX.elim
          |err a e j2 r2 =>
            rw [hp]at kH AP;have kx:=fK;rw [<-kH]at kx;exact⟨true,λw' _=>zu hk hs g w',aa (λ_=>⟨_,_,_,_,_,_,_,_,_,_,λw' _=>jZ hk hs w',_,_,true,(0,0),0,0,_,_,_,_,_,_,_,λw' _=>oD trivial w',_,_,true,(0,0),0,0,_,_,_,_,_,_,_,λw' _=>by rw [show (rT s k).text=[42] from te];exact AP w',⟨.inl ⟨_,_,_,_,kH.symm,rfl⟩,AS (q:=q) (r:=r2) kx.2 hk⟩⟩) (λh=>absurd rfl h)⟩
          |ok r2 j2 =>
            rw [hp]at kH AP gR;exact⟨true,λw' _=>zu hk hs g w',aa (λ_=>⟨_,_,_,_,_,_,_,_,_,_,λw' _=>jZ hk hs w',_,_,true,(0,0),0,0,_,_,_,_,_,_,_,λw' _=>oD trivial w',_,_,true,(0,0),0,0,_,_,_,_,_,_,_,λw' _=>by rw [show (rT s k).text=[42] from te];exact AP w',⟨.inr ⟨m,_,_,rfl,gR.2,by omega,kH⟩,zF (q:=q) (r:=r2) (by have:=gR.1;omega) gR.2⟩⟩) (λh=>absurd rfl h)⟩
      rw [if_neg g]at hr;have AM:=Bool.eq_false_iff.2 g;clear g;by_cases g:iW s k [47]=true
      · rw [if_pos g]at hr;have eD:=(nB hk (by decide) g).1;have te:=(HJ.1 g).2;have oD:=ih m (by omega) _ ht;have k_:=(gw s m).1 _ ht;have jP:=(o3 s m).1 _ ht;cases hq:eO s m (af s k).to with
        |out=>rw [hq]at hr;rw [<-hr]at fX;exact fX.elim
        |err a e j r =>
          rw [hq]at hr oD jP;exact⟨false,λw' _=>zu hk hs AM w',aa (λh=>by cases h) (λ_=>⟨true,λw' _=>zu hk hs g w',aa (λ_=>⟨_,_,_,_,_,_,_,_,_,_,λw' _=>jZ hk hs w',_,_,true,(0,0),0,0,_,_,_,_,_,_,_,λw' _=>oD trivial w',_,_,true,(0,0),0,0,_,_,_,_,_,_,_,λw' _=>by rw [show (rT s k).text=[47] from te];exact Nt jP.1 hs q r _ _ _ jP.2 w',⟨.inl ⟨_,_,_,_,hr.symm,rfl⟩,AS (q:=q) (r:=(jn 3 q r).q) jP.2 hk⟩⟩) (λh=>absurd rfl h)⟩)⟩
        |ok r j =>
          rw [hq]at hr oD k_;have hj:=k_.2;have h1:=k_.1;have AP:=Ns hj hs q r (af s k).fr;have gR:=zp (s:=s) (f:=3) (a:=q) (b:=r) (at':=(af s k).fr) hj (pA s hk);have kH:((bS s 3 q r (af s k).fr j).bind id λq k=>dZ s m q k)=fin:=hr;clear hr;cases hp:bS s 3 q r (af s k).fr j with
          |out=>rw [hp]at kH;rw [<-kH]at fX;exact fX.elim
          |err a e j2 r2 =>
            rw [hp]at kH AP;have kx:=fK;rw [<-kH]at kx;exact⟨false,λw' _=>zu hk hs AM w',aa (λh=>by cases h) (λ_=>⟨true,λw' _=>zu hk hs g w',aa (λ_=>⟨_,_,_,_,_,_,_,_,_,_,λw' _=>jZ hk hs w',_,_,true,(0,0),0,0,_,_,_,_,_,_,_,λw' _=>oD trivial w',_,_,true,(0,0),0,0,_,_,_,_,_,_,_,λw' _=>by rw [show (rT s k).text=[47] from te];exact AP w',⟨.inl ⟨_,_,_,_,kH.symm,rfl⟩,AS (q:=q) (r:=r2) kx.2 hk⟩⟩) (λh=>absurd rfl h)⟩)⟩
          |ok r2 j2 =>
            rw [hp]at kH AP gR;exact⟨false,λw' _=>zu hk hs AM w',aa (λh=>by cases h) (λ_=>⟨true,λw' _=>zu hk hs g w',aa (λ_=>⟨_,_,_,_,_,_,_,_,_,_,λw' _=>jZ hk hs w',_,_,true,(0,0),0,0,_,_,_,_,_,_,_,λw' _=>oD trivial w',_,_,true,(0,0),0,0,_,_,_,_,_,_,_,λw' _=>by rw [show (rT s k).text=[47] from te];exact AP w',⟨.inr ⟨m,_,_,rfl,gR.2,by omega,kH⟩,zF (q:=q) (r:=r2) (by have:=gR.1;omega) gR.2⟩⟩) (λh=>absurd rfl h)⟩)⟩
      rw [if_neg g]at hr;have HI:=Bool.eq_false_iff.2 g;clear g;subst hr;exact⟨false,λw' _=>zu hk hs AM w',aa (λh=>by cases h) (λ_=>⟨false,λw' _=>zu hk hs HI w',aa (λh=>by cases h) (λ_=>rfl)⟩)⟩
  cases hq:eO s n i with
  |out=>rw [hq]at hf;exact hf.elim
  |err a e j q =>
    rw [hq]at h0 Ce;exact F7 (.err a e j q) Ce j (a:Nat) e q (λw'=>h0 trivial w') (.inl ⟨_,_,_,_,rfl,rfl⟩) trivial
  |ok q k =>
    rw [hq]at h0 dJ hf;have hk:=dJ.2;exact F7 (dZ s n q k) ((o3 s n).2.2.1 k q hk) k 0 0 q (λw'=>h0 trivial w') (.inr ⟨n,k,q,rfl,hk,Nat.le_refl _,rfl⟩) hf
set_option maxHeartbeats 1000000 in
theorem Ny{s:List UInt8}{i n:Nat}(hi:i<=s.length)(hs:s.length < 4611686018427387904)(ih:∀ m,m<=n->∀ j,j<=s.length->xY 54 #[gy s j 0 0] s (dB s m j)) :
    xY 18 #[gy s i 0 0] s (fF s (n+1) i):=by
  intro hf w;rw [fF]at hf ⊢;have h0:=ih n (Nat.le_refl _) i hi;have dJ:=(gw s n).2.1 i hi;have Ce:=(o3 s n).2.1 i hi
  have F7:∀ (fin:Pr) (fK:fin.Ok s) (i0:Nat) (a0 e0:Int) (q0:Q5),(∀ w',Calls Tryz.prog 54 #[gy s i 0 0] w' (Vc.aR (.tuple #[gy s i0 a0 e0,fj q0]) w')) ->
      ((∃(a:Nat) (e:Int) (j:Nat) (q:Q5),fin=.err a e j q/\oO s i0 a0 e0 q0=oO s j (a:Nat) e q)∨(∃(m k:Nat) (q:Q5),oO s i0 a0 e0 q0=oO s k 0 0 q/\k<=s.length/\m<=n/\gU s m q k=fin))->fin.rM->Calls Tryz.prog 18 #[gy s i 0 0] w (Vc.aR (qw s fin) w):=by
    intro fin fK i0 a0 e0 q0 hc mY fX;refine WU (0,0) (i:Nat) 0 0 0 0 true s w _ ⟨_,_,true,(0,0),0,0,_,_,_,_,_,_,_,λw' _=>hc w',λL=>(∃(a:Nat) (e:Int) (j:Nat) (q:Q5),fin=.err a e j q/\L=oO s j (a:Nat) e q)∨(∃(m k:Nat) (q:Q5),L=oO s k 0 0 q/\k<=s.length/\m<=n/\gU s m q k=fin),AR s.length,mY, ?_⟩;rintro aD s2 b2 p2 az aS aU bh a_ bC bI bu bJ (⟨a,e,j,q,hF,hy⟩|⟨m,k,q,hy,hk,hm,hr⟩)
    · simp only [oO,List.cons.injEq,Vl.v.injEq,Vl.i.injEq,Vl.s.injEq,and_true]at hy;obtain⟨rfl,lX,xB,rfl,rfl,rfl,rfl,rfl,rfl,rfl⟩:=hy;replace lX:=lX.symm;subst lX;cases b2 with
      |false=>simp at xB
      |true =>
      clear xB;rw [hF]at fK;rw [hF];exact⟨false,λw' _=>xA fK.1 hs _ _ fK.2 w',aa (λh=>by cases h) (λ_=>⟨false,λw' _=>xA fK.1 hs _ _ fK.2 w',aa (λh=>by cases h) (λ_=>rfl)⟩)⟩
    · simp only [oO,List.cons.injEq,Vl.v.injEq,Vl.i.injEq,Vl.s.injEq,and_true]at hy;obtain⟨rfl,lX,xB,rfl,rfl,rfl,rfl,rfl,rfl,rfl⟩:=hy;replace lX:=lX.symm;subst lX;cases b2 with
      |false=>simp at xB
      |true =>
      clear xB;cases m with
      |zero=>rw [gU]at hr;rw [<-hr]at fX;exact fX.elim
      |succ m =>
      rw [gU]at hr;have ht:=(mz s hk).2.2.1;by_cases g:iW s k [43]=true
      · rw [if_pos g]at hr;have eD:=(nB hk (by decide) g).1;have te:=(HJ.1 g).2;have oD:=ih m (by omega) _ ht;have k_:=(gw s m).2.1 _ ht;have jP:=(o3 s m).2.1 _ ht;cases hq:dB s m (af s k).to with
        |out=>rw [hq]at hr;rw [<-hr]at fX;exact fX.elim
        |err a e j r =>
          rw [hq]at hr oD jP;exact⟨true,λw' _=>zu hk hs g w',aa (λ_=>⟨_,_,_,_,_,_,_,_,_,_,λw' _=>jZ hk hs w',_,_,true,(0,0),0,0,_,_,_,_,_,_,_,λw' _=>oD trivial w',_,_,true,(0,0),0,0,_,_,_,_,_,_,_,λw' _=>by rw [show (rT s k).text=[43] from te];exact No jP.1 hs q r _ _ _ jP.2 w',⟨.inl ⟨_,_,_,_,hr.symm,rfl⟩,AS (q:=q) (r:=(jn 0 q r).q) jP.2 hk⟩⟩) (λh=>absurd rfl h)⟩
        |ok r j =>
          rw [hq]at hr oD k_;have hj:=k_.2;have h1:=k_.1;have AP:=Nn hj hs q r (af s k).fr;have gR:=zp (s:=s) (f:=0) (a:=q) (b:=r) (at':=(af s k).fr) hj (pA s hk);have kH:((bS s 0 q r (af s k).fr j).bind id λq k=>gU s m q k)=fin:=hr;clear hr;cases hp:bS s 0 q r (af s k).fr j with
          |out=>rw [hp]at kH;rw [<-kH]at fX;exact fX.elim
          |err a e j2 r2 =>
            rw [hp]at kH AP;have kx:=fK;rw [<-kH]at kx;exact⟨true,λw' _=>zu hk hs g w',aa (λ_=>⟨_,_,_,_,_,_,_,_,_,_,λw' _=>jZ hk hs w',_,_,true,(0,0),0,0,_,_,_,_,_,_,_,λw' _=>oD trivial w',_,_,true,(0,0),0,0,_,_,_,_,_,_,_,λw' _=>by rw [show (rT s k).text=[43] from te];exact AP w',⟨.inl ⟨_,_,_,_,kH.symm,rfl⟩,AS (q:=q) (r:=r2) kx.2 hk⟩⟩) (λh=>absurd rfl h)⟩
          |ok r2 j2 =>
            rw [hp]at kH AP gR;exact⟨true,λw' _=>zu hk hs g w',aa (λ_=>⟨_,_,_,_,_,_,_,_,_,_,λw' _=>jZ hk hs w',_,_,true,(0,0),0,0,_,_,_,_,_,_,_,λw' _=>oD trivial w',_,_,true,(0,0),0,0,_,_,_,_,_,_,_,λw' _=>by rw [show (rT s k).text=[43] from te];exact AP w',⟨.inr ⟨m,_,_,rfl,gR.2,by omega,kH⟩,zF (q:=q) (r:=r2) (by have:=gR.1;omega) gR.2⟩⟩) (λh=>absurd rfl h)⟩
      rw [if_neg g]at hr;have AN:=Bool.eq_false_iff.2 g;clear g;by_cases g:iW s k [45]=true
      · rw [if_pos g]at hr;have eD:=(nB hk (by decide) g).1;have te:=(HJ.1 g).2;have oD:=ih m (by omega) _ ht;have k_:=(gw s m).2.1 _ ht;have jP:=(o3 s m).2.1 _ ht;cases hq:dB s m (af s k).to with
        |out=>rw [hq]at hr;rw [<-hr]at fX;exact fX.elim
        |err a e j r =>
          rw [hq]at hr oD jP;exact⟨false,λw' _=>zu hk hs AN w',aa (λh=>by cases h) (λ_=>⟨true,λw' _=>zu hk hs g w',aa (λ_=>⟨_,_,_,_,_,_,_,_,_,_,λw' _=>jZ hk hs w',_,_,true,(0,0),0,0,_,_,_,_,_,_,_,λw' _=>oD trivial w',_,_,true,(0,0),0,0,_,_,_,_,_,_,_,λw' _=>by rw [show (rT s k).text=[45] from te];exact Nq jP.1 hs q r _ _ _ jP.2 w',⟨.inl ⟨_,_,_,_,hr.symm,rfl⟩,AS (q:=q) (r:=(jn 1 q r).q) jP.2 hk⟩⟩) (λh=>absurd rfl h)⟩)⟩
        |ok r j =>
          rw [hq]at hr oD k_;have hj:=k_.2;have h1:=k_.1;have AP:=Np hj hs q r (af s k).fr;have gR:=zp (s:=s) (f:=1) (a:=q) (b:=r) (at':=(af s k).fr) hj (pA s hk);have kH:((bS s 1 q r (af s k).fr j).bind id λq k=>gU s m q k)=fin:=hr;clear hr;cases hp:bS s 1 q r (af s k).fr j with
          |out=>rw [hp]at kH;rw [<-kH]at fX;exact fX.elim
          |err a e j2 r2 =>
            rw [hp]at kH AP;have kx:=fK;rw [<-kH]at kx;exact⟨false,λw' _=>zu hk hs AN w',aa (λh=>by cases h) (λ_=>⟨true,λw' _=>zu hk hs g w',aa (λ_=>⟨_,_,_,_,_,_,_,_,_,_,λw' _=>jZ hk hs w',_,_,true,(0,0),0,0,_,_,_,_,_,_,_,λw' _=>oD trivial w',_,_,true,(0,0),0,0,_,_,_,_,_,_,_,λw' _=>by rw [show (rT s k).text=[45] from te];exact AP w',⟨.inl ⟨_,_,_,_,kH.symm,rfl⟩,AS (q:=q) (r:=r2) kx.2 hk⟩⟩) (λh=>absurd rfl h)⟩)⟩
          |ok r2 j2 =>
            rw [hp]at kH AP gR;exact⟨false,λw' _=>zu hk hs AN w',aa (λh=>by cases h) (λ_=>⟨true,λw' _=>zu hk hs g w',aa (λ_=>⟨_,_,_,_,_,_,_,_,_,_,λw' _=>jZ hk hs w',_,_,true,(0,0),0,0,_,_,_,_,_,_,_,λw' _=>oD trivial w',_,_,true,(0,0),0,0,_,_,_,_,_,_,_,λw' _=>by rw [show (rT s k).text=[45] from te];exact AP w',⟨.inr ⟨m,_,_,rfl,gR.2,by omega,kH⟩,zF (q:=q) (r:=r2) (by have:=gR.1;omega) gR.2⟩⟩) (λh=>absurd rfl h)⟩)⟩
      rw [if_neg g]at hr;have o1:=Bool.eq_false_iff.2 g;clear g;subst hr;exact⟨false,λw' _=>zu hk hs AN w',aa (λh=>by cases h) (λ_=>⟨false,λw' _=>zu hk hs o1 w',aa (λh=>by cases h) (λ_=>rfl)⟩)⟩
  cases hq:dB s n i with
  |out=>rw [hq]at hf;exact hf.elim
  |err a e j q =>
    rw [hq]at h0 Ce;exact F7 (.err a e j q) Ce j (a:Nat) e q (λw'=>h0 trivial w') (.inl ⟨_,_,_,_,rfl,rfl⟩) trivial
  |ok q k =>
    rw [hq]at h0 dJ hf;have hk:=dJ.2;exact F7 (gU s n q k) ((o3 s n).2.2.2.2 k q hk) k 0 0 q (λw'=>h0 trivial w') (.inr ⟨n,k,q,rfl,hk,Nat.le_refl _,rfl⟩) hf
theorem W0{s:List UInt8}(hs:s.length<4611686018427387904):∀n m,m<=n->(∀j,j<=s.length->xY 98 #[gy s j 0 0] s (eO s m j))/\(∀j,j<=s.length->xY 54 #[gy s j 0 0] s (dB s m j))/\(∀j,j<=s.length->xY 18 #[gy s j 0 0] s (fF s m j)):=by
  intro n
  induction n with
  |zero =>
    intro m hm;obtain rfl:m=0:=by omega
    refine⟨λj _ h => ?_,λj _ h => ?_,λj _ h => ?_⟩
    · rw [eO]at h;exact h.elim
    · rw [dB]at h;exact h.elim
    · rw [fF]at h;exact h.elim
  |succ n ih =>
    intro m hm;rcases Nat.lt_or_ge n m with eD|oV
    · obtain rfl:m=n+1:=by omega
      exact⟨λj hj=>Nw hj hs (λj hj=>(ih n (Nat.le_refl _)).1 j hj) (λj hj=>(ih n (Nat.le_refl _)).2.2 j hj),λj hj=>Nx hj hs λm hm j hj=>(ih m hm).1 j hj,λj hj=>Ny hj hs λm hm j hj=>(ih m hm).2.1 j hj⟩
    · exact ih m oV
def AT(r:Q5 × Nat × Int):Value := .tuple #[fj r.1,.int .i64 (r.2.1:Nat),.int .i64 r.2.2]
theorem Nz{s:List UInt8}(hl:s.length<=20000)(w:World):Calls Tryz.prog 6 #[.string ⟨s.toArray⟩] w (Vc.aR (AT (fL s)) w):=by
  have hs:s.length<4611686018427387904:=by omega
  have hQ:=(W0 hs _ _ (Nat.le_refl (4*s.length+3))).2.2 0 (Nat.zero_le _);have fX:=FY s;have nz:=(gw s (4*s.length+3)).2.2.2.1 0 (Nat.zero_le _);have mg:=(o3 s (4*s.length+3)).2.2.2.1 0 (Nat.zero_le _);refine WV s w _ ?_;rintro x0 rfl;refine aa (λh=>absurd h (by omega)) (λ_ => ?_);unfold fL;cases hr:fF s (4*s.length+3) 0 with
  |out=>rw [hr]at fX;exact fX.elim
  |err a e j q =>
    rw [hr]at hQ mg;exact⟨_,_,true,(0,0),0,0,_,_,_,_,_,_,_,λw' _=>hQ trivial w',aa (λh=>absurd h mg.2) (λ_=>aa (λh=>absurd h mg.2) (λ_=>rfl))⟩
  |ok r k =>
    rw [hr]at hQ nz;have hk:=nz.2;dsimp only;by_cases kd:(af s k).kind≠0
    · rw [if_pos kd];exact⟨_,_,true,(0,0),0,0,_,_,_,_,_,_,_,λw' _=>hQ trivial w',aa (λ_=>⟨_,_,_,_,_,_,_,_,_,_,λw' _=>jZ hk hs w',aa (λh=>absurd h kd) (λ_=>⟨_,_,true,(0,0),0,0,_,_,λw' _=>De hk hs w',aa (λh=>absurd h (FV s k)) (λ_=>rfl)⟩)⟩) (λh=>absurd rfl h)⟩
    · rw [if_neg kd];have k0:(af s k).kind=0:=Decidable.not_not.1 kd;have e0:(af s k).e=0:=Nu k0;exact⟨_,_,true,(0,0),0,0,_,_,_,_,_,_,_,λw' _=>hQ trivial w',aa (λ_=>⟨_,_,_,_,_,_,_,_,_,_,λw' _=>jZ hk hs w',aa (λ_=>⟨_,_,_,_,_,_,_,_,_,_,λw' _=>jZ hk hs w',aa (λ_=>aa (λ_=>rfl) (λh=>absurd rfl h)) (λh=>absurd e0 h)⟩) (λh=>absurd k0 h)⟩) (λh=>absurd rfl h)⟩
end Go.Proofs.YtpfgephckjpcjaaGreatDoor
