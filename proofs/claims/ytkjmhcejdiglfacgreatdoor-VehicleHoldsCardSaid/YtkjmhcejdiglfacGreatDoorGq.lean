import Derived.Test.YtkjmhcejdiglfacGreatDoorG0
set_option linter.unusedVariables false
set_option maxRecDepth 100000
namespace Go.Proofs.YtkjmhcejdiglfacGreatDoor
open Go Go.RowKit
theorem zzm(x0 x1:Int)(w:World)(v:Value)(h :
 ∃ (Ix2:List Vc.Vl→Prop) (mx2:List Vc.Vl→Nat),Ix2 [.i x0,.i x1]∧∀ (x2:Int) (x3:Int),Ix2 [.i x2,.i x3]→(
 ((x3=0)→(
 ∀ x4:Int,x4=IntKind.i64.wrap (0 - x2) →
 ∀ x5:Int,x5=(if x4 > x2 then x4 else x2) →
 (.int .i64 x5:Value)=v))∧(¬ (x3=0)→(
 (x3≠0) ∧
 ∀ x4:Int,x4=Int.tmod x2 x3 →
 Ix2 [.i x3,.i x4]∧mx2 [.i x3,.i x4] < mx2 [.i x2,.i x3])))):Calls Tryz.prog 76 #[.int .i64 x0,.int .i64 x1] w (Vc.Ret v w) :=
 Vc.zb base [(2000000000001,.inv [] [0,1] [5,6,7,8,9,10])] [] 200 Tryz.func76 (b:=(Tryz.f76.body).getD .skip) (by kernel_rfl) [.cv (.one (.int .i64 (.var 0))),.cv (.one (.int .i64 (.var 1)))] ⟨2,0,0,0,0,0,0⟩ [] (Vc.envOf [x0,x1] [] [] []) (by kernel_rfl) Vc.zc (by kernel_rfl) (by kernel_rfl) h
theorem zwd(x0 x1 x2 x3 x4:Int)(w:World)(v:Value)(h :
 (((-9)≤x2)→(
 ((x2≤9)→(
 (((-9)≤x3)→(
 ((x3≤9)→(
 (((-9)≤x4)→(
 ((x4≤9)→(
 (((-4611686018427387904)≤x0)→(
 ((x0≤4611686018427387904)→(
 ((1≤x1)→(
 ((x1≤4611686018427387904)→(
 ∃ (x5:Int),(Vq w 76 #[.int .i64 x0,.int .i64 x1] (.int .i64 x5)) ∧
 (.bool (x5 == 1):Value)=v))∧(¬ (x1≤4611686018427387904)→(
 (.bool false:Value)=v))))∧(¬ (1≤x1)→(
 (.bool false:Value)=v))))∧(¬ (x0≤4611686018427387904)→(
 (.bool false:Value)=v))))∧(¬ ((-4611686018427387904)≤x0)→(
 (.bool false:Value)=v))))∧(¬ (x4≤9)→(
 (.bool false:Value)=v))))∧(¬ ((-9)≤x4)→(
 (.bool false:Value)=v))))∧(¬ (x3≤9)→(
 (.bool false:Value)=v))))∧(¬ ((-9)≤x3)→(
 (.bool false:Value)=v))))∧(¬ (x2≤9)→(
 (.bool false:Value)=v))))∧(¬ ((-9)≤x2)→(
 (.bool false:Value)=v))):Calls Tryz.prog 39 #[.agg #[.int .i64 x0,.int .i64 x1,.int .i64 x2,.int .i64 x3,.int .i64 x4]] w (Vc.Ret v w) :=
 Vc.zb (ze [45,23] (by kernel_rfl)) [] [] 200 Tryz.func39 (b:=(Tryz.f39.body).getD .skip) (by kernel_rfl) [.cv (.agg [.int .i64 (.var 0),.int .i64 (.var 1),.int .i64 (.var 2),.int .i64 (.var 3),.int .i64 (.var 4)])] ⟨5,0,0,0,0,0,0⟩ [] (Vc.envOf [x0,x1,x2,x3,x4] [] [] []) (by kernel_rfl) Vc.zc (by kernel_rfl) (by kernel_rfl) h
theorem zjm(x0 x1 x2 x3 x4:Int)(w:World)(v:Value)(h :
 ∃ (x5:Int),(Vq w 76 #[.int .i64 x0,.int .i64 x1] (.int .i64 x5)) ∧
 (x5≠0) ∧
 ∀ x6:Int,x6=IntKind.i64.wrap (Int.tdiv x0 x5) →
 (x5≠0) ∧
 ∀ x7:Int,x7=IntKind.i64.wrap (Int.tdiv x1 x5) →
 ∃ (b0:Bool),(Vq w 39 #[.agg #[.int .i64 x6,.int .i64 x7,.int .i64 x2,.int .i64 x3,.int .i64 x4]] (.bool b0)) ∧
 ((b0=true)→(
 (.tuple #[.agg #[.int .i64 x6,.int .i64 x7,.int .i64 x2,.int .i64 x3,.int .i64 x4],.int .i64 0]:Value)=v))∧(¬ (b0=true)→(
 (.tuple #[.agg #[.int .i64 0,.int .i64 0,.int .i64 0,.int .i64 0,.int .i64 0],.int .i64 4]:Value)=v))):Calls Tryz.prog 107 #[.int .i64 x0,.int .i64 x1,.agg #[.int .i64 x2,.int .i64 x3,.int .i64 x4]] w (Vc.Ret v w) :=
 Vc.zb base [] [] 200 Tryz.func107 (b:=(Tryz.f107.body).getD .skip) (by kernel_rfl) [.cv (.one (.int .i64 (.var 0))),.cv (.one (.int .i64 (.var 1))),.cv (.agg [.int .i64 (.var 2),.int .i64 (.var 3),.int .i64 (.var 4)])] ⟨5,0,0,0,0,0,0⟩ [] (Vc.envOf [x0,x1,x2,x3,x4] [] [] []) (by kernel_rfl) Vc.zc (by kernel_rfl) (by kernel_rfl) h
end Go.Proofs.YtkjmhcejdiglfacGreatDoor
