import Derived.Test.YtdjgnbkclcjiiaaGreatDoorG0
set_option linter.unusedVariables false
set_option maxRecDepth 100000
namespace Go.Proofs.YtdjgnbkclcjiiaaGreatDoor
open Go Go.RowKit
theorem zlc(x0 x1:Int)(w:World)(v:Value)(h :
 (.bool (decide (x0 < x1)):Value)=v):Calls Tryz.prog 219 #[.int .i64 x0,.int .i64 x1] w (Vc.Ret v w) :=
 Vc.zh base [] [] 200 Tryz.func219 (b:=(Tryz.f219.body).getD .skip) (by kernel_rfl) [.cv (.one (.int .i64 (.var 0))),.cv (.one (.int .i64 (.var 1)))] ⟨2,0,0,0,0,0,0⟩ [] (Vc.envOf [x0,x1] [] [] []) (by kernel_rfl) Vc.zaa (by kernel_rfl) (by kernel_rfl) h
theorem zmc(x0 x1:Int)(w:World)(v:Value)(h :
 (.bool (decide (x0≤x1)):Value)=v):Calls Tryz.prog 220 #[.int .i64 x0,.int .i64 x1] w (Vc.Ret v w) :=
 Vc.zh base [] [] 200 Tryz.func220 (b:=(Tryz.f220.body).getD .skip) (by kernel_rfl) [.cv (.one (.int .i64 (.var 0))),.cv (.one (.int .i64 (.var 1)))] ⟨2,0,0,0,0,0,0⟩ [] (Vc.envOf [x0,x1] [] [] []) (by kernel_rfl) Vc.zaa (by kernel_rfl) (by kernel_rfl) h
theorem znc(x0 x1:Int)(w:World)(v:Value)(h :
 (.bool (decide (x0 > x1)):Value)=v):Calls Tryz.prog 221 #[.int .i64 x0,.int .i64 x1] w (Vc.Ret v w) :=
 Vc.zh base [] [] 200 Tryz.func221 (b:=(Tryz.f221.body).getD .skip) (by kernel_rfl) [.cv (.one (.int .i64 (.var 0))),.cv (.one (.int .i64 (.var 1)))] ⟨2,0,0,0,0,0,0⟩ [] (Vc.envOf [x0,x1] [] [] []) (by kernel_rfl) Vc.zaa (by kernel_rfl) (by kernel_rfl) h
theorem zoc(x0 x1:Int)(w:World)(v:Value)(h :
 (.bool (decide (x0 ≥ x1)):Value)=v):Calls Tryz.prog 222 #[.int .i64 x0,.int .i64 x1] w (Vc.Ret v w) :=
 Vc.zh base [] [] 200 Tryz.func222 (b:=(Tryz.f222.body).getD .skip) (by kernel_rfl) [.cv (.one (.int .i64 (.var 0))),.cv (.one (.int .i64 (.var 1)))] ⟨2,0,0,0,0,0,0⟩ [] (Vc.envOf [x0,x1] [] [] []) (by kernel_rfl) Vc.zaa (by kernel_rfl) (by kernel_rfl) h
theorem zpc(x0 x1:Int)(w:World)(v:Value)(h :
 (.bool (x0 == x1):Value)=v):Calls Tryz.prog 223 #[.int .i64 x0,.int .i64 x1] w (Vc.Ret v w) :=
 Vc.zh base [] [] 200 Tryz.func223 (b:=(Tryz.f223.body).getD .skip) (by kernel_rfl) [.cv (.one (.int .i64 (.var 0))),.cv (.one (.int .i64 (.var 1)))] ⟨2,0,0,0,0,0,0⟩ [] (Vc.envOf [x0,x1] [] [] []) (by kernel_rfl) Vc.zaa (by kernel_rfl) (by kernel_rfl) h
theorem zqc(x0 x1:Int)(w:World)(v:Value)(h :
 (.bool (x0 != x1):Value)=v):Calls Tryz.prog 224 #[.int .i64 x0,.int .i64 x1] w (Vc.Ret v w) :=
 Vc.zh base [] [] 200 Tryz.func224 (b:=(Tryz.f224.body).getD .skip) (by kernel_rfl) [.cv (.one (.int .i64 (.var 0))),.cv (.one (.int .i64 (.var 1)))] ⟨2,0,0,0,0,0,0⟩ [] (Vc.envOf [x0,x1] [] [] []) (by kernel_rfl) Vc.zaa (by kernel_rfl) (by kernel_rfl) h
theorem zof(x0 x1 x2:Int)(w:World)(v:Value)(h :
 (0≤x1) ∧
 (x1 < 6) ∧
 ((x1=0)→(
 (.bool (decide (x0 < x2)):Value)=v))∧(¬ (x1=0)→(
 ((x1=1)→(
 (.bool (decide (x0≤x2)):Value)=v))∧(¬ (x1=1)→(
 ((x1=2)→(
 (.bool (decide (x0 > x2)):Value)=v))∧(¬ (x1=2)→(
 ((x1=3)→(
 (.bool (decide (x0 ≥ x2)):Value)=v))∧(¬ (x1=3)→(
 ((x1=4)→(
 (.bool (x0 == x2):Value)=v))∧(¬ (x1=4)→(
 (.bool (x0 != x2):Value)=v))))))))))):Calls Tryz.prog 103 #[.int .i64 x0,.int .i64 x1,.int .i64 x2] w (Vc.Ret v w) :=
 Vc.zh base [] [] 200 Tryz.func103 (b:=(Tryz.f103.body).getD .skip) (by kernel_rfl) [.cv (.one (.int .i64 (.var 0))),.cv (.one (.int .i64 (.var 1))),.cv (.one (.int .i64 (.var 2)))] ⟨3,0,0,0,0,0,0⟩ [] (Vc.envOf [x0,x1,x2] [] [] []) (by kernel_rfl) Vc.zaa (by kernel_rfl) (by kernel_rfl) h
end Go.Proofs.YtdjgnbkclcjiiaaGreatDoor
