import Derived.Test.YtdjgnbkclcjiiaaGreatDoorG0
set_option linter.unusedVariables false
set_option maxRecDepth 100000
namespace Go.Proofs.YtdjgnbkclcjiiaaGreatDoor
open Go Go.RowKit
theorem zsc(x0 x1:Int)(w:World)(v:Value)(h :
 (.bool (decide (x0 < x1)):Value)=v):Calls Tryz.prog 219 #[.int .i64 x0,.int .i64 x1] w (Vc.Ret v w) :=
 Vc.zha base [] [] 200 Tryz.func219 (b:=(Tryz.f219.body).getD .skip) (by kernel_rfl) [.cv (.one (.int .i64 (.var 0))),.cv (.one (.int .i64 (.var 1)))] ⟨2,0,0,0,0,0,0⟩ [] (Vc.envOf [x0,x1] [] [] []) (by kernel_rfl) Vc.zta (by kernel_rfl) (by kernel_rfl) h
theorem ztc(x0 x1:Int)(w:World)(v:Value)(h :
 (.bool (decide (x0≤x1)):Value)=v):Calls Tryz.prog 220 #[.int .i64 x0,.int .i64 x1] w (Vc.Ret v w) :=
 Vc.zha base [] [] 200 Tryz.func220 (b:=(Tryz.f220.body).getD .skip) (by kernel_rfl) [.cv (.one (.int .i64 (.var 0))),.cv (.one (.int .i64 (.var 1)))] ⟨2,0,0,0,0,0,0⟩ [] (Vc.envOf [x0,x1] [] [] []) (by kernel_rfl) Vc.zta (by kernel_rfl) (by kernel_rfl) h
theorem zuc(x0 x1:Int)(w:World)(v:Value)(h :
 (.bool (decide (x0 > x1)):Value)=v):Calls Tryz.prog 221 #[.int .i64 x0,.int .i64 x1] w (Vc.Ret v w) :=
 Vc.zha base [] [] 200 Tryz.func221 (b:=(Tryz.f221.body).getD .skip) (by kernel_rfl) [.cv (.one (.int .i64 (.var 0))),.cv (.one (.int .i64 (.var 1)))] ⟨2,0,0,0,0,0,0⟩ [] (Vc.envOf [x0,x1] [] [] []) (by kernel_rfl) Vc.zta (by kernel_rfl) (by kernel_rfl) h
theorem zvc(x0 x1:Int)(w:World)(v:Value)(h :
 (.bool (decide (x0 ≥ x1)):Value)=v):Calls Tryz.prog 222 #[.int .i64 x0,.int .i64 x1] w (Vc.Ret v w) :=
 Vc.zha base [] [] 200 Tryz.func222 (b:=(Tryz.f222.body).getD .skip) (by kernel_rfl) [.cv (.one (.int .i64 (.var 0))),.cv (.one (.int .i64 (.var 1)))] ⟨2,0,0,0,0,0,0⟩ [] (Vc.envOf [x0,x1] [] [] []) (by kernel_rfl) Vc.zta (by kernel_rfl) (by kernel_rfl) h
theorem zwc(x0 x1:Int)(w:World)(v:Value)(h :
 (.bool (x0 == x1):Value)=v):Calls Tryz.prog 223 #[.int .i64 x0,.int .i64 x1] w (Vc.Ret v w) :=
 Vc.zha base [] [] 200 Tryz.func223 (b:=(Tryz.f223.body).getD .skip) (by kernel_rfl) [.cv (.one (.int .i64 (.var 0))),.cv (.one (.int .i64 (.var 1)))] ⟨2,0,0,0,0,0,0⟩ [] (Vc.envOf [x0,x1] [] [] []) (by kernel_rfl) Vc.zta (by kernel_rfl) (by kernel_rfl) h
theorem zxc(x0 x1:Int)(w:World)(v:Value)(h :
 (.bool (x0 != x1):Value)=v):Calls Tryz.prog 224 #[.int .i64 x0,.int .i64 x1] w (Vc.Ret v w) :=
 Vc.zha base [] [] 200 Tryz.func224 (b:=(Tryz.f224.body).getD .skip) (by kernel_rfl) [.cv (.one (.int .i64 (.var 0))),.cv (.one (.int .i64 (.var 1)))] ⟨2,0,0,0,0,0,0⟩ [] (Vc.envOf [x0,x1] [] [] []) (by kernel_rfl) Vc.zta (by kernel_rfl) (by kernel_rfl) h
theorem ztf(x0 x1 x2:Int)(w:World)(v:Value)(h :
 (0≤x1) ∧
 (x1 < 6) ∧
 ((x1=0)→(
 (.bool (decide (x0 < x2)):Value)=v))∧(¬ (x1=0)→(
 ((x1=1)→(
 (.bool (decide (x0≤x2)):Value)=v))∧(¬ (x1=1)→(
 ((x1=2)→(
 (.bool (decide (x0 > x2)):Value)=v))∧(¬ (x1=2)→(
 ((x1=3)→(
 (.bool (decide (x0 ≥ x2)):Value)=v))∧(¬ (x1=3)→(
 ((x1=4)→(
 (.bool (x0 == x2):Value)=v))∧(¬ (x1=4)→(
 (.bool (x0 != x2):Value)=v))))))))))):Calls Tryz.prog 103 #[.int .i64 x0,.int .i64 x1,.int .i64 x2] w (Vc.Ret v w) :=
 Vc.zha base [] [] 200 Tryz.func103 (b:=(Tryz.f103.body).getD .skip) (by kernel_rfl) [.cv (.one (.int .i64 (.var 0))),.cv (.one (.int .i64 (.var 1))),.cv (.one (.int .i64 (.var 2)))] ⟨3,0,0,0,0,0,0⟩ [] (Vc.envOf [x0,x1,x2] [] [] []) (by kernel_rfl) Vc.zta (by kernel_rfl) (by kernel_rfl) h
abbrev Vj_ullageref10_answer_T4(x6:Int)(Ib0:List Vc.Vl→Prop)(b2:Bool)(mb0:List Vc.Vl→Nat)(b0:Bool)(b1:Bool):Prop :=
 ∀ x7:Int,x7=IntKind.i64.wrap (x6 + 1) →
 Ib0 [.b b2,.b false,.i x7]∧mb0 [.b b2,.b false,.i x7] < mb0 [.b b0,.b b1,.i x6]
abbrev Vj_ullageref10_answer_T3(w:World)(x0:Int)(x2:Int)(x3:Int)(x6:Int)(Ib0:List Vc.Vl→Prop)(b2:Bool)(mb0:List Vc.Vl→Nat)(b0:Bool)(b1:Bool):Prop :=
 ∃ (b3:Bool),(Vq w 103 #[.int .i64 x0,.int .i64 x2,.int .i64 x3] (.bool b3)) ∧
 ∀ x7:Int,x7=IntKind.i64.wrap (x6 + 1) →
 Ib0 [.b b2,.b (!b3),.i x7]∧mb0 [.b b2,.b (!b3),.i x7] < mb0 [.b b0,.b b1,.i x6]
end Go.Proofs.YtdjgnbkclcjiiaaGreatDoor
