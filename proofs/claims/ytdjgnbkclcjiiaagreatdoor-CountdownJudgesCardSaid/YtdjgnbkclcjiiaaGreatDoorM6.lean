import Derived.Test.YtdjgnbkclcjiiaaGreatDoorG0
set_option linter.unusedVariables false
set_option maxRecDepth 100000
namespace Go.Proofs.YtdjgnbkclcjiiaaGreatDoor
open Go Go.RowKit
theorem zzc(x0 x1:Int)(w:World)(v:Value)(h :
 (.bool (decide (x0 < x1)):Value)=v):Calls Tryz.prog 219 #[.int .i64 x0,.int .i64 x1] w (Vc.Ret v w) :=
 Vc.zh base [] [] 200 Tryz.func219 (b:=(Tryz.f219.body).getD .skip) (by kernel_rfl) [.cv (.one (.int .i64 (.var 0))),.cv (.one (.int .i64 (.var 1)))] ⟨2,0,0,0,0,0,0⟩ [] (Vc.envOf [x0,x1] [] [] []) (by kernel_rfl) Vc.zl (by kernel_rfl) (by kernel_rfl) h
theorem zad(x0 x1:Int)(w:World)(v:Value)(h :
 (.bool (decide (x0≤x1)):Value)=v):Calls Tryz.prog 220 #[.int .i64 x0,.int .i64 x1] w (Vc.Ret v w) :=
 Vc.zh base [] [] 200 Tryz.func220 (b:=(Tryz.f220.body).getD .skip) (by kernel_rfl) [.cv (.one (.int .i64 (.var 0))),.cv (.one (.int .i64 (.var 1)))] ⟨2,0,0,0,0,0,0⟩ [] (Vc.envOf [x0,x1] [] [] []) (by kernel_rfl) Vc.zl (by kernel_rfl) (by kernel_rfl) h
theorem zbd(x0 x1:Int)(w:World)(v:Value)(h :
 (.bool (decide (x0 > x1)):Value)=v):Calls Tryz.prog 221 #[.int .i64 x0,.int .i64 x1] w (Vc.Ret v w) :=
 Vc.zh base [] [] 200 Tryz.func221 (b:=(Tryz.f221.body).getD .skip) (by kernel_rfl) [.cv (.one (.int .i64 (.var 0))),.cv (.one (.int .i64 (.var 1)))] ⟨2,0,0,0,0,0,0⟩ [] (Vc.envOf [x0,x1] [] [] []) (by kernel_rfl) Vc.zl (by kernel_rfl) (by kernel_rfl) h
theorem zcd(x0 x1:Int)(w:World)(v:Value)(h :
 (.bool (decide (x0 ≥ x1)):Value)=v):Calls Tryz.prog 222 #[.int .i64 x0,.int .i64 x1] w (Vc.Ret v w) :=
 Vc.zh base [] [] 200 Tryz.func222 (b:=(Tryz.f222.body).getD .skip) (by kernel_rfl) [.cv (.one (.int .i64 (.var 0))),.cv (.one (.int .i64 (.var 1)))] ⟨2,0,0,0,0,0,0⟩ [] (Vc.envOf [x0,x1] [] [] []) (by kernel_rfl) Vc.zl (by kernel_rfl) (by kernel_rfl) h
theorem zdd(x0 x1:Int)(w:World)(v:Value)(h :
 (.bool (x0 == x1):Value)=v):Calls Tryz.prog 223 #[.int .i64 x0,.int .i64 x1] w (Vc.Ret v w) :=
 Vc.zh base [] [] 200 Tryz.func223 (b:=(Tryz.f223.body).getD .skip) (by kernel_rfl) [.cv (.one (.int .i64 (.var 0))),.cv (.one (.int .i64 (.var 1)))] ⟨2,0,0,0,0,0,0⟩ [] (Vc.envOf [x0,x1] [] [] []) (by kernel_rfl) Vc.zl (by kernel_rfl) (by kernel_rfl) h
theorem zed(x0 x1:Int)(w:World)(v:Value)(h :
 (.bool (x0 != x1):Value)=v):Calls Tryz.prog 224 #[.int .i64 x0,.int .i64 x1] w (Vc.Ret v w) :=
 Vc.zh base [] [] 200 Tryz.func224 (b:=(Tryz.f224.body).getD .skip) (by kernel_rfl) [.cv (.one (.int .i64 (.var 0))),.cv (.one (.int .i64 (.var 1)))] ⟨2,0,0,0,0,0,0⟩ [] (Vc.envOf [x0,x1] [] [] []) (by kernel_rfl) Vc.zl (by kernel_rfl) (by kernel_rfl) h
theorem zeg(x0 x1 x2:Int)(w:World)(v:Value)(h :
 (0≤x1) ∧
 (x1 < 6) ∧
 ((x1=0)→(
 (.bool (decide (x0 < x2)):Value)=v))∧(¬ (x1=0)→(
 ((x1=1)→(
 (.bool (decide (x0≤x2)):Value)=v))∧(¬ (x1=1)→(
 ((x1=2)→(
 (.bool (decide (x0 > x2)):Value)=v))∧(¬ (x1=2)→(
 ((x1=3)→(
 (.bool (decide (x0 ≥ x2)):Value)=v))∧(¬ (x1=3)→(
 ((x1=4)→(
 (.bool (x0 == x2):Value)=v))∧(¬ (x1=4)→(
 (.bool (x0 != x2):Value)=v))))))))))):Calls Tryz.prog 103 #[.int .i64 x0,.int .i64 x1,.int .i64 x2] w (Vc.Ret v w) :=
 Vc.zh base [] [] 200 Tryz.func103 (b:=(Tryz.f103.body).getD .skip) (by kernel_rfl) [.cv (.one (.int .i64 (.var 0))),.cv (.one (.int .i64 (.var 1))),.cv (.one (.int .i64 (.var 2)))] ⟨3,0,0,0,0,0,0⟩ [] (Vc.envOf [x0,x1,x2] [] [] []) (by kernel_rfl) Vc.zl (by kernel_rfl) (by kernel_rfl) h
abbrev Vj_ullageref10_answer_T4(x6:Int)(Ib0:List Vc.Vl→Prop)(b2:Bool)(mb0:List Vc.Vl→Nat)(b0:Bool)(b1:Bool):Prop :=
 ∀ x7:Int,x7=IntKind.i64.wrap (x6 + 1) →
 Ib0 [.b b2,.b false,.i x7]∧mb0 [.b b2,.b false,.i x7] < mb0 [.b b0,.b b1,.i x6]
abbrev Vj_ullageref10_answer_T3(w:World)(x0:Int)(x2:Int)(x3:Int)(x6:Int)(Ib0:List Vc.Vl→Prop)(b2:Bool)(mb0:List Vc.Vl→Nat)(b0:Bool)(b1:Bool):Prop :=
 ∃ (b3:Bool),(Vq w 103 #[.int .i64 x0,.int .i64 x2,.int .i64 x3] (.bool b3)) ∧
 ∀ x7:Int,x7=IntKind.i64.wrap (x6 + 1) →
 Ib0 [.b b2,.b (!b3),.i x7]∧mb0 [.b b2,.b (!b3),.i x7] < mb0 [.b b0,.b b1,.i x6]
abbrev Vj_ullageref10_answer_T2(w:World)(x0:Int)(x2:Int)(x3:Int)(x6:Int)(Ib0:List Vc.Vl→Prop)(mb0:List Vc.Vl→Nat)(b0:Bool)(b1:Bool):Prop :=
 ∃ (b2:Bool),(Vq w 103 #[.int .i64 x0,.int .i64 x2,.int .i64 x3] (.bool b2)) ∧
 ∀ x7:Int,x7=IntKind.i64.wrap (x6 + 1) →
 Ib0 [.b false,.b (!b2),.i x7]∧mb0 [.b false,.b (!b2),.i x7] < mb0 [.b b0,.b b1,.i x6]
abbrev Vj_ullageref10_answer_T1(x6:Int)(w:World)(x0:Int)(x2:Int)(x3:Int)(Ib0:List Vc.Vl→Prop)(b2:Bool)(mb0:List Vc.Vl→Nat)(b0:Bool)(b1:Bool)(x1:Int)(x5:Int):Prop :=
 (0≤x6) ∧
 (x6 < 3) ∧
 ((x6=0)→( Vj_ullageref10_answer_T3 w x0 x2 x3 x6 Ib0 b2 mb0 b0 b1))∧(¬ (x6=0)→(
 ((x6=1)→( Vj_ullageref10_answer_T3 w x1 x2 x3 x6 Ib0 b2 mb0 b0 b1))∧(¬ (x6=1)→( Vj_ullageref10_answer_T3 w x5 x2 x3 x6 Ib0 b2 mb0 b0 b1))))
theorem zkf(x0 x1 x2 x3:Int)(w:World)(v:Value)(h :
 ∀ x4:Int,x4=(if x3 < x1 then x3 else x1) →
 ∀ x5:Int,x5=(if x4 > x0 then x4 else x0) →
 ∃ (Ib0:List Vc.Vl→Prop) (mb0:List Vc.Vl→Nat),Ib0 [.b true,.b true,.i 0]∧∀ (b0:Bool) (b1:Bool) (x6:Int),Ib0 [.b b0,.b b1,.i x6]→(
 ((x6 < 3)→(
 ((b0=true)→(
 (0≤x6) ∧
 (x6 < 3) ∧
 ((x6=0)→(
 ∃ (b2:Bool),(Vq w 103 #[.int .i64 x0,.int .i64 x2,.int .i64 x3] (.bool b2)) ∧
 ((b1=true)→( Vj_ullageref10_answer_T1 x6 w x0 x2 x3 Ib0 b2 mb0 b0 b1 x1 x5))∧(¬ (b1=true)→( Vj_ullageref10_answer_T4 x6 Ib0 b2 mb0 b0 b1))))∧(¬ (x6=0)→(
 ((x6=1)→(
 ∃ (b2:Bool),(Vq w 103 #[.int .i64 x1,.int .i64 x2,.int .i64 x3] (.bool b2)) ∧
 ((b1=true)→( Vj_ullageref10_answer_T1 x6 w x0 x2 x3 Ib0 b2 mb0 b0 b1 x1 x5))∧(¬ (b1=true)→( Vj_ullageref10_answer_T4 x6 Ib0 b2 mb0 b0 b1))))∧(¬ (x6=1)→(
 ∃ (b2:Bool),(Vq w 103 #[.int .i64 x5,.int .i64 x2,.int .i64 x3] (.bool b2)) ∧
 ((b1=true)→( Vj_ullageref10_answer_T1 x6 w x0 x2 x3 Ib0 b2 mb0 b0 b1 x1 x5))∧(¬ (b1=true)→( Vj_ullageref10_answer_T4 x6 Ib0 b2 mb0 b0 b1))))))))∧(¬ (b0=true)→(
 ((b1=true)→(
 (0≤x6) ∧
 (x6 < 3) ∧
 ((x6=0)→( Vj_ullageref10_answer_T2 w x0 x2 x3 x6 Ib0 mb0 b0 b1))∧(¬ (x6=0)→(
 ((x6=1)→( Vj_ullageref10_answer_T2 w x1 x2 x3 x6 Ib0 mb0 b0 b1))∧(¬ (x6=1)→( Vj_ullageref10_answer_T2 w x5 x2 x3 x6 Ib0 mb0 b0 b1))))))∧(¬ (b1=true)→(
 ∀ x7:Int,x7=IntKind.i64.wrap (x6 + 1) →
 Ib0 [.b false,.b false,.i x7]∧mb0 [.b false,.b false,.i x7] < mb0 [.b b0,.b b1,.i x6]))))))∧(¬ (x6 < 3)→(
 ((b0=true)→(
 (.int .i64 1:Value)=v))∧(¬ (b0=true)→(
 ((b1=true)→(
 (.int .i64 (-1):Value)=v))∧(¬ (b1=true)→(
 (.int .i64 0:Value)=v)))))))):Calls Tryz.prog 130 #[.agg #[.int .i64 x0,.int .i64 x1],.int .i64 x2,.int .i64 x3] w (Vc.Ret v w) :=
 Vc.zh base [(2000000000004,.inv [] [8,9,10] [23,24,27,28,29,30,31,32,33,34,35,36,37,38,39,40,41,42,43,44,45,46,47,25,26])] [] 200 Tryz.func130 (b:=(Tryz.f130.body).getD .skip) (by kernel_rfl) [.cv (.agg [.int .i64 (.var 0),.int .i64 (.var 1)]),.cv (.one (.int .i64 (.var 2))),.cv (.one (.int .i64 (.var 3)))] ⟨4,0,0,0,0,0,0⟩ [] (Vc.envOf [x0,x1,x2,x3] [] [] []) (by kernel_rfl) Vc.zl (by kernel_rfl) (by kernel_rfl) h
end Go.Proofs.YtdjgnbkclcjiiaaGreatDoor
