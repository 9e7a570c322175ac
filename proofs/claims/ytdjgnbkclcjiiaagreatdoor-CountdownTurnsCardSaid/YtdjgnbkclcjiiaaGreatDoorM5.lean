import Derived.Test.YtdjgnbkclcjiiaaGreatDoorG0
set_option linter.unusedVariables false
set_option maxRecDepth 100000
namespace Go.Proofs.YtdjgnbkclcjiiaaGreatDoor
open Go Go.RowKit
abbrev Vj_countdown_answer_T2(b0:Bool)(v:Value)(b1:Bool)(b2:Bool):Prop :=
 ((b0=true)→(
 (.int .i64 0:Value)=v))∧(¬ (b0=true)→(
 ((b1=true)→(
 (.int .i64 0:Value)=v))∧(¬ (b1=true)→(
 ((b2=true)→(
 (.int .i64 0:Value)=v))∧(¬ (b2=true)→(
 (.int .i64 (-1):Value)=v))))))
abbrev Vj_countdown_answer_T1(b1:Bool)(b2:Bool)(v:Value)(b0:Bool):Prop :=
 ((b1=true)→(
 ((b2=true)→(
 (.int .i64 1:Value)=v))∧(¬ (b2=true)→( Vj_countdown_answer_T2 b0 v b1 b2))))∧(¬ (b1=true)→( Vj_countdown_answer_T2 b0 v b1 b2))
theorem zmg(x0 x1 x2 x3:Int)(w:World)(v:Value)(h :
 (0≤x2) ∧
 (x2 < 6) ∧
 ((x2=0)→(
 Vg_1 w ∧
 ∀ x4:Int,x4=(if x3 < x1 then x3 else x1) →
 ∀ x5:Int,x5=(if x4 > x0 then x4 else x0) →
 ∃ (b0:Bool),(Vq w 219 #[.int .i64 x0,.int .i64 x3] (.bool b0)) ∧
 ∃ (b1:Bool),(Vq w 219 #[.int .i64 x5,.int .i64 x3] (.bool b1)) ∧
 ∃ (b2:Bool),(Vq w 219 #[.int .i64 x1,.int .i64 x3] (.bool b2)) ∧
 ((b0=true)→( Vj_countdown_answer_T1 b1 b2 v b0))∧(¬ (b0=true)→( Vj_countdown_answer_T2 b0 v b1 b2))))∧(¬ (x2=0)→(
 ((x2=1)→(
 Vg_1 w ∧
 ∀ x4:Int,x4=(if x3 < x1 then x3 else x1) →
 ∀ x5:Int,x5=(if x4 > x0 then x4 else x0) →
 ∃ (b0:Bool),(Vq w 220 #[.int .i64 x0,.int .i64 x3] (.bool b0)) ∧
 ∃ (b1:Bool),(Vq w 220 #[.int .i64 x5,.int .i64 x3] (.bool b1)) ∧
 ∃ (b2:Bool),(Vq w 220 #[.int .i64 x1,.int .i64 x3] (.bool b2)) ∧
 ((b0=true)→( Vj_countdown_answer_T1 b1 b2 v b0))∧(¬ (b0=true)→( Vj_countdown_answer_T2 b0 v b1 b2))))∧(¬ (x2=1)→(
 ((x2=2)→(
 Vg_1 w ∧
 ∀ x4:Int,x4=(if x3 < x1 then x3 else x1) →
 ∀ x5:Int,x5=(if x4 > x0 then x4 else x0) →
 ∃ (b0:Bool),(Vq w 221 #[.int .i64 x0,.int .i64 x3] (.bool b0)) ∧
 ∃ (b1:Bool),(Vq w 221 #[.int .i64 x5,.int .i64 x3] (.bool b1)) ∧
 ∃ (b2:Bool),(Vq w 221 #[.int .i64 x1,.int .i64 x3] (.bool b2)) ∧
 ((b0=true)→( Vj_countdown_answer_T1 b1 b2 v b0))∧(¬ (b0=true)→( Vj_countdown_answer_T2 b0 v b1 b2))))∧(¬ (x2=2)→(
 ((x2=3)→(
 Vg_1 w ∧
 ∀ x4:Int,x4=(if x3 < x1 then x3 else x1) →
 ∀ x5:Int,x5=(if x4 > x0 then x4 else x0) →
 ∃ (b0:Bool),(Vq w 222 #[.int .i64 x0,.int .i64 x3] (.bool b0)) ∧
 ∃ (b1:Bool),(Vq w 222 #[.int .i64 x5,.int .i64 x3] (.bool b1)) ∧
 ∃ (b2:Bool),(Vq w 222 #[.int .i64 x1,.int .i64 x3] (.bool b2)) ∧
 ((b0=true)→( Vj_countdown_answer_T1 b1 b2 v b0))∧(¬ (b0=true)→( Vj_countdown_answer_T2 b0 v b1 b2))))∧(¬ (x2=3)→(
 ((x2=4)→(
 Vg_1 w ∧
 ∀ x4:Int,x4=(if x3 < x1 then x3 else x1) →
 ∀ x5:Int,x5=(if x4 > x0 then x4 else x0) →
 ∃ (b0:Bool),(Vq w 223 #[.int .i64 x0,.int .i64 x3] (.bool b0)) ∧
 ∃ (b1:Bool),(Vq w 223 #[.int .i64 x5,.int .i64 x3] (.bool b1)) ∧
 ∃ (b2:Bool),(Vq w 223 #[.int .i64 x1,.int .i64 x3] (.bool b2)) ∧
 ((b0=true)→( Vj_countdown_answer_T1 b1 b2 v b0))∧(¬ (b0=true)→( Vj_countdown_answer_T2 b0 v b1 b2))))∧(¬ (x2=4)→(
 Vg_1 w ∧
 ∀ x4:Int,x4=(if x3 < x1 then x3 else x1) →
 ∀ x5:Int,x5=(if x4 > x0 then x4 else x0) →
 ∃ (b0:Bool),(Vq w 224 #[.int .i64 x0,.int .i64 x3] (.bool b0)) ∧
 ∃ (b1:Bool),(Vq w 224 #[.int .i64 x5,.int .i64 x3] (.bool b1)) ∧
 ∃ (b2:Bool),(Vq w 224 #[.int .i64 x1,.int .i64 x3] (.bool b2)) ∧
 ((b0=true)→( Vj_countdown_answer_T1 b1 b2 v b0))∧(¬ (b0=true)→( Vj_countdown_answer_T2 b0 v b1 b2))))))))))))):Calls Tryz.prog 128 #[.agg #[.int .i64 x0,.int .i64 x1],.int .i64 x2,.int .i64 x3] w (Vc.Ret v w) :=
 Vc.zha base [] globs 200 Tryz.func128 (b:=(Tryz.f128.body).getD .skip) (by kernel_rfl) [.cv (.agg [.int .i64 (.var 0),.int .i64 (.var 1)]),.cv (.one (.int .i64 (.var 2))),.cv (.one (.int .i64 (.var 3)))] ⟨4,0,0,1,0,0,0⟩ [.glo 0 1] (Vc.envOf [x0,x1,x2,x3] [] [] [(1,0)]) (by kernel_rfl) (Vc.zhd (by kernel_rfl) rfl Vc.zta) (by kernel_rfl) (by kernel_rfl) h
theorem zpf(v0 v1 v2:Vc.OV)(hv0:v0.1=Value.iface 176 (.agg #[v1.1]))(w:World)(v:Value)(h :
 ∃ (x0:Int),(Vq w 68 #[v1.1,v2.1] (.int .i64 x0)) ∧
 ∀ x1:Int,x1=IntKind.i64.wrap (0 - x0) →
 (.int .i64 x1:Value)=v):Calls Tryz.prog 68 #[v0.1,v2.1] w (Vc.Ret v w) :=
 Vc.zha base [] [] 200 Tryz.func68 (b:=(Tryz.f68.body).getD .skip) (by kernel_rfl) [.cv (.one (.val 0)),.cv (.one (.val 2))] ⟨0,0,3,0,0,0,0⟩ [.ifc 0 176 (.agg [.val 1])] (Vc.envOf [] [] [v0,v1,v2] []) (by kernel_rfl) (Vc.zhd (by kernel_rfl) hv0 Vc.zta) (by kernel_rfl) (by kernel_rfl) h
theorem zqf(v0 v1 v2 v3:Vc.OV)(hv0:v0.1=Value.iface 180 (.agg #[v1.1,v2.1]))(w:World)(v:Value)(h :
 ∃ (x0:Int),(Vq w 68 #[v1.1,v3.1] (.int .i64 x0)) ∧
 ∃ (x1:Int),(Vq w 68 #[v2.1,v3.1] (.int .i64 x1)) ∧
 ∀ x2:Int,x2=(if x1 < x0 then x1 else x0) →
 (.int .i64 x2:Value)=v):Calls Tryz.prog 68 #[v0.1,v3.1] w (Vc.Ret v w) :=
 Vc.zha base [] [] 200 Tryz.func68 (b:=(Tryz.f68.body).getD .skip) (by kernel_rfl) [.cv (.one (.val 0)),.cv (.one (.val 3))] ⟨0,0,4,0,0,0,0⟩ [.ifc 0 180 (.agg [.val 1,.val 2])] (Vc.envOf [] [] [v0,v1,v2,v3] []) (by kernel_rfl) (Vc.zhd (by kernel_rfl) hv0 Vc.zta) (by kernel_rfl) (by kernel_rfl) h
theorem zrf(v0 v1 v2 v3:Vc.OV)(hv0:v0.1=Value.iface 181 (.agg #[v1.1,v2.1]))(w:World)(v:Value)(h :
 ∃ (x0:Int),(Vq w 68 #[v1.1,v3.1] (.int .i64 x0)) ∧
 ∃ (x1:Int),(Vq w 68 #[v2.1,v3.1] (.int .i64 x1)) ∧
 ∀ x2:Int,x2=(if x1 > x0 then x1 else x0) →
 (.int .i64 x2:Value)=v):Calls Tryz.prog 68 #[v0.1,v3.1] w (Vc.Ret v w) :=
 Vc.zha base [] [] 200 Tryz.func68 (b:=(Tryz.f68.body).getD .skip) (by kernel_rfl) [.cv (.one (.val 0)),.cv (.one (.val 3))] ⟨0,0,4,0,0,0,0⟩ [.ifc 0 181 (.agg [.val 1,.val 2])] (Vc.envOf [] [] [v0,v1,v2,v3] []) (by kernel_rfl) (Vc.zhd (by kernel_rfl) hv0 Vc.zta) (by kernel_rfl) (by kernel_rfl) h
theorem zsf(p0:Nat × Nat)(x0 x1 x2 x3 x4 x5 x6:Int)(b0:Bool)(s0:List UInt8)(w:World)(v:Value)(h :
 ∃ (x7:Int),(Vq w 45 #[.agg #[.int .i64 x0,.int .i64 x1,.string ⟨s0.toArray⟩,.int .i64 x2,.int .i64 x3,.int .i64 x4,(if b0=true then .slice none 0 0 else .slice (some (Vc.qad p0 (Int.toNat x5) (Int.toNat x6))) (Int.toNat x5) (Int.toNat x6):Value)],.int .i64 3000] (.int .i64 x7)) ∧
 (.bool (decide (x7 > 3000)):Value)=v):Calls Tryz.prog 15 #[.agg #[.int .i64 x0,.int .i64 x1,.string ⟨s0.toArray⟩,.int .i64 x2,.int .i64 x3,.int .i64 x4,(if b0=true then .slice none 0 0 else .slice (some (Vc.qad p0 (Int.toNat x5) (Int.toNat x6))) (Int.toNat x5) (Int.toNat x6):Value)]] w (Vc.Ret v w) :=
 Vc.zha base [] [] 200 Tryz.func15 (b:=(Tryz.f15.body).getD .skip) (by kernel_rfl) [.cv (.agg [.int .i64 (.var 0),.int .i64 (.var 1),.sv 0,.int .i64 (.var 2),.int .i64 (.var 3),.int .i64 (.var 4),.qsl 0 0 7 (.var 5) (.var 6)])] ⟨7,1,0,1,0,1,0⟩ [] (Vc.envOf [x0,x1,x2,x3,x4,x5,x6] [b0] [] [p0] [s0]) (by kernel_rfl) Vc.zta (by kernel_rfl) (by kernel_rfl) h
end Go.Proofs.YtdjgnbkclcjiiaaGreatDoor
