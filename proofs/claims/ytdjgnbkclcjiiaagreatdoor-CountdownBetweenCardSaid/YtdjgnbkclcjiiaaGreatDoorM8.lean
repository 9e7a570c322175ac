import Derived.Test.YtdjgnbkclcjiiaaGreatDoorG0
set_option linter.unusedVariables false
set_option maxRecDepth 100000
namespace Go.Proofs.YtdjgnbkclcjiiaaGreatDoor
open Go Go.RowKit
abbrev Vj_ullagelaw10_CountdownBetween_T1(w:World)(v:Value):Prop :=
 ∃ (b1:Bool),(Vq w 16 #[] (.bool b1)) ∧
 (.bool b1:Value)=v
theorem ztb(p0:Nat × Nat)(x0 x1 x2 x3 x4 x5:Int)(b0:Bool)(s0:List UInt8)(w:World)(v:Value)(h :
 ∀ x6:Int,x6=((s0.length:Nat):Int) →
 ((100 < x6)→( Vj_ullagelaw10_CountdownBetween_T1 w v))∧(¬ (100 < x6)→(
 (0≤x0) ∧
 ((¬ (b0=true))∨(x0=0)) ∧
 ((150 < x0)→( Vj_ullagelaw10_CountdownBetween_T1 w v))∧(¬ (150 < x0)→(
 ∃ (x7:Int),∃ (x8:Int),(Vq w 29 #[.agg #[.int .i64 1,.int .i64 1,.string ⟨s0.toArray⟩,.int .i64 x4,.int .i64 0,.int .i64 x5,.slice none 0 0],(if b0=true then .slice none 0 0 else .slice (some (Vc.qad p0 (Int.toNat x0) (Int.toNat x1))) (Int.toNat x0) (Int.toNat x1):Value),.int .i64 x2,.int .i64 x3] (.tuple #[.int .i64 x7,.int .i64 x8])) ∧
 ∃ (x9:Int),∃ (x10:Int),(Vq w 29 #[.agg #[.int .i64 1,.int .i64 2,.string ⟨s0.toArray⟩,.int .i64 x4,.int .i64 3,.int .i64 x5,.slice none 0 0],(if b0=true then .slice none 0 0 else .slice (some (Vc.qad p0 (Int.toNat x0) (Int.toNat x1))) (Int.toNat x0) (Int.toNat x1):Value),.int .i64 x2,.int .i64 x3] (.tuple #[.int .i64 x9,.int .i64 x10])) ∧
 ((x8=x10)→(
 ((x7=1)→(
 ((x9=1)→(
 (.bool false:Value)=v))∧(¬ (x9=1)→( Vj_ullagelaw10_CountdownBetween_T1 w v))))∧(¬ (x7=1)→( Vj_ullagelaw10_CountdownBetween_T1 w v))))∧(¬ (x8=x10)→(
 (.bool false:Value)=v))))))):Calls Tryz.prog 9 #[.string ⟨s0.toArray⟩,.agg #[(if b0=true then .slice none 0 0 else .slice (some (Vc.qad p0 (Int.toNat x0) (Int.toNat x1))) (Int.toNat x0) (Int.toNat x1):Value),.int .i64 x2,.int .i64 x3],.agg #[.int .i64 x4,.int .i64 x5]] w (Vc.Ret v w) :=
 Vc.zma base [] [] 200 Tryz.func9 (b:=(Tryz.f9.body).getD .skip) (by kernel_rfl) [.cv (.one (.sv 0)),.cv (.agg [.qsl 0 0 3 (.var 0) (.var 1),.int .i64 (.var 2),.int .i64 (.var 3)]),.cv (.agg [.int .i64 (.var 4),.int .i64 (.var 5)])] ⟨6,1,0,1,0,1,0⟩ [] (Vc.envOf [x0,x1,x2,x3,x4,x5] [b0] [] [p0] [s0]) (by kernel_rfl) Vc.zab (by kernel_rfl) (by kernel_rfl) h
end Go.Proofs.YtdjgnbkclcjiiaaGreatDoor
