import Derived.Test.YtocleppbcngcjaaGreatDoorG0
set_option linter.unusedVariables false
set_option maxRecDepth 100000
namespace Go.Proofs.YtocleppbcngcjaaGreatDoor
open Go Go.RowKit
theorem Yu(p0 p1:Nat × Nat)(x0 x1 x2 x3 x4 x5 x6 x7:Int)(b0 b1:Bool)(s0:List UInt8)(w:World)(v:Value)(h :
 ∃(x8:Int),∃(x9:Int),∃(bd:Int),(Vq w 45 #[.agg #[.string ⟨s0.toArray⟩,(if b0=true then .slice none 0 0 else .slice (some (Vc.dJ p0 x0.toNat x1.toNat)) x0.toNat x1.toNat:Value),.int .i64 x2,.int .i64 x3,(if b1=true then .slice none 0 0 else .slice (some (Vc.dJ p1 x4.toNat x5.toNat)) x4.toNat x5.toNat:Value),.int .i64 x6,.int .i64 x7]] (.tuple #[.int .i64 x8,.int .i64 x9,.int .i64 bd])) /\(.bool (bd == 0):Value)=v):Calls Tryz.prog 17 #[.agg #[.string ⟨s0.toArray⟩,(if b0=true then .slice none 0 0 else .slice (some (Vc.dJ p0 x0.toNat x1.toNat)) x0.toNat x1.toNat:Value),.int .i64 x2,.int .i64 x3,(if b1=true then .slice none 0 0 else .slice (some (Vc.dJ p1 x4.toNat x5.toNat)) x4.toNat x5.toNat:Value),.int .i64 x6,.int .i64 x7]] w (Vc.Ret v w) :=
 Vc.zb base [] [] 200 Tryz.func17 (b:=(Tryz.f17.body).getD .skip) (by kernel_rfl) [.cv (.agg [.sv 0,.fG 0 0 6 (.var 0) (.var 1),.int .i64 (.var 2),.int .i64 (.var 3),.fG 1 1 3 (.var 4) (.var 5),.int .i64 (.var 6),.int .i64 (.var 7)])] ⟨8,2,0,2,0,1,0⟩ [] (Vc.aI [x0,x1,x2,x3,x4,x5,x6,x7] [b0,b1] [] [p0,p1] [s0]) (by kernel_rfl) Vc.zc (by kernel_rfl) (by kernel_rfl) h
theorem Yv(x0 x1 x2:Int)(w:World)(v:Value)(h :
 ((x1<=x0)->((.bool (decide (x0<=x2)):Value)=v))/\(¬(x1<=x0)->((.bool false:Value)=v))):Calls Tryz.prog 18 #[.int .i64 x0,.int .i64 x1,.int .i64 x2] w (Vc.Ret v w) :=
 Vc.zb base [] [] 200 Tryz.func18 (b:=(Tryz.f18.body).getD .skip) (by kernel_rfl) [.cv (.one (.int .i64 (.var 0))),.cv (.one (.int .i64 (.var 1))),.cv (.one (.int .i64 (.var 2)))] ⟨3,0,0,0,0,0,0⟩ [] (Vc.aI [x0,x1,x2] [] [] []) (by kernel_rfl) Vc.zc (by kernel_rfl) (by kernel_rfl) h
end Go.Proofs.YtocleppbcngcjaaGreatDoor
