import Derived.Test.YtdjgnbkclcjiiaaGreatDoorG0
set_option linter.unusedVariables false
set_option maxRecDepth 100000
namespace Go.Proofs.YtdjgnbkclcjiiaaGreatDoor
open Go Go.RowKit
theorem zze(p0:Nat × Nat)(x0 x1:Int)(b0:Bool)(w:World)(v:Value)(h :
 (0≤x0) ∧
 ((¬ (b0=true))∨(x0=0)) ∧
 ∃ (Ib1:List Vc.Vl→Prop) (mb1:List Vc.Vl→Nat),Ib1 [.b false,.i 0,.l (([]:List Value))]∧∀ (b1:Bool) (x2:Int) (l0:List Vc.OV),Ib1 [.b b1,.i x2,.l ((l0.map (·.1)++(([]:List Value))))]→(
 ((x2 < x0)→(
 (¬ (b0=true)) ∧
 (0≤x2) ∧
 (x2 < x0) ∧
 ∃ (s0:List UInt8),w.cell? ⟨p0.1,p0.2 + (Int.toNat x2) * 3 + 0,none⟩=some (.string ⟨s0.toArray⟩) ∧
 ∃ (x3:Int),w.cell? ⟨p0.1,p0.2 + (Int.toNat x2) * 3 + 1,none⟩=some (.int .i64 x3) ∧
 ∃ (x4:Int),w.cell? ⟨p0.1,p0.2 + (Int.toNat x2) * 3 + 2,none⟩=some (.int .i64 x4) ∧
 ∃ (b2:Bool),(Vq w 127 #[.string ⟨s0.toArray⟩] (.bool b2)) ∧
 ((b2=true)→(
 (Vc.keysOk [.str] 2 ((l0.map (·.1)++(([]:List Value))))=true)∧∀ x5:Int,x5=Vc.mfind 1 2 ([.string ⟨s0.toArray⟩]:List Value) ((l0.map (·.1)++(([]:List Value)))) →
 ((0≤x5)→(
 ∃ (x6:Int),((l0.map (·.1)++(([]:List Value))))[(Int.toNat x5) * 2 + 1]? = some (.int .i64 x6) ∧
 ((x6≤x3)→(
 ((x3≤1073741824)→(
 (((-1073741824)≤x4)→(
 ((x4≤1073741824)→(
 (Vc.keysOk [.str] 2 ((l0.map (·.1)++(([]:List Value))))=true)∧∀ x7:Int,x7=Vc.mfind 1 2 ([.string ⟨s0.toArray⟩]:List Value) ((l0.map (·.1)++(([]:List Value)))) →
 ((0≤x7)→(
 ∀ l1:List Vc.OV,l1.map (·.1)=((l0.map (·.1)++(([]:List Value)))).take ((Int.toNat x7) * 2 + 1)++([.int .i64 x3]:List Value)++((l0.map (·.1)++(([]:List Value)))).drop ((Int.toNat x7) * 2 + 1 + 1) →
 ∀ x8:Int,x8=IntKind.i64.wrap (x2 + 1) →
 Ib1 [.b b1,.i x8,.l ((l1.map (·.1)++(([]:List Value))))]∧mb1 [.b b1,.i x8,.l ((l1.map (·.1)++(([]:List Value))))] < mb1 [.b b1,.i x2,.l ((l0.map (·.1)++(([]:List Value))))]))∧(¬ (0≤x7)→(
 ∀ x8:Int,x8=IntKind.i64.wrap (x2 + 1) →
 Ib1 [.b b1,.i x8,.l ((l0.map (·.1)++(([.string ⟨s0.toArray⟩,.int .i64 x3]:List Value))))]∧mb1 [.b b1,.i x8,.l ((l0.map (·.1)++(([.string ⟨s0.toArray⟩,.int .i64 x3]:List Value))))] < mb1 [.b b1,.i x2,.l ((l0.map (·.1)++(([]:List Value))))]))))∧(¬ (x4≤1073741824)→(
 (.bool false:Value)=v))))∧(¬ ((-1073741824)≤x4)→(
 (.bool false:Value)=v))))∧(¬ (x3≤1073741824)→(
 (.bool false:Value)=v))))∧(¬ (x6≤x3)→(
 (.bool false:Value)=v))))∧(¬ (0≤x5)→(
 ((0≤x3)→(
 ((x3≤1073741824)→(
 (((-1073741824)≤x4)→(
 ((x4≤1073741824)→(
 (Vc.keysOk [.str] 2 ((l0.map (·.1)++(([]:List Value))))=true)∧∀ x6:Int,x6=Vc.mfind 1 2 ([.string ⟨s0.toArray⟩]:List Value) ((l0.map (·.1)++(([]:List Value)))) →
 ((0≤x6)→(
 ∀ l1:List Vc.OV,l1.map (·.1)=((l0.map (·.1)++(([]:List Value)))).take ((Int.toNat x6) * 2 + 1)++([.int .i64 x3]:List Value)++((l0.map (·.1)++(([]:List Value)))).drop ((Int.toNat x6) * 2 + 1 + 1) →
 ∀ x7:Int,x7=IntKind.i64.wrap (x2 + 1) →
 Ib1 [.b b1,.i x7,.l ((l1.map (·.1)++(([]:List Value))))]∧mb1 [.b b1,.i x7,.l ((l1.map (·.1)++(([]:List Value))))] < mb1 [.b b1,.i x2,.l ((l0.map (·.1)++(([]:List Value))))]))∧(¬ (0≤x6)→(
 ∀ x7:Int,x7=IntKind.i64.wrap (x2 + 1) →
 Ib1 [.b b1,.i x7,.l ((l0.map (·.1)++(([.string ⟨s0.toArray⟩,.int .i64 x3]:List Value))))]∧mb1 [.b b1,.i x7,.l ((l0.map (·.1)++(([.string ⟨s0.toArray⟩,.int .i64 x3]:List Value))))] < mb1 [.b b1,.i x2,.l ((l0.map (·.1)++(([]:List Value))))]))))∧(¬ (x4≤1073741824)→(
 (.bool false:Value)=v))))∧(¬ ((-1073741824)≤x4)→(
 (.bool false:Value)=v))))∧(¬ (x3≤1073741824)→(
 (.bool false:Value)=v))))∧(¬ (0≤x3)→(
 (.bool false:Value)=v))))))∧(¬ (b2=true)→(
 (.bool false:Value)=v))))∧(¬ (x2 < x0)→(
 (0≤x0) ∧
 ((¬ (b0=true))∨(x0=0)) ∧
 (.bool (decide (x0≤1000)):Value)=v)))):Calls Tryz.prog 66 #[(if b0=true then .slice none 0 0 else .slice (some (Vc.qad p0 (Int.toNat x0) (Int.toNat x1))) (Int.toNat x0) (Int.toNat x1):Value)] w (Vc.Ret v w) :=
 Vc.zha (zkf [67] (by kernel_rfl)) [(1000000000003,.inv [(3,0)] [2,9] [10,11,12,5,13,14,15,16,17,18,19,20,21,22,23,24,25,26,27,28,29,30,31,32,33,34,35,36,37,38])] [] 200 Tryz.func66 (b:=(Tryz.f66.body).getD .skip) (by kernel_rfl) [.cv (.one (.qsl 0 0 3 (.var 0) (.var 1)))] ⟨2,1,0,1,0,0,0⟩ [] (Vc.envOf [x0,x1] [b0] [] [p0]) (by kernel_rfl) Vc.zta (by kernel_rfl) (by kernel_rfl) h
end Go.Proofs.YtdjgnbkclcjiiaaGreatDoor
