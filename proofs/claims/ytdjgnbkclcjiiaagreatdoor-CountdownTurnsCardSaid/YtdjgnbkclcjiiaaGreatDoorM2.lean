import Derived.Test.YtdjgnbkclcjiiaaGreatDoorG0
set_option linter.unusedVariables false
set_option maxRecDepth 100000
namespace Go.Proofs.YtdjgnbkclcjiiaaGreatDoor
open Go Go.RowKit
theorem znf(p0:Nat × Nat)(x0 x1 x2 x3 x4 x5 x6 x7:Int)(b0:Bool)(s0:List UInt8)(w:World)(v:Value)(h :
 ((21 < x7)→(
 (.tuple #[.int .i64 1000,.int .i64 1000]:Value)=v))∧(¬ (21 < x7)→(
 ∃ (Ix8:List Vc.Vl→Prop) (mx8:List Vc.Vl→Nat),Ix8 [.i 1,.i 1,.i 0]∧∀ (x8:Int) (x9:Int) (x10:Int),Ix8 [.i x8,.i x9,.i x10]→(
 (0≤x5) ∧
 ((¬ (b0=true))∨(x5=0)) ∧
 ((x10 < x5)→(
 ((x8≤200)→(
 (¬ (b0=true)) ∧
 (0≤x10) ∧
 (x10 < x5) ∧
 ∃ (x11:Int),w.cell? ⟨p0.1,p0.2 + (Int.toNat x10) * 7 + 0,none⟩=some (.int .i64 x11) ∧
 ∃ (x12:Int),w.cell? ⟨p0.1,p0.2 + (Int.toNat x10) * 7 + 1,none⟩=some (.int .i64 x12) ∧
 ∃ (s1:List UInt8),w.cell? ⟨p0.1,p0.2 + (Int.toNat x10) * 7 + 2,none⟩=some (.string ⟨s1.toArray⟩) ∧
 ∃ (x13:Int),w.cell? ⟨p0.1,p0.2 + (Int.toNat x10) * 7 + 3,none⟩=some (.int .i64 x13) ∧
 ∃ (x14:Int),w.cell? ⟨p0.1,p0.2 + (Int.toNat x10) * 7 + 4,none⟩=some (.int .i64 x14) ∧
 ∃ (x15:Int),w.cell? ⟨p0.1,p0.2 + (Int.toNat x10) * 7 + 5,none⟩=some (.int .i64 x15) ∧
 ∃ (b1:Bool) (p1:Nat × Nat) (x16 x17:Int),w.cell? ⟨p0.1,p0.2 + (Int.toNat x10) * 7 + 6,none⟩=some ((if b1=true then .slice none 0 0 else .slice (some (Vc.qad p1 (Int.toNat x16) (Int.toNat x17))) (Int.toNat x16) (Int.toNat x17):Value)) ∧
 ∀ x18:Int,x18=IntKind.i64.wrap (x7 + 1) →
 ∃ (x19:Int),∃ (x20:Int),(Vq w 56 #[.agg #[.int .i64 x11,.int .i64 x12,.string ⟨s1.toArray⟩,.int .i64 x13,.int .i64 x14,.int .i64 x15,(if b1=true then .slice none 0 0 else .slice (some (Vc.qad p1 (Int.toNat x16) (Int.toNat x17))) (Int.toNat x16) (Int.toNat x17):Value)],.int .i64 x18] (.tuple #[.int .i64 x19,.int .i64 x20])) ∧
 ∀ x21:Int,x21=IntKind.i64.wrap (x8 + x19) →
 ∀ x22:Int,x22=IntKind.i64.wrap (x20 + 1) →
 ∀ x23:Int,x23=(if x22 > x9 then x22 else x9) →
 ∀ x24:Int,x24=IntKind.i64.wrap (x10 + 1) →
 Ix8 [.i x21,.i x23,.i x24]∧mx8 [.i x21,.i x23,.i x24] < mx8 [.i x8,.i x9,.i x10]))∧(¬ (x8≤200)→(
 (.tuple #[.int .i64 x8,.int .i64 x9]:Value)=v))))∧(¬ (x10 < x5)→(
 (.tuple #[.int .i64 x8,.int .i64 x9]:Value)=v)))))):Calls Tryz.prog 56 #[.agg #[.int .i64 x0,.int .i64 x1,.string ⟨s0.toArray⟩,.int .i64 x2,.int .i64 x3,.int .i64 x4,(if b0=true then .slice none 0 0 else .slice (some (Vc.qad p0 (Int.toNat x5) (Int.toNat x6))) (Int.toNat x5) (Int.toNat x6):Value)],.int .i64 x7] w (Vc.Ret v w) :=
 Vc.zha base [(9000000000005,.inv [] [6,7,8] [13,14,15,16,17,18,19,20,21,25,26,27,28,29,30,31,32,24,33,34,9,10,35,36,37,38,39,40,41,22,23])] [] 200 Tryz.func56 (b:=(Tryz.f56.body).getD .skip) (by kernel_rfl) [.cv (.agg [.int .i64 (.var 0),.int .i64 (.var 1),.sv 0,.int .i64 (.var 2),.int .i64 (.var 3),.int .i64 (.var 4),.qsl 0 0 7 (.var 5) (.var 6)]),.cv (.one (.int .i64 (.var 7)))] ⟨8,1,0,1,0,1,0⟩ [] (Vc.envOf [x0,x1,x2,x3,x4,x5,x6,x7] [b0] [] [p0] [s0]) (by kernel_rfl) Vc.zta (by kernel_rfl) (by kernel_rfl) h
theorem zkg(p0:Nat × Nat)(x0 x1 x2 x3 x4 x5 x6 x7:Int)(b0:Bool)(s0:List UInt8)(w:World)(v:Value)(h :
 ∀ x8:Int,x8=((s0.length:Nat):Int) →
 ∀ x9:Int,x9=IntKind.i64.wrap (1 + x8) →
 ∃ (Ix10:List Vc.Vl→Prop) (mx10:List Vc.Vl→Nat),Ix10 [.i x9,.i 0]∧∀ (x10:Int) (x11:Int),Ix10 [.i x10,.i x11]→(
 (0≤x5) ∧
 ((¬ (b0=true))∨(x5=0)) ∧
 ((x11 < x5)→(
 ((x10≤x7)→(
 (¬ (b0=true)) ∧
 (0≤x11) ∧
 (x11 < x5) ∧
 ∃ (x12:Int),w.cell? ⟨p0.1,p0.2 + (Int.toNat x11) * 7 + 0,none⟩=some (.int .i64 x12) ∧
 ∃ (x13:Int),w.cell? ⟨p0.1,p0.2 + (Int.toNat x11) * 7 + 1,none⟩=some (.int .i64 x13) ∧
 ∃ (s1:List UInt8),w.cell? ⟨p0.1,p0.2 + (Int.toNat x11) * 7 + 2,none⟩=some (.string ⟨s1.toArray⟩) ∧
 ∃ (x14:Int),w.cell? ⟨p0.1,p0.2 + (Int.toNat x11) * 7 + 3,none⟩=some (.int .i64 x14) ∧
 ∃ (x15:Int),w.cell? ⟨p0.1,p0.2 + (Int.toNat x11) * 7 + 4,none⟩=some (.int .i64 x15) ∧
 ∃ (x16:Int),w.cell? ⟨p0.1,p0.2 + (Int.toNat x11) * 7 + 5,none⟩=some (.int .i64 x16) ∧
 ∃ (b1:Bool) (p1:Nat × Nat) (x17 x18:Int),w.cell? ⟨p0.1,p0.2 + (Int.toNat x11) * 7 + 6,none⟩=some ((if b1=true then .slice none 0 0 else .slice (some (Vc.qad p1 (Int.toNat x17) (Int.toNat x18))) (Int.toNat x17) (Int.toNat x18):Value)) ∧
 ∃ (x19:Int),(Vq w 45 #[.agg #[.int .i64 x12,.int .i64 x13,.string ⟨s1.toArray⟩,.int .i64 x14,.int .i64 x15,.int .i64 x16,(if b1=true then .slice none 0 0 else .slice (some (Vc.qad p1 (Int.toNat x17) (Int.toNat x18))) (Int.toNat x17) (Int.toNat x18):Value)],.int .i64 x7] (.int .i64 x19)) ∧
 ∀ x20:Int,x20=IntKind.i64.wrap (x10 + x19) →
 ∀ x21:Int,x21=IntKind.i64.wrap (x11 + 1) →
 Ix10 [.i x20,.i x21]∧mx10 [.i x20,.i x21] < mx10 [.i x10,.i x11]))∧(¬ (x10≤x7)→(
 (.int .i64 x10:Value)=v))))∧(¬ (x11 < x5)→(
 (.int .i64 x10:Value)=v)))):Calls Tryz.prog 45 #[.agg #[.int .i64 x0,.int .i64 x1,.string ⟨s0.toArray⟩,.int .i64 x2,.int .i64 x3,.int .i64 x4,(if b0=true then .slice none 0 0 else .slice (some (Vc.qad p0 (Int.toNat x5) (Int.toNat x6))) (Int.toNat x5) (Int.toNat x6):Value)],.int .i64 x7] w (Vc.Ret v w) :=
 Vc.zha base [(10000000000003,.inv [] [5,6] [11,12,13,14,15,16,17,18,19,20,23,24,25,26,27,28,29,30,31,21,22])] [] 200 Tryz.func45 (b:=(Tryz.f45.body).getD .skip) (by kernel_rfl) [.cv (.agg [.int .i64 (.var 0),.int .i64 (.var 1),.sv 0,.int .i64 (.var 2),.int .i64 (.var 3),.int .i64 (.var 4),.qsl 0 0 7 (.var 5) (.var 6)]),.cv (.one (.int .i64 (.var 7)))] ⟨8,1,0,1,0,1,0⟩ [] (Vc.envOf [x0,x1,x2,x3,x4,x5,x6,x7] [b0] [] [p0] [s0]) (by kernel_rfl) Vc.zta (by kernel_rfl) (by kernel_rfl) h
end Go.Proofs.YtdjgnbkclcjiiaaGreatDoor
