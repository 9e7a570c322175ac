import Derived.Test.YtdjgnbkclcjiiaaGreatDoorG0
set_option linter.unusedVariables false
set_option maxRecDepth 100000
namespace Go.Proofs.YtdjgnbkclcjiiaaGreatDoor
open Go Go.RowKit
theorem zde(p1 p2:Nat × Nat)(x0 x1 x2 x3 x4 x5 x6 x7 x8 x9 x10:Int)(b0 b1:Bool)(s0:List UInt8)(w:World)(v:Value)(h :
 ((x5=0)→(
 (0≤x0) ∧
 ((¬ (b0=true))∨(x0=0)) ∧
 ∀ x11:Int,x11=IntKind.i64.wrap (x0 - 1) →
 ∃ (Ix12:List Vc.Vl→Prop) (mx12:List Vc.Vl→Nat),Ix12 [.i x11,.i 0,.i 0]∧∀ (x12:Int) (x13:Int) (x14:Int),Ix12 [.i x12,.i x13,.i x14]→(
 ((0≤x12)→(
 (¬ (b0=true)) ∧
 (0≤x12) ∧
 (x12 < x0) ∧
 ∃ (s1:List UInt8),w.cell? ⟨p1.1,p1.2 + (Int.toNat x12) * 3 + 0,none⟩=some (.string ⟨s1.toArray⟩) ∧
 ∃ (x15:Int),w.cell? ⟨p1.1,p1.2 + (Int.toNat x12) * 3 + 1,none⟩=some (.int .i64 x15) ∧
 ∃ (x16:Int),w.cell? ⟨p1.1,p1.2 + (Int.toNat x12) * 3 + 2,none⟩=some (.int .i64 x16) ∧
 ((s1=s0)→(
 ((x2 < x15)→(
 ∀ x17:Int,x17=IntKind.i64.wrap (x12 - 1) →
 Ix12 [.i x17,.i x13,.i x14]∧mx12 [.i x17,.i x13,.i x14] < mx12 [.i x12,.i x13,.i x14]))∧(¬ (x2 < x15)→(
 ∀ x17:Int,x17=IntKind.i64.wrap (x2 - x3) →
 ((x15 < x17)→(
 Vg_3 w ∧
 (.agg #[.int .i64 (-1099511627776),.int .i64 1099511627776]:Value)=v))∧(¬ (x15 < x17)→(
 (.agg #[.int .i64 x16,.int .i64 x16]:Value)=v))))))∧(¬ (s1=s0)→(
 ∀ x17:Int,x17=IntKind.i64.wrap (x12 - 1) →
 Ix12 [.i x17,.i x13,.i x14]∧mx12 [.i x17,.i x13,.i x14] < mx12 [.i x12,.i x13,.i x14]))))∧(¬ (0≤x12)→(
 Vg_3 w ∧
 (.agg #[.int .i64 (-1099511627776),.int .i64 1099511627776]:Value)=v)))))∧(¬ (x5=0)→(
 ∃ (b2:Bool) (p3:Nat × Nat) (x11 x12:Int),∃ (b3:Bool),(Vq w 129 #[.agg #[(if b0=true then .slice none 0 0 else .slice (some (Vc.qad p1 (Int.toNat x0) (Int.toNat x1))) (Int.toNat x0) (Int.toNat x1):Value),.int .i64 x2,.int .i64 x3],.string ⟨s0.toArray⟩,.int .i64 x6] (.tuple #[(if b2=true then .slice none 0 0 else .slice (some (Vc.qad p3 (Int.toNat x11) (Int.toNat x12))) (Int.toNat x11) (Int.toNat x12):Value),.bool b3])) ∧
 Vg_3 w ∧
 (0≤x11) ∧
 ((¬ (b2=true))∨(x11=0)) ∧
 ∃ (Ix13:List Vc.Vl→Prop) (mx13:List Vc.Vl→Nat),Ix13 [.i 0,.i (-1099511627776),.i 1099511627776]∧∀ (x13:Int) (x14:Int) (x15:Int),Ix13 [.i x13,.i x14,.i x15]→(
 ((x13 < x11)→(
 (¬ (b2=true)) ∧
 (0≤x13) ∧
 (x13 < x11) ∧
 ∃ (s1:List UInt8),w.cell? ⟨p3.1,p3.2 + (Int.toNat x13) * 3 + 0,none⟩=some (.string ⟨s1.toArray⟩) ∧
 ∃ (x16:Int),w.cell? ⟨p3.1,p3.2 + (Int.toNat x13) * 3 + 1,none⟩=some (.int .i64 x16) ∧
 ∃ (x17:Int),w.cell? ⟨p3.1,p3.2 + (Int.toNat x13) * 3 + 2,none⟩=some (.int .i64 x17) ∧
 ∀ x18:Int,x18=(if x17 > x14 then x17 else x14) →
 ∀ x19:Int,x19=(if x17 < x15 then x17 else x15) →
 ∀ x20:Int,x20=IntKind.i64.wrap (x13 + 1) →
 Ix13 [.i x20,.i x18,.i x19]∧mx13 [.i x20,.i x18,.i x19] < mx13 [.i x13,.i x14,.i x15]))∧(¬ (x13 < x11)→(
 ((x5=1)→(
 ((b3=true)→(
 (.agg #[.int .i64 x14,.int .i64 x14]:Value)=v))∧(¬ (b3=true)→(
 (.agg #[.int .i64 x14,.int .i64 1099511627776]:Value)=v))))∧(¬ (x5=1)→(
 ((b3=true)→(
 (.agg #[.int .i64 x15,.int .i64 x15]:Value)=v))∧(¬ (b3=true)→(
 (.agg #[.int .i64 (-1099511627776),.int .i64 x15]:Value)=v)))))))))):Calls Tryz.prog 69 #[.agg #[(if b0=true then .slice none 0 0 else .slice (some (Vc.qad p1 (Int.toNat x0) (Int.toNat x1))) (Int.toNat x0) (Int.toNat x1):Value),.int .i64 x2,.int .i64 x3],.agg #[.int .i64 x4,.int .i64 x5,.string ⟨s0.toArray⟩,.int .i64 x6,.int .i64 x7,.int .i64 x8,(if b1=true then .slice none 0 0 else .slice (some (Vc.qad p2 (Int.toNat x9) (Int.toNat x10))) (Int.toNat x9) (Int.toNat x10):Value)]] w (Vc.Ret v w) :=
 Vc.zha base [(2000000000003,.inv [(4,0),(4,1)] [5] [19,20,23,24,25,26,27,6,28,29,30,31,32,33,34,35,36,37,38,39,40,41,42,43,44,45,46,47,48,49,50,51,52,21,22]),(1000000000013,.inv [(9,0),(9,1)] [66] [67,68,69,11,70,71,72,73,74,75,76,77,78,79,80,81,82])] globs 200 Tryz.func69 (b:=(Tryz.f69.body).getD .skip) (by kernel_rfl) [.cv (.agg [.qsl 0 1 3 (.var 0) (.var 1),.int .i64 (.var 2),.int .i64 (.var 3)]),.cv (.agg [.int .i64 (.var 4),.int .i64 (.var 5),.sv 0,.int .i64 (.var 6),.int .i64 (.var 7),.int .i64 (.var 8),.qsl 1 2 7 (.var 9) (.var 10)])] ⟨11,2,0,3,0,1,0⟩ [.glo 0 3] (Vc.envOf [x0,x1,x2,x3,x4,x5,x6,x7,x8,x9,x10] [b0,b1] [] [(3,0),p1,p2] [s0]) (by kernel_rfl) (Vc.zhd (by kernel_rfl) rfl Vc.zta) (by kernel_rfl) (by kernel_rfl) h
theorem zlh(p0 p1:Nat × Nat)(x0 x1 x2 x3 x4 x5 x6 x7 x8 x9 x10:Int)(b0 b1:Bool)(s0:List UInt8)(w:World)(v:Value)(h :
 ∃ (v0:Vc.OV),∃ (b2:Bool),(Vq w 49 #[.agg #[.int .i64 x0,.int .i64 x1,.string ⟨s0.toArray⟩,.int .i64 x2,.int .i64 x3,.int .i64 x4,(if b0=true then .slice none 0 0 else .slice (some (Vc.qad p0 (Int.toNat x5) (Int.toNat x6))) (Int.toNat x5) (Int.toNat x6):Value)]] (.tuple #[v0.1,.bool b2])) ∧
 ((b2=true)→(
 ∃ (b3:Bool),(Vq w 66 #[(if b1=true then .slice none 0 0 else .slice (some (Vc.qad p1 (Int.toNat x7) (Int.toNat x8))) (Int.toNat x7) (Int.toNat x8):Value)] (.bool b3)) ∧
 ((b3=true)→(
 ((0≤x9)→(
 ((x9≤1073741824)→(
 ((0≤x10)→(
 ((x10≤1000)→(
 ∃ (x11:Int),(∀ (β:Nat→Nat) (w':World),Below w.heap.size w w'→(True)→Calls Tryz.prog 68 #[v0.1,.func (.func 69) #[.agg #[(if b1=true then .slice none 0 0 else .slice (some (Vc.qad p1 (Int.toNat x7) (Int.toNat x8))) (Int.toNat x7) (Int.toNat x8):Value),.int .i64 x9,.int .i64 x10]] #[]] w' (Vc.Ret (.int .i64 x11) w')) ∧
 (.tuple #[.int .i64 x11,.int .i64 0]:Value)=v))∧(¬ (x10≤1000)→(
 (.tuple #[.int .i64 0,.int .i64 4]:Value)=v))))∧(¬ (0≤x10)→(
 (.tuple #[.int .i64 0,.int .i64 4]:Value)=v))))∧(¬ (x9≤1073741824)→(
 (.tuple #[.int .i64 0,.int .i64 4]:Value)=v))))∧(¬ (0≤x9)→(
 (.tuple #[.int .i64 0,.int .i64 4]:Value)=v))))∧(¬ (b3=true)→(
 (.tuple #[.int .i64 0,.int .i64 2]:Value)=v))))∧(¬ (b2=true)→(
 (.tuple #[.int .i64 0,.int .i64 2]:Value)=v))):Calls Tryz.prog 29 #[.agg #[.int .i64 x0,.int .i64 x1,.string ⟨s0.toArray⟩,.int .i64 x2,.int .i64 x3,.int .i64 x4,(if b0=true then .slice none 0 0 else .slice (some (Vc.qad p0 (Int.toNat x5) (Int.toNat x6))) (Int.toNat x5) (Int.toNat x6):Value)],(if b1=true then .slice none 0 0 else .slice (some (Vc.qad p1 (Int.toNat x7) (Int.toNat x8))) (Int.toNat x7) (Int.toNat x8):Value),.int .i64 x9,.int .i64 x10] w (Vc.Ret v w) :=
 Vc.zha (zkf [67] (by kernel_rfl)) [] [] 200 Tryz.func29 (b:=(Tryz.f29.body).getD .skip) (by kernel_rfl) [.cv (.agg [.int .i64 (.var 0),.int .i64 (.var 1),.sv 0,.int .i64 (.var 2),.int .i64 (.var 3),.int .i64 (.var 4),.qsl 0 0 7 (.var 5) (.var 6)]),.cv (.one (.qsl 1 1 3 (.var 7) (.var 8))),.cv (.one (.int .i64 (.var 9))),.cv (.one (.int .i64 (.var 10)))] ⟨11,2,0,2,0,1,0⟩ [] (Vc.envOf [x0,x1,x2,x3,x4,x5,x6,x7,x8,x9,x10] [b0,b1] [] [p0,p1] [s0]) (by kernel_rfl) Vc.zta (by kernel_rfl) (by kernel_rfl) h
end Go.Proofs.YtdjgnbkclcjiiaaGreatDoor
