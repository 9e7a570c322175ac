import Derived.Test.YtkjmhcejdiglfacGreatDoorG0
set_option linter.unusedVariables false
set_option maxRecDepth 100000
namespace Go.Proofs.YtkjmhcejdiglfacGreatDoor
open Go Go.RowKit
theorem zwi(x0 x1 x2 x3 x4 x5 x6 x7 x8 x9:Int)(s0:List UInt8)(w:World)(v:Value)(h :
 (.agg #[.int .i64 x1,.int .i64 x2]:Value)=v):Calls Tryz.prog 20 #[.agg #[.string ⟨s0.toArray⟩,.int .i64 x0,.int .i64 x1,.int .i64 x2,.int .i64 x3,.int .i64 x4,.int .i64 x5,.int .i64 x6,.int .i64 x7,.int .i64 x8,.int .i64 x9]] w (Vc.Ret v w) :=
 Vc.zb base [] [] 200 Tryz.func20 (b:=(Tryz.f20.body).getD .skip) (by kernel_rfl) [.cv (.agg [.sv 0,.int .i64 (.var 0),.int .i64 (.var 1),.int .i64 (.var 2),.int .i64 (.var 3),.int .i64 (.var 4),.int .i64 (.var 5),.int .i64 (.var 6),.int .i64 (.var 7),.int .i64 (.var 8),.int .i64 (.var 9)])] ⟨10,0,0,0,0,1,0⟩ [] (Vc.envOf [x0,x1,x2,x3,x4,x5,x6,x7,x8,x9] [] [] [] [s0]) (by kernel_rfl) Vc.zc (by kernel_rfl) (by kernel_rfl) h
theorem vc_vehicle_flow(x0 x1 x2 x3 x4 x5 x6 x7 x8 x9:Int)(s0:List UInt8)(w:World)(v:Value)(h :
 (.agg #[.int .i64 x3,.int .i64 x4]:Value)=v):Calls Tryz.prog 21 #[.agg #[.string ⟨s0.toArray⟩,.int .i64 x0,.int .i64 x1,.int .i64 x2,.int .i64 x3,.int .i64 x4,.int .i64 x5,.int .i64 x6,.int .i64 x7,.int .i64 x8,.int .i64 x9]] w (Vc.Ret v w) :=
 Vc.zb base [] [] 200 Tryz.func21 (b:=(Tryz.f21.body).getD .skip) (by kernel_rfl) [.cv (.agg [.sv 0,.int .i64 (.var 0),.int .i64 (.var 1),.int .i64 (.var 2),.int .i64 (.var 3),.int .i64 (.var 4),.int .i64 (.var 5),.int .i64 (.var 6),.int .i64 (.var 7),.int .i64 (.var 8),.int .i64 (.var 9)])] ⟨10,0,0,0,0,1,0⟩ [] (Vc.envOf [x0,x1,x2,x3,x4,x5,x6,x7,x8,x9] [] [] [] [s0]) (by kernel_rfl) Vc.zc (by kernel_rfl) (by kernel_rfl) h
theorem zlh(p0:Nat × Nat)(x0 x1 x2 x3 x4 x5:Int)(b0:Bool)(s0:List UInt8)(w:World)(v:Value)(h :
 (0≤x4) ∧
 ((¬ (b0=true))∨(x4=0)) ∧
 ∃ (Ix6:List Vc.Vl→Prop) (mx6:List Vc.Vl→Nat),Ix6 [.i 0,.i 0,.i 0]∧∀ (x6:Int) (x7:Int) (x8:Int),Ix6 [.i x6,.i x7,.i x8]→(
 ((x6 < x4)→(
 (¬ (b0=true)) ∧
 (0≤x6) ∧
 (x6 < x4) ∧
 ∃ (s1:List UInt8),w.cell? ⟨p0.1,p0.2 + (Int.toNat x6) * 11 + 0,none⟩=some (.string ⟨s1.toArray⟩) ∧
 ∃ (x9:Int),w.cell? ⟨p0.1,p0.2 + (Int.toNat x6) * 11 + 1,none⟩=some (.int .i64 x9) ∧
 ∃ (x10:Int),w.cell? ⟨p0.1,p0.2 + (Int.toNat x6) * 11 + 2,none⟩=some (.int .i64 x10) ∧
 ∃ (x11:Int),w.cell? ⟨p0.1,p0.2 + (Int.toNat x6) * 11 + 3,none⟩=some (.int .i64 x11) ∧
 ∃ (x12:Int),w.cell? ⟨p0.1,p0.2 + (Int.toNat x6) * 11 + 4,none⟩=some (.int .i64 x12) ∧
 ∃ (x13:Int),w.cell? ⟨p0.1,p0.2 + (Int.toNat x6) * 11 + 5,none⟩=some (.int .i64 x13) ∧
 ∃ (x14:Int),w.cell? ⟨p0.1,p0.2 + (Int.toNat x6) * 11 + 6,none⟩=some (.int .i64 x14) ∧
 ∃ (x15:Int),w.cell? ⟨p0.1,p0.2 + (Int.toNat x6) * 11 + 7,none⟩=some (.int .i64 x15) ∧
 ∃ (x16:Int),w.cell? ⟨p0.1,p0.2 + (Int.toNat x6) * 11 + 8,none⟩=some (.int .i64 x16) ∧
 ∃ (x17:Int),w.cell? ⟨p0.1,p0.2 + (Int.toNat x6) * 11 + 9,none⟩=some (.int .i64 x17) ∧
 ∃ (x18:Int),w.cell? ⟨p0.1,p0.2 + (Int.toNat x6) * 11 + 10,none⟩=some (.int .i64 x18) ∧
 ∃ (x19:Int),∃ (x20:Int),(Vq w 20 #[.agg #[.string ⟨s1.toArray⟩,.int .i64 x9,.int .i64 x10,.int .i64 x11,.int .i64 x12,.int .i64 x13,.int .i64 x14,.int .i64 x15,.int .i64 x16,.int .i64 x17,.int .i64 x18]] (.agg #[.int .i64 x19,.int .i64 x20])) ∧
 ∀ x21:Int,x21=IntKind.i64.wrap (x9 * x19) →
 ∀ x22:Int,x22=IntKind.i64.wrap (x9 * x20) →
 ∀ x23:Int,x23=IntKind.i64.wrap (x7 + x21) →
 ∀ x24:Int,x24=IntKind.i64.wrap (x8 + x22) →
 ∀ x25:Int,x25=IntKind.i64.wrap (x6 + 1) →
 Ix6 [.i x25,.i x23,.i x24]∧mx6 [.i x25,.i x23,.i x24] < mx6 [.i x6,.i x7,.i x8]))∧(¬ (x6 < x4)→(
 (.agg #[.int .i64 x7,.int .i64 x8]:Value)=v)))):Calls Tryz.prog 24 #[.agg #[.string ⟨s0.toArray⟩,.int .i64 x0,.int .i64 x1,.int .i64 x2,.int .i64 x3,(if b0=true then .slice none 0 0 else .slice (some (Vc.qad p0 (Int.toNat x4) (Int.toNat x5))) (Int.toNat x4) (Int.toNat x5):Value)],.func (.func 20) #[] #[]] w (Vc.Ret v w) :=
 Vc.zb (ze [43] (by kernel_rfl)) [(1000000000003,.inv [(5,0),(5,1)] [13] [14,15,16,7,17,18,19,20,21,8,9,22,23,24,25,26,27,28,29,30,31,32,33])] [] 200 Tryz.func24 (b:=(Tryz.f24.body).getD .skip) (by kernel_rfl) [.cv (.agg [.sv 0,.int .i64 (.var 0),.int .i64 (.var 1),.int .i64 (.var 2),.int .i64 (.var 3),.qsl 0 0 11 (.var 4) (.var 5)]),.cv (.one (.fn 20 []))] ⟨6,1,0,1,0,1,0⟩ [] (Vc.envOf [x0,x1,x2,x3,x4,x5] [b0] [] [p0] [s0]) (by kernel_rfl) Vc.zc (by kernel_rfl) (by kernel_rfl) h
theorem zmh(p0:Nat × Nat)(x0 x1 x2 x3 x4 x5:Int)(b0:Bool)(s0:List UInt8)(w:World)(v:Value)(h :
 (0≤x4) ∧
 ((¬ (b0=true))∨(x4=0)) ∧
 ∃ (Ix6:List Vc.Vl→Prop) (mx6:List Vc.Vl→Nat),Ix6 [.i 0,.i 0,.i 0]∧∀ (x6:Int) (x7:Int) (x8:Int),Ix6 [.i x6,.i x7,.i x8]→(
 ((x6 < x4)→(
 (¬ (b0=true)) ∧
 (0≤x6) ∧
 (x6 < x4) ∧
 ∃ (s1:List UInt8),w.cell? ⟨p0.1,p0.2 + (Int.toNat x6) * 11 + 0,none⟩=some (.string ⟨s1.toArray⟩) ∧
 ∃ (x9:Int),w.cell? ⟨p0.1,p0.2 + (Int.toNat x6) * 11 + 1,none⟩=some (.int .i64 x9) ∧
 ∃ (x10:Int),w.cell? ⟨p0.1,p0.2 + (Int.toNat x6) * 11 + 2,none⟩=some (.int .i64 x10) ∧
 ∃ (x11:Int),w.cell? ⟨p0.1,p0.2 + (Int.toNat x6) * 11 + 3,none⟩=some (.int .i64 x11) ∧
 ∃ (x12:Int),w.cell? ⟨p0.1,p0.2 + (Int.toNat x6) * 11 + 4,none⟩=some (.int .i64 x12) ∧
 ∃ (x13:Int),w.cell? ⟨p0.1,p0.2 + (Int.toNat x6) * 11 + 5,none⟩=some (.int .i64 x13) ∧
 ∃ (x14:Int),w.cell? ⟨p0.1,p0.2 + (Int.toNat x6) * 11 + 6,none⟩=some (.int .i64 x14) ∧
 ∃ (x15:Int),w.cell? ⟨p0.1,p0.2 + (Int.toNat x6) * 11 + 7,none⟩=some (.int .i64 x15) ∧
 ∃ (x16:Int),w.cell? ⟨p0.1,p0.2 + (Int.toNat x6) * 11 + 8,none⟩=some (.int .i64 x16) ∧
 ∃ (x17:Int),w.cell? ⟨p0.1,p0.2 + (Int.toNat x6) * 11 + 9,none⟩=some (.int .i64 x17) ∧
 ∃ (x18:Int),w.cell? ⟨p0.1,p0.2 + (Int.toNat x6) * 11 + 10,none⟩=some (.int .i64 x18) ∧
 ∃ (x19:Int),∃ (x20:Int),(Vq w 21 #[.agg #[.string ⟨s1.toArray⟩,.int .i64 x9,.int .i64 x10,.int .i64 x11,.int .i64 x12,.int .i64 x13,.int .i64 x14,.int .i64 x15,.int .i64 x16,.int .i64 x17,.int .i64 x18]] (.agg #[.int .i64 x19,.int .i64 x20])) ∧
 ∀ x21:Int,x21=IntKind.i64.wrap (x9 * x19) →
 ∀ x22:Int,x22=IntKind.i64.wrap (x9 * x20) →
 ∀ x23:Int,x23=IntKind.i64.wrap (x7 + x21) →
 ∀ x24:Int,x24=IntKind.i64.wrap (x8 + x22) →
 ∀ x25:Int,x25=IntKind.i64.wrap (x6 + 1) →
 Ix6 [.i x25,.i x23,.i x24]∧mx6 [.i x25,.i x23,.i x24] < mx6 [.i x6,.i x7,.i x8]))∧(¬ (x6 < x4)→(
 (.agg #[.int .i64 x7,.int .i64 x8]:Value)=v)))):Calls Tryz.prog 24 #[.agg #[.string ⟨s0.toArray⟩,.int .i64 x0,.int .i64 x1,.int .i64 x2,.int .i64 x3,(if b0=true then .slice none 0 0 else .slice (some (Vc.qad p0 (Int.toNat x4) (Int.toNat x5))) (Int.toNat x4) (Int.toNat x5):Value)],.func (.func 21) #[] #[]] w (Vc.Ret v w) :=
 Vc.zb (ze [43] (by kernel_rfl)) [(1000000000003,.inv [(5,0),(5,1)] [13] [14,15,16,7,17,18,19,20,21,8,9,22,23,24,25,26,27,28,29,30,31,32,33])] [] 200 Tryz.func24 (b:=(Tryz.f24.body).getD .skip) (by kernel_rfl) [.cv (.agg [.sv 0,.int .i64 (.var 0),.int .i64 (.var 1),.int .i64 (.var 2),.int .i64 (.var 3),.qsl 0 0 11 (.var 4) (.var 5)]),.cv (.one (.fn 21 []))] ⟨6,1,0,1,0,1,0⟩ [] (Vc.envOf [x0,x1,x2,x3,x4,x5] [b0] [] [p0] [s0]) (by kernel_rfl) Vc.zc (by kernel_rfl) (by kernel_rfl) h
abbrev Vj_vehicle_at_T_T1(w:World)(s1:List UInt8)(x15:Int)(x16:Int)(x17:Int)(x18:Int)(b2:Bool)(p2:Nat × Nat)(x19:Int)(x20:Int)(x9:Int)(x10:Int)(v:Value):Prop :=
 ∃ (x33:Int),∃ (x34:Int),(Vq w 24 #[.agg #[.string ⟨s1.toArray⟩,.int .i64 x15,.int .i64 x16,.int .i64 x17,.int .i64 x18,(if b2=true then .slice none 0 0 else .slice (some (Vc.qad p2 (Int.toNat x19) (Int.toNat x20))) (Int.toNat x19) (Int.toNat x20):Value)],.func (.func 20) #[] #[]] (.agg #[.int .i64 x33,.int .i64 x34])) ∧
 ∃ (x35:Int),∃ (x36:Int),∃ (x37:Int),(Vq w 11 #[.agg #[.int .i64 x9,.int .i64 x10],.agg #[.int .i64 x33,.int .i64 x34]] (.tuple #[.agg #[.int .i64 x35,.int .i64 x36],.int .i64 x37])) ∧
 (.tuple #[.agg #[.int .i64 x35,.int .i64 x36],.int .i64 x37]:Value)=v
theorem zdm(p0 p1:Nat × Nat)(x0 x1 x2 x3 x4 x5 x6 x7 x8 x9 x10:Int)(b0 b1:Bool)(s0:List UInt8)(w:World)(v:Value)(h :
 ∃ (x11:Int),∃ (x12:Int),∃ (x13:Int),(Vq w 48 #[.agg #[.string ⟨s0.toArray⟩,(if b0=true then .slice none 0 0 else .slice (some (Vc.qad p0 (Int.toNat x0) (Int.toNat x1))) (Int.toNat x0) (Int.toNat x1):Value),.int .i64 x2,.int .i64 x3,(if b1=true then .slice none 0 0 else .slice (some (Vc.qad p1 (Int.toNat x4) (Int.toNat x5))) (Int.toNat x4) (Int.toNat x5):Value),.int .i64 x6,.int .i64 x7]] (.tuple #[.int .i64 x11,.int .i64 x12,.int .i64 x13])) ∧
 ((x13=0)→(
 (0≤x0) ∧
 ((¬ (b0=true))∨(x0=0)) ∧
 ∀ x14:Int,x14=IntKind.i64.wrap (x0 - 1) →
 ((0≤x8)→(
 ((x8≤x14)→(
 ((x9 < 0)→(
 (.tuple #[.agg #[.int .i64 0,.int .i64 0],.int .i64 4]:Value)=v))∧(¬ (x9 < 0)→(
 ((x10 < x9)→(
 (.tuple #[.agg #[.int .i64 0,.int .i64 0],.int .i64 4]:Value)=v))∧(¬ (x10 < x9)→(
 ((4294967296 < x10)→(
 (.tuple #[.agg #[.int .i64 0,.int .i64 0],.int .i64 4]:Value)=v))∧(¬ (4294967296 < x10)→(
 (¬ (b0=true)) ∧
 (0≤x8) ∧
 (x8 < x0) ∧
 ∃ (s1:List UInt8),w.cell? ⟨p0.1,p0.2 + (Int.toNat x8) * 6 + 0,none⟩=some (.string ⟨s1.toArray⟩) ∧
 ∃ (x15:Int),w.cell? ⟨p0.1,p0.2 + (Int.toNat x8) * 6 + 1,none⟩=some (.int .i64 x15) ∧
 ∃ (x16:Int),w.cell? ⟨p0.1,p0.2 + (Int.toNat x8) * 6 + 2,none⟩=some (.int .i64 x16) ∧
 ∃ (x17:Int),w.cell? ⟨p0.1,p0.2 + (Int.toNat x8) * 6 + 3,none⟩=some (.int .i64 x17) ∧
 ∃ (x18:Int),w.cell? ⟨p0.1,p0.2 + (Int.toNat x8) * 6 + 4,none⟩=some (.int .i64 x18) ∧
 ∃ (b2:Bool) (p2:Nat × Nat) (x19 x20:Int),w.cell? ⟨p0.1,p0.2 + (Int.toNat x8) * 6 + 5,none⟩=some ((if b2=true then .slice none 0 0 else .slice (some (Vc.qad p2 (Int.toNat x19) (Int.toNat x20))) (Int.toNat x19) (Int.toNat x20):Value)) ∧
 ((0 < x10)→(
 (0≤x19) ∧
 ((¬ (b2=true))∨(x19=0)) ∧
 ∃ (Ix21:List Vc.Vl→Prop) (mx21:List Vc.Vl→Nat),Ix21 [.i 0,.i 0]∧∀ (x21:Int) (x22:Int),Ix21 [.i x21,.i x22]→(
 ((x22 < x19)→(
 (¬ (b2=true)) ∧
 (0≤x22) ∧
 (x22 < x19) ∧
 ∃ (s2:List UInt8),w.cell? ⟨p2.1,p2.2 + (Int.toNat x22) * 11 + 0,none⟩=some (.string ⟨s2.toArray⟩) ∧
 ∃ (x23:Int),w.cell? ⟨p2.1,p2.2 + (Int.toNat x22) * 11 + 1,none⟩=some (.int .i64 x23) ∧
 ∃ (x24:Int),w.cell? ⟨p2.1,p2.2 + (Int.toNat x22) * 11 + 2,none⟩=some (.int .i64 x24) ∧
 ∃ (x25:Int),w.cell? ⟨p2.1,p2.2 + (Int.toNat x22) * 11 + 3,none⟩=some (.int .i64 x25) ∧
 ∃ (x26:Int),w.cell? ⟨p2.1,p2.2 + (Int.toNat x22) * 11 + 4,none⟩=some (.int .i64 x26) ∧
 ∃ (x27:Int),w.cell? ⟨p2.1,p2.2 + (Int.toNat x22) * 11 + 5,none⟩=some (.int .i64 x27) ∧
 ∃ (x28:Int),w.cell? ⟨p2.1,p2.2 + (Int.toNat x22) * 11 + 6,none⟩=some (.int .i64 x28) ∧
 ∃ (x29:Int),w.cell? ⟨p2.1,p2.2 + (Int.toNat x22) * 11 + 7,none⟩=some (.int .i64 x29) ∧
 ∃ (x30:Int),w.cell? ⟨p2.1,p2.2 + (Int.toNat x22) * 11 + 8,none⟩=some (.int .i64 x30) ∧
 ∃ (x31:Int),w.cell? ⟨p2.1,p2.2 + (Int.toNat x22) * 11 + 9,none⟩=some (.int .i64 x31) ∧
 ∃ (x32:Int),w.cell? ⟨p2.1,p2.2 + (Int.toNat x22) * 11 + 10,none⟩=some (.int .i64 x32) ∧
 ((x9 < x28)→(
 ((0≤x22)→(
 (.tuple #[.agg #[.int .i64 0,.int .i64 0],.int .i64 4]:Value)=v))∧(¬ (0≤x22)→( Vj_vehicle_at_T_T1 w s1 x15 x16 x17 x18 b2 p2 x19 x20 x9 x10 v))))∧(¬ (x9 < x28)→(
 ∀ x33:Int,x33=IntKind.i64.wrap (x22 + 1) →
 Ix21 [.i x21,.i x33]∧mx21 [.i x21,.i x33] < mx21 [.i x21,.i x22]))))∧(¬ (x22 < x19)→( Vj_vehicle_at_T_T1 w s1 x15 x16 x17 x18 b2 p2 x19 x20 x9 x10 v)))))∧(¬ (0 < x10)→( Vj_vehicle_at_T_T1 w s1 x15 x16 x17 x18 b2 p2 x19 x20 x9 x10 v))))))))))∧(¬ (x8≤x14)→(
 (.tuple #[.agg #[.int .i64 0,.int .i64 0],.int .i64 7]:Value)=v))))∧(¬ (0≤x8)→(
 (.tuple #[.agg #[.int .i64 0,.int .i64 0],.int .i64 7]:Value)=v))))∧(¬ (x13=0)→(
 (.tuple #[.agg #[.int .i64 0,.int .i64 0],.int .i64 2]:Value)=v))):Calls Tryz.prog 19 #[.agg #[.string ⟨s0.toArray⟩,(if b0=true then .slice none 0 0 else .slice (some (Vc.qad p0 (Int.toNat x0) (Int.toNat x1))) (Int.toNat x0) (Int.toNat x1):Value),.int .i64 x2,.int .i64 x3,(if b1=true then .slice none 0 0 else .slice (some (Vc.qad p1 (Int.toNat x4) (Int.toNat x5))) (Int.toNat x4) (Int.toNat x5):Value),.int .i64 x6,.int .i64 x7],.int .i64 x8,.agg #[.int .i64 x9,.int .i64 x10],.func (.func 20) #[] #[]] w (Vc.Ret v w) :=
 Vc.zb (ze [22,23,46,93,47] (by kernel_rfl)) [(1000000000002,.inv [] [4,8] [9,10,5,11,12,13,14,15,16,17,18])] [] 200 Tryz.func19 (b:=(Tryz.f19.body).getD .skip) (by kernel_rfl) [.cv (.agg [.sv 0,.qsl 0 0 6 (.var 0) (.var 1),.int .i64 (.var 2),.int .i64 (.var 3),.qsl 1 1 3 (.var 4) (.var 5),.int .i64 (.var 6),.int .i64 (.var 7)]),.cv (.one (.int .i64 (.var 8))),.cv (.agg [.int .i64 (.var 9),.int .i64 (.var 10)]),.cv (.one (.fn 20 []))] ⟨11,2,0,2,0,1,0⟩ [] (Vc.envOf [x0,x1,x2,x3,x4,x5,x6,x7,x8,x9,x10] [b0,b1] [] [p0,p1] [s0]) (by kernel_rfl) Vc.zc (by kernel_rfl) (by kernel_rfl) h
abbrev Vj_vehicle_at_F_T1(w:World)(s1:List UInt8)(x15:Int)(x16:Int)(x17:Int)(x18:Int)(b2:Bool)(p2:Nat × Nat)(x19:Int)(x20:Int)(x9:Int)(x10:Int)(v:Value):Prop :=
 ∃ (x33:Int),∃ (x34:Int),(Vq w 24 #[.agg #[.string ⟨s1.toArray⟩,.int .i64 x15,.int .i64 x16,.int .i64 x17,.int .i64 x18,(if b2=true then .slice none 0 0 else .slice (some (Vc.qad p2 (Int.toNat x19) (Int.toNat x20))) (Int.toNat x19) (Int.toNat x20):Value)],.func (.func 21) #[] #[]] (.agg #[.int .i64 x33,.int .i64 x34])) ∧
 ∃ (x35:Int),∃ (x36:Int),∃ (x37:Int),(Vq w 11 #[.agg #[.int .i64 x9,.int .i64 x10],.agg #[.int .i64 x33,.int .i64 x34]] (.tuple #[.agg #[.int .i64 x35,.int .i64 x36],.int .i64 x37])) ∧
 (.tuple #[.agg #[.int .i64 x35,.int .i64 x36],.int .i64 x37]:Value)=v
theorem zem(p0 p1:Nat × Nat)(x0 x1 x2 x3 x4 x5 x6 x7 x8 x9 x10:Int)(b0 b1:Bool)(s0:List UInt8)(w:World)(v:Value)(h :
 ∃ (x11:Int),∃ (x12:Int),∃ (x13:Int),(Vq w 48 #[.agg #[.string ⟨s0.toArray⟩,(if b0=true then .slice none 0 0 else .slice (some (Vc.qad p0 (Int.toNat x0) (Int.toNat x1))) (Int.toNat x0) (Int.toNat x1):Value),.int .i64 x2,.int .i64 x3,(if b1=true then .slice none 0 0 else .slice (some (Vc.qad p1 (Int.toNat x4) (Int.toNat x5))) (Int.toNat x4) (Int.toNat x5):Value),.int .i64 x6,.int .i64 x7]] (.tuple #[.int .i64 x11,.int .i64 x12,.int .i64 x13])) ∧
 ((x13=0)→(
 (0≤x0) ∧
 ((¬ (b0=true))∨(x0=0)) ∧
 ∀ x14:Int,x14=IntKind.i64.wrap (x0 - 1) →
 ((0≤x8)→(
 ((x8≤x14)→(
 ((x9 < 0)→(
 (.tuple #[.agg #[.int .i64 0,.int .i64 0],.int .i64 4]:Value)=v))∧(¬ (x9 < 0)→(
 ((x10 < x9)→(
 (.tuple #[.agg #[.int .i64 0,.int .i64 0],.int .i64 4]:Value)=v))∧(¬ (x10 < x9)→(
 ((4294967296 < x10)→(
 (.tuple #[.agg #[.int .i64 0,.int .i64 0],.int .i64 4]:Value)=v))∧(¬ (4294967296 < x10)→(
 (¬ (b0=true)) ∧
 (0≤x8) ∧
 (x8 < x0) ∧
 ∃ (s1:List UInt8),w.cell? ⟨p0.1,p0.2 + (Int.toNat x8) * 6 + 0,none⟩=some (.string ⟨s1.toArray⟩) ∧
 ∃ (x15:Int),w.cell? ⟨p0.1,p0.2 + (Int.toNat x8) * 6 + 1,none⟩=some (.int .i64 x15) ∧
 ∃ (x16:Int),w.cell? ⟨p0.1,p0.2 + (Int.toNat x8) * 6 + 2,none⟩=some (.int .i64 x16) ∧
 ∃ (x17:Int),w.cell? ⟨p0.1,p0.2 + (Int.toNat x8) * 6 + 3,none⟩=some (.int .i64 x17) ∧
 ∃ (x18:Int),w.cell? ⟨p0.1,p0.2 + (Int.toNat x8) * 6 + 4,none⟩=some (.int .i64 x18) ∧
 ∃ (b2:Bool) (p2:Nat × Nat) (x19 x20:Int),w.cell? ⟨p0.1,p0.2 + (Int.toNat x8) * 6 + 5,none⟩=some ((if b2=true then .slice none 0 0 else .slice (some (Vc.qad p2 (Int.toNat x19) (Int.toNat x20))) (Int.toNat x19) (Int.toNat x20):Value)) ∧
 ((0 < x10)→(
 (0≤x19) ∧
 ((¬ (b2=true))∨(x19=0)) ∧
 ∃ (Ix21:List Vc.Vl→Prop) (mx21:List Vc.Vl→Nat),Ix21 [.i 0,.i 0]∧∀ (x21:Int) (x22:Int),Ix21 [.i x21,.i x22]→(
 ((x22 < x19)→(
 (¬ (b2=true)) ∧
 (0≤x22) ∧
 (x22 < x19) ∧
 ∃ (s2:List UInt8),w.cell? ⟨p2.1,p2.2 + (Int.toNat x22) * 11 + 0,none⟩=some (.string ⟨s2.toArray⟩) ∧
 ∃ (x23:Int),w.cell? ⟨p2.1,p2.2 + (Int.toNat x22) * 11 + 1,none⟩=some (.int .i64 x23) ∧
 ∃ (x24:Int),w.cell? ⟨p2.1,p2.2 + (Int.toNat x22) * 11 + 2,none⟩=some (.int .i64 x24) ∧
 ∃ (x25:Int),w.cell? ⟨p2.1,p2.2 + (Int.toNat x22) * 11 + 3,none⟩=some (.int .i64 x25) ∧
 ∃ (x26:Int),w.cell? ⟨p2.1,p2.2 + (Int.toNat x22) * 11 + 4,none⟩=some (.int .i64 x26) ∧
 ∃ (x27:Int),w.cell? ⟨p2.1,p2.2 + (Int.toNat x22) * 11 + 5,none⟩=some (.int .i64 x27) ∧
 ∃ (x28:Int),w.cell? ⟨p2.1,p2.2 + (Int.toNat x22) * 11 + 6,none⟩=some (.int .i64 x28) ∧
 ∃ (x29:Int),w.cell? ⟨p2.1,p2.2 + (Int.toNat x22) * 11 + 7,none⟩=some (.int .i64 x29) ∧
 ∃ (x30:Int),w.cell? ⟨p2.1,p2.2 + (Int.toNat x22) * 11 + 8,none⟩=some (.int .i64 x30) ∧
 ∃ (x31:Int),w.cell? ⟨p2.1,p2.2 + (Int.toNat x22) * 11 + 9,none⟩=some (.int .i64 x31) ∧
 ∃ (x32:Int),w.cell? ⟨p2.1,p2.2 + (Int.toNat x22) * 11 + 10,none⟩=some (.int .i64 x32) ∧
 ((x9 < x28)→(
 ((0≤x22)→(
 (.tuple #[.agg #[.int .i64 0,.int .i64 0],.int .i64 4]:Value)=v))∧(¬ (0≤x22)→( Vj_vehicle_at_F_T1 w s1 x15 x16 x17 x18 b2 p2 x19 x20 x9 x10 v))))∧(¬ (x9 < x28)→(
 ∀ x33:Int,x33=IntKind.i64.wrap (x22 + 1) →
 Ix21 [.i x21,.i x33]∧mx21 [.i x21,.i x33] < mx21 [.i x21,.i x22]))))∧(¬ (x22 < x19)→( Vj_vehicle_at_F_T1 w s1 x15 x16 x17 x18 b2 p2 x19 x20 x9 x10 v)))))∧(¬ (0 < x10)→( Vj_vehicle_at_F_T1 w s1 x15 x16 x17 x18 b2 p2 x19 x20 x9 x10 v))))))))))∧(¬ (x8≤x14)→(
 (.tuple #[.agg #[.int .i64 0,.int .i64 0],.int .i64 7]:Value)=v))))∧(¬ (0≤x8)→(
 (.tuple #[.agg #[.int .i64 0,.int .i64 0],.int .i64 7]:Value)=v))))∧(¬ (x13=0)→(
 (.tuple #[.agg #[.int .i64 0,.int .i64 0],.int .i64 2]:Value)=v))):Calls Tryz.prog 19 #[.agg #[.string ⟨s0.toArray⟩,(if b0=true then .slice none 0 0 else .slice (some (Vc.qad p0 (Int.toNat x0) (Int.toNat x1))) (Int.toNat x0) (Int.toNat x1):Value),.int .i64 x2,.int .i64 x3,(if b1=true then .slice none 0 0 else .slice (some (Vc.qad p1 (Int.toNat x4) (Int.toNat x5))) (Int.toNat x4) (Int.toNat x5):Value),.int .i64 x6,.int .i64 x7],.int .i64 x8,.agg #[.int .i64 x9,.int .i64 x10],.func (.func 21) #[] #[]] w (Vc.Ret v w) :=
 Vc.zb (ze [22,23,46,93,47] (by kernel_rfl)) [(1000000000002,.inv [] [4,8] [9,10,5,11,12,13,14,15,16,17,18])] [] 200 Tryz.func19 (b:=(Tryz.f19.body).getD .skip) (by kernel_rfl) [.cv (.agg [.sv 0,.qsl 0 0 6 (.var 0) (.var 1),.int .i64 (.var 2),.int .i64 (.var 3),.qsl 1 1 3 (.var 4) (.var 5),.int .i64 (.var 6),.int .i64 (.var 7)]),.cv (.one (.int .i64 (.var 8))),.cv (.agg [.int .i64 (.var 9),.int .i64 (.var 10)]),.cv (.one (.fn 21 []))] ⟨11,2,0,2,0,1,0⟩ [] (Vc.envOf [x0,x1,x2,x3,x4,x5,x6,x7,x8,x9,x10] [b0,b1] [] [p0,p1] [s0]) (by kernel_rfl) Vc.zc (by kernel_rfl) (by kernel_rfl) h
theorem zxi(p0 p1:Nat × Nat)(x0 x1 x2 x3 x4 x5 x6 x7 x8 x9 x10:Int)(b0 b1:Bool)(s0:List UInt8)(w:World)(v:Value)(h :
 ∃ (x11:Int),∃ (x12:Int),∃ (x13:Int),(Vq w 19 #[.agg #[.string ⟨s0.toArray⟩,(if b0=true then .slice none 0 0 else .slice (some (Vc.qad p0 (Int.toNat x0) (Int.toNat x1))) (Int.toNat x0) (Int.toNat x1):Value),.int .i64 x2,.int .i64 x3,(if b1=true then .slice none 0 0 else .slice (some (Vc.qad p1 (Int.toNat x4) (Int.toNat x5))) (Int.toNat x4) (Int.toNat x5):Value),.int .i64 x6,.int .i64 x7],.int .i64 x8,.agg #[.int .i64 x9,.int .i64 x10],.func (.func 20) #[] #[]] (.tuple #[.agg #[.int .i64 x11,.int .i64 x12],.int .i64 x13])) ∧
 (.tuple #[.agg #[.int .i64 x11,.int .i64 x12],.int .i64 x13]:Value)=v):Calls Tryz.prog 6 #[.agg #[.string ⟨s0.toArray⟩,(if b0=true then .slice none 0 0 else .slice (some (Vc.qad p0 (Int.toNat x0) (Int.toNat x1))) (Int.toNat x0) (Int.toNat x1):Value),.int .i64 x2,.int .i64 x3,(if b1=true then .slice none 0 0 else .slice (some (Vc.qad p1 (Int.toNat x4) (Int.toNat x5))) (Int.toNat x4) (Int.toNat x5):Value),.int .i64 x6,.int .i64 x7],.int .i64 x8,.agg #[.int .i64 x9,.int .i64 x10]] w (Vc.Ret v w) :=
 Vc.zb base [] [] 200 Tryz.func6 (b:=(Tryz.f6.body).getD .skip) (by kernel_rfl) [.cv (.agg [.sv 0,.qsl 0 0 6 (.var 0) (.var 1),.int .i64 (.var 2),.int .i64 (.var 3),.qsl 1 1 3 (.var 4) (.var 5),.int .i64 (.var 6),.int .i64 (.var 7)]),.cv (.one (.int .i64 (.var 8))),.cv (.agg [.int .i64 (.var 9),.int .i64 (.var 10)])] ⟨11,2,0,2,0,1,0⟩ [] (Vc.envOf [x0,x1,x2,x3,x4,x5,x6,x7,x8,x9,x10] [b0,b1] [] [p0,p1] [s0]) (by kernel_rfl) Vc.zc (by kernel_rfl) (by kernel_rfl) h
theorem zfm(p0 p1:Nat × Nat)(x0 x1 x2 x3 x4 x5 x6 x7 x8 x9 x10:Int)(b0 b1:Bool)(s0:List UInt8)(w:World)(v:Value)(h :
 ∃ (x11:Int),∃ (x12:Int),∃ (x13:Int),(Vq w 19 #[.agg #[.string ⟨s0.toArray⟩,(if b0=true then .slice none 0 0 else .slice (some (Vc.qad p0 (Int.toNat x0) (Int.toNat x1))) (Int.toNat x0) (Int.toNat x1):Value),.int .i64 x2,.int .i64 x3,(if b1=true then .slice none 0 0 else .slice (some (Vc.qad p1 (Int.toNat x4) (Int.toNat x5))) (Int.toNat x4) (Int.toNat x5):Value),.int .i64 x6,.int .i64 x7],.int .i64 x8,.agg #[.int .i64 x9,.int .i64 x10],.func (.func 21) #[] #[]] (.tuple #[.agg #[.int .i64 x11,.int .i64 x12],.int .i64 x13])) ∧
 (.tuple #[.agg #[.int .i64 x11,.int .i64 x12],.int .i64 x13]:Value)=v):Calls Tryz.prog 7 #[.agg #[.string ⟨s0.toArray⟩,(if b0=true then .slice none 0 0 else .slice (some (Vc.qad p0 (Int.toNat x0) (Int.toNat x1))) (Int.toNat x0) (Int.toNat x1):Value),.int .i64 x2,.int .i64 x3,(if b1=true then .slice none 0 0 else .slice (some (Vc.qad p1 (Int.toNat x4) (Int.toNat x5))) (Int.toNat x4) (Int.toNat x5):Value),.int .i64 x6,.int .i64 x7],.int .i64 x8,.agg #[.int .i64 x9,.int .i64 x10]] w (Vc.Ret v w) :=
 Vc.zb base [] [] 200 Tryz.func7 (b:=(Tryz.f7.body).getD .skip) (by kernel_rfl) [.cv (.agg [.sv 0,.qsl 0 0 6 (.var 0) (.var 1),.int .i64 (.var 2),.int .i64 (.var 3),.qsl 1 1 3 (.var 4) (.var 5),.int .i64 (.var 6),.int .i64 (.var 7)]),.cv (.one (.int .i64 (.var 8))),.cv (.agg [.int .i64 (.var 9),.int .i64 (.var 10)])] ⟨11,2,0,2,0,1,0⟩ [] (Vc.envOf [x0,x1,x2,x3,x4,x5,x6,x7,x8,x9,x10] [b0,b1] [] [p0,p1] [s0]) (by kernel_rfl) Vc.zc (by kernel_rfl) (by kernel_rfl) h
theorem zgm(p0 p1:Nat × Nat)(x0 x1 x2 x3 x4 x5 x6 x7 x8:Int)(b0 b1:Bool)(s0:List UInt8)(w:World)(v:Value)(h :
 ∃ (x9:Int),∃ (x10:Int),∃ (x11:Int),(Vq w 48 #[.agg #[.string ⟨s0.toArray⟩,(if b0=true then .slice none 0 0 else .slice (some (Vc.qad p0 (Int.toNat x0) (Int.toNat x1))) (Int.toNat x0) (Int.toNat x1):Value),.int .i64 x2,.int .i64 x3,(if b1=true then .slice none 0 0 else .slice (some (Vc.qad p1 (Int.toNat x4) (Int.toNat x5))) (Int.toNat x4) (Int.toNat x5):Value),.int .i64 x6,.int .i64 x7]] (.tuple #[.int .i64 x9,.int .i64 x10,.int .i64 x11])) ∧
 ((x11=0)→(
 (0≤x0) ∧
 ((¬ (b0=true))∨(x0=0)) ∧
 ∀ x12:Int,x12=IntKind.i64.wrap (x0 - 1) →
 ((0≤x8)→(
 ((x8≤x12)→(
 (¬ (b0=true)) ∧
 (0≤x8) ∧
 (x8 < x0) ∧
 ∃ (b2:Bool) (p2:Nat × Nat) (x13 x14:Int),w.cell? ⟨p0.1,p0.2 + (Int.toNat x8) * 6 + 5,none⟩=some ((if b2=true then .slice none 0 0 else .slice (some (Vc.qad p2 (Int.toNat x13) (Int.toNat x14))) (Int.toNat x13) (Int.toNat x14):Value)) ∧
 (0≤x13) ∧
 ((¬ (b2=true))∨(x13=0)) ∧
 ((x13=0)→(
 (.tuple #[.agg #[.int .i64 0,.int .i64 0],.int .i64 9]:Value)=v))∧(¬ (x13=0)→(
 (¬ (b0=true)) ∧
 (0≤x8) ∧
 (x8 < x0) ∧
 ∃ (x15:Int),w.cell? ⟨p0.1,p0.2 + (Int.toNat x8) * 6 + 3,none⟩=some (.int .i64 x15) ∧
 ∃ (x16:Int),w.cell? ⟨p0.1,p0.2 + (Int.toNat x8) * 6 + 4,none⟩=some (.int .i64 x16) ∧
 (¬ (b0=true)) ∧
 (0≤x8) ∧
 (x8 < x0) ∧
 ∃ (s1:List UInt8),w.cell? ⟨p0.1,p0.2 + (Int.toNat x8) * 6 + 0,none⟩=some (.string ⟨s1.toArray⟩) ∧
 ∃ (x17:Int),w.cell? ⟨p0.1,p0.2 + (Int.toNat x8) * 6 + 1,none⟩=some (.int .i64 x17) ∧
 ∃ (x18:Int),w.cell? ⟨p0.1,p0.2 + (Int.toNat x8) * 6 + 2,none⟩=some (.int .i64 x18) ∧
 ∃ (x19:Int),w.cell? ⟨p0.1,p0.2 + (Int.toNat x8) * 6 + 3,none⟩=some (.int .i64 x19) ∧
 ∃ (x20:Int),w.cell? ⟨p0.1,p0.2 + (Int.toNat x8) * 6 + 4,none⟩=some (.int .i64 x20) ∧
 ∃ (b3:Bool) (p3:Nat × Nat) (x21 x22:Int),w.cell? ⟨p0.1,p0.2 + (Int.toNat x8) * 6 + 5,none⟩=some ((if b3=true then .slice none 0 0 else .slice (some (Vc.qad p3 (Int.toNat x21) (Int.toNat x22))) (Int.toNat x21) (Int.toNat x22):Value)) ∧
 ∃ (x23:Int),∃ (x24:Int),(Vq w 24 #[.agg #[.string ⟨s1.toArray⟩,.int .i64 x17,.int .i64 x18,.int .i64 x19,.int .i64 x20,(if b3=true then .slice none 0 0 else .slice (some (Vc.qad p3 (Int.toNat x21) (Int.toNat x22))) (Int.toNat x21) (Int.toNat x22):Value)],.func (.func 21) #[] #[]] (.agg #[.int .i64 x23,.int .i64 x24])) ∧
 ∃ (x25:Int),∃ (x26:Int),∃ (x27:Int),(Vq w 12 #[.agg #[.int .i64 x15,.int .i64 x16],.agg #[.int .i64 x23,.int .i64 x24]] (.tuple #[.agg #[.int .i64 x25,.int .i64 x26],.int .i64 x27])) ∧
 (.tuple #[.agg #[.int .i64 x25,.int .i64 x26],.int .i64 x27]:Value)=v))))∧(¬ (x8≤x12)→(
 (.tuple #[.agg #[.int .i64 0,.int .i64 0],.int .i64 7]:Value)=v))))∧(¬ (0≤x8)→(
 (.tuple #[.agg #[.int .i64 0,.int .i64 0],.int .i64 7]:Value)=v))))∧(¬ (x11=0)→(
 (.tuple #[.agg #[.int .i64 0,.int .i64 0],.int .i64 2]:Value)=v))):Calls Tryz.prog 8 #[.agg #[.string ⟨s0.toArray⟩,(if b0=true then .slice none 0 0 else .slice (some (Vc.qad p0 (Int.toNat x0) (Int.toNat x1))) (Int.toNat x0) (Int.toNat x1):Value),.int .i64 x2,.int .i64 x3,(if b1=true then .slice none 0 0 else .slice (some (Vc.qad p1 (Int.toNat x4) (Int.toNat x5))) (Int.toNat x4) (Int.toNat x5):Value),.int .i64 x6,.int .i64 x7],.int .i64 x8] w (Vc.Ret v w) :=
 Vc.zb (ze [22,23] (by kernel_rfl)) [] [] 200 Tryz.func8 (b:=(Tryz.f8.body).getD .skip) (by kernel_rfl) [.cv (.agg [.sv 0,.qsl 0 0 6 (.var 0) (.var 1),.int .i64 (.var 2),.int .i64 (.var 3),.qsl 1 1 3 (.var 4) (.var 5),.int .i64 (.var 6),.int .i64 (.var 7)]),.cv (.one (.int .i64 (.var 8)))] ⟨9,2,0,2,0,1,0⟩ [] (Vc.envOf [x0,x1,x2,x3,x4,x5,x6,x7,x8] [b0,b1] [] [p0,p1] [s0]) (by kernel_rfl) Vc.zc (by kernel_rfl) (by kernel_rfl) h
end Go.Proofs.YtkjmhcejdiglfacGreatDoor
