import Derived.Test.YtfclibhhkphckaaGreatDoorG0
set_option linter.unusedVariables false
set_option maxRecDepth 100000
namespace Go.Proofs.YtfclibhhkphckaaGreatDoor
open Go Go.RowKit
def Vj_vehicle_Mass_T2(x25:Int)(x2:Int)(x26:Int)(x3:Int)(v:Value):Prop :=
 ∀ x27:Int,x27=IntKind.i64.wrap (x25 + x2) →
 ∀ x28:Int,x28=IntKind.i64.wrap (x26 + x3) →
 (.tuple #[.agg #[.int .i64 x27,.int .i64 x28],.int .i64 0]:Value)=v
def Vj_vehicle_Mass_T1(x34:Int)(x30:Int)(x35:Int)(x31:Int)(x24:Int)(Ix24:List Vc.Vl→Prop)(mx24:List Vc.Vl→Nat)(x25:Int)(x26:Int):Prop :=
 ∀ x36:Int,x36=IntKind.i64.wrap (x34 + x30) →
 ∀ x37:Int,x37=IntKind.i64.wrap (x35 + x31) →
 ∀ x38:Int,x38=IntKind.i64.wrap (x24 + 1) →
 Ix24 [.i x38,.i x36,.i x37]∧mx24 [.i x38,.i x36,.i x37] < mx24 [.i x24,.i x25,.i x26]
theorem zpm(p0 p1:Nat × Nat)(x0 x1 x2 x3 x4 x5 x6 x7 x8 x9 x10:Int)(b0 b1:Bool)(s0:List UInt8)(w:World)(v:Value)(h :
 ∃ (x11:Int),∃ (x12:Int),∃ (x13:Int),(Vq w 39 #[.agg #[.string ⟨s0.toArray⟩,(if b0=true then .slice none 0 0 else .slice (some (Vc.qad p0 (Int.toNat x0) (Int.toNat x1))) (Int.toNat x0) (Int.toNat x1):Value),.int .i64 x2,.int .i64 x3,(if b1=true then .slice none 0 0 else .slice (some (Vc.qad p1 (Int.toNat x4) (Int.toNat x5))) (Int.toNat x4) (Int.toNat x5):Value),.int .i64 x6,.int .i64 x7]] (.tuple #[.int .i64 x11,.int .i64 x12,.int .i64 x13])) ∧
 ((x13=0)→(
 (0≤x0) ∧
 ((¬ (b0=true))∨(x0=0)) ∧
 ∀ x14:Int,x14=IntKind.i64.wrap (x0 - 1) →
 ((0≤x8)→(
 ((x8≤x14)→(
 ((x9 < 0)→(
 (.tuple #[.agg #[.int .i64 0,.int .i64 0],.int .i64 2]:Value)=v))∧(¬ (x9 < 0)→(
 ((x10 < x9)→(
 (.tuple #[.agg #[.int .i64 0,.int .i64 0],.int .i64 2]:Value)=v))∧(¬ (x10 < x9)→(
 (¬ (b0=true)) ∧
 (0≤x8) ∧
 (x8 < x0) ∧
 ∃ (x15:Int),w.cell? ⟨p0.1,p0.2 + (Int.toNat x8) * 6 + 3,none⟩=some (.int .i64 x15) ∧
 ∃ (x16:Int),w.cell? ⟨p0.1,p0.2 + (Int.toNat x8) * 6 + 4,none⟩=some (.int .i64 x16) ∧
 ∀ x17:Int,x17=IntKind.i64.wrap (x15 - x10) →
 ∀ x18:Int,x18=(if x17 > 0 then x17 else 0) →
 ∀ x19:Int,x19=IntKind.i64.wrap (x16 - x9) →
 ∀ x20:Int,x20=(if x19 > 0 then x19 else 0) →
 (¬ (b0=true)) ∧
 (0 < x1) ∧
 (0≤x0) ∧
 (x0≤x1) ∧
 (0≤x8) ∧
 (x8≤x0) ∧
 (x0≤x1) ∧
 ∀ x21:Int,x21=x0 - x8 →
 ∀ x22:Int,x22=x1 - x8 →
 ((x8 < x1)→(
 ∀ x23:Int,x23=0 + x8 →
 (0≤x21) ∧
 ∃ (Ix24:List Vc.Vl→Prop) (mx24:List Vc.Vl→Nat),Ix24 [.i 0,.i x18,.i x20]∧∀ (x24:Int) (x25:Int) (x26:Int),Ix24 [.i x24,.i x25,.i x26]→(
 ((x24 < x21)→(
 (0≤x24) ∧
 (x24 < x21) ∧
 (0≤x23) ∧
 ∀ x27:Int,x27=x23 + x24 →
 ∃ (s1:List UInt8),w.cell? ⟨p0.1,p0.2 + (Int.toNat x27) * 6 + 0,none⟩=some (.string ⟨s1.toArray⟩) ∧
 ∃ (x28:Int),w.cell? ⟨p0.1,p0.2 + (Int.toNat x27) * 6 + 1,none⟩=some (.int .i64 x28) ∧
 ∃ (x29:Int),w.cell? ⟨p0.1,p0.2 + (Int.toNat x27) * 6 + 2,none⟩=some (.int .i64 x29) ∧
 ∃ (x30:Int),w.cell? ⟨p0.1,p0.2 + (Int.toNat x27) * 6 + 3,none⟩=some (.int .i64 x30) ∧
 ∃ (x31:Int),w.cell? ⟨p0.1,p0.2 + (Int.toNat x27) * 6 + 4,none⟩=some (.int .i64 x31) ∧
 ∃ (b2:Bool) (p2:Nat × Nat) (x32 x33:Int),w.cell? ⟨p0.1,p0.2 + (Int.toNat x27) * 6 + 5,none⟩=some ((if b2=true then .slice none 0 0 else .slice (some (Vc.qad p2 (Int.toNat x32) (Int.toNat x33))) (Int.toNat x32) (Int.toNat x33):Value)) ∧
 ∀ x34:Int,x34=IntKind.i64.wrap (x25 + x28) →
 ∀ x35:Int,x35=IntKind.i64.wrap (x26 + x29) →
 ((0 < x24)→( Vj_vehicle_Mass_T1 x34 x30 x35 x31 x24 Ix24 mx24 x25 x26))∧(¬ (0 < x24)→(
 ∀ x36:Int,x36=IntKind.i64.wrap (x24 + 1) →
 Ix24 [.i x36,.i x34,.i x35]∧mx24 [.i x36,.i x34,.i x35] < mx24 [.i x24,.i x25,.i x26]))))∧(¬ (x24 < x21)→( Vj_vehicle_Mass_T2 x25 x2 x26 x3 v)))))∧(¬ (x8 < x1)→(
 (0≤x21) ∧
 ∃ (Ix23:List Vc.Vl→Prop) (mx23:List Vc.Vl→Nat),Ix23 [.i 0,.i x18,.i x20]∧∀ (x23:Int) (x24:Int) (x25:Int),Ix23 [.i x23,.i x24,.i x25]→(
 ((x23 < x21)→(
 (0≤x23) ∧
 (x23 < x21) ∧
 ∃ (s1:List UInt8),w.cell? ⟨p0.1,p0.2 + (Int.toNat x23) * 6 + 0,none⟩=some (.string ⟨s1.toArray⟩) ∧
 ∃ (x26:Int),w.cell? ⟨p0.1,p0.2 + (Int.toNat x23) * 6 + 1,none⟩=some (.int .i64 x26) ∧
 ∃ (x27:Int),w.cell? ⟨p0.1,p0.2 + (Int.toNat x23) * 6 + 2,none⟩=some (.int .i64 x27) ∧
 ∃ (x28:Int),w.cell? ⟨p0.1,p0.2 + (Int.toNat x23) * 6 + 3,none⟩=some (.int .i64 x28) ∧
 ∃ (x29:Int),w.cell? ⟨p0.1,p0.2 + (Int.toNat x23) * 6 + 4,none⟩=some (.int .i64 x29) ∧
 ∃ (b2:Bool) (p2:Nat × Nat) (x30 x31:Int),w.cell? ⟨p0.1,p0.2 + (Int.toNat x23) * 6 + 5,none⟩=some ((if b2=true then .slice none 0 0 else .slice (some (Vc.qad p2 (Int.toNat x30) (Int.toNat x31))) (Int.toNat x30) (Int.toNat x31):Value)) ∧
 ∀ x32:Int,x32=IntKind.i64.wrap (x24 + x26) →
 ∀ x33:Int,x33=IntKind.i64.wrap (x25 + x27) →
 ((0 < x23)→( Vj_vehicle_Mass_T1 x32 x28 x33 x29 x23 Ix23 mx23 x24 x25))∧(¬ (0 < x23)→(
 ∀ x34:Int,x34=IntKind.i64.wrap (x23 + 1) →
 Ix23 [.i x34,.i x32,.i x33]∧mx23 [.i x34,.i x32,.i x33] < mx23 [.i x23,.i x24,.i x25]))))∧(¬ (x23 < x21)→( Vj_vehicle_Mass_T2 x24 x2 x25 x3 v)))))))))))∧(¬ (x8≤x14)→(
 (.tuple #[.agg #[.int .i64 0,.int .i64 0],.int .i64 7]:Value)=v))))∧(¬ (0≤x8)→(
 (.tuple #[.agg #[.int .i64 0,.int .i64 0],.int .i64 7]:Value)=v))))∧(¬ (x13=0)→(
 (.tuple #[.agg #[.int .i64 0,.int .i64 0],.int .i64 2]:Value)=v))):Calls Tryz.prog 8 #[.agg #[.string ⟨s0.toArray⟩,(if b0=true then .slice none 0 0 else .slice (some (Vc.qad p0 (Int.toNat x0) (Int.toNat x1))) (Int.toNat x0) (Int.toNat x1):Value),.int .i64 x2,.int .i64 x3,(if b1=true then .slice none 0 0 else .slice (some (Vc.qad p1 (Int.toNat x4) (Int.toNat x5))) (Int.toNat x4) (Int.toNat x5):Value),.int .i64 x6,.int .i64 x7],.int .i64 x8,.agg #[.int .i64 x9,.int .i64 x10]] w (Vc.Ret v w) :=
 Vc.zb (ze [16,17,19,18,40] (by kernel_rfl)) [(1000000000001,.invb [(5,0),(5,1)] [] [11] [12,13,14,15,5,4,16,17,18,19,20,21,22,23,24,25,26,27,28,29,30,31,32])] [] 200 Tryz.func8 (b:=(Tryz.f8.body).getD .skip) (by kernel_rfl) [.cv (.agg [.sv 0,.qsl 0 0 6 (.var 0) (.var 1),.int .i64 (.var 2),.int .i64 (.var 3),.qsl 1 1 3 (.var 4) (.var 5),.int .i64 (.var 6),.int .i64 (.var 7)]),.cv (.one (.int .i64 (.var 8))),.cv (.agg [.int .i64 (.var 9),.int .i64 (.var 10)])] ⟨11,2,0,2,0,1,0⟩ [] (Vc.envOf [x0,x1,x2,x3,x4,x5,x6,x7,x8,x9,x10] [b0,b1] [] [p0,p1] [s0]) (by kernel_rfl) Vc.zc (by kernel_rfl) (by kernel_rfl) h
theorem zmk(p0 p1:Nat × Nat)(x0 x1 x2 x3 x4 x5 x6 x7:Int)(b0 b1:Bool)(s0:List UInt8)(w:World)(v:Value)(h :
 ∃ (x8:Int),∃ (x9:Int),∃ (x10:Int),(Vq w 8 #[.agg #[.string ⟨s0.toArray⟩,(if b0=true then .slice none 0 0 else .slice (some (Vc.qad p0 (Int.toNat x0) (Int.toNat x1))) (Int.toNat x0) (Int.toNat x1):Value),.int .i64 x2,.int .i64 x3,(if b1=true then .slice none 0 0 else .slice (some (Vc.qad p1 (Int.toNat x4) (Int.toNat x5))) (Int.toNat x4) (Int.toNat x5):Value),.int .i64 x6,.int .i64 x7],.int .i64 0,.agg #[.int .i64 0,.int .i64 0]] (.tuple #[.agg #[.int .i64 x8,.int .i64 x9],.int .i64 x10])) ∧
 (.tuple #[.agg #[.int .i64 x8,.int .i64 x9],.int .i64 x10]:Value)=v):Calls Tryz.prog 6 #[.agg #[.string ⟨s0.toArray⟩,(if b0=true then .slice none 0 0 else .slice (some (Vc.qad p0 (Int.toNat x0) (Int.toNat x1))) (Int.toNat x0) (Int.toNat x1):Value),.int .i64 x2,.int .i64 x3,(if b1=true then .slice none 0 0 else .slice (some (Vc.qad p1 (Int.toNat x4) (Int.toNat x5))) (Int.toNat x4) (Int.toNat x5):Value),.int .i64 x6,.int .i64 x7]] w (Vc.Ret v w) :=
 Vc.zb base [] [] 200 Tryz.func6 (b:=(Tryz.f6.body).getD .skip) (by kernel_rfl) [.cv (.agg [.sv 0,.qsl 0 0 6 (.var 0) (.var 1),.int .i64 (.var 2),.int .i64 (.var 3),.qsl 1 1 3 (.var 4) (.var 5),.int .i64 (.var 6),.int .i64 (.var 7)])] ⟨8,2,0,2,0,1,0⟩ [] (Vc.envOf [x0,x1,x2,x3,x4,x5,x6,x7] [b0,b1] [] [p0,p1] [s0]) (by kernel_rfl) Vc.zc (by kernel_rfl) (by kernel_rfl) h
theorem zsg(p0 p1:Nat × Nat)(x0 x1 x2 x3 x4 x5 x6 x7 x8 x9 x10:Int)(b0 b1:Bool)(s0:List UInt8)(w:World)(v:Value)(h :
 ∃ (x11:Int),∃ (x12:Int),∃ (x13:Int),(Vq w 41 #[.agg #[.string ⟨s0.toArray⟩,(if b0=true then .slice none 0 0 else .slice (some (Vc.qad p0 (Int.toNat x0) (Int.toNat x1))) (Int.toNat x0) (Int.toNat x1):Value),.int .i64 x2,.int .i64 x3,(if b1=true then .slice none 0 0 else .slice (some (Vc.qad p1 (Int.toNat x4) (Int.toNat x5))) (Int.toNat x4) (Int.toNat x5):Value),.int .i64 x6,.int .i64 x7]] (.tuple #[.int .i64 x11,.int .i64 x12,.int .i64 x13])) ∧
 ((x13=0)→(
 (0≤x0) ∧
 ((¬ (b0=true))∨(x0=0)) ∧
 ∀ x14:Int,x14=IntKind.i64.wrap (x0 - 1) →
 ((0≤x8)→(
 ((x8≤x14)→(
 ((x9 < 0)→(
 (.tuple #[.agg #[.int .i64 0,.int .i64 0],.int .i64 2]:Value)=v))∧(¬ (x9 < 0)→(
 ((x10 < x9)→(
 (.tuple #[.agg #[.int .i64 0,.int .i64 0],.int .i64 2]:Value)=v))∧(¬ (x10 < x9)→(
 ∃ (Ix15:List Vc.Vl→Prop) (mx15:List Vc.Vl→Nat),Ix15 [.i x8,.i x2,.i x3]∧∀ (x15:Int) (x16:Int) (x17:Int),Ix15 [.i x15,.i x16,.i x17]→(
 (0≤x0) ∧
 ((¬ (b0=true))∨(x0=0)) ∧
 ((x15 < x0)→(
 (¬ (b0=true)) ∧
 (0≤x15) ∧
 (x15 < x0) ∧
 ∃ (x18:Int),w.cell? ⟨p0.1,p0.2 + (Int.toNat x15) * 6 + 1,none⟩=some (.int .i64 x18) ∧
 ∃ (x19:Int),w.cell? ⟨p0.1,p0.2 + (Int.toNat x15) * 6 + 2,none⟩=some (.int .i64 x19) ∧
 ∀ x20:Int,x20=IntKind.i64.wrap (x16 + x18) →
 ∀ x21:Int,x21=IntKind.i64.wrap (x17 + x19) →
 ((x8 < x15)→(
 (¬ (b0=true)) ∧
 (0≤x15) ∧
 (x15 < x0) ∧
 ∃ (x22:Int),w.cell? ⟨p0.1,p0.2 + (Int.toNat x15) * 6 + 3,none⟩=some (.int .i64 x22) ∧
 ∃ (x23:Int),w.cell? ⟨p0.1,p0.2 + (Int.toNat x15) * 6 + 4,none⟩=some (.int .i64 x23) ∧
 ∀ x24:Int,x24=IntKind.i64.wrap (x20 + x22) →
 ∀ x25:Int,x25=IntKind.i64.wrap (x21 + x23) →
 ∀ x26:Int,x26=IntKind.i64.wrap (x15 + 1) →
 Ix15 [.i x26,.i x24,.i x25]∧mx15 [.i x26,.i x24,.i x25] < mx15 [.i x15,.i x16,.i x17]))∧(¬ (x8 < x15)→(
 ∀ x22:Int,x22=IntKind.i64.wrap (x15 + 1) →
 Ix15 [.i x22,.i x20,.i x21]∧mx15 [.i x22,.i x20,.i x21] < mx15 [.i x15,.i x16,.i x17]))))∧(¬ (x15 < x0)→(
 (¬ (b0=true)) ∧
 (0≤x8) ∧
 (x8 < x0) ∧
 ∃ (x18:Int),w.cell? ⟨p0.1,p0.2 + (Int.toNat x8) * 6 + 3,none⟩=some (.int .i64 x18) ∧
 ∃ (x19:Int),w.cell? ⟨p0.1,p0.2 + (Int.toNat x8) * 6 + 4,none⟩=some (.int .i64 x19) ∧
 ∀ x20:Int,x20=IntKind.i64.wrap (x18 - x10) →
 ∀ x21:Int,x21=(if x20 > 0 then x20 else 0) →
 ∀ x22:Int,x22=IntKind.i64.wrap (x19 - x9) →
 ∀ x23:Int,x23=(if x22 > 0 then x22 else 0) →
 ∀ x24:Int,x24=IntKind.i64.wrap (x16 + x21) →
 ∀ x25:Int,x25=IntKind.i64.wrap (x17 + x23) →
 (.tuple #[.agg #[.int .i64 x24,.int .i64 x25],.int .i64 0]:Value)=v)))))))))∧(¬ (x8≤x14)→(
 (.tuple #[.agg #[.int .i64 0,.int .i64 0],.int .i64 7]:Value)=v))))∧(¬ (0≤x8)→(
 (.tuple #[.agg #[.int .i64 0,.int .i64 0],.int .i64 7]:Value)=v))))∧(¬ (x13=0)→(
 (.tuple #[.agg #[.int .i64 0,.int .i64 0],.int .i64 2]:Value)=v))):Calls Tryz.prog 9 #[.agg #[.string ⟨s0.toArray⟩,(if b0=true then .slice none 0 0 else .slice (some (Vc.qad p0 (Int.toNat x0) (Int.toNat x1))) (Int.toNat x0) (Int.toNat x1):Value),.int .i64 x2,.int .i64 x3,(if b1=true then .slice none 0 0 else .slice (some (Vc.qad p1 (Int.toNat x4) (Int.toNat x5))) (Int.toNat x4) (Int.toNat x5):Value),.int .i64 x6,.int .i64 x7],.int .i64 x8,.agg #[.int .i64 x9,.int .i64 x10]] w (Vc.Ret v w) :=
 Vc.zb (ze [20,21,22] (by kernel_rfl)) [(5000000000009,.inv [(8,0),(8,1)] [9] [37,38,39,40,41,44,45,46,47,48,49,50,51,52,53,54,55,56,57,58,59,60,61,62,42,43])] [] 200 Tryz.func9 (b:=(Tryz.f9.body).getD .skip) (by kernel_rfl) [.cv (.agg [.sv 0,.qsl 0 0 6 (.var 0) (.var 1),.int .i64 (.var 2),.int .i64 (.var 3),.qsl 1 1 3 (.var 4) (.var 5),.int .i64 (.var 6),.int .i64 (.var 7)]),.cv (.one (.int .i64 (.var 8))),.cv (.agg [.int .i64 (.var 9),.int .i64 (.var 10)])] ⟨11,2,0,2,0,1,0⟩ [] (Vc.envOf [x0,x1,x2,x3,x4,x5,x6,x7,x8,x9,x10] [b0,b1] [] [p0,p1] [s0]) (by kernel_rfl) Vc.zc (by kernel_rfl) (by kernel_rfl) h
theorem zwf(p0 p1:Nat × Nat)(x0 x1 x2 x3 x4 x5 x6 x7:Int)(b0 b1:Bool)(s0:List UInt8)(w:World)(v:Value)(h :
 ∃ (x8:Int),∃ (x9:Int),∃ (x10:Int),(Vq w 9 #[.agg #[.string ⟨s0.toArray⟩,(if b0=true then .slice none 0 0 else .slice (some (Vc.qad p0 (Int.toNat x0) (Int.toNat x1))) (Int.toNat x0) (Int.toNat x1):Value),.int .i64 x2,.int .i64 x3,(if b1=true then .slice none 0 0 else .slice (some (Vc.qad p1 (Int.toNat x4) (Int.toNat x5))) (Int.toNat x4) (Int.toNat x5):Value),.int .i64 x6,.int .i64 x7],.int .i64 0,.agg #[.int .i64 0,.int .i64 0]] (.tuple #[.agg #[.int .i64 x8,.int .i64 x9],.int .i64 x10])) ∧
 (.tuple #[.agg #[.int .i64 x8,.int .i64 x9],.int .i64 x10]:Value)=v):Calls Tryz.prog 7 #[.agg #[.string ⟨s0.toArray⟩,(if b0=true then .slice none 0 0 else .slice (some (Vc.qad p0 (Int.toNat x0) (Int.toNat x1))) (Int.toNat x0) (Int.toNat x1):Value),.int .i64 x2,.int .i64 x3,(if b1=true then .slice none 0 0 else .slice (some (Vc.qad p1 (Int.toNat x4) (Int.toNat x5))) (Int.toNat x4) (Int.toNat x5):Value),.int .i64 x6,.int .i64 x7]] w (Vc.Ret v w) :=
 Vc.zb base [] [] 200 Tryz.func7 (b:=(Tryz.f7.body).getD .skip) (by kernel_rfl) [.cv (.agg [.sv 0,.qsl 0 0 6 (.var 0) (.var 1),.int .i64 (.var 2),.int .i64 (.var 3),.qsl 1 1 3 (.var 4) (.var 5),.int .i64 (.var 6),.int .i64 (.var 7)])] ⟨8,2,0,2,0,1,0⟩ [] (Vc.envOf [x0,x1,x2,x3,x4,x5,x6,x7] [b0,b1] [] [p0,p1] [s0]) (by kernel_rfl) Vc.zc (by kernel_rfl) (by kernel_rfl) h
theorem znk(p0 p1:Nat × Nat)(x0 x1 x2 x3 x4 x5 x6 x7:Int)(b0 b1:Bool)(s0:List UInt8)(w:World)(v:Value)(h :
 ∃ (x8:Int),∃ (x9:Int),∃ (x10:Int),(Vq w 39 #[.agg #[.string ⟨s0.toArray⟩,(if b0=true then .slice none 0 0 else .slice (some (Vc.qad p0 (Int.toNat x0) (Int.toNat x1))) (Int.toNat x0) (Int.toNat x1):Value),.int .i64 x2,.int .i64 x3,(if b1=true then .slice none 0 0 else .slice (some (Vc.qad p1 (Int.toNat x4) (Int.toNat x5))) (Int.toNat x4) (Int.toNat x5):Value),.int .i64 x6,.int .i64 x7]] (.tuple #[.int .i64 x8,.int .i64 x9,.int .i64 x10])) ∧
 (.bool (x10 == 0):Value)=v):Calls Tryz.prog 16 #[.agg #[.string ⟨s0.toArray⟩,(if b0=true then .slice none 0 0 else .slice (some (Vc.qad p0 (Int.toNat x0) (Int.toNat x1))) (Int.toNat x0) (Int.toNat x1):Value),.int .i64 x2,.int .i64 x3,(if b1=true then .slice none 0 0 else .slice (some (Vc.qad p1 (Int.toNat x4) (Int.toNat x5))) (Int.toNat x4) (Int.toNat x5):Value),.int .i64 x6,.int .i64 x7]] w (Vc.Ret v w) :=
 Vc.zb base [] [] 200 Tryz.func16 (b:=(Tryz.f16.body).getD .skip) (by kernel_rfl) [.cv (.agg [.sv 0,.qsl 0 0 6 (.var 0) (.var 1),.int .i64 (.var 2),.int .i64 (.var 3),.qsl 1 1 3 (.var 4) (.var 5),.int .i64 (.var 6),.int .i64 (.var 7)])] ⟨8,2,0,2,0,1,0⟩ [] (Vc.envOf [x0,x1,x2,x3,x4,x5,x6,x7] [b0,b1] [] [p0,p1] [s0]) (by kernel_rfl) Vc.zc (by kernel_rfl) (by kernel_rfl) h
theorem zfj(x0 x1 x2:Int)(w:World)(v:Value)(h :
 ((x1≤x0)→(
 (.bool (decide (x0≤x2)):Value)=v))∧(¬ (x1≤x0)→(
 (.bool false:Value)=v))):Calls Tryz.prog 17 #[.int .i64 x0,.int .i64 x1,.int .i64 x2] w (Vc.Ret v w) :=
 Vc.zb base [] [] 200 Tryz.func17 (b:=(Tryz.f17.body).getD .skip) (by kernel_rfl) [.cv (.one (.int .i64 (.var 0))),.cv (.one (.int .i64 (.var 1))),.cv (.one (.int .i64 (.var 2)))] ⟨3,0,0,0,0,0,0⟩ [] (Vc.envOf [x0,x1,x2] [] [] []) (by kernel_rfl) Vc.zc (by kernel_rfl) (by kernel_rfl) h
end Go.Proofs.YtfclibhhkphckaaGreatDoor
