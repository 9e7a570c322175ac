import Derived.Test.YtkjmhcejdiglfacGreatDoorG0
set_option linter.unusedVariables false
set_option maxRecDepth 100000
namespace Go.Proofs.YtkjmhcejdiglfacGreatDoor
open Go Go.RowKit
theorem zne(x0 x1 x2:Int)(w:World)(v:Value)(h :
 ∀ x3:Int,x3=IntKind.i64.wrap (x1 - x0) →
 ∀ x4:Int,x4=IntKind.i64.wrap (Int.tdiv x3 65536) →
 ∀ x5:Int,x5=IntKind.i64.wrap (x2) →
 ∀ x6:Int,x6=IntKind.i64.wrap (x4 * x5) →
 ∀ x7:Int,x7=IntKind.i64.wrap (x0 + x6) →
 (.agg #[.int .i64 x7,.int .i64 x7]:Value)=v):Calls Tryz.prog 9 #[.agg #[.int .i64 x0,.int .i64 x1],.int .u16 x2] w (Vc.Ret v w) :=
 Vc.zb base [] [] 200 Tryz.func9 (b:=(Tryz.f9.body).getD .skip) (by kernel_rfl) [.cv (.agg [.int .i64 (.var 0),.int .i64 (.var 1)]),.cv (.one (.int .u16 (.var 2)))] ⟨3,0,0,0,0,0,0⟩ [] (Vc.envOf [x0,x1,x2] [] [] []) (by kernel_rfl) Vc.zc (by kernel_rfl) (by kernel_rfl) h
theorem ztc(p0 p1:Nat × Nat)(x0 x1 x2 x3 x4 x5 x6 x7 x8 x9 x10 x11 x12 x13:Int)(b0 b1:Bool)(s0:List UInt8)(w:World)(v:Value)(h :
 ∃ (b2:Bool),(Vq w 4 #[.agg #[.string ⟨s0.toArray⟩,(if b0=true then .slice none 0 0 else .slice (some (Vc.qad p0 (Int.toNat x0) (Int.toNat x1))) (Int.toNat x0) (Int.toNat x1):Value),.int .i64 x2,.int .i64 x3,(if b1=true then .slice none 0 0 else .slice (some (Vc.qad p1 (Int.toNat x4) (Int.toNat x5))) (Int.toNat x4) (Int.toNat x5):Value),.int .i64 x6,.int .i64 x7]] (.bool b2)) ∧
 ((b2=true)→(
 ∃ (b3:Bool),(Vq w 5 #[] (.bool b3)) ∧
 (.bool b3:Value)=v))∧(¬ (b2=true)→(
 ∃ (Ib3:List Vc.Vl→Prop) (mb3:List Vc.Vl→Nat),Ib3 [.b false,.i 0]∧∀ (b3:Bool) (x14:Int),Ib3 [.b b3,.i x14]→(
 (0≤x0) ∧
 ((¬ (b0=true))∨(x0=0)) ∧
 ((x14 < x0)→(
 ∃ (x15:Int),∃ (x16:Int),∃ (x17:Int),(Vq w 6 #[.agg #[.string ⟨s0.toArray⟩,(if b0=true then .slice none 0 0 else .slice (some (Vc.qad p0 (Int.toNat x0) (Int.toNat x1))) (Int.toNat x0) (Int.toNat x1):Value),.int .i64 x2,.int .i64 x3,(if b1=true then .slice none 0 0 else .slice (some (Vc.qad p1 (Int.toNat x4) (Int.toNat x5))) (Int.toNat x4) (Int.toNat x5):Value),.int .i64 x6,.int .i64 x7],.int .i64 x14,.agg #[.int .i64 x8,.int .i64 x9]] (.tuple #[.agg #[.int .i64 x15,.int .i64 x16],.int .i64 x17])) ∧
 ∃ (x18:Int),∃ (x19:Int),∃ (x20:Int),(Vq w 7 #[.agg #[.string ⟨s0.toArray⟩,(if b0=true then .slice none 0 0 else .slice (some (Vc.qad p0 (Int.toNat x0) (Int.toNat x1))) (Int.toNat x0) (Int.toNat x1):Value),.int .i64 x2,.int .i64 x3,(if b1=true then .slice none 0 0 else .slice (some (Vc.qad p1 (Int.toNat x4) (Int.toNat x5))) (Int.toNat x4) (Int.toNat x5):Value),.int .i64 x6,.int .i64 x7],.int .i64 x14,.agg #[.int .i64 x8,.int .i64 x9]] (.tuple #[.agg #[.int .i64 x18,.int .i64 x19],.int .i64 x20])) ∧
 ∃ (x21:Int),∃ (x22:Int),∃ (x23:Int),(Vq w 8 #[.agg #[.string ⟨s0.toArray⟩,(if b0=true then .slice none 0 0 else .slice (some (Vc.qad p0 (Int.toNat x0) (Int.toNat x1))) (Int.toNat x0) (Int.toNat x1):Value),.int .i64 x2,.int .i64 x3,(if b1=true then .slice none 0 0 else .slice (some (Vc.qad p1 (Int.toNat x4) (Int.toNat x5))) (Int.toNat x4) (Int.toNat x5):Value),.int .i64 x6,.int .i64 x7],.int .i64 x14] (.tuple #[.agg #[.int .i64 x21,.int .i64 x22],.int .i64 x23])) ∧
 ((x17=0)→(
 ((x20=0)→(
 ((x23=0)→(
 (¬ (b0=true)) ∧
 (0≤x14) ∧
 (x14 < x0) ∧
 ∃ (b4:Bool) (p2:Nat × Nat) (x24 x25:Int),w.cell? ⟨p0.1,p0.2 + (Int.toNat x14) * 6 + 5,none⟩=some ((if b4=true then .slice none 0 0 else .slice (some (Vc.qad p2 (Int.toNat x24) (Int.toNat x25))) (Int.toNat x24) (Int.toNat x25):Value)) ∧
 (0≤x24) ∧
 ((¬ (b4=true))∨(x24=0)) ∧
 ((x24=1)→(
 (¬ (b0=true)) ∧
 (0≤x14) ∧
 (x14 < x0) ∧
 ∃ (b5:Bool) (p3:Nat × Nat) (x26 x27:Int),w.cell? ⟨p0.1,p0.2 + (Int.toNat x14) * 6 + 5,none⟩=some ((if b5=true then .slice none 0 0 else .slice (some (Vc.qad p3 (Int.toNat x26) (Int.toNat x27))) (Int.toNat x26) (Int.toNat x27):Value)) ∧
 (¬ (b5=true)) ∧
 (0 < x26) ∧
 ∃ (s1:List UInt8),w.cell? ⟨p3.1,p3.2 + (Int.toNat 0) * 11 + 0,none⟩=some (.string ⟨s1.toArray⟩) ∧
 ∃ (x28:Int),w.cell? ⟨p3.1,p3.2 + (Int.toNat 0) * 11 + 1,none⟩=some (.int .i64 x28) ∧
 ∃ (x29:Int),w.cell? ⟨p3.1,p3.2 + (Int.toNat 0) * 11 + 2,none⟩=some (.int .i64 x29) ∧
 ∃ (x30:Int),w.cell? ⟨p3.1,p3.2 + (Int.toNat 0) * 11 + 3,none⟩=some (.int .i64 x30) ∧
 ∃ (x31:Int),w.cell? ⟨p3.1,p3.2 + (Int.toNat 0) * 11 + 4,none⟩=some (.int .i64 x31) ∧
 ∃ (x32:Int),w.cell? ⟨p3.1,p3.2 + (Int.toNat 0) * 11 + 5,none⟩=some (.int .i64 x32) ∧
 ∃ (x33:Int),w.cell? ⟨p3.1,p3.2 + (Int.toNat 0) * 11 + 6,none⟩=some (.int .i64 x33) ∧
 ∃ (x34:Int),w.cell? ⟨p3.1,p3.2 + (Int.toNat 0) * 11 + 7,none⟩=some (.int .i64 x34) ∧
 ∃ (x35:Int),w.cell? ⟨p3.1,p3.2 + (Int.toNat 0) * 11 + 8,none⟩=some (.int .i64 x35) ∧
 ∃ (x36:Int),w.cell? ⟨p3.1,p3.2 + (Int.toNat 0) * 11 + 9,none⟩=some (.int .i64 x36) ∧
 ∃ (x37:Int),w.cell? ⟨p3.1,p3.2 + (Int.toNat 0) * 11 + 10,none⟩=some (.int .i64 x37) ∧
 ∃ (x38:Int),∃ (x39:Int),(Vq w 9 #[.agg #[.int .i64 x8,.int .i64 x9],.int .u16 x13] (.agg #[.int .i64 x38,.int .i64 x39])) ∧
 ∃ (x40:Int),∃ (x41:Int),(Vq w 9 #[.agg #[.int .i64 x29,.int .i64 x30],.int .u16 x10] (.agg #[.int .i64 x40,.int .i64 x41])) ∧
 ∃ (x42:Int),∃ (x43:Int),∃ (x44:Int),(Vq w 10 #[.agg #[.int .i64 x40,.int .i64 x41],.int .i64 x28] (.tuple #[.agg #[.int .i64 x42,.int .i64 x43],.int .i64 x44])) ∧
 ∃ (x45:Int),∃ (x46:Int),(Vq w 9 #[.agg #[.int .i64 x31,.int .i64 x32],.int .u16 x11] (.agg #[.int .i64 x45,.int .i64 x46])) ∧
 ∃ (x47:Int),∃ (x48:Int),∃ (x49:Int),(Vq w 10 #[.agg #[.int .i64 x45,.int .i64 x46],.int .i64 x28] (.tuple #[.agg #[.int .i64 x47,.int .i64 x48],.int .i64 x49])) ∧
 ∃ (x50:Int),∃ (x51:Int),∃ (x52:Int),(Vq w 11 #[.agg #[.int .i64 x42,.int .i64 x43],.agg #[.int .i64 x38,.int .i64 x39]] (.tuple #[.agg #[.int .i64 x50,.int .i64 x51],.int .i64 x52])) ∧
 ∃ (x53:Int),∃ (x54:Int),∃ (x55:Int),(Vq w 11 #[.agg #[.int .i64 x47,.int .i64 x48],.agg #[.int .i64 x38,.int .i64 x39]] (.tuple #[.agg #[.int .i64 x53,.int .i64 x54],.int .i64 x55])) ∧
 (¬ (b0=true)) ∧
 (0≤x14) ∧
 (x14 < x0) ∧
 ∃ (x56:Int),w.cell? ⟨p0.1,p0.2 + (Int.toNat x14) * 6 + 3,none⟩=some (.int .i64 x56) ∧
 ∃ (x57:Int),w.cell? ⟨p0.1,p0.2 + (Int.toNat x14) * 6 + 4,none⟩=some (.int .i64 x57) ∧
 ∃ (x58:Int),∃ (x59:Int),(Vq w 9 #[.agg #[.int .i64 x56,.int .i64 x57],.int .u16 x12] (.agg #[.int .i64 x58,.int .i64 x59])) ∧
 ∃ (x60:Int),∃ (x61:Int),∃ (x62:Int),(Vq w 12 #[.agg #[.int .i64 x58,.int .i64 x59],.agg #[.int .i64 x47,.int .i64 x48]] (.tuple #[.agg #[.int .i64 x60,.int .i64 x61],.int .i64 x62])) ∧
 ((x52=0)→(
 ∃ (b6:Bool),(Vq w 13 #[.agg #[.int .i64 x50,.int .i64 x51],.agg #[.int .i64 x15,.int .i64 x16]] (.bool b6)) ∧
 ((b6=true)→(
 ((x55=0)→(
 ∃ (b7:Bool),(Vq w 13 #[.agg #[.int .i64 x53,.int .i64 x54],.agg #[.int .i64 x18,.int .i64 x19]] (.bool b7)) ∧
 ((b7=true)→(
 ((x62=0)→(
 ∃ (b8:Bool),(Vq w 13 #[.agg #[.int .i64 x60,.int .i64 x61],.agg #[.int .i64 x21,.int .i64 x22]] (.bool b8)) ∧
 ((b8=true)→(
 ∀ x63:Int,x63=IntKind.i64.wrap (x14 + 1) →
 Ib3 [.b b3,.i x63]∧mb3 [.b b3,.i x63] < mb3 [.b b3,.i x14]))∧(¬ (b8=true)→(
 (.bool false:Value)=v))))∧(¬ (x62=0)→(
 ∀ x63:Int,x63=IntKind.i64.wrap (x14 + 1) →
 Ib3 [.b b3,.i x63]∧mb3 [.b b3,.i x63] < mb3 [.b b3,.i x14]))))∧(¬ (b7=true)→(
 (.bool false:Value)=v))))∧(¬ (x55=0)→(
 (.bool false:Value)=v))))∧(¬ (b6=true)→(
 (.bool false:Value)=v))))∧(¬ (x52=0)→(
 (.bool false:Value)=v))))∧(¬ (x24=1)→(
 ∀ x26:Int,x26=IntKind.i64.wrap (x14 + 1) →
 Ib3 [.b b3,.i x26]∧mb3 [.b b3,.i x26] < mb3 [.b b3,.i x14]))))∧(¬ (x23=0)→(
 ∀ x24:Int,x24=IntKind.i64.wrap (x14 + 1) →
 Ib3 [.b b3,.i x24]∧mb3 [.b b3,.i x24] < mb3 [.b b3,.i x14]))))∧(¬ (x20=0)→(
 ∀ x24:Int,x24=IntKind.i64.wrap (x14 + 1) →
 Ib3 [.b b3,.i x24]∧mb3 [.b b3,.i x24] < mb3 [.b b3,.i x14]))))∧(¬ (x17=0)→(
 ∀ x24:Int,x24=IntKind.i64.wrap (x14 + 1) →
 Ib3 [.b b3,.i x24]∧mb3 [.b b3,.i x24] < mb3 [.b b3,.i x14]))))∧(¬ (x14 < x0)→(
 ∃ (b4:Bool),(Vq w 5 #[] (.bool b4)) ∧
 (.bool b4:Value)=v)))))):Calls Tryz.prog 3 #[.agg #[.string ⟨s0.toArray⟩,(if b0=true then .slice none 0 0 else .slice (some (Vc.qad p0 (Int.toNat x0) (Int.toNat x1))) (Int.toNat x0) (Int.toNat x1):Value),.int .i64 x2,.int .i64 x3,(if b1=true then .slice none 0 0 else .slice (some (Vc.qad p1 (Int.toNat x4) (Int.toNat x5))) (Int.toNat x4) (Int.toNat x5):Value),.int .i64 x6,.int .i64 x7],.agg #[.int .i64 x8,.int .i64 x9],.agg #[.int .u16 x10,.int .u16 x11,.int .u16 x12,.int .u16 x13]] w (Vc.Ret v w) :=
 Vc.zb base [(5000000000004,.inv [] [6,7] [29,30,31,32,33,37,38,39,40,36,41,42,8,9,44,45,46,47,43,48,49,10,11,51,52,53,50,54,55,12,13,56,57,58,59,60,61,62,63,64,65,66,67,68,69,70,71,72,73,74,75,76,77,78,79,80,81,82,83,14,84,85,86,87,15,89,90,91,92,93,94,95,96,88,97,98,16,17,100,101,102,103,104,105,106,107,99,108,109,18,19,111,112,113,110,114,115,20,21,117,118,119,116,120,121,22,23,123,124,125,126,127,128,129,130,131,132,133,122,134,135,24,25,136,137,138,139,140,141,142,143,144,145,146,147,148,149,150,151,152,153,154,155,156,157,158,159,160,161,162,163,34,35])] [] 200 Tryz.func3 (b:=(Tryz.f3.body).getD .skip) (by kernel_rfl) [.cv (.agg [.sv 0,.qsl 0 0 6 (.var 0) (.var 1),.int .i64 (.var 2),.int .i64 (.var 3),.qsl 1 1 3 (.var 4) (.var 5),.int .i64 (.var 6),.int .i64 (.var 7)]),.cv (.agg [.int .i64 (.var 8),.int .i64 (.var 9)]),.cv (.agg [.int .u16 (.var 10),.int .u16 (.var 11),.int .u16 (.var 12),.int .u16 (.var 13)])] ⟨14,2,0,2,0,1,0⟩ [] (Vc.envOf [x0,x1,x2,x3,x4,x5,x6,x7,x8,x9,x10,x11,x12,x13] [b0,b1] [] [p0,p1] [s0]) (by kernel_rfl) Vc.zc (by kernel_rfl) (by kernel_rfl) h
end Go.Proofs.YtkjmhcejdiglfacGreatDoor
