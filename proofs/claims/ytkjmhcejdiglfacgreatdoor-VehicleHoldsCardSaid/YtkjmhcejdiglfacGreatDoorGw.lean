import Derived.Test.YtkjmhcejdiglfacGreatDoorG0
set_option linter.unusedVariables false
set_option maxRecDepth 100000
namespace Go.Proofs.YtkjmhcejdiglfacGreatDoor
open Go Go.RowKit
theorem zxf(p0 p1:Nat × Nat)(x0 x1 x2 x3 x4 x5 x6 x7:Int)(b0 b1:Bool)(s0:List UInt8)(w:World)(v:Value)(h :
 ∀ x8:Int,x8=((s0.length:Nat):Int) →
 ∃ (Ix9:List Vc.Vl→Prop) (mx9:List Vc.Vl→Nat),Ix9 [.i x8,.b false,.i 0]∧∀ (x9:Int) (b2:Bool) (x10:Int),Ix9 [.i x9,.b b2,.i x10]→(
 (0≤x0) ∧
 ((¬ (b0=true))∨(x0=0)) ∧
 ((x10 < x0)→(
 ((x10 < 12)→(
 (¬ (b0=true)) ∧
 (0≤x10) ∧
 (x10 < x0) ∧
 ∃ (s1:List UInt8),w.cell? ⟨p0.1,p0.2 + (Int.toNat x10) * 6 + 0,none⟩=some (.string ⟨s1.toArray⟩) ∧
 ∀ x11:Int,x11=((s1.length:Nat):Int) →
 ∀ x12:Int,x12=IntKind.i64.wrap (x9 + x11) →
 ∃ (Ix13:List Vc.Vl→Prop) (mx13:List Vc.Vl→Nat),Ix13 [.i x12,.i 0]∧∀ (x13:Int) (x14:Int),Ix13 [.i x13,.i x14]→(
 (¬ (b0=true)) ∧
 (0≤x10) ∧
 (x10 < x0) ∧
 ∃ (b3:Bool) (p2:Nat × Nat) (x15 x16:Int),w.cell? ⟨p0.1,p0.2 + (Int.toNat x10) * 6 + 5,none⟩=some ((if b3=true then .slice none 0 0 else .slice (some (Vc.qad p2 (Int.toNat x15) (Int.toNat x16))) (Int.toNat x15) (Int.toNat x16):Value)) ∧
 (0≤x15) ∧
 ((¬ (b3=true))∨(x15=0)) ∧
 ((x14 < x15)→(
 ((x14 < 20)→(
 (¬ (b0=true)) ∧
 (0≤x10) ∧
 (x10 < x0) ∧
 ∃ (b4:Bool) (p3:Nat × Nat) (x17 x18:Int),w.cell? ⟨p0.1,p0.2 + (Int.toNat x10) * 6 + 5,none⟩=some ((if b4=true then .slice none 0 0 else .slice (some (Vc.qad p3 (Int.toNat x17) (Int.toNat x18))) (Int.toNat x17) (Int.toNat x18):Value)) ∧
 (¬ (b4=true)) ∧
 (0≤x14) ∧
 (x14 < x17) ∧
 ∃ (s2:List UInt8),w.cell? ⟨p3.1,p3.2 + (Int.toNat x14) * 11 + 0,none⟩=some (.string ⟨s2.toArray⟩) ∧
 ∀ x19:Int,x19=((s2.length:Nat):Int) →
 ∀ x20:Int,x20=IntKind.i64.wrap (x13 + x19) →
 ∀ x21:Int,x21=IntKind.i64.wrap (x14 + 1) →
 Ix13 [.i x20,.i x21]∧mx13 [.i x20,.i x21] < mx13 [.i x13,.i x14]))∧(¬ (x14 < 20)→(
 (¬ (b0=true)) ∧
 (0≤x10) ∧
 (x10 < x0) ∧
 ∃ (b4:Bool) (p3:Nat × Nat) (x17 x18:Int),w.cell? ⟨p0.1,p0.2 + (Int.toNat x10) * 6 + 5,none⟩=some ((if b4=true then .slice none 0 0 else .slice (some (Vc.qad p3 (Int.toNat x17) (Int.toNat x18))) (Int.toNat x17) (Int.toNat x18):Value)) ∧
 (0≤x17) ∧
 ((¬ (b4=true))∨(x17=0)) ∧
 ((20 < x17)→(
 (.bool true:Value)=v))∧(¬ (20 < x17)→(
 ∀ x19:Int,x19=IntKind.i64.wrap (x10 + 1) →
 Ix9 [.i x13,.b b2,.i x19]∧mx9 [.i x13,.b b2,.i x19] < mx9 [.i x9,.b b2,.i x10]))))))∧(¬ (x14 < x15)→(
 (¬ (b0=true)) ∧
 (0≤x10) ∧
 (x10 < x0) ∧
 ∃ (b4:Bool) (p3:Nat × Nat) (x17 x18:Int),w.cell? ⟨p0.1,p0.2 + (Int.toNat x10) * 6 + 5,none⟩=some ((if b4=true then .slice none 0 0 else .slice (some (Vc.qad p3 (Int.toNat x17) (Int.toNat x18))) (Int.toNat x17) (Int.toNat x18):Value)) ∧
 (0≤x17) ∧
 ((¬ (b4=true))∨(x17=0)) ∧
 ((20 < x17)→(
 (.bool true:Value)=v))∧(¬ (20 < x17)→(
 ∀ x19:Int,x19=IntKind.i64.wrap (x10 + 1) →
 Ix9 [.i x13,.b b2,.i x19]∧mx9 [.i x13,.b b2,.i x19] < mx9 [.i x9,.b b2,.i x10])))))))∧(¬ (x10 < 12)→(
 (0≤x0) ∧
 ((¬ (b0=true))∨(x0=0)) ∧
 ((12 < x0)→(
 (.bool true:Value)=v))∧(¬ (12 < x0)→(
 (0≤x4) ∧
 ((¬ (b1=true))∨(x4=0)) ∧
 ((70 < x4)→(
 (.bool true:Value)=v))∧(¬ (70 < x4)→(
 (.bool (decide (x9 > 2000)):Value)=v))))))))∧(¬ (x10 < x0)→(
 (0≤x0) ∧
 ((¬ (b0=true))∨(x0=0)) ∧
 ((12 < x0)→(
 (.bool true:Value)=v))∧(¬ (12 < x0)→(
 (0≤x4) ∧
 ((¬ (b1=true))∨(x4=0)) ∧
 ((70 < x4)→(
 (.bool true:Value)=v))∧(¬ (70 < x4)→(
 (.bool (decide (x9 > 2000)):Value)=v)))))))):Calls Tryz.prog 4 #[.agg #[.string ⟨s0.toArray⟩,(if b0=true then .slice none 0 0 else .slice (some (Vc.qad p0 (Int.toNat x0) (Int.toNat x1))) (Int.toNat x0) (Int.toNat x1):Value),.int .i64 x2,.int .i64 x3,(if b1=true then .slice none 0 0 else .slice (some (Vc.qad p1 (Int.toNat x4) (Int.toNat x5))) (Int.toNat x4) (Int.toNat x5):Value),.int .i64 x6,.int .i64 x7]] w (Vc.Ret v w) :=
 Vc.zb base [(9000000000003,.inv [] [3,2,4] [9,10,11,12,13,14,15,16,17,20,21,22,23,24,25,26,27,28,5,29,30,31,32,33,34,35,36,37,38,39,40,41,44,45,46,47,48,49,50,51,52,53,54,55,56,42,43,57,58,59,60,61,62,63,64,18,19]),(13000000000007,.inv [] [3,5] [29,30,31,32,33,34,35,36,37,38,39,40,41,44,45,46,47,48,49,50,51,52,53,54,55,56,42,43])] [] 200 Tryz.func4 (b:=(Tryz.f4.body).getD .skip) (by kernel_rfl) [.cv (.agg [.sv 0,.qsl 0 0 6 (.var 0) (.var 1),.int .i64 (.var 2),.int .i64 (.var 3),.qsl 1 1 3 (.var 4) (.var 5),.int .i64 (.var 6),.int .i64 (.var 7)])] ⟨8,2,0,2,0,1,0⟩ [] (Vc.envOf [x0,x1,x2,x3,x4,x5,x6,x7] [b0,b1] [] [p0,p1] [s0]) (by kernel_rfl) Vc.zc (by kernel_rfl) (by kernel_rfl) h
end Go.Proofs.YtkjmhcejdiglfacGreatDoor
