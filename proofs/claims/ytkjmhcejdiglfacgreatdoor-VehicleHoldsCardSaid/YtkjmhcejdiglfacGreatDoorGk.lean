import Derived.Test.YtkjmhcejdiglfacGreatDoorG0
set_option linter.unusedVariables false
set_option maxRecDepth 100000
namespace Go.Proofs.YtkjmhcejdiglfacGreatDoor
open Go Go.RowKit
theorem zoh(x0:Int)(s0:List UInt8)(w:World)(v:Value)(h :
 ∃ (Ix1:List Vc.Vl→Prop) (mx1:List Vc.Vl→Nat),Ix1 [.i x0]∧∀ (x1:Int),Ix1 [.i x1]→(
 ∀ x2:Int,x2=((s0.length:Nat):Int) →
 ((x1 < x2)→(
 ∀ x3:Int,x3=((s0.length:Nat):Int) →
 (0≤x1) ∧
 (x1 < x3) ∧
 ∀ x4:Int,x4=(((s0.getD (Int.toNat x1) 0).toNat:Nat):Int) →
 ((x4=32)→(
 ∀ x5:Int,x5=IntKind.i64.wrap (x1 + 1) →
 Ix1 [.i x5]∧mx1 [.i x5] < mx1 [.i x1]))∧(¬ (x4=32)→(
 ((x4=10)→(
 ∀ x5:Int,x5=IntKind.i64.wrap (x1 + 1) →
 Ix1 [.i x5]∧mx1 [.i x5] < mx1 [.i x1]))∧(¬ (x4=10)→(
 (.int .i64 x1:Value)=v))))))∧(¬ (x1 < x2)→(
 (.int .i64 x1:Value)=v)))):Calls Tryz.prog 59 #[.string ⟨s0.toArray⟩,.int .i64 x0,.func (.func 60) #[] #[]] w (Vc.Ret v w) :=
 Vc.zb (ze [60] (by kernel_rfl)) [(11000000000001,.inv [] [1] [7,8,9,10,11,12,13,14,15,16,17,18,19])] [] 200 Tryz.func59 (b:=(Tryz.f59.body).getD .skip) (by kernel_rfl) [.cv (.one (.sv 0)),.cv (.one (.int .i64 (.var 0))),.cv (.one (.fn 60 []))] ⟨1,0,0,0,0,1,0⟩ [] (Vc.envOf [x0] [] [] [] [s0]) (by kernel_rfl) Vc.zc (by kernel_rfl) (by kernel_rfl) h
theorem zzi(x0:Int)(w:World)(v:Value)(h :
 ((97≤x0)→(
 ((x0≤122)→(
 (.bool true:Value)=v))∧(¬ (x0≤122)→(
 ((65≤x0)→(
 (.bool (decide (x0≤90)):Value)=v))∧(¬ (65≤x0)→(
 (.bool false:Value)=v))))))∧(¬ (97≤x0)→(
 ((65≤x0)→(
 (.bool (decide (x0≤90)):Value)=v))∧(¬ (65≤x0)→(
 (.bool false:Value)=v))))):Calls Tryz.prog 61 #[.int .u8 x0] w (Vc.Ret v w) :=
 Vc.zb base [] [] 200 Tryz.func61 (b:=(Tryz.f61.body).getD .skip) (by kernel_rfl) [.cv (.one (.int .u8 (.var 0)))] ⟨1,0,0,0,0,0,0⟩ [] (Vc.envOf [x0] [] [] []) (by kernel_rfl) Vc.zc (by kernel_rfl) (by kernel_rfl) h
theorem zbk(x0:Int)(w:World)(v:Value)(h :
 ((48≤x0)→(
 (.bool (decide (x0≤57)):Value)=v))∧(¬ (48≤x0)→(
 (.bool false:Value)=v))):Calls Tryz.prog 63 #[.int .u8 x0] w (Vc.Ret v w) :=
 Vc.zb base [] [] 200 Tryz.func63 (b:=(Tryz.f63.body).getD .skip) (by kernel_rfl) [.cv (.one (.int .u8 (.var 0)))] ⟨1,0,0,0,0,0,0⟩ [] (Vc.envOf [x0] [] [] []) (by kernel_rfl) Vc.zc (by kernel_rfl) (by kernel_rfl) h
theorem zph(x0:Int)(s0:List UInt8)(w:World)(v:Value)(h :
 ∃ (Ix1:List Vc.Vl→Prop) (mx1:List Vc.Vl→Nat),Ix1 [.i x0]∧∀ (x1:Int),Ix1 [.i x1]→(
 ∀ x2:Int,x2=((s0.length:Nat):Int) →
 ((x1 < x2)→(
 ∀ x3:Int,x3=((s0.length:Nat):Int) →
 (0≤x1) ∧
 (x1 < x3) ∧
 ∀ x4:Int,x4=(((s0.getD (Int.toNat x1) 0).toNat:Nat):Int) →
 ∃ (b0:Bool),(Vq w 61 #[.int .u8 x4] (.bool b0)) ∧
 ((b0=true)→(
 ∀ x5:Int,x5=IntKind.i64.wrap (x1 + 1) →
 Ix1 [.i x5]∧mx1 [.i x5] < mx1 [.i x1]))∧(¬ (b0=true)→(
 ∃ (b1:Bool),(Vq w 63 #[.int .u8 x4] (.bool b1)) ∧
 ((b1=true)→(
 ∀ x5:Int,x5=IntKind.i64.wrap (x1 + 1) →
 Ix1 [.i x5]∧mx1 [.i x5] < mx1 [.i x1]))∧(¬ (b1=true)→(
 ((x4=45)→(
 ∀ x5:Int,x5=IntKind.i64.wrap (x1 + 1) →
 Ix1 [.i x5]∧mx1 [.i x5] < mx1 [.i x1]))∧(¬ (x4=45)→(
 (.int .i64 x1:Value)=v))))))))∧(¬ (x1 < x2)→(
 (.int .i64 x1:Value)=v)))):Calls Tryz.prog 59 #[.string ⟨s0.toArray⟩,.int .i64 x0,.func (.func 62) #[] #[]] w (Vc.Ret v w) :=
 Vc.zb (ze [62] (by kernel_rfl)) [(11000000000001,.inv [] [1] [7,8,9,10,11,12,13,14,15,16,17,18,19])] [] 200 Tryz.func59 (b:=(Tryz.f59.body).getD .skip) (by kernel_rfl) [.cv (.one (.sv 0)),.cv (.one (.int .i64 (.var 0))),.cv (.one (.fn 62 []))] ⟨1,0,0,0,0,1,0⟩ [] (Vc.envOf [x0] [] [] [] [s0]) (by kernel_rfl) Vc.zc (by kernel_rfl) (by kernel_rfl) h
theorem zqh(x0:Int)(s0:List UInt8)(w:World)(v:Value)(h :
 ∃ (Ix1:List Vc.Vl→Prop) (mx1:List Vc.Vl→Nat),Ix1 [.i x0]∧∀ (x1:Int),Ix1 [.i x1]→(
 ∀ x2:Int,x2=((s0.length:Nat):Int) →
 ((x1 < x2)→(
 ∀ x3:Int,x3=((s0.length:Nat):Int) →
 (0≤x1) ∧
 (x1 < x3) ∧
 ∀ x4:Int,x4=(((s0.getD (Int.toNat x1) 0).toNat:Nat):Int) →
 ∃ (b0:Bool),(Vq w 63 #[.int .u8 x4] (.bool b0)) ∧
 ((b0=true)→(
 ∀ x5:Int,x5=IntKind.i64.wrap (x1 + 1) →
 Ix1 [.i x5]∧mx1 [.i x5] < mx1 [.i x1]))∧(¬ (b0=true)→(
 (.int .i64 x1:Value)=v))))∧(¬ (x1 < x2)→(
 (.int .i64 x1:Value)=v)))):Calls Tryz.prog 59 #[.string ⟨s0.toArray⟩,.int .i64 x0,.func (.func 63) #[] #[]] w (Vc.Ret v w) :=
 Vc.zb base [(11000000000001,.inv [] [1] [7,8,9,10,11,12,13,14,15,16,17,18,19])] [] 200 Tryz.func59 (b:=(Tryz.f59.body).getD .skip) (by kernel_rfl) [.cv (.one (.sv 0)),.cv (.one (.int .i64 (.var 0))),.cv (.one (.fn 63 []))] ⟨1,0,0,0,0,1,0⟩ [] (Vc.envOf [x0] [] [] [] [s0]) (by kernel_rfl) Vc.zc (by kernel_rfl) (by kernel_rfl) h
theorem zuf(s0 s1:List UInt8)(w:World)(v:Value)(h :
 ∀ x0:Int,x0=((s0.length:Nat):Int) →
 ∀ x1:Int,x1=((s1.length:Nat):Int) →
 ((x1≤x0)→(
 ∀ x2:Int,x2=((s1.length:Nat):Int) →
 ((0:Int)≤0∧(0:Int)≤x2∧x2≤(List.length s0:Int))∧∀ s2:List UInt8,s2=List.take (Int.toNat x2 - Int.toNat 0) (List.drop (Int.toNat 0) s0) →
 (.bool (decide (s2=s1)):Value)=v))∧(¬ (x1≤x0)→(
 (.bool false:Value)=v))):Calls Tryz.prog 68 #[.string ⟨s0.toArray⟩,.string ⟨s1.toArray⟩] w (Vc.Ret v w) :=
 Vc.zb (ze [108] (by kernel_rfl)) [] [] 200 Tryz.func68 (b:=(Tryz.f68.body).getD .skip) (by kernel_rfl) [.cv (.one (.sv 0)),.cv (.one (.sv 1))] ⟨0,0,0,0,0,2,0⟩ [] (Vc.envOf [] [] [] [] [s0,s1]) (by kernel_rfl) Vc.zc (by kernel_rfl) (by kernel_rfl) h
theorem zvf(s0:List UInt8)(w:World)(v:Value)(h :
 ((s0=([]:List UInt8))→(
 (.string ⟨s0.toArray⟩:Value)=v))∧(¬ (s0=([]:List UInt8))→(
 ∃ (Is1:List Vc.Vl→Prop) (ms1:List Vc.Vl→Nat),Is1 [.s s0]∧∀ (s1:List UInt8),Is1 [.s s1]→(
 ∀ x0:Int,x0=((s1.length:Nat):Int) →
 ((0 < x0)→(
 ∀ x1:Int,x1=((s1.length:Nat):Int) →
 ∀ x2:Int,x2=IntKind.i64.wrap (x1 - 1) →
 ∀ x3:Int,x3=((s1.length:Nat):Int) →
 (0≤x2) ∧
 (x2 < x3) ∧
 ∀ x4:Int,x4=(((s1.getD (Int.toNat x2) 0).toNat:Nat):Int) →
 ((x4=45)→(
 ∀ x5:Int,x5=((s1.length:Nat):Int) →
 ∀ x6:Int,x6=IntKind.i64.wrap (x5 - 1) →
 ((0:Int)≤0∧(0:Int)≤x6∧x6≤(List.length s1:Int))∧∀ s2:List UInt8,s2=List.take (Int.toNat x6 - Int.toNat 0) (List.drop (Int.toNat 0) s1) →
 Is1 [.s s2]∧ms1 [.s s2] < ms1 [.s s1]))∧(¬ (x4=45)→(
 (.string ⟨s1.toArray⟩:Value)=v))))∧(¬ (0 < x0)→(
 (.string ⟨s1.toArray⟩:Value)=v)))))):Calls Tryz.prog 64 #[.string ⟨s0.toArray⟩,.string ⟨(([45]:List UInt8)).toArray⟩] w (Vc.Ret v w) :=
 Vc.zb (ze [102] (by kernel_rfl)) [(12000000000001,.inv [] [0] [5,6,7,8,9,10,11,12,13,14,15,16,17,18,19,20,21])] [] 200 Tryz.func64 (b:=(Tryz.f64.body).getD .skip) (by kernel_rfl) [.cv (.one (.sv 0)),.cv (.one (.str [45]))] ⟨0,0,0,0,0,1,0⟩ [] (Vc.envOf [] [] [] [] [s0]) (by kernel_rfl) Vc.zc (by kernel_rfl) (by kernel_rfl) h
theorem zhm(s0:List UInt8)(w:World)(v:Value)(h :
 Vg_12 w ∧
 ((([107,109]:List UInt8)=s0)→(
 (.tuple #[.agg #[.int .i64 1,.int .i64 1,.int .i64 1,.int .i64 0,.int .i64 0],.bool true]:Value)=v))∧(¬ (([107,109]:List UInt8)=s0)→(
 ((([109]:List UInt8)=s0)→(
 (.tuple #[.agg #[.int .i64 1,.int .i64 1000,.int .i64 1,.int .i64 0,.int .i64 0],.bool true]:Value)=v))∧(¬ (([109]:List UInt8)=s0)→(
 ((([99,109]:List UInt8)=s0)→(
 (.tuple #[.agg #[.int .i64 1,.int .i64 100000,.int .i64 1,.int .i64 0,.int .i64 0],.bool true]:Value)=v))∧(¬ (([99,109]:List UInt8)=s0)→(
 ((([115]:List UInt8)=s0)→(
 (.tuple #[.agg #[.int .i64 1,.int .i64 1,.int .i64 0,.int .i64 1,.int .i64 0],.bool true]:Value)=v))∧(¬ (([115]:List UInt8)=s0)→(
 ((([109,115]:List UInt8)=s0)→(
 (.tuple #[.agg #[.int .i64 1,.int .i64 1000,.int .i64 0,.int .i64 1,.int .i64 0],.bool true]:Value)=v))∧(¬ (([109,115]:List UInt8)=s0)→(
 ((([109,105,110]:List UInt8)=s0)→(
 (.tuple #[.agg #[.int .i64 60,.int .i64 1,.int .i64 0,.int .i64 1,.int .i64 0],.bool true]:Value)=v))∧(¬ (([109,105,110]:List UInt8)=s0)→(
 ((([104]:List UInt8)=s0)→(
 (.tuple #[.agg #[.int .i64 3600,.int .i64 1,.int .i64 0,.int .i64 1,.int .i64 0],.bool true]:Value)=v))∧(¬ (([104]:List UInt8)=s0)→(
 ((([116]:List UInt8)=s0)→(
 (.tuple #[.agg #[.int .i64 1,.int .i64 1,.int .i64 0,.int .i64 0,.int .i64 1],.bool true]:Value)=v))∧(¬ (([116]:List UInt8)=s0)→(
 ((([107,103]:List UInt8)=s0)→(
 (.tuple #[.agg #[.int .i64 1,.int .i64 1000,.int .i64 0,.int .i64 0,.int .i64 1],.bool true]:Value)=v))∧(¬ (([107,103]:List UInt8)=s0)→(
 ((([77,78]:List UInt8)=s0)→(
 (.tuple #[.agg #[.int .i64 1,.int .i64 1,.int .i64 1,.int .i64 (-2),.int .i64 1],.bool true]:Value)=v))∧(¬ (([77,78]:List UInt8)=s0)→(
 ((([107,78]:List UInt8)=s0)→(
 (.tuple #[.agg #[.int .i64 1,.int .i64 1000,.int .i64 1,.int .i64 (-2),.int .i64 1],.bool true]:Value)=v))∧(¬ (([107,78]:List UInt8)=s0)→(
 ((([78]:List UInt8)=s0)→(
 (.tuple #[.agg #[.int .i64 1,.int .i64 1000000,.int .i64 1,.int .i64 (-2),.int .i64 1],.bool true]:Value)=v))∧(¬ (([78]:List UInt8)=s0)→(
 ((([80,97]:List UInt8)=s0)→(
 (.tuple #[.agg #[.int .i64 1,.int .i64 1,.int .i64 (-1),.int .i64 (-2),.int .i64 1],.bool true]:Value)=v))∧(¬ (([80,97]:List UInt8)=s0)→(
 ((([107,80,97]:List UInt8)=s0)→(
 (.tuple #[.agg #[.int .i64 1000,.int .i64 1,.int .i64 (-1),.int .i64 (-2),.int .i64 1],.bool true]:Value)=v))∧(¬ (([107,80,97]:List UInt8)=s0)→(
 (.tuple #[.agg #[.int .i64 0,.int .i64 0,.int .i64 0,.int .i64 0,.int .i64 0],.bool false]:Value)=v))))))))))))))))))))))))))))):Calls Tryz.prog 129 #[.string ⟨s0.toArray⟩] w (Vc.Ret v w) :=
 Vc.zb base [] globs 200 Tryz.func129 (b:=(Tryz.f129.body).getD .skip) (by kernel_rfl) [.cv (.one (.sv 0))] ⟨0,0,0,1,0,1,0⟩ [.glo 0 12] (Vc.envOf [] [] [] [(12,0)] [s0]) (by kernel_rfl) (Vc.zl (by kernel_rfl) rfl Vc.zc) (by kernel_rfl) (by kernel_rfl) h
theorem zjd(s0:List UInt8)(w:World)(v:Value)(h :
 ((([46]:List UInt8)=s0)→(
 ((0:Int)≤0∧(0:Int)≤0∧0≤(List.length s0:Int))∧∀ s1:List UInt8,s1=List.take (Int.toNat 0 - Int.toNat 0) (List.drop (Int.toNat 0) s0) →
 ∀ x0:Int,x0=((s0.length:Nat):Int) →
 ((0:Int)≤1∧(1:Int)≤x0∧x0≤(List.length s0:Int))∧∀ s2:List UInt8,s2=List.take (Int.toNat x0 - Int.toNat 1) (List.drop (Int.toNat 1) s0) →
 (.tuple #[.string ⟨s1.toArray⟩,.string ⟨s2.toArray⟩,.bool true]:Value)=v))∧(¬ (([46]:List UInt8)=s0)→(
 ∃ (x0:Int),(true=true∧∀ w':World,(callFunc 158 #[.string ⟨s0.toArray⟩,.int .u8 46]).run Tryz.prog w'=.ok (.value (.int .i64 x0)) w') ∧
 ((0≤x0)→(
 ((0:Int)≤0∧(0:Int)≤x0∧x0≤(List.length s0:Int))∧∀ s1:List UInt8,s1=List.take (Int.toNat x0 - Int.toNat 0) (List.drop (Int.toNat 0) s0) →
 ∀ x1:Int,x1=IntKind.i64.wrap (x0 + 1) →
 ∀ x2:Int,x2=((s0.length:Nat):Int) →
 ((0:Int)≤x1∧(x1:Int)≤x2∧x2≤(List.length s0:Int))∧∀ s2:List UInt8,s2=List.take (Int.toNat x2 - Int.toNat x1) (List.drop (Int.toNat x1) s0) →
 (.tuple #[.string ⟨s1.toArray⟩,.string ⟨s2.toArray⟩,.bool true]:Value)=v))∧(¬ (0≤x0)→(
 (.tuple #[.string ⟨s0.toArray⟩,.string ⟨(([]:List UInt8)).toArray⟩,.bool false]:Value)=v))))):Calls Tryz.prog 106 #[.string ⟨s0.toArray⟩,.string ⟨(([46]:List UInt8)).toArray⟩] w (Vc.Ret v w) :=
 Vc.zb (ze [128,140,153] (by kernel_rfl)) [(3000000000015,.inv [] [4,8,10] [57,58,59,60,61,62,63,64,65,66,67,68,69,70,71,11,72,73,74,75,76,77,78,79,80,81,82,83,84,85,86,87,88,89,90,91,92,93,94,95,96,97,98,99,100,101,102,103,104,105,106,107,108,109,110,111,112,12,113,114,115,116,117,118,119,120,121,122,123,124,125,126,127,128,129,130,131,132,133,134,135,136,137,13,138,139,140,141,142])] [] 200 Tryz.func106 (b:=(Tryz.f106.body).getD .skip) (by kernel_rfl) [.cv (.one (.sv 0)),.cv (.one (.str [46]))] ⟨0,0,0,0,0,1,0⟩ [] (Vc.envOf [] [] [] [] [s0]) (by kernel_rfl) Vc.zc (by kernel_rfl) (by kernel_rfl) h
theorem zlg(s0:List UInt8)(w:World)(v:Value)(h :
 ∃ (x0:Int),∃ (x1:Int),∃ (x2:Int),∃ (x3:Int),∃ (x4:Int),∃ (b0:Bool),(Vq w 129 #[.string ⟨s0.toArray⟩] (.tuple #[.agg #[.int .i64 x0,.int .i64 x1,.int .i64 x2,.int .i64 x3,.int .i64 x4],.bool b0])) ∧
 Vg_13 w ∧
 Vg_13 w ∧
 Vg_13 w ∧
 Vg_13 w ∧
 Vg_13 w ∧
 Vg_13 w ∧
 Vg_13 w ∧
 Vg_13 w ∧
 Vg_13 w ∧
 Vg_13 w ∧
 Vg_13 w ∧
 Vg_13 w ∧
 Vg_13 w ∧
 Vg_13 w ∧
 Vg_13 w ∧
 Vg_13 w ∧
 Vg_13 w ∧
 Vg_13 w ∧
 Vg_13 w ∧
 Vg_13 w ∧
 Vg_13 w ∧
 Vg_13 w ∧
 Vg_13 w ∧
 Vg_13 w ∧
 Vg_13 w ∧
 Vg_13 w ∧
 Vg_13 w ∧
 Vg_13 w ∧
 Vg_13 w ∧
 Vg_13 w ∧
 Vg_13 w ∧
 Vg_13 w ∧
 Vg_13 w ∧
 Vg_13 w ∧
 Vg_13 w ∧
 Vg_13 w ∧
 Vg_13 w ∧
 Vg_13 w ∧
 Vg_13 w ∧
 Vg_13 w ∧
 Vg_13 w ∧
 Vg_13 w ∧
 Vg_13 w ∧
 Vg_13 w ∧
 Vg_13 w ∧
 Vg_13 w ∧
 Vg_13 w ∧
 Vg_13 w ∧
 Vg_13 w ∧
 Vg_13 w ∧
 Vg_13 w ∧
 Vg_13 w ∧
 Vg_13 w ∧
 Vg_13 w ∧
 Vg_13 w ∧
 Vg_13 w ∧
 Vg_13 w ∧
 Vg_13 w ∧
 Vg_13 w ∧
 Vg_13 w ∧
 Vg_13 w ∧
 Vg_13 w ∧
 Vg_13 w ∧
 Vg_13 w ∧
 Vg_13 w ∧
 Vg_13 w ∧
 Vg_13 w ∧
 Vg_13 w ∧
 Vg_13 w ∧
 Vg_13 w ∧
 Vg_13 w ∧
 Vg_13 w ∧
 Vg_13 w ∧
 Vg_13 w ∧
 Vg_13 w ∧
 Vg_13 w ∧
 Vg_13 w ∧
 Vg_13 w ∧
 Vg_13 w ∧
 Vg_13 w ∧
 Vg_13 w ∧
 Vg_13 w ∧
 Vg_13 w ∧
 Vg_13 w ∧
 Vg_13 w ∧
 Vg_13 w ∧
 Vg_13 w ∧
 Vg_13 w ∧
 Vg_13 w ∧
 Vg_13 w ∧
 Vg_13 w ∧
 Vg_13 w ∧
 Vg_13 w ∧
 Vg_13 w ∧
 Vg_13 w ∧
 Vg_13 w ∧
 Vg_13 w ∧
 Vg_13 w ∧
 Vg_13 w ∧
 Vg_13 w ∧
 Vg_13 w ∧
 Vg_13 w ∧
 Vg_13 w ∧
 Vg_13 w ∧
 Vg_13 w ∧
 Vg_13 w ∧
 Vg_13 w ∧
 Vg_13 w ∧
 Vg_13 w ∧
 Vg_13 w ∧
 Vg_13 w ∧
 Vg_13 w ∧
 Vg_13 w ∧
 Vg_13 w ∧
 Vg_13 w ∧
 Vg_13 w ∧
 Vg_13 w ∧
 Vg_13 w ∧
 Vg_13 w ∧
 Vg_13 w ∧
 Vg_13 w ∧
 Vg_13 w ∧
 Vg_13 w ∧
 Vg_13 w ∧
 Vg_13 w ∧
 Vg_13 w ∧
 Vg_13 w ∧
 Vg_13 w ∧
 Vg_13 w ∧
 Vg_13 w ∧
 Vg_13 w ∧
 Vg_13 w ∧
 Vg_13 w ∧
 Vg_13 w ∧
 Vg_13 w ∧
 Vg_13 w ∧
 Vg_13 w ∧
 Vg_13 w ∧
 Vg_13 w ∧
 Vg_13 w ∧
 Vg_13 w ∧
 Vg_13 w ∧
 Vg_13 w ∧
 Vg_13 w ∧
 Vg_13 w ∧
 Vg_13 w ∧
 Vg_13 w ∧
 Vg_13 w ∧
 Vg_13 w ∧
 Vg_13 w ∧
 Vg_13 w ∧
 Vg_13 w ∧
 Vg_13 w ∧
 Vg_13 w ∧
 Vg_13 w ∧
 Vg_13 w ∧
 Vg_13 w ∧
 Vg_13 w ∧
 Vg_13 w ∧
 Vg_13 w ∧
 Vg_13 w ∧
 Vg_13 w ∧
 Vg_13 w ∧
 Vg_13 w ∧
 Vg_13 w ∧
 Vg_13 w ∧
 Vg_13 w ∧
 Vg_13 w ∧
 Vg_13 w ∧
 Vg_13 w ∧
 Vg_13 w ∧
 Vg_13 w ∧
 Vg_13 w ∧
 Vg_13 w ∧
 Vg_13 w ∧
 Vg_13 w ∧
 Vg_13 w ∧
 Vg_13 w ∧
 Vg_13 w ∧
 Vg_13 w ∧
 Vg_13 w ∧
 Vg_13 w ∧
 Vg_13 w ∧
 Vg_13 w ∧
 Vg_13 w ∧
 Vg_13 w ∧
 Vg_13 w ∧
 Vg_13 w ∧
 Vg_13 w ∧
 Vg_13 w ∧
 Vg_13 w ∧
 Vg_13 w ∧
 Vg_13 w ∧
 Vg_13 w ∧
 Vg_13 w ∧
 Vg_13 w ∧
 Vg_13 w ∧
 Vg_13 w ∧
 Vg_13 w ∧
 Vg_13 w ∧
 Vg_13 w ∧
 Vg_13 w ∧
 Vg_13 w ∧
 Vg_13 w ∧
 Vg_13 w ∧
 Vg_13 w ∧
 Vg_13 w ∧
 Vg_13 w ∧
 Vg_13 w ∧
 Vg_13 w ∧
 Vg_13 w ∧
 Vg_13 w ∧
 Vg_13 w ∧
 Vg_13 w ∧
 Vg_13 w ∧
 Vg_13 w ∧
 Vg_13 w ∧
 Vg_13 w ∧
 Vg_13 w ∧
 Vg_13 w ∧
 Vg_13 w ∧
 Vg_13 w ∧
 Vg_13 w ∧
 Vg_13 w ∧
 Vg_13 w ∧
 Vg_13 w ∧
 Vg_13 w ∧
 Vg_13 w ∧
 ((b0=true)→(
 (.bool true:Value)=v))∧(¬ (b0=true)→(
 ((s0=([118,101,104,105,99,108,101]:List UInt8))→(
 (.bool true:Value)=v))∧(¬ (s0=([118,101,104,105,99,108,101]:List UInt8))→(
 ((s0=([108,101,116]:List UInt8))→(
 (.bool true:Value)=v))∧(¬ (s0=([108,101,116]:List UInt8))→(
 ((s0=([115,116,97,103,101]:List UInt8))→(
 (.bool true:Value)=v))∧(¬ (s0=([115,116,97,103,101]:List UInt8))→(
 ((s0=([101,110,103,105,110,101]:List UInt8))→(
 (.bool true:Value)=v))∧(¬ (s0=([101,110,103,105,110,101]:List UInt8))→(
 ((s0=([105,110]:List UInt8))→(
 (.bool true:Value)=v))∧(¬ (s0=([105,110]:List UInt8))→(
 ((s0=([100,114,97,103]:List UInt8))→(
 (.bool true:Value)=v))∧(¬ (s0=([100,114,97,103]:List UInt8))→(
 ((s0=([108,105,109,105,116,115]:List UInt8))→(
 (.bool true:Value)=v))∧(¬ (s0=([108,105,109,105,116,115]:List UInt8))→(
 ((s0=([112,97,121,108,111,97,100]:List UInt8))→(
 (.bool true:Value)=v))∧(¬ (s0=([112,97,121,108,111,97,100]:List UInt8))→(
 ((s0=([100,114,121]:List UInt8))→(
 (.bool true:Value)=v))∧(¬ (s0=([100,114,121]:List UInt8))→(
 ((s0=([112,114,111,112]:List UInt8))→(
 (.bool true:Value)=v))∧(¬ (s0=([112,114,111,112]:List UInt8))→(
 ((s0=([99,111,117,110,116]:List UInt8))→(
 (.bool true:Value)=v))∧(¬ (s0=([99,111,117,110,116]:List UInt8))→(
 ((s0=([116,104,114,117,115,116]:List UInt8))→(
 (.bool true:Value)=v))∧(¬ (s0=([116,104,114,117,115,116]:List UInt8))→(
 ((s0=([102,108,111,119]:List UInt8))→(
 (.bool true:Value)=v))∧(¬ (s0=([102,108,111,119]:List UInt8))→(
 ((s0=([108,101,97,115,116]:List UInt8))→(
 (.bool true:Value)=v))∧(¬ (s0=([108,101,97,115,116]:List UInt8))→(
 ((s0=([115,116,97,114,116]:List UInt8))→(
 (.bool true:Value)=v))∧(¬ (s0=([115,116,97,114,116]:List UInt8))→(
 ((s0=([115,116,111,112]:List UInt8))→(
 (.bool true:Value)=v))∧(¬ (s0=([115,116,111,112]:List UInt8))→(
 ((s0=([97,120,105,97,108]:List UInt8))→(
 (.bool true:Value)=v))∧(¬ (s0=([97,120,105,97,108]:List UInt8))→(
 ((s0=([98,101,110,100,105,110,103]:List UInt8))→(
 (.bool true:Value)=v))∧(¬ (s0=([98,101,110,100,105,110,103]:List UInt8))→(
 (.bool false:Value)=v))))))))))))))))))))))))))))))))))))))):Calls Tryz.prog 114 #[.string ⟨s0.toArray⟩] w (Vc.Ret v w) :=
 Vc.zb (ze [130,131,143] (by kernel_rfl)) [] globs 200 Tryz.func114 (b:=(Tryz.f114.body).getD .skip) (by kernel_rfl) [.cv (.one (.sv 0))] ⟨0,0,0,1,0,1,0⟩ [.glo 0 13] (Vc.envOf [] [] [] [(13,0)] [s0]) (by kernel_rfl) (Vc.zl (by kernel_rfl) rfl Vc.zc) (by kernel_rfl) (by kernel_rfl) h
theorem zim(x0:Int)(s0:List UInt8)(w:World)(v:Value)(h :
 ∃ (x1:Int),(Vq w 59 #[.string ⟨s0.toArray⟩,.int .i64 x0,.func (.func 60) #[] #[]] (.int .i64 x1)) ∧
 ∀ x2:Int,x2=((s0.length:Nat):Int) →
 ((x1=x2)→(
 (.agg #[.int .i64 0,.int .i64 x1,.int .i64 x1,.string ⟨(([]:List UInt8)).toArray⟩,.int .i64 0,.int .i64 0,.int .i64 0,.int .i64 0,.int .i64 0,.int .i64 0]:Value)=v))∧(¬ (x1=x2)→(
 ∀ x3:Int,x3=((s0.length:Nat):Int) →
 (0≤x1) ∧
 (x1 < x3) ∧
 ∀ x4:Int,x4=(((s0.getD (Int.toNat x1) 0).toNat:Nat):Int) →
 ∃ (b0:Bool),(Vq w 61 #[.int .u8 x4] (.bool b0)) ∧
 ((b0=true)→(
 ∃ (x5:Int),(Vq w 59 #[.string ⟨s0.toArray⟩,.int .i64 x1,.func (.func 62) #[] #[]] (.int .i64 x5)) ∧
 ((0:Int)≤x1∧(x1:Int)≤x5∧x5≤(List.length s0:Int))∧∀ s1:List UInt8,s1=List.take (Int.toNat x5 - Int.toNat x1) (List.drop (Int.toNat x1) s0) →
 ∃ (s2:List UInt8),(Vq w 64 #[.string ⟨s1.toArray⟩,.string ⟨(([45]:List UInt8)).toArray⟩] (.string ⟨s2.toArray⟩)) ∧
 ∀ x6:Int,x6=((s2.length:Nat):Int) →
 ∀ x7:Int,x7=IntKind.i64.wrap (x1 + x6) →
 ∀ x8:Int,x8=((s2.length:Nat):Int) →
 ((32 < x8)→(
 (.agg #[.int .i64 1,.int .i64 x1,.int .i64 x7,.string ⟨s2.toArray⟩,.int .i64 0,.int .i64 0,.int .i64 0,.int .i64 0,.int .i64 0,.int .i64 5]:Value)=v))∧(¬ (32 < x8)→(
 (.agg #[.int .i64 1,.int .i64 x1,.int .i64 x7,.string ⟨s2.toArray⟩,.int .i64 0,.int .i64 0,.int .i64 0,.int .i64 0,.int .i64 0,.int .i64 0]:Value)=v))))∧(¬ (b0=true)→(
 ∀ x5:Int,x5=((s0.length:Nat):Int) →
 (0≤x1) ∧
 (x1 < x5) ∧
 ∀ x6:Int,x6=(((s0.getD (Int.toNat x1) 0).toNat:Nat):Int) →
 ∃ (b1:Bool),(Vq w 63 #[.int .u8 x6] (.bool b1)) ∧
 ((b1=true)→(
 ∃ (x7:Int),(Vq w 59 #[.string ⟨s0.toArray⟩,.int .i64 x1,.func (.func 63) #[] #[]] (.int .i64 x7)) ∧
 ∀ x8:Int,x8=IntKind.i64.wrap (x7 + 1) →
 ∀ x9:Int,x9=((s0.length:Nat):Int) →
 ((x8 < x9)→(
 ∀ x10:Int,x10=((s0.length:Nat):Int) →
 (0≤x7) ∧
 (x7 < x10) ∧
 ∀ x11:Int,x11=(((s0.getD (Int.toNat x7) 0).toNat:Nat):Int) →
 ((x11=46)→(
 ∀ x12:Int,x12=IntKind.i64.wrap (x7 + 1) →
 ∀ x13:Int,x13=((s0.length:Nat):Int) →
 (0≤x12) ∧
 (x12 < x13) ∧
 ∀ x14:Int,x14=(((s0.getD (Int.toNat x12) 0).toNat:Nat):Int) →
 ∃ (b2:Bool),(Vq w 63 #[.int .u8 x14] (.bool b2)) ∧
 ((b2=true)→(
 ∀ x15:Int,x15=IntKind.i64.wrap (x7 + 1) →
 ∃ (x16:Int),(Vq w 59 #[.string ⟨s0.toArray⟩,.int .i64 x15,.func (.func 63) #[] #[]] (.int .i64 x16)) ∧
 ((0:Int)≤x1∧(x1:Int)≤x16∧x16≤(List.length s0:Int))∧∀ s1:List UInt8,s1=List.take (Int.toNat x16 - Int.toNat x1) (List.drop (Int.toNat x1) s0) →
 ∃ (x17:Int),∃ (x18:Int),∃ (x19:Int),∃ (x20:Int),∃ (x21:Int),∃ (x22:Int),(Vq w 65 #[.string ⟨s1.toArray⟩] (.tuple #[.agg #[.int .i64 x17,.int .i64 x18,.int .i64 x19,.int .i64 x20,.int .i64 x21],.int .i64 x22])) ∧
 (.agg #[.int .i64 2,.int .i64 x1,.int .i64 x16,.string ⟨(([]:List UInt8)).toArray⟩,.int .i64 x17,.int .i64 x18,.int .i64 x19,.int .i64 x20,.int .i64 x21,.int .i64 x22]:Value)=v))∧(¬ (b2=true)→(
 ((0:Int)≤x1∧(x1:Int)≤x7∧x7≤(List.length s0:Int))∧∀ s1:List UInt8,s1=List.take (Int.toNat x7 - Int.toNat x1) (List.drop (Int.toNat x1) s0) →
 ∃ (x15:Int),∃ (x16:Int),∃ (x17:Int),∃ (x18:Int),∃ (x19:Int),∃ (x20:Int),(Vq w 65 #[.string ⟨s1.toArray⟩] (.tuple #[.agg #[.int .i64 x15,.int .i64 x16,.int .i64 x17,.int .i64 x18,.int .i64 x19],.int .i64 x20])) ∧
 (.agg #[.int .i64 2,.int .i64 x1,.int .i64 x7,.string ⟨(([]:List UInt8)).toArray⟩,.int .i64 x15,.int .i64 x16,.int .i64 x17,.int .i64 x18,.int .i64 x19,.int .i64 x20]:Value)=v))))∧(¬ (x11=46)→(
 ((0:Int)≤x1∧(x1:Int)≤x7∧x7≤(List.length s0:Int))∧∀ s1:List UInt8,s1=List.take (Int.toNat x7 - Int.toNat x1) (List.drop (Int.toNat x1) s0) →
 ∃ (x12:Int),∃ (x13:Int),∃ (x14:Int),∃ (x15:Int),∃ (x16:Int),∃ (x17:Int),(Vq w 65 #[.string ⟨s1.toArray⟩] (.tuple #[.agg #[.int .i64 x12,.int .i64 x13,.int .i64 x14,.int .i64 x15,.int .i64 x16],.int .i64 x17])) ∧
 (.agg #[.int .i64 2,.int .i64 x1,.int .i64 x7,.string ⟨(([]:List UInt8)).toArray⟩,.int .i64 x12,.int .i64 x13,.int .i64 x14,.int .i64 x15,.int .i64 x16,.int .i64 x17]:Value)=v))))∧(¬ (x8 < x9)→(
 ((0:Int)≤x1∧(x1:Int)≤x7∧x7≤(List.length s0:Int))∧∀ s1:List UInt8,s1=List.take (Int.toNat x7 - Int.toNat x1) (List.drop (Int.toNat x1) s0) →
 ∃ (x10:Int),∃ (x11:Int),∃ (x12:Int),∃ (x13:Int),∃ (x14:Int),∃ (x15:Int),(Vq w 65 #[.string ⟨s1.toArray⟩] (.tuple #[.agg #[.int .i64 x10,.int .i64 x11,.int .i64 x12,.int .i64 x13,.int .i64 x14],.int .i64 x15])) ∧
 (.agg #[.int .i64 2,.int .i64 x1,.int .i64 x7,.string ⟨(([]:List UInt8)).toArray⟩,.int .i64 x10,.int .i64 x11,.int .i64 x12,.int .i64 x13,.int .i64 x14,.int .i64 x15]:Value)=v))))∧(¬ (b1=true)→(
 Vg_0 w ∧
 ∀ x7:Int,x7=((s0.length:Nat):Int) →
 ((0:Int)≤x1∧(x1:Int)≤x7∧x7≤(List.length s0:Int))∧∀ s1:List UInt8,s1=List.take (Int.toNat x7 - Int.toNat x1) (List.drop (Int.toNat x1) s0) →
 ∃ (b2:Bool),(Vq w 68 #[.string ⟨s1.toArray⟩,.string ⟨(([43,45]:List UInt8)).toArray⟩] (.bool b2)) ∧
 ((b2=true)→(
 Vg_0 w ∧
 ∀ x8:Int,x8=IntKind.i64.wrap (x1 + 2) →
 (.agg #[.int .i64 3,.int .i64 x1,.int .i64 x8,.string ⟨(([43,45]:List UInt8)).toArray⟩,.int .i64 0,.int .i64 0,.int .i64 0,.int .i64 0,.int .i64 0,.int .i64 0]:Value)=v))∧(¬ (b2=true)→(
 Vg_0 w ∧
 ∀ x8:Int,x8=((s0.length:Nat):Int) →
 ((0:Int)≤x1∧(x1:Int)≤x8∧x8≤(List.length s0:Int))∧∀ s2:List UInt8,s2=List.take (Int.toNat x8 - Int.toNat x1) (List.drop (Int.toNat x1) s0) →
 ∃ (b3:Bool),(Vq w 68 #[.string ⟨s2.toArray⟩,.string ⟨(([46,46]:List UInt8)).toArray⟩] (.bool b3)) ∧
 ((b3=true)→(
 Vg_0 w ∧
 ∀ x9:Int,x9=IntKind.i64.wrap (x1 + 2) →
 (.agg #[.int .i64 3,.int .i64 x1,.int .i64 x9,.string ⟨(([46,46]:List UInt8)).toArray⟩,.int .i64 0,.int .i64 0,.int .i64 0,.int .i64 0,.int .i64 0,.int .i64 0]:Value)=v))∧(¬ (b3=true)→(
 Vg_0 w ∧
 ∀ x9:Int,x9=((s0.length:Nat):Int) →
 ((0:Int)≤x1∧(x1:Int)≤x9∧x9≤(List.length s0:Int))∧∀ s3:List UInt8,s3=List.take (Int.toNat x9 - Int.toNat x1) (List.drop (Int.toNat x1) s0) →
 ∃ (b4:Bool),(Vq w 68 #[.string ⟨s3.toArray⟩,.string ⟨(([123]:List UInt8)).toArray⟩] (.bool b4)) ∧
 ((b4=true)→(
 Vg_0 w ∧
 ∀ x10:Int,x10=IntKind.i64.wrap (x1 + 1) →
 (.agg #[.int .i64 3,.int .i64 x1,.int .i64 x10,.string ⟨(([123]:List UInt8)).toArray⟩,.int .i64 0,.int .i64 0,.int .i64 0,.int .i64 0,.int .i64 0,.int .i64 0]:Value)=v))∧(¬ (b4=true)→(
 Vg_0 w ∧
 ∀ x10:Int,x10=((s0.length:Nat):Int) →
 ((0:Int)≤x1∧(x1:Int)≤x10∧x10≤(List.length s0:Int))∧∀ s4:List UInt8,s4=List.take (Int.toNat x10 - Int.toNat x1) (List.drop (Int.toNat x1) s0) →
 ∃ (b5:Bool),(Vq w 68 #[.string ⟨s4.toArray⟩,.string ⟨(([125]:List UInt8)).toArray⟩] (.bool b5)) ∧
 ((b5=true)→(
 Vg_0 w ∧
 ∀ x11:Int,x11=IntKind.i64.wrap (x1 + 1) →
 (.agg #[.int .i64 3,.int .i64 x1,.int .i64 x11,.string ⟨(([125]:List UInt8)).toArray⟩,.int .i64 0,.int .i64 0,.int .i64 0,.int .i64 0,.int .i64 0,.int .i64 0]:Value)=v))∧(¬ (b5=true)→(
 Vg_0 w ∧
 ∀ x11:Int,x11=((s0.length:Nat):Int) →
 ((0:Int)≤x1∧(x1:Int)≤x11∧x11≤(List.length s0:Int))∧∀ s5:List UInt8,s5=List.take (Int.toNat x11 - Int.toNat x1) (List.drop (Int.toNat x1) s0) →
 ∃ (b6:Bool),(Vq w 68 #[.string ⟨s5.toArray⟩,.string ⟨(([59]:List UInt8)).toArray⟩] (.bool b6)) ∧
 ((b6=true)→(
 Vg_0 w ∧
 ∀ x12:Int,x12=IntKind.i64.wrap (x1 + 1) →
 (.agg #[.int .i64 3,.int .i64 x1,.int .i64 x12,.string ⟨(([59]:List UInt8)).toArray⟩,.int .i64 0,.int .i64 0,.int .i64 0,.int .i64 0,.int .i64 0,.int .i64 0]:Value)=v))∧(¬ (b6=true)→(
 Vg_0 w ∧
 ∀ x12:Int,x12=((s0.length:Nat):Int) →
 ((0:Int)≤x1∧(x1:Int)≤x12∧x12≤(List.length s0:Int))∧∀ s6:List UInt8,s6=List.take (Int.toNat x12 - Int.toNat x1) (List.drop (Int.toNat x1) s0) →
 ∃ (b7:Bool),(Vq w 68 #[.string ⟨s6.toArray⟩,.string ⟨(([58]:List UInt8)).toArray⟩] (.bool b7)) ∧
 ((b7=true)→(
 Vg_0 w ∧
 ∀ x13:Int,x13=IntKind.i64.wrap (x1 + 1) →
 (.agg #[.int .i64 3,.int .i64 x1,.int .i64 x13,.string ⟨(([58]:List UInt8)).toArray⟩,.int .i64 0,.int .i64 0,.int .i64 0,.int .i64 0,.int .i64 0,.int .i64 0]:Value)=v))∧(¬ (b7=true)→(
 Vg_0 w ∧
 ∀ x13:Int,x13=((s0.length:Nat):Int) →
 ((0:Int)≤x1∧(x1:Int)≤x13∧x13≤(List.length s0:Int))∧∀ s7:List UInt8,s7=List.take (Int.toNat x13 - Int.toNat x1) (List.drop (Int.toNat x1) s0) →
 ∃ (b8:Bool),(Vq w 68 #[.string ⟨s7.toArray⟩,.string ⟨(([61]:List UInt8)).toArray⟩] (.bool b8)) ∧
 ((b8=true)→(
 Vg_0 w ∧
 ∀ x14:Int,x14=IntKind.i64.wrap (x1 + 1) →
 (.agg #[.int .i64 3,.int .i64 x1,.int .i64 x14,.string ⟨(([61]:List UInt8)).toArray⟩,.int .i64 0,.int .i64 0,.int .i64 0,.int .i64 0,.int .i64 0,.int .i64 0]:Value)=v))∧(¬ (b8=true)→(
 Vg_0 w ∧
 ∀ x14:Int,x14=((s0.length:Nat):Int) →
 ((0:Int)≤x1∧(x1:Int)≤x14∧x14≤(List.length s0:Int))∧∀ s8:List UInt8,s8=List.take (Int.toNat x14 - Int.toNat x1) (List.drop (Int.toNat x1) s0) →
 ∃ (b9:Bool),(Vq w 68 #[.string ⟨s8.toArray⟩,.string ⟨(([43]:List UInt8)).toArray⟩] (.bool b9)) ∧
 ((b9=true)→(
 Vg_0 w ∧
 ∀ x15:Int,x15=IntKind.i64.wrap (x1 + 1) →
 (.agg #[.int .i64 3,.int .i64 x1,.int .i64 x15,.string ⟨(([43]:List UInt8)).toArray⟩,.int .i64 0,.int .i64 0,.int .i64 0,.int .i64 0,.int .i64 0,.int .i64 0]:Value)=v))∧(¬ (b9=true)→(
 Vg_0 w ∧
 ∀ x15:Int,x15=((s0.length:Nat):Int) →
 ((0:Int)≤x1∧(x1:Int)≤x15∧x15≤(List.length s0:Int))∧∀ s9:List UInt8,s9=List.take (Int.toNat x15 - Int.toNat x1) (List.drop (Int.toNat x1) s0) →
 ∃ (b10:Bool),(Vq w 68 #[.string ⟨s9.toArray⟩,.string ⟨(([45]:List UInt8)).toArray⟩] (.bool b10)) ∧
 ((b10=true)→(
 Vg_0 w ∧
 ∀ x16:Int,x16=IntKind.i64.wrap (x1 + 1) →
 (.agg #[.int .i64 3,.int .i64 x1,.int .i64 x16,.string ⟨(([45]:List UInt8)).toArray⟩,.int .i64 0,.int .i64 0,.int .i64 0,.int .i64 0,.int .i64 0,.int .i64 0]:Value)=v))∧(¬ (b10=true)→(
 Vg_0 w ∧
 ∀ x16:Int,x16=((s0.length:Nat):Int) →
 ((0:Int)≤x1∧(x1:Int)≤x16∧x16≤(List.length s0:Int))∧∀ s10:List UInt8,s10=List.take (Int.toNat x16 - Int.toNat x1) (List.drop (Int.toNat x1) s0) →
 ∃ (b11:Bool),(Vq w 68 #[.string ⟨s10.toArray⟩,.string ⟨(([42]:List UInt8)).toArray⟩] (.bool b11)) ∧
 ((b11=true)→(
 Vg_0 w ∧
 ∀ x17:Int,x17=IntKind.i64.wrap (x1 + 1) →
 (.agg #[.int .i64 3,.int .i64 x1,.int .i64 x17,.string ⟨(([42]:List UInt8)).toArray⟩,.int .i64 0,.int .i64 0,.int .i64 0,.int .i64 0,.int .i64 0,.int .i64 0]:Value)=v))∧(¬ (b11=true)→(
 Vg_0 w ∧
 ∀ x17:Int,x17=((s0.length:Nat):Int) →
 ((0:Int)≤x1∧(x1:Int)≤x17∧x17≤(List.length s0:Int))∧∀ s11:List UInt8,s11=List.take (Int.toNat x17 - Int.toNat x1) (List.drop (Int.toNat x1) s0) →
 ∃ (b12:Bool),(Vq w 68 #[.string ⟨s11.toArray⟩,.string ⟨(([47]:List UInt8)).toArray⟩] (.bool b12)) ∧
 ((b12=true)→(
 Vg_0 w ∧
 ∀ x18:Int,x18=IntKind.i64.wrap (x1 + 1) →
 (.agg #[.int .i64 3,.int .i64 x1,.int .i64 x18,.string ⟨(([47]:List UInt8)).toArray⟩,.int .i64 0,.int .i64 0,.int .i64 0,.int .i64 0,.int .i64 0,.int .i64 0]:Value)=v))∧(¬ (b12=true)→(
 Vg_0 w ∧
 ∀ x18:Int,x18=((s0.length:Nat):Int) →
 ((0:Int)≤x1∧(x1:Int)≤x18∧x18≤(List.length s0:Int))∧∀ s12:List UInt8,s12=List.take (Int.toNat x18 - Int.toNat x1) (List.drop (Int.toNat x1) s0) →
 ∃ (b13:Bool),(Vq w 68 #[.string ⟨s12.toArray⟩,.string ⟨(([40]:List UInt8)).toArray⟩] (.bool b13)) ∧
 ((b13=true)→(
 Vg_0 w ∧
 ∀ x19:Int,x19=IntKind.i64.wrap (x1 + 1) →
 (.agg #[.int .i64 3,.int .i64 x1,.int .i64 x19,.string ⟨(([40]:List UInt8)).toArray⟩,.int .i64 0,.int .i64 0,.int .i64 0,.int .i64 0,.int .i64 0,.int .i64 0]:Value)=v))∧(¬ (b13=true)→(
 Vg_0 w ∧
 ∀ x19:Int,x19=((s0.length:Nat):Int) →
 ((0:Int)≤x1∧(x1:Int)≤x19∧x19≤(List.length s0:Int))∧∀ s13:List UInt8,s13=List.take (Int.toNat x19 - Int.toNat x1) (List.drop (Int.toNat x1) s0) →
 ∃ (b14:Bool),(Vq w 68 #[.string ⟨s13.toArray⟩,.string ⟨(([41]:List UInt8)).toArray⟩] (.bool b14)) ∧
 ((b14=true)→(
 Vg_0 w ∧
 ∀ x20:Int,x20=IntKind.i64.wrap (x1 + 1) →
 (.agg #[.int .i64 3,.int .i64 x1,.int .i64 x20,.string ⟨(([41]:List UInt8)).toArray⟩,.int .i64 0,.int .i64 0,.int .i64 0,.int .i64 0,.int .i64 0,.int .i64 0]:Value)=v))∧(¬ (b14=true)→(
 (.agg #[.int .i64 3,.int .i64 x1,.int .i64 x1,.string ⟨(([]:List UInt8)).toArray⟩,.int .i64 0,.int .i64 0,.int .i64 0,.int .i64 0,.int .i64 0,.int .i64 5]:Value)=v))))))))))))))))))))))))))))))))):Calls Tryz.prog 36 #[.string ⟨s0.toArray⟩,.int .i64 x0] w (Vc.Ret v w) :=
 Vc.zb (ze [66,67] (by kernel_rfl)) [] globs 200 Tryz.func36 (b:=(Tryz.f36.body).getD .skip) (by kernel_rfl) [.cv (.one (.sv 0)),.cv (.one (.int .i64 (.var 0)))] ⟨1,0,0,1,0,1,0⟩ [.glo 0 0] (Vc.envOf [x0] [] [] [(0,0)] [s0]) (by kernel_rfl) (Vc.zl (by kernel_rfl) rfl Vc.zc) (by kernel_rfl) (by kernel_rfl) h
theorem zck(s0:List UInt8)(w:World)(v:Value)(h :
 ∃ (x0:Int),∃ (x1:Int),∃ (x2:Int),∃ (s1:List UInt8),∃ (x3:Int),∃ (x4:Int),∃ (x5:Int),∃ (x6:Int),∃ (x7:Int),∃ (x8:Int),(Vq w 36 #[.string ⟨s0.toArray⟩,.int .i64 0] (.agg #[.int .i64 x0,.int .i64 x1,.int .i64 x2,.string ⟨s1.toArray⟩,.int .i64 x3,.int .i64 x4,.int .i64 x5,.int .i64 x6,.int .i64 x7,.int .i64 x8])) ∧
 ((x0=1)→(
 ((x8=0)→(
 ((x1=0)→(
 ∀ x9:Int,x9=((s0.length:Nat):Int) →
 ((x2=x9)→(
 ∃ (b0:Bool),(Vq w 114 #[.string ⟨s0.toArray⟩] (.bool b0)) ∧
 (.bool (!b0):Value)=v))∧(¬ (x2=x9)→(
 (.bool false:Value)=v))))∧(¬ (x1=0)→(
 (.bool false:Value)=v))))∧(¬ (x8=0)→(
 (.bool false:Value)=v))))∧(¬ (x0=1)→(
 (.bool false:Value)=v))):Calls Tryz.prog 94 #[.string ⟨s0.toArray⟩] w (Vc.Ret v w) :=
 Vc.zb base [] [] 200 Tryz.func94 (b:=(Tryz.f94.body).getD .skip) (by kernel_rfl) [.cv (.one (.sv 0))] ⟨0,0,0,0,0,1,0⟩ [] (Vc.envOf [] [] [] [] [s0]) (by kernel_rfl) Vc.zc (by kernel_rfl) (by kernel_rfl) h
end Go.Proofs.YtkjmhcejdiglfacGreatDoor
