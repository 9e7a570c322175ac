import Derived.Test.YtdjgnbkclcjiiaaGreatDoorG0
section
set_option linter.unusedVariables false
set_option maxRecDepth 100000
namespace Go.Proofs.YtdjgnbkclcjiiaaGreatDoor
open Go Go.RowKit
abbrev Vj_ullageref10_Next_T3(x1:Int)(x8:Int)(s0:List UInt8)(v:Value):Prop :=
 ((0:Int)≤x1∧(x1:Int)≤x8∧x8≤(List.length s0:Int))∧∀ s1:List UInt8,s1=List.take (Int.toNat x8 - Int.toNat x1) (List.drop (Int.toNat x1) s0) →
 ∀ x12:Int,x12=((s1.length:Nat):Int) →
 (.agg #[.int .i64 1,.int .i64 x1,.int .i64 x8,.int .i64 0,.string ⟨s1.toArray⟩,.bool (decide (x12 > 32))]:Value)=v
abbrev Vj_ullageref10_Next_T2(x10:Int)(Ix10:List Vc.Vl→Prop)(l0:List Vc.OV)(x11:Int)(s1:List UInt8)(x12:Int)(x13:Int)(x14:Int)(x15:Int)(s2:List UInt8)(b2:Bool)(mx10:List Vc.Vl→Nat):Prop :=
 ∀ x23:Int,x23=IntKind.i64.wrap (x10 + 1) →
 Ix10 [.i x23,.l ((l0.map (·.1)++(([]:List Value)))),.i x11,.s s1,.i x12,.i x13,.i x14,.i x15,.s s2,.b b2]∧mx10 [.i x23,.l ((l0.map (·.1)++(([]:List Value)))),.i x11,.s s1,.i x12,.i x13,.i x14,.i x15,.s s2,.b b2] < mx10 [.i x10,.l ((l0.map (·.1)++(([]:List Value)))),.i x11,.s s1,.i x12,.i x13,.i x14,.i x15,.s s2,.b b2]
abbrev Vj_ullageref10_Next_T1(s0:List UInt8)(x1:Int)(v:Value)(w:World):Prop :=
 ∀ x5:Int,x5=((s0.length:Nat):Int) →
 ((x1=x5)→(
 (.agg #[.int .i64 0,.int .i64 x1,.int .i64 x1,.int .i64 0,.string ⟨(([]:List UInt8)).toArray⟩,.bool false]:Value)=v))∧(¬ (x1=x5)→(
 ∀ x6:Int,x6=((s0.length:Nat):Int) →
 (0≤x1) ∧
 (x1 < x6) ∧
 ∀ x7:Int,x7=(((s0.getD (Int.toNat x1) 0).toNat:Nat):Int) →
 ∃ (b0:Bool),(Vq w 124 #[.int .u8 x7] (.bool b0)) ∧
 ((b0=true)→(
 ∃ (Ix8:List Vc.Vl→Prop) (mx8:List Vc.Vl→Nat),Ix8 [.i x1]∧∀ (x8:Int),Ix8 [.i x8]→(
 ∀ x9:Int,x9=((s0.length:Nat):Int) →
 ((x8 < x9)→(
 ∀ x10:Int,x10=((s0.length:Nat):Int) →
 (0≤x8) ∧
 (x8 < x10) ∧
 ∀ x11:Int,x11=(((s0.getD (Int.toNat x8) 0).toNat:Nat):Int) →
 ∃ (b1:Bool),(Vq w 125 #[.int .u8 x11] (.bool b1)) ∧
 ((b1=true)→(
 ∀ x12:Int,x12=IntKind.i64.wrap (x8 + 1) →
 Ix8 [.i x12]∧mx8 [.i x12] < mx8 [.i x8]))∧(¬ (b1=true)→( Vj_ullageref10_Next_T3 x1 x8 s0 v))))∧(¬ (x8 < x9)→( Vj_ullageref10_Next_T3 x1 x8 s0 v)))))∧(¬ (b0=true)→(
 ∀ x8:Int,x8=((s0.length:Nat):Int) →
 (0≤x1) ∧
 (x1 < x8) ∧
 ∀ x9:Int,x9=(((s0.getD (Int.toNat x1) 0).toNat:Nat):Int) →
 ∃ (b1:Bool),(Vq w 126 #[.int .u8 x9] (.bool b1)) ∧
 ((b1=true)→(
 ∃ (Ix10:List Vc.Vl→Prop) (mx10:List Vc.Vl→Nat),Ix10 [.i 0,.i x1]∧∀ (x10:Int) (x11:Int),Ix10 [.i x10,.i x11]→(
 ∀ x12:Int,x12=((s0.length:Nat):Int) →
 ((x11 < x12)→(
 ∀ x13:Int,x13=((s0.length:Nat):Int) →
 (0≤x11) ∧
 (x11 < x13) ∧
 ∀ x14:Int,x14=(((s0.getD (Int.toNat x11) 0).toNat:Nat):Int) →
 ∃ (b2:Bool),(Vq w 126 #[.int .u8 x14] (.bool b2)) ∧
 ((b2=true)→(
 ∀ x15:Int,x15=IntKind.i64.wrap (x11 - x1) →
 ((x15 < 10)→(
 ∀ x16:Int,x16=IntKind.i64.wrap (10 * x10) →
 ∀ x17:Int,x17=((s0.length:Nat):Int) →
 (0≤x11) ∧
 (x11 < x17) ∧
 ∀ x18:Int,x18=(((s0.getD (Int.toNat x11) 0).toNat:Nat):Int) →
 ∀ x19:Int,x19=IntKind.u8.wrap (x18 - 48) →
 ∀ x20:Int,x20=IntKind.i64.wrap (x19) →
 ∀ x21:Int,x21=IntKind.i64.wrap (x16 + x20) →
 ∀ x22:Int,x22=IntKind.i64.wrap (x11 + 1) →
 Ix10 [.i x21,.i x22]∧mx10 [.i x21,.i x22] < mx10 [.i x10,.i x11]))∧(¬ (x15 < 10)→(
 ∀ x16:Int,x16=IntKind.i64.wrap (x11 + 1) →
 Ix10 [.i x10,.i x16]∧mx10 [.i x10,.i x16] < mx10 [.i x10,.i x11]))))∧(¬ (b2=true)→(
 ∀ x15:Int,x15=IntKind.i64.wrap (x11 - x1) →
 (.agg #[.int .i64 2,.int .i64 x1,.int .i64 x11,.int .i64 x10,.string ⟨(([]:List UInt8)).toArray⟩,.bool (decide (x15 > 10))]:Value)=v))))∧(¬ (x11 < x12)→(
 ∀ x13:Int,x13=IntKind.i64.wrap (x11 - x1) →
 (.agg #[.int .i64 2,.int .i64 x1,.int .i64 x11,.int .i64 x10,.string ⟨(([]:List UInt8)).toArray⟩,.bool (decide (x13 > 10))]:Value)=v)))))∧(¬ (b1=true)→(
 ∃ (Ix10:List Vc.Vl→Prop) (mx10:List Vc.Vl→Nat),Ix10 [.i 0,.l (([.string ⟨(([60,61]:List UInt8)).toArray⟩,.string ⟨(([62,61]:List UInt8)).toArray⟩,.string ⟨(([61,61]:List UInt8)).toArray⟩,.string ⟨(([33,61]:List UInt8)).toArray⟩,.string ⟨(([60]:List UInt8)).toArray⟩,.string ⟨(([62]:List UInt8)).toArray⟩,.string ⟨(([124]:List UInt8)).toArray⟩,.string ⟨(([38]:List UInt8)).toArray⟩,.string ⟨(([33]:List UInt8)).toArray⟩,.string ⟨(([40]:List UInt8)).toArray⟩,.string ⟨(([41]:List UInt8)).toArray⟩,.string ⟨(([44]:List UInt8)).toArray⟩,.string ⟨(([45]:List UInt8)).toArray⟩]:List Value)),.i x1,.s [],.i 0,.i 0,.i 0,.i 0,.s [],.b false]∧∀ (x10:Int) (l0:List Vc.OV) (x11:Int) (s1:List UInt8) (x12:Int) (x13:Int) (x14:Int) (x15:Int) (s2:List UInt8) (b2:Bool),Ix10 [.i x10,.l ((l0.map (·.1)++(([]:List Value)))),.i x11,.s s1,.i x12,.i x13,.i x14,.i x15,.s s2,.b b2]→(
 ∀ x16:Int,x16=(((0 + (l0.length + 0)) / 1:Nat):Int) →
 ((x10 < x16)→(
 ∀ x17:Int,x17=(((0 + (l0.length + 0)) / 1:Nat):Int) →
 (0≤x10) ∧
 (x10 < x17) ∧
 ∃ (s3:List UInt8),((l0.map (·.1)++(([]:List Value))))[(Int.toNat x10) * 1 + 0]? = some (.string ⟨s3.toArray⟩) ∧
 ∀ x18:Int,x18=((s3.length:Nat):Int) →
 ∀ x19:Int,x19=IntKind.i64.wrap (x1 + x18) →
 ∀ x20:Int,x20=((s0.length:Nat):Int) →
 ((x19≤x20)→(
 ∀ x21:Int,x21=IntKind.i64.wrap (x1 + x18) →
 ((0:Int)≤x1∧(x1:Int)≤x21∧x21≤(List.length s0:Int))∧∀ s4:List UInt8,s4=List.take (Int.toNat x21 - Int.toNat x1) (List.drop (Int.toNat x1) s0) →
 ∀ x22:Int,x22=(((0 + (l0.length + 0)) / 1:Nat):Int) →
 (0≤x10) ∧
 (x10 < x22) ∧
 ∃ (s5:List UInt8),((l0.map (·.1)++(([]:List Value))))[(Int.toNat x10) * 1 + 0]? = some (.string ⟨s5.toArray⟩) ∧
 ((s4=s5)→(
 ∀ x23:Int,x23=IntKind.i64.wrap (x1 + x18) →
 ∀ x24:Int,x24=(((0 + (l0.length + 0)) / 1:Nat):Int) →
 (0≤x10) ∧
 (x10 < x24) ∧
 ∃ (s6:List UInt8),((l0.map (·.1)++(([]:List Value))))[(Int.toNat x10) * 1 + 0]? = some (.string ⟨s6.toArray⟩) ∧
 (.agg #[.int .i64 3,.int .i64 x1,.int .i64 x23,.int .i64 0,.string ⟨s6.toArray⟩,.bool false]:Value)=v))∧(¬ (s4=s5)→( Vj_ullageref10_Next_T2 x10 Ix10 l0 x11 s1 x12 x13 x14 x15 s2 b2 mx10))))∧(¬ (x19≤x20)→( Vj_ullageref10_Next_T2 x10 Ix10 l0 x11 s1 x12 x13 x14 x15 s2 b2 mx10))))∧(¬ (x10 < x16)→(
 (.agg #[.int .i64 3,.int .i64 x1,.int .i64 x11,.int .i64 0,.string ⟨s1.toArray⟩,.bool true]:Value)=v)))))))))
theorem zbh(x0:Int)(s0:List UInt8)(w:World)(v:Value)(h :
 ∃ (Ix1:List Vc.Vl→Prop) (mx1:List Vc.Vl→Nat),Ix1 [.i x0]∧∀ (x1:Int),Ix1 [.i x1]→(
 ∀ x2:Int,x2=((s0.length:Nat):Int) →
 ((x1 < x2)→(
 ∀ x3:Int,x3=((s0.length:Nat):Int) →
 (0≤x1) ∧
 (x1 < x3) ∧
 ∀ x4:Int,x4=(((s0.getD (Int.toNat x1) 0).toNat:Nat):Int) →
 ((x4=32)→(
 ∀ x5:Int,x5=IntKind.i64.wrap (x1 + 1) →
 Ix1 [.i x5]∧mx1 [.i x5] < mx1 [.i x1]))∧(¬ (x4=32)→( Vj_ullageref10_Next_T1 s0 x1 v w))))∧(¬ (x1 < x2)→( Vj_ullageref10_Next_T1 s0 x1 v w)))):Calls Tryz.prog 64 #[.string ⟨s0.toArray⟩,.int .i64 x0] w (Vc.Ret v w) :=
 Vc.zw base [(10000000000001,.inv [] [1] [9,10,11,12,13,14,15,16,17,18,19,20]),(12000000000008,.inv [(5,2)] [] [34,35,36,37,38,39,40,41,42,43,44,45,46,47,48,49]),(12000000000015,.inv [(5,3),(5,2)] [] [67,68,69,70,71,72,73,74,75,76,77,78,79,80,81,82,83,84,85,86,87,88,89,90,91,92,93,94,95,96,97,98]),(4000000000024,.inv [(5,2),(5,4),(4,0),(4,1),(4,2),(4,3),(4,4),(4,5)] [7,6] [108,109,110,111,114,115,116,117,118,8,119,120,121,122,123,124,125,126,127,128,129,130,131,132,133,134,135,136,137,138,139,140,141,142,143,144,145,146,147,112,113]),(1220107,.unroll)] [] 200 Tryz.func64 (b:=(Tryz.f64.body).getD .skip) (by kernel_rfl) [.cv (.one (.sv 0)),.cv (.one (.int .i64 (.var 0)))] ⟨1,0,0,0,0,1,0⟩ [] (Vc.envOf [x0] [] [] [] [s0]) (by kernel_rfl) Vc.zn (by kernel_rfl) (by kernel_rfl) h
theorem zch(x0 x1 x2 x3 x4:Int)(s0:List UInt8)(w:World)(v:Value)(h :
 ((x2=0)→(
 (.agg #[.string ⟨s0.toArray⟩,.int .i64 x0,.int .i64 x3,.int .i64 x4]:Value)=v))∧(¬ (x2=0)→(
 (.agg #[.string ⟨s0.toArray⟩,.int .i64 x0,.int .i64 x1,.int .i64 x2]:Value)=v))):Calls Tryz.prog 65 #[.agg #[.string ⟨s0.toArray⟩,.int .i64 x0,.int .i64 x1,.int .i64 x2],.int .i64 x3,.int .i64 x4] w (Vc.Ret v w) :=
 Vc.zw base [] [] 200 Tryz.func65 (b:=(Tryz.f65.body).getD .skip) (by kernel_rfl) [.cv (.agg [.sv 0,.int .i64 (.var 0),.int .i64 (.var 1),.int .i64 (.var 2)]),.cv (.one (.int .i64 (.var 3))),.cv (.one (.int .i64 (.var 4)))] ⟨5,0,0,0,0,1,0⟩ [] (Vc.envOf [x0,x1,x2,x3,x4] [] [] [] [s0]) (by kernel_rfl) Vc.zn (by kernel_rfl) (by kernel_rfl) h
theorem zbj(x0 x1 x2:Int)(s0 s1:List UInt8)(w:World)(v:Value)(h :
 ∃ (x3:Int),∃ (x4:Int),∃ (x5:Int),∃ (x6:Int),∃ (s2:List UInt8),∃ (b0:Bool),(Vq w 64 #[.string ⟨s0.toArray⟩,.int .i64 x0] (.agg #[.int .i64 x3,.int .i64 x4,.int .i64 x5,.int .i64 x6,.string ⟨s2.toArray⟩,.bool b0])) ∧
 ((x2=0)→(
 ((b0=true)→(
 (.bool false:Value)=v))∧(¬ (b0=true)→(
 (.bool (decide (s2=s1)):Value)=v))))∧(¬ (x2=0)→(
 (.bool false:Value)=v))):Calls Tryz.prog 122 #[.agg #[.string ⟨s0.toArray⟩,.int .i64 x0,.int .i64 x1,.int .i64 x2],.string ⟨s1.toArray⟩] w (Vc.Ret v w) :=
 Vc.zw base [] [] 200 Tryz.func122 (b:=(Tryz.f122.body).getD .skip) (by kernel_rfl) [.cv (.agg [.sv 0,.int .i64 (.var 0),.int .i64 (.var 1),.int .i64 (.var 2)]),.cv (.one (.sv 1))] ⟨3,0,0,0,0,2,0⟩ [] (Vc.envOf [x0,x1,x2] [] [] [] [s0,s1]) (by kernel_rfl) Vc.zn (by kernel_rfl) (by kernel_rfl) h
theorem zdh(x0 x1 x2:Int)(s0 s1:List UInt8)(w:World)(v:Value)(h :
 ∃ (x3:Int),∃ (x4:Int),∃ (x5:Int),∃ (x6:Int),∃ (s2:List UInt8),∃ (b0:Bool),(Vq w 64 #[.string ⟨s0.toArray⟩,.int .i64 x0] (.agg #[.int .i64 x3,.int .i64 x4,.int .i64 x5,.int .i64 x6,.string ⟨s2.toArray⟩,.bool b0])) ∧
 ∃ (b1:Bool),(Vq w 122 #[.agg #[.string ⟨s0.toArray⟩,.int .i64 x0,.int .i64 x1,.int .i64 x2],.string ⟨s1.toArray⟩] (.bool b1)) ∧
 ((b1=true)→(
 (.agg #[.string ⟨s0.toArray⟩,.int .i64 x5,.int .i64 x1,.int .i64 x2]:Value)=v))∧(¬ (b1=true)→(
 ∃ (s3:List UInt8),∃ (x7:Int),∃ (x8:Int),∃ (x9:Int),(Vq w 65 #[.agg #[.string ⟨s0.toArray⟩,.int .i64 x0,.int .i64 x1,.int .i64 x2],.int .i64 x4,.int .i64 5] (.agg #[.string ⟨s3.toArray⟩,.int .i64 x7,.int .i64 x8,.int .i64 x9])) ∧
 (.agg #[.string ⟨s3.toArray⟩,.int .i64 x7,.int .i64 x8,.int .i64 x9]:Value)=v))):Calls Tryz.prog 123 #[.agg #[.string ⟨s0.toArray⟩,.int .i64 x0,.int .i64 x1,.int .i64 x2],.string ⟨s1.toArray⟩] w (Vc.Ret v w) :=
 Vc.zw base [] [] 200 Tryz.func123 (b:=(Tryz.f123.body).getD .skip) (by kernel_rfl) [.cv (.agg [.sv 0,.int .i64 (.var 0),.int .i64 (.var 1),.int .i64 (.var 2)]),.cv (.one (.sv 1))] ⟨3,0,0,0,0,2,0⟩ [] (Vc.envOf [x0,x1,x2] [] [] [] [s0,s1]) (by kernel_rfl) Vc.zn (by kernel_rfl) (by kernel_rfl) h
abbrev Vj_ullageref10_number_T3(w:World)(s2:List UInt8)(x9:Int)(x10:Int)(x11:Int)(x13:Int)(v:Value):Prop :=
 ∃ (s4:List UInt8),∃ (x16:Int),∃ (x17:Int),∃ (x18:Int),(Vq w 65 #[.agg #[.string ⟨s2.toArray⟩,.int .i64 x9,.int .i64 x10,.int .i64 x11],.int .i64 x13,.int .i64 5] (.agg #[.string ⟨s4.toArray⟩,.int .i64 x16,.int .i64 x17,.int .i64 x18])) ∧
 (.tuple #[.agg #[.string ⟨s4.toArray⟩,.int .i64 x16,.int .i64 x17,.int .i64 x18],.int .i64 0]:Value)=v
abbrev Vj_ullageref10_number_T2(w:World)(s2:List UInt8)(x14:Int)(x10:Int)(x11:Int)(x6:Int)(x16:Int)(v:Value):Prop :=
 ∃ (s4:List UInt8),∃ (x17:Int),∃ (x18:Int),∃ (x19:Int),(Vq w 65 #[.agg #[.string ⟨s2.toArray⟩,.int .i64 x14,.int .i64 x10,.int .i64 x11],.int .i64 x6,.int .i64 4] (.agg #[.string ⟨s4.toArray⟩,.int .i64 x17,.int .i64 x18,.int .i64 x19])) ∧
 (.tuple #[.agg #[.string ⟨s4.toArray⟩,.int .i64 x17,.int .i64 x18,.int .i64 x19],.int .i64 x16]:Value)=v
abbrev Vj_ullageref10_number_T1(b2:Bool)(w:World)(s2:List UInt8)(x9:Int)(x10:Int)(x11:Int)(x13:Int)(v:Value)(b1:Bool)(x15:Int)(x3:Int)(x4:Int)(x14:Int)(x6:Int):Prop :=
 ((b2=true)→( Vj_ullageref10_number_T3 w s2 x9 x10 x11 x13 v))∧(¬ (b2=true)→(
 ((b1=true)→(
 ∀ x16:Int,x16=IntKind.i64.wrap (0 - x15) →
 ∃ (b3:Bool),(Vq w 71 #[.int .i64 x16,.int .i64 x3,.int .i64 x4] (.bool b3)) ∧
 ((b3=true)→(
 (.tuple #[.agg #[.string ⟨s2.toArray⟩,.int .i64 x14,.int .i64 x10,.int .i64 x11],.int .i64 x16]:Value)=v))∧(¬ (b3=true)→( Vj_ullageref10_number_T2 w s2 x14 x10 x11 x6 x16 v))))∧(¬ (b1=true)→(
 ∃ (b3:Bool),(Vq w 71 #[.int .i64 x15,.int .i64 x3,.int .i64 x4] (.bool b3)) ∧
 ((b3=true)→(
 (.tuple #[.agg #[.string ⟨s2.toArray⟩,.int .i64 x14,.int .i64 x10,.int .i64 x11],.int .i64 x15]:Value)=v))∧(¬ (b3=true)→( Vj_ullageref10_number_T2 w s2 x14 x10 x11 x6 x15 v))))))
theorem zsf(x0 x1 x2 x3 x4:Int)(s0:List UInt8)(w:World)(v:Value)(h :
 ∃ (x5:Int),∃ (x6:Int),∃ (x7:Int),∃ (x8:Int),∃ (s1:List UInt8),∃ (b0:Bool),(Vq w 64 #[.string ⟨s0.toArray⟩,.int .i64 x0] (.agg #[.int .i64 x5,.int .i64 x6,.int .i64 x7,.int .i64 x8,.string ⟨s1.toArray⟩,.bool b0])) ∧
 ∃ (b1:Bool),(Vq w 122 #[.agg #[.string ⟨s0.toArray⟩,.int .i64 x0,.int .i64 x1,.int .i64 x2],.string ⟨(([45]:List UInt8)).toArray⟩] (.bool b1)) ∧
 ((b1=true)→(
 ∃ (s2:List UInt8),∃ (x9:Int),∃ (x10:Int),∃ (x11:Int),(Vq w 123 #[.agg #[.string ⟨s0.toArray⟩,.int .i64 x0,.int .i64 x1,.int .i64 x2],.string ⟨(([45]:List UInt8)).toArray⟩] (.agg #[.string ⟨s2.toArray⟩,.int .i64 x9,.int .i64 x10,.int .i64 x11])) ∧
 ∃ (x12:Int),∃ (x13:Int),∃ (x14:Int),∃ (x15:Int),∃ (s3:List UInt8),∃ (b2:Bool),(Vq w 64 #[.string ⟨s2.toArray⟩,.int .i64 x9] (.agg #[.int .i64 x12,.int .i64 x13,.int .i64 x14,.int .i64 x15,.string ⟨s3.toArray⟩,.bool b2])) ∧
 ((x12=2)→( Vj_ullageref10_number_T1 b2 w s2 x9 x10 x11 x13 v b1 x15 x3 x4 x14 x6))∧(¬ (x12=2)→( Vj_ullageref10_number_T3 w s2 x9 x10 x11 x13 v))))∧(¬ (b1=true)→(
 ∃ (x9:Int),∃ (x10:Int),∃ (x11:Int),∃ (x12:Int),∃ (s2:List UInt8),∃ (b2:Bool),(Vq w 64 #[.string ⟨s0.toArray⟩,.int .i64 x0] (.agg #[.int .i64 x9,.int .i64 x10,.int .i64 x11,.int .i64 x12,.string ⟨s2.toArray⟩,.bool b2])) ∧
 ((x9=2)→( Vj_ullageref10_number_T1 b2 w s0 x0 x1 x2 x10 v b1 x12 x3 x4 x11 x6))∧(¬ (x9=2)→( Vj_ullageref10_number_T3 w s0 x0 x1 x2 x10 v))))):Calls Tryz.prog 166 #[.agg #[.string ⟨s0.toArray⟩,.int .i64 x0,.int .i64 x1,.int .i64 x2],.int .i64 x3,.int .i64 x4] w (Vc.Ret v w) :=
 Vc.zw base [] [] 200 Tryz.func166 (b:=(Tryz.f166.body).getD .skip) (by kernel_rfl) [.cv (.agg [.sv 0,.int .i64 (.var 0),.int .i64 (.var 1),.int .i64 (.var 2)]),.cv (.one (.int .i64 (.var 3))),.cv (.one (.int .i64 (.var 4)))] ⟨5,0,0,0,0,1,0⟩ [] (Vc.envOf [x0,x1,x2,x3,x4] [] [] [] [s0]) (by kernel_rfl) Vc.zn (by kernel_rfl) (by kernel_rfl) h
theorem zzb(x0 x1 x2:Int)(s0:List UInt8)(w:World)(v:Value)(h :
 ∃ (b0:Bool),(Vq w 122 #[.agg #[.string ⟨s0.toArray⟩,.int .i64 x0,.int .i64 x1,.int .i64 x2],.string ⟨(([60]:List UInt8)).toArray⟩] (.bool b0)) ∧
 ((b0=true)→(
 (.int .i64 0:Value)=v))∧(¬ (b0=true)→(
 ∃ (b1:Bool),(Vq w 122 #[.agg #[.string ⟨s0.toArray⟩,.int .i64 x0,.int .i64 x1,.int .i64 x2],.string ⟨(([60,61]:List UInt8)).toArray⟩] (.bool b1)) ∧
 ((b1=true)→(
 (.int .i64 1:Value)=v))∧(¬ (b1=true)→(
 ∃ (b2:Bool),(Vq w 122 #[.agg #[.string ⟨s0.toArray⟩,.int .i64 x0,.int .i64 x1,.int .i64 x2],.string ⟨(([62]:List UInt8)).toArray⟩] (.bool b2)) ∧
 ((b2=true)→(
 (.int .i64 2:Value)=v))∧(¬ (b2=true)→(
 ∃ (b3:Bool),(Vq w 122 #[.agg #[.string ⟨s0.toArray⟩,.int .i64 x0,.int .i64 x1,.int .i64 x2],.string ⟨(([62,61]:List UInt8)).toArray⟩] (.bool b3)) ∧
 ((b3=true)→(
 (.int .i64 3:Value)=v))∧(¬ (b3=true)→(
 ∃ (b4:Bool),(Vq w 122 #[.agg #[.string ⟨s0.toArray⟩,.int .i64 x0,.int .i64 x1,.int .i64 x2],.string ⟨(([61,61]:List UInt8)).toArray⟩] (.bool b4)) ∧
 ((b4=true)→(
 (.int .i64 4:Value)=v))∧(¬ (b4=true)→(
 ∃ (b5:Bool),(Vq w 122 #[.agg #[.string ⟨s0.toArray⟩,.int .i64 x0,.int .i64 x1,.int .i64 x2],.string ⟨(([33,61]:List UInt8)).toArray⟩] (.bool b5)) ∧
 ((b5=true)→(
 (.int .i64 5:Value)=v))∧(¬ (b5=true)→(
 (.int .i64 (-1):Value)=v))))))))))))):Calls Tryz.prog 167 #[.agg #[.string ⟨s0.toArray⟩,.int .i64 x0,.int .i64 x1,.int .i64 x2]] w (Vc.Ret v w) :=
 Vc.zw base [] [] 200 Tryz.func167 (b:=(Tryz.f167.body).getD .skip) (by kernel_rfl) [.cv (.agg [.sv 0,.int .i64 (.var 0),.int .i64 (.var 1),.int .i64 (.var 2)])] ⟨3,0,0,0,0,1,0⟩ [] (Vc.envOf [x0,x1,x2] [] [] [] [s0]) (by kernel_rfl) Vc.zn (by kernel_rfl) (by kernel_rfl) h
theorem zeh(x0 x1 x2:Int)(s0:List UInt8)(w:World)(v:Value)(h :
 ∃ (x3:Int),∃ (x4:Int),∃ (x5:Int),∃ (x6:Int),∃ (s1:List UInt8),∃ (b0:Bool),(Vq w 64 #[.string ⟨s0.toArray⟩,.int .i64 x0] (.agg #[.int .i64 x3,.int .i64 x4,.int .i64 x5,.int .i64 x6,.string ⟨s1.toArray⟩,.bool b0])) ∧
 ((x2=0)→(
 ((b0=true)→(
 ∃ (s2:List UInt8),∃ (x7:Int),∃ (x8:Int),∃ (x9:Int),(Vq w 65 #[.agg #[.string ⟨s0.toArray⟩,.int .i64 x0,.int .i64 x1,.int .i64 x2],.int .i64 x4,.int .i64 5] (.agg #[.string ⟨s2.toArray⟩,.int .i64 x7,.int .i64 x8,.int .i64 x9])) ∧
 (.tuple #[.agg #[.string ⟨s2.toArray⟩,.int .i64 x7,.int .i64 x8,.int .i64 x9],.string ⟨(([]:List UInt8)).toArray⟩]:Value)=v))∧(¬ (b0=true)→(
 ∃ (b1:Bool),(Vq w 76 #[.string ⟨s1.toArray⟩] (.bool b1)) ∧
 ((b1=true)→(
 (.tuple #[.agg #[.string ⟨s0.toArray⟩,.int .i64 x5,.int .i64 x1,.int .i64 x2],.string ⟨s1.toArray⟩]:Value)=v))∧(¬ (b1=true)→(
 ∃ (s2:List UInt8),∃ (x7:Int),∃ (x8:Int),∃ (x9:Int),(Vq w 65 #[.agg #[.string ⟨s0.toArray⟩,.int .i64 x0,.int .i64 x1,.int .i64 x2],.int .i64 x4,.int .i64 5] (.agg #[.string ⟨s2.toArray⟩,.int .i64 x7,.int .i64 x8,.int .i64 x9])) ∧
 (.tuple #[.agg #[.string ⟨s2.toArray⟩,.int .i64 x7,.int .i64 x8,.int .i64 x9],.string ⟨(([]:List UInt8)).toArray⟩]:Value)=v))))))∧(¬ (x2=0)→(
 ∃ (s2:List UInt8),∃ (x7:Int),∃ (x8:Int),∃ (x9:Int),(Vq w 65 #[.agg #[.string ⟨s0.toArray⟩,.int .i64 x0,.int .i64 x1,.int .i64 x2],.int .i64 x4,.int .i64 5] (.agg #[.string ⟨s2.toArray⟩,.int .i64 x7,.int .i64 x8,.int .i64 x9])) ∧
 (.tuple #[.agg #[.string ⟨s2.toArray⟩,.int .i64 x7,.int .i64 x8,.int .i64 x9],.string ⟨(([]:List UInt8)).toArray⟩]:Value)=v))):Calls Tryz.prog 165 #[.agg #[.string ⟨s0.toArray⟩,.int .i64 x0,.int .i64 x1,.int .i64 x2]] w (Vc.Ret v w) :=
 Vc.zw base [] [] 200 Tryz.func165 (b:=(Tryz.f165.body).getD .skip) (by kernel_rfl) [.cv (.agg [.sv 0,.int .i64 (.var 0),.int .i64 (.var 1),.int .i64 (.var 2)])] ⟨3,0,0,0,0,1,0⟩ [] (Vc.envOf [x0,x1,x2] [] [] [] [s0]) (by kernel_rfl) Vc.zn (by kernel_rfl) (by kernel_rfl) h
theorem zfh(p0 p1:Nat × Nat)(x0 x1 x2 x3 x4 x5 x6 x7 x8 x9 x10 x11 x12 x13:Int)(b0 b1:Bool)(s0 s1:List UInt8)(w:World)(v:Value)(h :
 ((x0=x7)→(
 ((x1=x8)→(
 ((s0=s1)→(
 ((x2=x9)→(
 ((x3=x10)→(
 ((x4=x11)→(
 (0≤x5) ∧
 ((¬ (b0=true))∨(x5=0)) ∧
 (0≤x12) ∧
 ((¬ (b1=true))∨(x12=0)) ∧
 ((x5=x12)→(
 ∃ (Ib2:List Vc.Vl→Prop) (mb2:List Vc.Vl→Nat),Ib2 [.b false,.i 0]∧∀ (b2:Bool) (x14:Int),Ib2 [.b b2,.i x14]→(
 (0≤x5) ∧
 ((¬ (b0=true))∨(x5=0)) ∧
 ((x14 < x5)→(
 (¬ (b0=true)) ∧
 (0≤x14) ∧
 (x14 < x5) ∧
 ∃ (x15:Int),w.cell? ⟨p0.1,p0.2 + (Int.toNat x14) * 7 + 0,none⟩=some (.int .i64 x15) ∧
 ∃ (x16:Int),w.cell? ⟨p0.1,p0.2 + (Int.toNat x14) * 7 + 1,none⟩=some (.int .i64 x16) ∧
 ∃ (s2:List UInt8),w.cell? ⟨p0.1,p0.2 + (Int.toNat x14) * 7 + 2,none⟩=some (.string ⟨s2.toArray⟩) ∧
 ∃ (x17:Int),w.cell? ⟨p0.1,p0.2 + (Int.toNat x14) * 7 + 3,none⟩=some (.int .i64 x17) ∧
 ∃ (x18:Int),w.cell? ⟨p0.1,p0.2 + (Int.toNat x14) * 7 + 4,none⟩=some (.int .i64 x18) ∧
 ∃ (x19:Int),w.cell? ⟨p0.1,p0.2 + (Int.toNat x14) * 7 + 5,none⟩=some (.int .i64 x19) ∧
 ∃ (b3:Bool) (p2:Nat × Nat) (x20 x21:Int),w.cell? ⟨p0.1,p0.2 + (Int.toNat x14) * 7 + 6,none⟩=some ((if b3=true then .slice none 0 0 else .slice (some (Vc.qad p2 (Int.toNat x20) (Int.toNat x21))) (Int.toNat x20) (Int.toNat x21):Value)) ∧
 (¬ (b1=true)) ∧
 (0≤x14) ∧
 (x14 < x12) ∧
 ∃ (x22:Int),w.cell? ⟨p1.1,p1.2 + (Int.toNat x14) * 7 + 0,none⟩=some (.int .i64 x22) ∧
 ∃ (x23:Int),w.cell? ⟨p1.1,p1.2 + (Int.toNat x14) * 7 + 1,none⟩=some (.int .i64 x23) ∧
 ∃ (s3:List UInt8),w.cell? ⟨p1.1,p1.2 + (Int.toNat x14) * 7 + 2,none⟩=some (.string ⟨s3.toArray⟩) ∧
 ∃ (x24:Int),w.cell? ⟨p1.1,p1.2 + (Int.toNat x14) * 7 + 3,none⟩=some (.int .i64 x24) ∧
 ∃ (x25:Int),w.cell? ⟨p1.1,p1.2 + (Int.toNat x14) * 7 + 4,none⟩=some (.int .i64 x25) ∧
 ∃ (x26:Int),w.cell? ⟨p1.1,p1.2 + (Int.toNat x14) * 7 + 5,none⟩=some (.int .i64 x26) ∧
 ∃ (b4:Bool) (p3:Nat × Nat) (x27 x28:Int),w.cell? ⟨p1.1,p1.2 + (Int.toNat x14) * 7 + 6,none⟩=some ((if b4=true then .slice none 0 0 else .slice (some (Vc.qad p3 (Int.toNat x27) (Int.toNat x28))) (Int.toNat x27) (Int.toNat x28):Value)) ∧
 ∃ (b5:Bool),(Vq w 27 #[.agg #[.int .i64 x15,.int .i64 x16,.string ⟨s2.toArray⟩,.int .i64 x17,.int .i64 x18,.int .i64 x19,(if b3=true then .slice none 0 0 else .slice (some (Vc.qad p2 (Int.toNat x20) (Int.toNat x21))) (Int.toNat x20) (Int.toNat x21):Value)],.agg #[.int .i64 x22,.int .i64 x23,.string ⟨s3.toArray⟩,.int .i64 x24,.int .i64 x25,.int .i64 x26,(if b4=true then .slice none 0 0 else .slice (some (Vc.qad p3 (Int.toNat x27) (Int.toNat x28))) (Int.toNat x27) (Int.toNat x28):Value)]] (.bool b5)) ∧
 ((b5=true)→(
 ∀ x29:Int,x29=IntKind.i64.wrap (x14 + 1) →
 Ib2 [.b b2,.i x29]∧mb2 [.b b2,.i x29] < mb2 [.b b2,.i x14]))∧(¬ (b5=true)→(
 (.bool false:Value)=v))))∧(¬ (x14 < x5)→(
 (.bool true:Value)=v)))))∧(¬ (x5=x12)→(
 (.bool false:Value)=v))))∧(¬ (x4=x11)→(
 (.bool false:Value)=v))))∧(¬ (x3=x10)→(
 (.bool false:Value)=v))))∧(¬ (x2=x9)→(
 (.bool false:Value)=v))))∧(¬ (s0=s1)→(
 (.bool false:Value)=v))))∧(¬ (x1=x8)→(
 (.bool false:Value)=v))))∧(¬ (x0=x7)→(
 (.bool false:Value)=v))):Calls Tryz.prog 27 #[.agg #[.int .i64 x0,.int .i64 x1,.string ⟨s0.toArray⟩,.int .i64 x2,.int .i64 x3,.int .i64 x4,(if b0=true then .slice none 0 0 else .slice (some (Vc.qad p0 (Int.toNat x5) (Int.toNat x6))) (Int.toNat x5) (Int.toNat x6):Value)],.agg #[.int .i64 x7,.int .i64 x8,.string ⟨s1.toArray⟩,.int .i64 x9,.int .i64 x10,.int .i64 x11,(if b1=true then .slice none 0 0 else .slice (some (Vc.qad p1 (Int.toNat x12) (Int.toNat x13))) (Int.toNat x12) (Int.toNat x13):Value)]] w (Vc.Ret v w) :=
 Vc.zw base [(5000000000004,.inv [] [4,5] [55,56,57,58,59,62,63,64,65,66,67,68,69,70,71,72,73,60,61])] [] 200 Tryz.func27 (b:=(Tryz.f27.body).getD .skip) (by kernel_rfl) [.cv (.agg [.int .i64 (.var 0),.int .i64 (.var 1),.sv 0,.int .i64 (.var 2),.int .i64 (.var 3),.int .i64 (.var 4),.qsl 0 0 7 (.var 5) (.var 6)]),.cv (.agg [.int .i64 (.var 7),.int .i64 (.var 8),.sv 1,.int .i64 (.var 9),.int .i64 (.var 10),.int .i64 (.var 11),.qsl 1 1 7 (.var 12) (.var 13)])] ⟨14,2,0,2,0,2,0⟩ [] (Vc.envOf [x0,x1,x2,x3,x4,x5,x6,x7,x8,x9,x10,x11,x12,x13] [b0,b1] [] [p0,p1] [s0,s1]) (by kernel_rfl) Vc.zn (by kernel_rfl) (by kernel_rfl) h
end Go.Proofs.YtdjgnbkclcjiiaaGreatDoor
end
section
set_option linter.unusedVariables false
set_option maxRecDepth 100000
namespace Go.Proofs.YtdjgnbkclcjiiaaGreatDoor
open Go Go.RowKit
theorem ztf(x0:Int)(w:World)(v:Value)(h :
 ((97≤x0)→(
 (.bool (decide (x0≤122)):Value)=v))∧(¬ (97≤x0)→(
 (.bool false:Value)=v))):Calls Tryz.prog 124 #[.int .u8 x0] w (Vc.Ret v w) :=
 Vc.zw base [] [] 200 Tryz.func124 (b:=(Tryz.f124.body).getD .skip) (by kernel_rfl) [.cv (.one (.int .u8 (.var 0)))] ⟨1,0,0,0,0,0,0⟩ [] (Vc.envOf [x0] [] [] []) (by kernel_rfl) Vc.zn (by kernel_rfl) (by kernel_rfl) h
theorem zgg(x0:Int)(w:World)(v:Value)(h :
 ((48≤x0)→(
 (.bool (decide (x0≤57)):Value)=v))∧(¬ (48≤x0)→(
 (.bool false:Value)=v))):Calls Tryz.prog 126 #[.int .u8 x0] w (Vc.Ret v w) :=
 Vc.zw base [] [] 200 Tryz.func126 (b:=(Tryz.f126.body).getD .skip) (by kernel_rfl) [.cv (.one (.int .u8 (.var 0)))] ⟨1,0,0,0,0,0,0⟩ [] (Vc.envOf [x0] [] [] []) (by kernel_rfl) Vc.zn (by kernel_rfl) (by kernel_rfl) h
theorem zgh(x0:Int)(w:World)(v:Value)(h :
 ((97≤x0)→(
 ((x0≤122)→(
 (.bool true:Value)=v))∧(¬ (x0≤122)→(
 ((48≤x0)→(
 ((x0≤57)→(
 (.bool true:Value)=v))∧(¬ (x0≤57)→(
 (.bool (x0 == 45):Value)=v))))∧(¬ (48≤x0)→(
 (.bool (x0 == 45):Value)=v))))))∧(¬ (97≤x0)→(
 ((48≤x0)→(
 ((x0≤57)→(
 (.bool true:Value)=v))∧(¬ (x0≤57)→(
 (.bool (x0 == 45):Value)=v))))∧(¬ (48≤x0)→(
 (.bool (x0 == 45):Value)=v))))):Calls Tryz.prog 125 #[.int .u8 x0] w (Vc.Ret v w) :=
 Vc.zw (zka [124,126] (by kernel_rfl)) [] [] 200 Tryz.func125 (b:=(Tryz.f125.body).getD .skip) (by kernel_rfl) [.cv (.one (.int .u8 (.var 0)))] ⟨1,0,0,0,0,0,0⟩ [] (Vc.envOf [x0] [] [] []) (by kernel_rfl) Vc.zn (by kernel_rfl) (by kernel_rfl) h
theorem zhh(s0:List UInt8)(w:World)(v:Value)(h :
 ∀ x0:Int,x0=((s0.length:Nat):Int) →
 ((1≤x0)→(
 ((x0≤32)→(
 ∀ x1:Int,x1=((s0.length:Nat):Int) →
 (0 < x1) ∧
 ∀ x2:Int,x2=(((s0.getD (Int.toNat 0) 0).toNat:Nat):Int) →
 ∃ (b0:Bool),(Vq w 124 #[.int .u8 x2] (.bool b0)) ∧
 ((b0=true)→(
 ((s0=([109,111,115,116]:List UInt8))→(
 (.bool false:Value)=v))∧(¬ (s0=([109,111,115,116]:List UInt8))→(
 ((s0=([108,101,97,115,116]:List UInt8))→(
 (.bool false:Value)=v))∧(¬ (s0=([108,101,97,115,116]:List UInt8))→(
 ∃ (Ib1:List Vc.Vl→Prop) (mb1:List Vc.Vl→Nat),Ib1 [.b false,.i 0]∧∀ (b1:Bool) (x3:Int),Ib1 [.b b1,.i x3]→(
 ∀ x4:Int,x4=((s0.length:Nat):Int) →
 ((x3 < x4)→(
 ∀ x5:Int,x5=((s0.length:Nat):Int) →
 (0≤x3) ∧
 (x3 < x5) ∧
 ∀ x6:Int,x6=(((s0.getD (Int.toNat x3) 0).toNat:Nat):Int) →
 ∃ (b2:Bool),(Vq w 125 #[.int .u8 x6] (.bool b2)) ∧
 ((b2=true)→(
 ∀ x7:Int,x7=IntKind.i64.wrap (x3 + 1) →
 Ib1 [.b b1,.i x7]∧mb1 [.b b1,.i x7] < mb1 [.b b1,.i x3]))∧(¬ (b2=true)→(
 (.bool false:Value)=v))))∧(¬ (x3 < x4)→(
 (.bool true:Value)=v)))))))))∧(¬ (b0=true)→(
 (.bool false:Value)=v))))∧(¬ (x0≤32)→(
 (.bool false:Value)=v))))∧(¬ (1≤x0)→(
 (.bool false:Value)=v))):Calls Tryz.prog 76 #[.string ⟨s0.toArray⟩] w (Vc.Ret v w) :=
 Vc.zw (zka [71] (by kernel_rfl)) [(4000000000004,.inv [] [2,3] [22,23,24,25,28,29,30,31,32,26,27])] [] 200 Tryz.func76 (b:=(Tryz.f76.body).getD .skip) (by kernel_rfl) [.cv (.one (.sv 0))] ⟨0,0,0,0,0,1,0⟩ [] (Vc.envOf [] [] [] [] [s0]) (by kernel_rfl) Vc.zn (by kernel_rfl) (by kernel_rfl) h
theorem zhg(p0:Nat × Nat)(x0 x1 x2 x3 x4 x5 x6 x7:Int)(b0:Bool)(s0:List UInt8)(w:World)(v:Value)(h :
 ((21 < x7)→(
 (.tuple #[.int .i64 1000,.int .i64 1000]:Value)=v))∧(¬ (21 < x7)→(
 ∃ (Ix8:List Vc.Vl→Prop) (mx8:List Vc.Vl→Nat),Ix8 [.i 1,.i 1,.i 0]∧∀ (x8:Int) (x9:Int) (x10:Int),Ix8 [.i x8,.i x9,.i x10]→(
 (0≤x5) ∧
 ((¬ (b0=true))∨(x5=0)) ∧
 ((x10 < x5)→(
 ((x8≤200)→(
 (¬ (b0=true)) ∧
 (0≤x10) ∧
 (x10 < x5) ∧
 ∃ (x11:Int),w.cell? ⟨p0.1,p0.2 + (Int.toNat x10) * 7 + 0,none⟩=some (.int .i64 x11) ∧
 ∃ (x12:Int),w.cell? ⟨p0.1,p0.2 + (Int.toNat x10) * 7 + 1,none⟩=some (.int .i64 x12) ∧
 ∃ (s1:List UInt8),w.cell? ⟨p0.1,p0.2 + (Int.toNat x10) * 7 + 2,none⟩=some (.string ⟨s1.toArray⟩) ∧
 ∃ (x13:Int),w.cell? ⟨p0.1,p0.2 + (Int.toNat x10) * 7 + 3,none⟩=some (.int .i64 x13) ∧
 ∃ (x14:Int),w.cell? ⟨p0.1,p0.2 + (Int.toNat x10) * 7 + 4,none⟩=some (.int .i64 x14) ∧
 ∃ (x15:Int),w.cell? ⟨p0.1,p0.2 + (Int.toNat x10) * 7 + 5,none⟩=some (.int .i64 x15) ∧
 ∃ (b1:Bool) (p1:Nat × Nat) (x16 x17:Int),w.cell? ⟨p0.1,p0.2 + (Int.toNat x10) * 7 + 6,none⟩=some ((if b1=true then .slice none 0 0 else .slice (some (Vc.qad p1 (Int.toNat x16) (Int.toNat x17))) (Int.toNat x16) (Int.toNat x17):Value)) ∧
 ∀ x18:Int,x18=IntKind.i64.wrap (x7 + 1) →
 ∃ (x19:Int),∃ (x20:Int),(Vq w 56 #[.agg #[.int .i64 x11,.int .i64 x12,.string ⟨s1.toArray⟩,.int .i64 x13,.int .i64 x14,.int .i64 x15,(if b1=true then .slice none 0 0 else .slice (some (Vc.qad p1 (Int.toNat x16) (Int.toNat x17))) (Int.toNat x16) (Int.toNat x17):Value)],.int .i64 x18] (.tuple #[.int .i64 x19,.int .i64 x20])) ∧
 ∀ x21:Int,x21=IntKind.i64.wrap (x8 + x19) →
 ∀ x22:Int,x22=IntKind.i64.wrap (x20 + 1) →
 ∀ x23:Int,x23=(if x22 > x9 then x22 else x9) →
 ∀ x24:Int,x24=IntKind.i64.wrap (x10 + 1) →
 Ix8 [.i x21,.i x23,.i x24]∧mx8 [.i x21,.i x23,.i x24] < mx8 [.i x8,.i x9,.i x10]))∧(¬ (x8≤200)→(
 (.tuple #[.int .i64 x8,.int .i64 x9]:Value)=v))))∧(¬ (x10 < x5)→(
 (.tuple #[.int .i64 x8,.int .i64 x9]:Value)=v)))))):Calls Tryz.prog 56 #[.agg #[.int .i64 x0,.int .i64 x1,.string ⟨s0.toArray⟩,.int .i64 x2,.int .i64 x3,.int .i64 x4,(if b0=true then .slice none 0 0 else .slice (some (Vc.qad p0 (Int.toNat x5) (Int.toNat x6))) (Int.toNat x5) (Int.toNat x6):Value)],.int .i64 x7] w (Vc.Ret v w) :=
 Vc.zw base [(9000000000005,.inv [] [6,7,8] [13,14,15,16,17,18,19,20,21,25,26,27,28,29,30,31,32,24,33,34,9,10,35,36,37,38,39,40,41,22,23])] [] 200 Tryz.func56 (b:=(Tryz.f56.body).getD .skip) (by kernel_rfl) [.cv (.agg [.int .i64 (.var 0),.int .i64 (.var 1),.sv 0,.int .i64 (.var 2),.int .i64 (.var 3),.int .i64 (.var 4),.qsl 0 0 7 (.var 5) (.var 6)]),.cv (.one (.int .i64 (.var 7)))] ⟨8,1,0,1,0,1,0⟩ [] (Vc.envOf [x0,x1,x2,x3,x4,x5,x6,x7] [b0] [] [p0] [s0]) (by kernel_rfl) Vc.zn (by kernel_rfl) (by kernel_rfl) h
end Go.Proofs.YtdjgnbkclcjiiaaGreatDoor
end
