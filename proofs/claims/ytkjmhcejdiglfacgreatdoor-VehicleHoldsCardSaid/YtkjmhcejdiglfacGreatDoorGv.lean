import Derived.Test.YtkjmhcejdiglfacGreatDoorG0
set_option linter.unusedVariables false
set_option maxRecDepth 100000
namespace Go.Proofs.YtkjmhcejdiglfacGreatDoor
open Go Go.RowKit
theorem znh(x0 x1 x2:Int)(w:World)(v:Value)(h :
 ((x2≤x0)→(
 ((x0≤x1)→(
 (.bool (decide (x1≤4503599627370496)):Value)=v))∧(¬ (x0≤x1)→(
 (.bool false:Value)=v))))∧(¬ (x2≤x0)→(
 (.bool false:Value)=v))):Calls Tryz.prog 97 #[.agg #[.int .i64 x0,.int .i64 x1],.int .i64 x2] w (Vc.Ret v w) :=
 Vc.zb base [] [] 200 Tryz.func97 (b:=(Tryz.f97.body).getD .skip) (by kernel_rfl) [.cv (.agg [.int .i64 (.var 0),.int .i64 (.var 1)]),.cv (.one (.int .i64 (.var 2)))] ⟨3,0,0,0,0,0,0⟩ [] (Vc.envOf [x0,x1,x2] [] [] []) (by kernel_rfl) Vc.zc (by kernel_rfl) (by kernel_rfl) h
theorem zyi(p0:Nat × Nat)(x0 x1:Int)(b0:Bool)(w:World)(v:Value)(h :
 (0≤x0) ∧
 ((¬ (b0=true))∨(x0=0)) ∧
 ∃ (Ib1:List Vc.Vl→Prop) (mb1:List Vc.Vl→Nat),Ib1 [.b false,.i (-1),.i 0]∧∀ (b1:Bool) (x2:Int) (x3:Int),Ib1 [.b b1,.i x2,.i x3]→(
 ((x3 < x0)→(
 (¬ (b0=true)) ∧
 (0≤x3) ∧
 (x3 < x0) ∧
 ∃ (x4:Int),w.cell? ⟨p0.1,p0.2 + (Int.toNat x3) * 3 + 0,none⟩=some (.int .i64 x4) ∧
 ∃ (x5:Int),w.cell? ⟨p0.1,p0.2 + (Int.toNat x3) * 3 + 1,none⟩=some (.int .i64 x5) ∧
 ∃ (x6:Int),w.cell? ⟨p0.1,p0.2 + (Int.toNat x3) * 3 + 2,none⟩=some (.int .i64 x6) ∧
 ((x4≤x2)→(
 (.bool false:Value)=v))∧(¬ (x4≤x2)→(
 ((4503599627370496 < x4)→(
 (.bool false:Value)=v))∧(¬ (4503599627370496 < x4)→(
 ∃ (b2:Bool),(Vq w 97 #[.agg #[.int .i64 x5,.int .i64 x6],.int .i64 0] (.bool b2)) ∧
 ((b2=true)→(
 ∀ x7:Int,x7=IntKind.i64.wrap (x3 + 1) →
 Ib1 [.b b1,.i x4,.i x7]∧mb1 [.b b1,.i x4,.i x7] < mb1 [.b b1,.i x2,.i x3]))∧(¬ (b2=true)→(
 (.bool false:Value)=v))))))))∧(¬ (x3 < x0)→(
 (0≤x0) ∧
 ((¬ (b0=true))∨(x0=0)) ∧
 ((1≤x0)→(
 (.bool (decide (x0≤64)):Value)=v))∧(¬ (1≤x0)→(
 (.bool false:Value)=v)))))):Calls Tryz.prog 98 #[(if b0=true then .slice none 0 0 else .slice (some (Vc.qad p0 (Int.toNat x0) (Int.toNat x1))) (Int.toNat x0) (Int.toNat x1):Value)] w (Vc.Ret v w) :=
 Vc.zb (ze [23] (by kernel_rfl)) [(1000000000003,.inv [] [2,3,8] [9,10,11,5,12,13,14,15,16,17,18,19,20,21,22,23,24,25,26,27,28,29])] [] 200 Tryz.func98 (b:=(Tryz.f98.body).getD .skip) (by kernel_rfl) [.cv (.one (.qsl 0 0 3 (.var 0) (.var 1)))] ⟨2,1,0,1,0,0,0⟩ [] (Vc.envOf [x0,x1] [b0] [] [p0]) (by kernel_rfl) Vc.zc (by kernel_rfl) (by kernel_rfl) h
abbrev Vj_vehicle_Check_T3(x22:Int)(w:World)(x23:Int)(x24:Int)(x25:Int)(x26:Int)(x27:Int)(x11:Int)(v:Value)(x28:Int)(x29:Int)(x30:Int)(x31:Int)(l3:List Vc.OV)(s2:List UInt8)(x21:Int)(Ix20:List Vc.Vl→Prop)(x20:Int)(mx20:List Vc.Vl→Nat):Prop :=
 ((1≤x22)→(
 ((x22≤64)→(
 ∃ (b10:Bool),(Vq w 97 #[.agg #[.int .i64 x23,.int .i64 x24],.int .i64 1] (.bool b10)) ∧
 ((b10=true)→(
 ∃ (b11:Bool),(Vq w 97 #[.agg #[.int .i64 x25,.int .i64 x26],.int .i64 1] (.bool b11)) ∧
 ((b11=true)→(
 ((x27 < 0)→(
 (.tuple #[.int .i64 1,.int .i64 x11,.int .i64 4]:Value)=v))∧(¬ (x27 < 0)→(
 ((4294967296 < x27)→(
 (.tuple #[.int .i64 1,.int .i64 x11,.int .i64 4]:Value)=v))∧(¬ (4294967296 < x27)→(
 ∃ (b12:Bool),(Vq w 97 #[.agg #[.int .i64 x28,.int .i64 x29],.int .i64 0] (.bool b12)) ∧
 ((b12=true)→(
 ∃ (b13:Bool),(Vq w 97 #[.agg #[.int .i64 x30,.int .i64 x31],.int .i64 0] (.bool b13)) ∧
 ((b13=true)→(
 (Vc.keysOk [.str] 2 ((l3.map (·.1)++(([]:List Value))))=true)∧∀ x33:Int,x33=Vc.mfind 1 2 ([.string ⟨s2.toArray⟩]:List Value) ((l3.map (·.1)++(([]:List Value)))) →
 ((0≤x33)→(
 ∀ l4:List Vc.OV,l4.map (·.1)=((l3.map (·.1)++(([]:List Value)))).take ((Int.toNat x33) * 2 + 1)++([.bool true]:List Value)++((l3.map (·.1)++(([]:List Value)))).drop ((Int.toNat x33) * 2 + 1 + 1) →
 ∀ x34:Int,x34=IntKind.i64.wrap (x21 + 1) →
 Ix20 [.i x20,.i x34,.l ((l4.map (·.1)++(([]:List Value))))]∧mx20 [.i x20,.i x34,.l ((l4.map (·.1)++(([]:List Value))))] < mx20 [.i x20,.i x21,.l ((l3.map (·.1)++(([]:List Value))))]))∧(¬ (0≤x33)→(
 ∀ x34:Int,x34=IntKind.i64.wrap (x21 + 1) →
 Ix20 [.i x20,.i x34,.l ((l3.map (·.1)++(([.string ⟨s2.toArray⟩,.bool true]:List Value))))]∧mx20 [.i x20,.i x34,.l ((l3.map (·.1)++(([.string ⟨s2.toArray⟩,.bool true]:List Value))))] < mx20 [.i x20,.i x21,.l ((l3.map (·.1)++(([]:List Value))))]))))∧(¬ (b13=true)→(
 (.tuple #[.int .i64 1,.int .i64 x11,.int .i64 4]:Value)=v))))∧(¬ (b12=true)→(
 (.tuple #[.int .i64 1,.int .i64 x11,.int .i64 4]:Value)=v))))))))∧(¬ (b11=true)→(
 (.tuple #[.int .i64 1,.int .i64 x11,.int .i64 4]:Value)=v))))∧(¬ (b10=true)→(
 (.tuple #[.int .i64 1,.int .i64 x11,.int .i64 4]:Value)=v))))∧(¬ (x22≤64)→(
 (.tuple #[.int .i64 1,.int .i64 x11,.int .i64 4]:Value)=v))))∧(¬ (1≤x22)→(
 (.tuple #[.int .i64 1,.int .i64 x11,.int .i64 4]:Value)=v))
abbrev Vj_vehicle_Check_T2(b3:Bool)(x21:Int)(x16:Int)(w:World)(p2:Nat × Nat)(l3:List Vc.OV)(x11:Int)(v:Value)(Ix20:List Vc.Vl→Prop)(x20:Int)(mx20:List Vc.Vl→Nat):Prop :=
 (¬ (b3=true)) ∧
 (0≤x21) ∧
 (x21 < x16) ∧
 ∃ (s2:List UInt8),w.cell? ⟨p2.1,p2.2 + (Int.toNat x21) * 11 + 0,none⟩=some (.string ⟨s2.toArray⟩) ∧
 ∃ (x22:Int),w.cell? ⟨p2.1,p2.2 + (Int.toNat x21) * 11 + 1,none⟩=some (.int .i64 x22) ∧
 ∃ (x23:Int),w.cell? ⟨p2.1,p2.2 + (Int.toNat x21) * 11 + 2,none⟩=some (.int .i64 x23) ∧
 ∃ (x24:Int),w.cell? ⟨p2.1,p2.2 + (Int.toNat x21) * 11 + 3,none⟩=some (.int .i64 x24) ∧
 ∃ (x25:Int),w.cell? ⟨p2.1,p2.2 + (Int.toNat x21) * 11 + 4,none⟩=some (.int .i64 x25) ∧
 ∃ (x26:Int),w.cell? ⟨p2.1,p2.2 + (Int.toNat x21) * 11 + 5,none⟩=some (.int .i64 x26) ∧
 ∃ (x27:Int),w.cell? ⟨p2.1,p2.2 + (Int.toNat x21) * 11 + 6,none⟩=some (.int .i64 x27) ∧
 ∃ (x28:Int),w.cell? ⟨p2.1,p2.2 + (Int.toNat x21) * 11 + 7,none⟩=some (.int .i64 x28) ∧
 ∃ (x29:Int),w.cell? ⟨p2.1,p2.2 + (Int.toNat x21) * 11 + 8,none⟩=some (.int .i64 x29) ∧
 ∃ (x30:Int),w.cell? ⟨p2.1,p2.2 + (Int.toNat x21) * 11 + 9,none⟩=some (.int .i64 x30) ∧
 ∃ (x31:Int),w.cell? ⟨p2.1,p2.2 + (Int.toNat x21) * 11 + 10,none⟩=some (.int .i64 x31) ∧
 ∃ (b8:Bool),(Vq w 94 #[.string ⟨s2.toArray⟩] (.bool b8)) ∧
 ((b8=true)→(
 (Vc.keysOk [.str] 2 ((l3.map (·.1)++(([]:List Value))))=true)∧∀ x32:Int,x32=Vc.mfind 1 2 ([.string ⟨s2.toArray⟩]:List Value) ((l3.map (·.1)++(([]:List Value)))) →
 ((0≤x32)→(
 ∃ (b9:Bool),((l3.map (·.1)++(([]:List Value))))[(Int.toNat x32) * 2 + 1]? = some (.bool b9) ∧
 ((b9=true)→(
 (.tuple #[.int .i64 1,.int .i64 x11,.int .i64 8]:Value)=v))∧(¬ (b9=true)→( Vj_vehicle_Check_T3 x22 w x23 x24 x25 x26 x27 x11 v x28 x29 x30 x31 l3 s2 x21 Ix20 x20 mx20))))∧(¬ (0≤x32)→( Vj_vehicle_Check_T3 x22 w x23 x24 x25 x26 x27 x11 v x28 x29 x30 x31 l3 s2 x21 Ix20 x20 mx20))))∧(¬ (b8=true)→(
 (.tuple #[.int .i64 1,.int .i64 x11,.int .i64 2]:Value)=v))
abbrev Vj_vehicle_Check_T1(w:World)(x12:Int)(x13:Int)(x14:Int)(x15:Int)(x16:Int)(b3:Bool)(x11:Int)(v:Value)(l0:List Vc.OV)(s1:List UInt8)(l1:List Vc.OV)(p2:Nat × Nat)(Ix8:List Vc.Vl→Prop)(x8:Int)(x9:Int)(x10:Int)(mx8:List Vc.Vl→Nat):Prop :=
 ∃ (b6:Bool),(Vq w 97 #[.agg #[.int .i64 x12,.int .i64 x13],.int .i64 1] (.bool b6)) ∧
 ((b6=true)→(
 ∃ (b7:Bool),(Vq w 97 #[.agg #[.int .i64 x14,.int .i64 x15],.int .i64 0] (.bool b7)) ∧
 ((b7=true)→(
 (0≤x16) ∧
 ((¬ (b3=true))∨(x16=0)) ∧
 ((16 < x16)→(
 (.tuple #[.int .i64 1,.int .i64 x11,.int .i64 3]:Value)=v))∧(¬ (16 < x16)→(
 (Vc.keysOk [.str] 2 ((l0.map (·.1)++(([]:List Value))))=true)∧∀ x19:Int,x19=Vc.mfind 1 2 ([.string ⟨s1.toArray⟩]:List Value) ((l0.map (·.1)++(([]:List Value)))) →
 ((0≤x19)→(
 ∀ l2:List Vc.OV,l2.map (·.1)=((l0.map (·.1)++(([]:List Value)))).take ((Int.toNat x19) * 2 + 1)++([.bool true]:List Value)++((l0.map (·.1)++(([]:List Value)))).drop ((Int.toNat x19) * 2 + 1 + 1) →
 (0≤x16) ∧
 ((¬ (b3=true))∨(x16=0)) ∧
 ∃ (Ix20:List Vc.Vl→Prop) (mx20:List Vc.Vl→Nat),Ix20 [.i 0,.i 0,.l ((l1.map (·.1)++(([]:List Value))))]∧∀ (x20:Int) (x21:Int) (l3:List Vc.OV),Ix20 [.i x20,.i x21,.l ((l3.map (·.1)++(([]:List Value))))]→(
 ((x21 < x16)→( Vj_vehicle_Check_T2 b3 x21 x16 w p2 l3 x11 v Ix20 x20 mx20))∧(¬ (x21 < x16)→(
 ∀ x22:Int,x22=IntKind.i64.wrap (x11 + 1) →
 Ix8 [.i x8,.i x9,.i x10,.i x22,.l ((l2.map (·.1)++(([]:List Value)))),.l ((l3.map (·.1)++(([]:List Value))))]∧mx8 [.i x8,.i x9,.i x10,.i x22,.l ((l2.map (·.1)++(([]:List Value)))),.l ((l3.map (·.1)++(([]:List Value))))] < mx8 [.i x8,.i x9,.i x10,.i x11,.l ((l0.map (·.1)++(([]:List Value)))),.l ((l1.map (·.1)++(([]:List Value))))])))))∧(¬ (0≤x19)→(
 (0≤x16) ∧
 ((¬ (b3=true))∨(x16=0)) ∧
 ∃ (Ix20:List Vc.Vl→Prop) (mx20:List Vc.Vl→Nat),Ix20 [.i 0,.i 0,.l ((l1.map (·.1)++(([]:List Value))))]∧∀ (x20:Int) (x21:Int) (l2:List Vc.OV),Ix20 [.i x20,.i x21,.l ((l2.map (·.1)++(([]:List Value))))]→(
 ((x21 < x16)→( Vj_vehicle_Check_T2 b3 x21 x16 w p2 l2 x11 v Ix20 x20 mx20))∧(¬ (x21 < x16)→(
 ∀ x22:Int,x22=IntKind.i64.wrap (x11 + 1) →
 Ix8 [.i x8,.i x9,.i x10,.i x22,.l ((l0.map (·.1)++(([.string ⟨s1.toArray⟩,.bool true]:List Value)))),.l ((l2.map (·.1)++(([]:List Value))))]∧mx8 [.i x8,.i x9,.i x10,.i x22,.l ((l0.map (·.1)++(([.string ⟨s1.toArray⟩,.bool true]:List Value)))),.l ((l2.map (·.1)++(([]:List Value))))] < mx8 [.i x8,.i x9,.i x10,.i x11,.l ((l0.map (·.1)++(([]:List Value)))),.l ((l1.map (·.1)++(([]:List Value))))])))))))))∧(¬ (b7=true)→(
 (.tuple #[.int .i64 1,.int .i64 x11,.int .i64 4]:Value)=v))))∧(¬ (b6=true)→(
 (.tuple #[.int .i64 1,.int .i64 x11,.int .i64 4]:Value)=v))
theorem zak(p0 p1:Nat × Nat)(x0 x1 x2 x3 x4 x5 x6 x7:Int)(b0 b1:Bool)(s0:List UInt8)(w:World)(v:Value)(h :
 ∃ (b2:Bool),(Vq w 94 #[.string ⟨s0.toArray⟩] (.bool b2)) ∧
 ((b2=true)→(
 (0≤x0) ∧
 ((¬ (b0=true))∨(x0=0)) ∧
 ((x0=0)→(
 (.tuple #[.int .i64 0,.int .i64 0,.int .i64 2]:Value)=v))∧(¬ (x0=0)→(
 (0≤x0) ∧
 ((¬ (b0=true))∨(x0=0)) ∧
 ((8 < x0)→(
 (.tuple #[.int .i64 0,.int .i64 0,.int .i64 3]:Value)=v))∧(¬ (8 < x0)→(
 (0≤x0) ∧
 ((¬ (b0=true))∨(x0=0)) ∧
 ∃ (Ix8:List Vc.Vl→Prop) (mx8:List Vc.Vl→Nat),Ix8 [.i 0,.i 0,.i 0,.i 0,.l (([]:List Value)),.l (([]:List Value))]∧∀ (x8:Int) (x9:Int) (x10:Int) (x11:Int) (l0:List Vc.OV) (l1:List Vc.OV),Ix8 [.i x8,.i x9,.i x10,.i x11,.l ((l0.map (·.1)++(([]:List Value)))),.l ((l1.map (·.1)++(([]:List Value))))]→(
 ((x11 < x0)→(
 (¬ (b0=true)) ∧
 (0≤x11) ∧
 (x11 < x0) ∧
 ∃ (s1:List UInt8),w.cell? ⟨p0.1,p0.2 + (Int.toNat x11) * 6 + 0,none⟩=some (.string ⟨s1.toArray⟩) ∧
 ∃ (x12:Int),w.cell? ⟨p0.1,p0.2 + (Int.toNat x11) * 6 + 1,none⟩=some (.int .i64 x12) ∧
 ∃ (x13:Int),w.cell? ⟨p0.1,p0.2 + (Int.toNat x11) * 6 + 2,none⟩=some (.int .i64 x13) ∧
 ∃ (x14:Int),w.cell? ⟨p0.1,p0.2 + (Int.toNat x11) * 6 + 3,none⟩=some (.int .i64 x14) ∧
 ∃ (x15:Int),w.cell? ⟨p0.1,p0.2 + (Int.toNat x11) * 6 + 4,none⟩=some (.int .i64 x15) ∧
 ∃ (b3:Bool) (p2:Nat × Nat) (x16 x17:Int),w.cell? ⟨p0.1,p0.2 + (Int.toNat x11) * 6 + 5,none⟩=some ((if b3=true then .slice none 0 0 else .slice (some (Vc.qad p2 (Int.toNat x16) (Int.toNat x17))) (Int.toNat x16) (Int.toNat x17):Value)) ∧
 ∃ (b4:Bool),(Vq w 94 #[.string ⟨s1.toArray⟩] (.bool b4)) ∧
 ((b4=true)→(
 (Vc.keysOk [.str] 2 ((l0.map (·.1)++(([]:List Value))))=true)∧∀ x18:Int,x18=Vc.mfind 1 2 ([.string ⟨s1.toArray⟩]:List Value) ((l0.map (·.1)++(([]:List Value)))) →
 ((0≤x18)→(
 ∃ (b5:Bool),((l0.map (·.1)++(([]:List Value))))[(Int.toNat x18) * 2 + 1]? = some (.bool b5) ∧
 ((b5=true)→(
 (.tuple #[.int .i64 1,.int .i64 x11,.int .i64 8]:Value)=v))∧(¬ (b5=true)→( Vj_vehicle_Check_T1 w x12 x13 x14 x15 x16 b3 x11 v l0 s1 l1 p2 Ix8 x8 x9 x10 mx8))))∧(¬ (0≤x18)→( Vj_vehicle_Check_T1 w x12 x13 x14 x15 x16 b3 x11 v l0 s1 l1 p2 Ix8 x8 x9 x10 mx8))))∧(¬ (b4=true)→(
 (.tuple #[.int .i64 1,.int .i64 x11,.int .i64 2]:Value)=v))))∧(¬ (x11 < x0)→(
 ∃ (b3:Bool),(Vq w 97 #[.agg #[.int .i64 x2,.int .i64 x3],.int .i64 0] (.bool b3)) ∧
 ((b3=true)→(
 ∃ (b4:Bool),(Vq w 98 #[(if b1=true then .slice none 0 0 else .slice (some (Vc.qad p1 (Int.toNat x4) (Int.toNat x5))) (Int.toNat x4) (Int.toNat x5):Value)] (.bool b4)) ∧
 ((b4=true)→(
 ((1≤x6)→(
 ((x6≤4503599627370496)→(
 ((1≤x7)→(
 ((x7≤4503599627370496)→(
 (.tuple #[.int .i64 0,.int .i64 0,.int .i64 0]:Value)=v))∧(¬ (x7≤4503599627370496)→(
 (.tuple #[.int .i64 4,.int .i64 0,.int .i64 4]:Value)=v))))∧(¬ (1≤x7)→(
 (.tuple #[.int .i64 4,.int .i64 0,.int .i64 4]:Value)=v))))∧(¬ (x6≤4503599627370496)→(
 (.tuple #[.int .i64 4,.int .i64 0,.int .i64 4]:Value)=v))))∧(¬ (1≤x6)→(
 (.tuple #[.int .i64 4,.int .i64 0,.int .i64 4]:Value)=v))))∧(¬ (b4=true)→(
 (.tuple #[.int .i64 3,.int .i64 0,.int .i64 2]:Value)=v))))∧(¬ (b3=true)→(
 (.tuple #[.int .i64 2,.int .i64 0,.int .i64 4]:Value)=v)))))))))))∧(¬ (b2=true)→(
 (.tuple #[.int .i64 0,.int .i64 0,.int .i64 2]:Value)=v))):Calls Tryz.prog 48 #[.agg #[.string ⟨s0.toArray⟩,(if b0=true then .slice none 0 0 else .slice (some (Vc.qad p0 (Int.toNat x0) (Int.toNat x1))) (Int.toNat x0) (Int.toNat x1):Value),.int .i64 x2,.int .i64 x3,(if b1=true then .slice none 0 0 else .slice (some (Vc.qad p1 (Int.toNat x4) (Int.toNat x5))) (Int.toNat x4) (Int.toNat x5):Value),.int .i64 x6,.int .i64 x7]] w (Vc.Ret v w) :=
 Vc.zb (ze [95,124,23,96] (by kernel_rfl)) [(1000000000007,.inv [(5,0),(6,0)] [2,3,4,32] [33,34,35,36,8,7,37,38,39,40,9,41,42,43,44,45]),(1000000000011,.inv [(2,0)] [6,42] [43,44,45,8,46,47,48,9,49,50,51,52])] [] 200 Tryz.func48 (b:=(Tryz.f48.body).getD .skip) (by kernel_rfl) [.cv (.agg [.sv 0,.qsl 0 0 6 (.var 0) (.var 1),.int .i64 (.var 2),.int .i64 (.var 3),.qsl 1 1 3 (.var 4) (.var 5),.int .i64 (.var 6),.int .i64 (.var 7)])] ⟨8,2,0,2,0,1,0⟩ [] (Vc.envOf [x0,x1,x2,x3,x4,x5,x6,x7] [b0,b1] [] [p0,p1] [s0]) (by kernel_rfl) Vc.zc (by kernel_rfl) (by kernel_rfl) h
end Go.Proofs.YtkjmhcejdiglfacGreatDoor
