import Derived.Test.YtdjgnbkclcjiiaaGreatDoorG0
set_option linter.unusedVariables false
set_option maxRecDepth 100000
namespace Go.Proofs.YtdjgnbkclcjiiaaGreatDoor
open Go Go.RowKit
theorem zfg(x0:Int)(w:World)(v:Value)(h :
 ((97≤x0)→(
 (.bool (decide (x0≤122)):Value)=v))∧(¬ (97≤x0)→(
 (.bool false:Value)=v))):Calls Tryz.prog 124 #[.int .u8 x0] w (Vc.Ret v w) :=
 Vc.zi base [] [] 200 Tryz.func124 (b:=(Tryz.f124.body).getD .skip) (by kernel_rfl) [.cv (.one (.int .u8 (.var 0)))] ⟨1,0,0,0,0,0,0⟩ [] (Vc.envOf [x0] [] [] []) (by kernel_rfl) Vc.zg (by kernel_rfl) (by kernel_rfl) h
theorem zwg(x0:Int)(w:World)(v:Value)(h :
 ((48≤x0)→(
 (.bool (decide (x0≤57)):Value)=v))∧(¬ (48≤x0)→(
 (.bool false:Value)=v))):Calls Tryz.prog 126 #[.int .u8 x0] w (Vc.Ret v w) :=
 Vc.zi base [] [] 200 Tryz.func126 (b:=(Tryz.f126.body).getD .skip) (by kernel_rfl) [.cv (.one (.int .u8 (.var 0)))] ⟨1,0,0,0,0,0,0⟩ [] (Vc.envOf [x0] [] [] []) (by kernel_rfl) Vc.zg (by kernel_rfl) (by kernel_rfl) h
theorem zxh(x0:Int)(w:World)(v:Value)(h :
 ((97≤x0)→(
 ((x0≤122)→(
 (.bool true:Value)=v))∧(¬ (x0≤122)→(
 ((48≤x0)→(
 ((x0≤57)→(
 (.bool true:Value)=v))∧(¬ (x0≤57)→(
 (.bool (x0 == 45):Value)=v))))∧(¬ (48≤x0)→(
 (.bool (x0 == 45):Value)=v))))))∧(¬ (97≤x0)→(
 ((48≤x0)→(
 ((x0≤57)→(
 (.bool true:Value)=v))∧(¬ (x0≤57)→(
 (.bool (x0 == 45):Value)=v))))∧(¬ (48≤x0)→(
 (.bool (x0 == 45):Value)=v))))):Calls Tryz.prog 125 #[.int .u8 x0] w (Vc.Ret v w) :=
 Vc.zi (zz [124,126] (by kernel_rfl)) [] [] 200 Tryz.func125 (b:=(Tryz.f125.body).getD .skip) (by kernel_rfl) [.cv (.one (.int .u8 (.var 0)))] ⟨1,0,0,0,0,0,0⟩ [] (Vc.envOf [x0] [] [] []) (by kernel_rfl) Vc.zg (by kernel_rfl) (by kernel_rfl) h
theorem zyh(s0:List UInt8)(w:World)(v:Value)(h :
 ∀ x0:Int,x0=((s0.length:Nat):Int) →
 ((1≤x0)→(
 ((x0≤32)→(
 ∀ x1:Int,x1=((s0.length:Nat):Int) →
 (0 < x1) ∧
 ∀ x2:Int,x2=(((s0.getD (Int.toNat 0) 0).toNat:Nat):Int) →
 ∃ (b0:Bool),(Vq w 124 #[.int .u8 x2] (.bool b0)) ∧
 ((b0=true)→(
 ((s0=([109,111,115,116]:List UInt8))→(
 (.bool false:Value)=v))∧(¬ (s0=([109,111,115,116]:List UInt8))→(
 ((s0=([108,101,97,115,116]:List UInt8))→(
 (.bool false:Value)=v))∧(¬ (s0=([108,101,97,115,116]:List UInt8))→(
 ∃ (Ib1:List Vc.Vl→Prop) (mb1:List Vc.Vl→Nat),Ib1 [.b false,.i 0]∧∀ (b1:Bool) (x3:Int),Ib1 [.b b1,.i x3]→(
 ∀ x4:Int,x4=((s0.length:Nat):Int) →
 ((x3 < x4)→(
 ∀ x5:Int,x5=((s0.length:Nat):Int) →
 (0≤x3) ∧
 (x3 < x5) ∧
 ∀ x6:Int,x6=(((s0.getD (Int.toNat x3) 0).toNat:Nat):Int) →
 ∃ (b2:Bool),(Vq w 125 #[.int .u8 x6] (.bool b2)) ∧
 ((b2=true)→(
 ∀ x7:Int,x7=IntKind.i64.wrap (x3 + 1) →
 Ib1 [.b b1,.i x7]∧mb1 [.b b1,.i x7] < mb1 [.b b1,.i x3]))∧(¬ (b2=true)→(
 (.bool false:Value)=v))))∧(¬ (x3 < x4)→(
 (.bool true:Value)=v)))))))))∧(¬ (b0=true)→(
 (.bool false:Value)=v))))∧(¬ (x0≤32)→(
 (.bool false:Value)=v))))∧(¬ (1≤x0)→(
 (.bool false:Value)=v))):Calls Tryz.prog 76 #[.string ⟨s0.toArray⟩] w (Vc.Ret v w) :=
 Vc.zi (zz [71] (by kernel_rfl)) [(4000000000004,.inv [] [2,3] [22,23,24,25,28,29,30,31,32,26,27])] [] 200 Tryz.func76 (b:=(Tryz.f76.body).getD .skip) (by kernel_rfl) [.cv (.one (.sv 0))] ⟨0,0,0,0,0,1,0⟩ [] (Vc.envOf [] [] [] [] [s0]) (by kernel_rfl) Vc.zg (by kernel_rfl) (by kernel_rfl) h
theorem zxg(p0:Nat × Nat)(x0 x1 x2 x3 x4 x5 x6 x7:Int)(b0:Bool)(s0:List UInt8)(w:World)(v:Value)(h :
 ((21 < x7)→(
 (.tuple #[.int .i64 1000,.int .i64 1000]:Value)=v))∧(¬ (21 < x7)→(
 ∃ (Ix8:List Vc.Vl→Prop) (mx8:List Vc.Vl→Nat),Ix8 [.i 1,.i 1,.i 0]∧∀ (x8:Int) (x9:Int) (x10:Int),Ix8 [.i x8,.i x9,.i x10]→(
 (0≤x5) ∧
 ((¬ (b0=true))∨(x5=0)) ∧
 ((x10 < x5)→(
 ((x8≤200)→(
 (¬ (b0=true)) ∧
 (0≤x10) ∧
 (x10 < x5) ∧
 ∃ (x11:Int),w.cell? ⟨p0.1,p0.2 + (Int.toNat x10) * 7 + 0,none⟩=some (.int .i64 x11) ∧
 ∃ (x12:Int),w.cell? ⟨p0.1,p0.2 + (Int.toNat x10) * 7 + 1,none⟩=some (.int .i64 x12) ∧
 ∃ (s1:List UInt8),w.cell? ⟨p0.1,p0.2 + (Int.toNat x10) * 7 + 2,none⟩=some (.string ⟨s1.toArray⟩) ∧
 ∃ (x13:Int),w.cell? ⟨p0.1,p0.2 + (Int.toNat x10) * 7 + 3,none⟩=some (.int .i64 x13) ∧
 ∃ (x14:Int),w.cell? ⟨p0.1,p0.2 + (Int.toNat x10) * 7 + 4,none⟩=some (.int .i64 x14) ∧
 ∃ (x15:Int),w.cell? ⟨p0.1,p0.2 + (Int.toNat x10) * 7 + 5,none⟩=some (.int .i64 x15) ∧
 ∃ (b1:Bool) (p1:Nat × Nat) (x16 x17:Int),w.cell? ⟨p0.1,p0.2 + (Int.toNat x10) * 7 + 6,none⟩=some ((if b1=true then .slice none 0 0 else .slice (some (Vc.qad p1 (Int.toNat x16) (Int.toNat x17))) (Int.toNat x16) (Int.toNat x17):Value)) ∧
 ∀ x18:Int,x18=IntKind.i64.wrap (x7 + 1) →
 ∃ (x19:Int),∃ (x20:Int),(Vq w 56 #[.agg #[.int .i64 x11,.int .i64 x12,.string ⟨s1.toArray⟩,.int .i64 x13,.int .i64 x14,.int .i64 x15,(if b1=true then .slice none 0 0 else .slice (some (Vc.qad p1 (Int.toNat x16) (Int.toNat x17))) (Int.toNat x16) (Int.toNat x17):Value)],.int .i64 x18] (.tuple #[.int .i64 x19,.int .i64 x20])) ∧
 ∀ x21:Int,x21=IntKind.i64.wrap (x8 + x19) →
 ∀ x22:Int,x22=IntKind.i64.wrap (x20 + 1) →
 ∀ x23:Int,x23=(if x22 > x9 then x22 else x9) →
 ∀ x24:Int,x24=IntKind.i64.wrap (x10 + 1) →
 Ix8 [.i x21,.i x23,.i x24]∧mx8 [.i x21,.i x23,.i x24] < mx8 [.i x8,.i x9,.i x10]))∧(¬ (x8≤200)→(
 (.tuple #[.int .i64 x8,.int .i64 x9]:Value)=v))))∧(¬ (x10 < x5)→(
 (.tuple #[.int .i64 x8,.int .i64 x9]:Value)=v)))))):Calls Tryz.prog 56 #[.agg #[.int .i64 x0,.int .i64 x1,.string ⟨s0.toArray⟩,.int .i64 x2,.int .i64 x3,.int .i64 x4,(if b0=true then .slice none 0 0 else .slice (some (Vc.qad p0 (Int.toNat x5) (Int.toNat x6))) (Int.toNat x5) (Int.toNat x6):Value)],.int .i64 x7] w (Vc.Ret v w) :=
 Vc.zi base [(9000000000005,.inv [] [6,7,8] [13,14,15,16,17,18,19,20,21,25,26,27,28,29,30,31,32,24,33,34,9,10,35,36,37,38,39,40,41,22,23])] [] 200 Tryz.func56 (b:=(Tryz.f56.body).getD .skip) (by kernel_rfl) [.cv (.agg [.int .i64 (.var 0),.int .i64 (.var 1),.sv 0,.int .i64 (.var 2),.int .i64 (.var 3),.int .i64 (.var 4),.qsl 0 0 7 (.var 5) (.var 6)]),.cv (.one (.int .i64 (.var 7)))] ⟨8,1,0,1,0,1,0⟩ [] (Vc.envOf [x0,x1,x2,x3,x4,x5,x6,x7] [b0] [] [p0] [s0]) (by kernel_rfl) Vc.zg (by kernel_rfl) (by kernel_rfl) h
theorem zzh(p0:Nat × Nat)(x0 x1 x2 x3 x4 x5 x6:Int)(b0:Bool)(s0:List UInt8)(w:World)(v:Value)(h :
 ((0≤x1)→(
 ((x1≤2)→(
 ∃ (b1:Bool),(Vq w 76 #[.string ⟨s0.toArray⟩] (.bool b1)) ∧
 ((b1=true)→(
 ((0≤x2)→(
 ((x2≤1000)→(
 ((x1=0)→(
 ((x2=0)→(
 ((0≤x3)→(
 ((x3≤5)→(
 (((-1073741824)≤x4)→(
 ((x4≤1073741824)→(
 (0≤x5) ∧
 ((¬ (b0=true))∨(x5=0)) ∧
 (.bool (x5 == 0):Value)=v))∧(¬ (x4≤1073741824)→(
 (.bool false:Value)=v))))∧(¬ ((-1073741824)≤x4)→(
 (.bool false:Value)=v))))∧(¬ (x3≤5)→(
 (.bool false:Value)=v))))∧(¬ (0≤x3)→(
 (.bool false:Value)=v))))∧(¬ (x2=0)→(
 (.bool false:Value)=v))))∧(¬ (x1=0)→(
 ((0≤x3)→(
 ((x3≤5)→(
 (((-1073741824)≤x4)→(
 ((x4≤1073741824)→(
 (0≤x5) ∧
 ((¬ (b0=true))∨(x5=0)) ∧
 (.bool (x5 == 0):Value)=v))∧(¬ (x4≤1073741824)→(
 (.bool false:Value)=v))))∧(¬ ((-1073741824)≤x4)→(
 (.bool false:Value)=v))))∧(¬ (x3≤5)→(
 (.bool false:Value)=v))))∧(¬ (0≤x3)→(
 (.bool false:Value)=v))))))∧(¬ (x2≤1000)→(
 (.bool false:Value)=v))))∧(¬ (0≤x2)→(
 (.bool false:Value)=v))))∧(¬ (b1=true)→(
 (.bool false:Value)=v))))∧(¬ (x1≤2)→(
 (.bool false:Value)=v))))∧(¬ (0≤x1)→(
 (.bool false:Value)=v))):Calls Tryz.prog 108 #[.agg #[.int .i64 x0,.int .i64 x1,.string ⟨s0.toArray⟩,.int .i64 x2,.int .i64 x3,.int .i64 x4,(if b0=true then .slice none 0 0 else .slice (some (Vc.qad p0 (Int.toNat x5) (Int.toNat x6))) (Int.toNat x5) (Int.toNat x6):Value)]] w (Vc.Ret v w) :=
 Vc.zi (zz [71] (by kernel_rfl)) [] [] 200 Tryz.func108 (b:=(Tryz.f108.body).getD .skip) (by kernel_rfl) [.cv (.agg [.int .i64 (.var 0),.int .i64 (.var 1),.sv 0,.int .i64 (.var 2),.int .i64 (.var 3),.int .i64 (.var 4),.qsl 0 0 7 (.var 5) (.var 6)])] ⟨7,1,0,1,0,1,0⟩ [] (Vc.envOf [x0,x1,x2,x3,x4,x5,x6] [b0] [] [p0] [s0]) (by kernel_rfl) Vc.zg (by kernel_rfl) (by kernel_rfl) h
theorem zyg(p0:Nat × Nat)(x0 x1 x2 x3 x4 x5 x6:Int)(b0:Bool)(s0:List UInt8)(w:World)(v:Value)(h :
 ((x0=1)→(
 ∃ (b1:Bool),(Vq w 108 #[.agg #[.int .i64 x0,.int .i64 x1,.string ⟨s0.toArray⟩,.int .i64 x2,.int .i64 x3,.int .i64 x4,(if b0=true then .slice none 0 0 else .slice (some (Vc.qad p0 (Int.toNat x5) (Int.toNat x6))) (Int.toNat x5) (Int.toNat x6):Value)]] (.bool b1)) ∧
 (.bool b1:Value)=v))∧(¬ (x0=1)→(
 ((2≤x0)→(
 ((x0≤4)→(
 (0≤x5) ∧
 ((¬ (b0=true))∨(x5=0)) ∧
 ∀ x7:Int,x7=(if 3 < x0 then 3 else x0) →
 ∀ x8:Int,x8=IntKind.i64.wrap (x7 - 1) →
 ((x5=x8)→(
 ((x1=0)→(
 ((s0=([]:List UInt8))→(
 ((x2=0)→(
 ((x3=0)→(
 ((x4=0)→(
 ∃ (Ib1:List Vc.Vl→Prop) (mb1:List Vc.Vl→Nat),Ib1 [.b false,.i 0]∧∀ (b1:Bool) (x9:Int),Ib1 [.b b1,.i x9]→(
 (0≤x5) ∧
 ((¬ (b0=true))∨(x5=0)) ∧
 ((x9 < x5)→(
 (¬ (b0=true)) ∧
 (0≤x9) ∧
 (x9 < x5) ∧
 ∃ (x10:Int),w.cell? ⟨p0.1,p0.2 + (Int.toNat x9) * 7 + 0,none⟩=some (.int .i64 x10) ∧
 ∃ (x11:Int),w.cell? ⟨p0.1,p0.2 + (Int.toNat x9) * 7 + 1,none⟩=some (.int .i64 x11) ∧
 ∃ (s1:List UInt8),w.cell? ⟨p0.1,p0.2 + (Int.toNat x9) * 7 + 2,none⟩=some (.string ⟨s1.toArray⟩) ∧
 ∃ (x12:Int),w.cell? ⟨p0.1,p0.2 + (Int.toNat x9) * 7 + 3,none⟩=some (.int .i64 x12) ∧
 ∃ (x13:Int),w.cell? ⟨p0.1,p0.2 + (Int.toNat x9) * 7 + 4,none⟩=some (.int .i64 x13) ∧
 ∃ (x14:Int),w.cell? ⟨p0.1,p0.2 + (Int.toNat x9) * 7 + 5,none⟩=some (.int .i64 x14) ∧
 ∃ (b2:Bool) (p1:Nat × Nat) (x15 x16:Int),w.cell? ⟨p0.1,p0.2 + (Int.toNat x9) * 7 + 6,none⟩=some ((if b2=true then .slice none 0 0 else .slice (some (Vc.qad p1 (Int.toNat x15) (Int.toNat x16))) (Int.toNat x15) (Int.toNat x16):Value)) ∧
 ∃ (b3:Bool),(Vq w 57 #[.agg #[.int .i64 x10,.int .i64 x11,.string ⟨s1.toArray⟩,.int .i64 x12,.int .i64 x13,.int .i64 x14,(if b2=true then .slice none 0 0 else .slice (some (Vc.qad p1 (Int.toNat x15) (Int.toNat x16))) (Int.toNat x15) (Int.toNat x16):Value)]] (.bool b3)) ∧
 ((b3=true)→(
 ∀ x17:Int,x17=IntKind.i64.wrap (x9 + 1) →
 Ib1 [.b b1,.i x17]∧mb1 [.b b1,.i x17] < mb1 [.b b1,.i x9]))∧(¬ (b3=true)→(
 (.bool false:Value)=v))))∧(¬ (x9 < x5)→(
 (.bool true:Value)=v)))))∧(¬ (x4=0)→(
 (.bool false:Value)=v))))∧(¬ (x3=0)→(
 (.bool false:Value)=v))))∧(¬ (x2=0)→(
 (.bool false:Value)=v))))∧(¬ (s0=([]:List UInt8))→(
 (.bool false:Value)=v))))∧(¬ (x1=0)→(
 (.bool false:Value)=v))))∧(¬ (x5=x8)→(
 (.bool false:Value)=v))))∧(¬ (x0≤4)→(
 (.bool false:Value)=v))))∧(¬ (2≤x0)→(
 (.bool false:Value)=v))))):Calls Tryz.prog 57 #[.agg #[.int .i64 x0,.int .i64 x1,.string ⟨s0.toArray⟩,.int .i64 x2,.int .i64 x3,.int .i64 x4,(if b0=true then .slice none 0 0 else .slice (some (Vc.qad p0 (Int.toNat x5) (Int.toNat x6))) (Int.toNat x5) (Int.toNat x6):Value)]] w (Vc.Ret v w) :=
 Vc.zi (zz [71] (by kernel_rfl)) [(5000000000006,.inv [] [2,3] [48,49,50,51,52,55,56,57,58,59,60,61,53,54])] [] 200 Tryz.func57 (b:=(Tryz.f57.body).getD .skip) (by kernel_rfl) [.cv (.agg [.int .i64 (.var 0),.int .i64 (.var 1),.sv 0,.int .i64 (.var 2),.int .i64 (.var 3),.int .i64 (.var 4),.qsl 0 0 7 (.var 5) (.var 6)])] ⟨7,1,0,1,0,1,0⟩ [] (Vc.envOf [x0,x1,x2,x3,x4,x5,x6] [b0] [] [p0] [s0]) (by kernel_rfl) Vc.zg (by kernel_rfl) (by kernel_rfl) h
theorem zre(p0:Nat × Nat)(x0 x1 x2 x3 x4 x5 x6:Int)(b0:Bool)(s0:List UInt8)(w:World)(v:Value)(h :
 ∃ (x7:Int),∃ (x8:Int),(Vq w 56 #[.agg #[.int .i64 x0,.int .i64 x1,.string ⟨s0.toArray⟩,.int .i64 x2,.int .i64 x3,.int .i64 x4,(if b0=true then .slice none 0 0 else .slice (some (Vc.qad p0 (Int.toNat x5) (Int.toNat x6))) (Int.toNat x5) (Int.toNat x6):Value)],.int .i64 1] (.tuple #[.int .i64 x7,.int .i64 x8])) ∧
 ((x7≤200)→(
 ((x8≤20)→(
 ∃ (b1:Bool),(Vq w 57 #[.agg #[.int .i64 x0,.int .i64 x1,.string ⟨s0.toArray⟩,.int .i64 x2,.int .i64 x3,.int .i64 x4,(if b0=true then .slice none 0 0 else .slice (some (Vc.qad p0 (Int.toNat x5) (Int.toNat x6))) (Int.toNat x5) (Int.toNat x6):Value)]] (.bool b1)) ∧
 (.bool b1:Value)=v))∧(¬ (x8≤20)→(
 (.bool false:Value)=v))))∧(¬ (x7≤200)→(
 (.bool false:Value)=v))):Calls Tryz.prog 24 #[.agg #[.int .i64 x0,.int .i64 x1,.string ⟨s0.toArray⟩,.int .i64 x2,.int .i64 x3,.int .i64 x4,(if b0=true then .slice none 0 0 else .slice (some (Vc.qad p0 (Int.toNat x5) (Int.toNat x6))) (Int.toNat x5) (Int.toNat x6):Value)]] w (Vc.Ret v w) :=
 Vc.zi base [] [] 200 Tryz.func24 (b:=(Tryz.f24.body).getD .skip) (by kernel_rfl) [.cv (.agg [.int .i64 (.var 0),.int .i64 (.var 1),.sv 0,.int .i64 (.var 2),.int .i64 (.var 3),.int .i64 (.var 4),.qsl 0 0 7 (.var 5) (.var 6)])] ⟨7,1,0,1,0,1,0⟩ [] (Vc.envOf [x0,x1,x2,x3,x4,x5,x6] [b0] [] [p0] [s0]) (by kernel_rfl) Vc.zg (by kernel_rfl) (by kernel_rfl) h
theorem zai(p0:Nat × Nat)(x0 x1 x2 x3 x4 x5 x6 x7:Int)(b0:Bool)(s0:List UInt8)(w:World)(v:Value)(h :
 ∀ x8:Int,x8=((s0.length:Nat):Int) →
 ∀ x9:Int,x9=IntKind.i64.wrap (1 + x8) →
 ∃ (Ix10:List Vc.Vl→Prop) (mx10:List Vc.Vl→Nat),Ix10 [.i x9,.i 0]∧∀ (x10:Int) (x11:Int),Ix10 [.i x10,.i x11]→(
 (0≤x5) ∧
 ((¬ (b0=true))∨(x5=0)) ∧
 ((x11 < x5)→(
 ((x10≤x7)→(
 (¬ (b0=true)) ∧
 (0≤x11) ∧
 (x11 < x5) ∧
 ∃ (x12:Int),w.cell? ⟨p0.1,p0.2 + (Int.toNat x11) * 7 + 0,none⟩=some (.int .i64 x12) ∧
 ∃ (x13:Int),w.cell? ⟨p0.1,p0.2 + (Int.toNat x11) * 7 + 1,none⟩=some (.int .i64 x13) ∧
 ∃ (s1:List UInt8),w.cell? ⟨p0.1,p0.2 + (Int.toNat x11) * 7 + 2,none⟩=some (.string ⟨s1.toArray⟩) ∧
 ∃ (x14:Int),w.cell? ⟨p0.1,p0.2 + (Int.toNat x11) * 7 + 3,none⟩=some (.int .i64 x14) ∧
 ∃ (x15:Int),w.cell? ⟨p0.1,p0.2 + (Int.toNat x11) * 7 + 4,none⟩=some (.int .i64 x15) ∧
 ∃ (x16:Int),w.cell? ⟨p0.1,p0.2 + (Int.toNat x11) * 7 + 5,none⟩=some (.int .i64 x16) ∧
 ∃ (b1:Bool) (p1:Nat × Nat) (x17 x18:Int),w.cell? ⟨p0.1,p0.2 + (Int.toNat x11) * 7 + 6,none⟩=some ((if b1=true then .slice none 0 0 else .slice (some (Vc.qad p1 (Int.toNat x17) (Int.toNat x18))) (Int.toNat x17) (Int.toNat x18):Value)) ∧
 ∃ (x19:Int),(Vq w 45 #[.agg #[.int .i64 x12,.int .i64 x13,.string ⟨s1.toArray⟩,.int .i64 x14,.int .i64 x15,.int .i64 x16,(if b1=true then .slice none 0 0 else .slice (some (Vc.qad p1 (Int.toNat x17) (Int.toNat x18))) (Int.toNat x17) (Int.toNat x18):Value)],.int .i64 x7] (.int .i64 x19)) ∧
 ∀ x20:Int,x20=IntKind.i64.wrap (x10 + x19) →
 ∀ x21:Int,x21=IntKind.i64.wrap (x11 + 1) →
 Ix10 [.i x20,.i x21]∧mx10 [.i x20,.i x21] < mx10 [.i x10,.i x11]))∧(¬ (x10≤x7)→(
 (.int .i64 x10:Value)=v))))∧(¬ (x11 < x5)→(
 (.int .i64 x10:Value)=v)))):Calls Tryz.prog 45 #[.agg #[.int .i64 x0,.int .i64 x1,.string ⟨s0.toArray⟩,.int .i64 x2,.int .i64 x3,.int .i64 x4,(if b0=true then .slice none 0 0 else .slice (some (Vc.qad p0 (Int.toNat x5) (Int.toNat x6))) (Int.toNat x5) (Int.toNat x6):Value)],.int .i64 x7] w (Vc.Ret v w) :=
 Vc.zi base [(10000000000003,.inv [] [5,6] [11,12,13,14,15,16,17,18,19,20,23,24,25,26,27,28,29,30,31,21,22])] [] 200 Tryz.func45 (b:=(Tryz.f45.body).getD .skip) (by kernel_rfl) [.cv (.agg [.int .i64 (.var 0),.int .i64 (.var 1),.sv 0,.int .i64 (.var 2),.int .i64 (.var 3),.int .i64 (.var 4),.qsl 0 0 7 (.var 5) (.var 6)]),.cv (.one (.int .i64 (.var 7)))] ⟨8,1,0,1,0,1,0⟩ [] (Vc.envOf [x0,x1,x2,x3,x4,x5,x6,x7] [b0] [] [p0] [s0]) (by kernel_rfl) Vc.zg (by kernel_rfl) (by kernel_rfl) h
end Go.Proofs.YtdjgnbkclcjiiaaGreatDoor
