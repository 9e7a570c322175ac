import Derived.Test.YtdjgnbkclcjiiaaGreatDoorG0
set_option linter.unusedVariables false
set_option maxRecDepth 100000
namespace Go.Proofs.YtdjgnbkclcjiiaaGreatDoor
open Go Go.RowKit
abbrev Vj_ullagelaw10_CountdownKnows_T7(w:World)(v:Value):Prop :=
 ∃ (b2:Bool),(Vq w 16 #[] (.bool b2)) ∧
 (.bool b2:Value)=v
abbrev Vj_ullagelaw10_CountdownKnows_T6(x13:Int)(w:World)(v:Value):Prop :=
 ((x13=0)→( Vj_ullagelaw10_CountdownKnows_T7 w v))∧(¬ (x13=0)→(
 (.bool false:Value)=v))
abbrev Vj_ullagelaw10_CountdownKnows_T5(x13:Int)(w:World)(v:Value):Prop :=
 ((x13=1)→( Vj_ullagelaw10_CountdownKnows_T7 w v))∧(¬ (x13=1)→(
 (.bool false:Value)=v))
abbrev Vj_ullagelaw10_CountdownKnows_T4(x13:Int)(w:World)(v:Value):Prop :=
 ((x13=(-1))→( Vj_ullagelaw10_CountdownKnows_T7 w v))∧(¬ (x13=(-1))→(
 (.bool false:Value)=v))
abbrev Vj_ullagelaw10_CountdownKnows_T3(x17:Int)(x4:Int)(x13:Int)(w:World)(v:Value):Prop :=
 ((x17≤x4)→( Vj_ullagelaw10_CountdownKnows_T5 x13 w v))∧(¬ (x17≤x4)→(
 ((x17≤x4)→( Vj_ullagelaw10_CountdownKnows_T6 x13 w v))∧(¬ (x17≤x4)→( Vj_ullagelaw10_CountdownKnows_T4 x13 w v))))
abbrev Vj_ullagelaw10_CountdownKnows_T2(x17:Int)(x4:Int)(x13:Int)(w:World)(v:Value):Prop :=
 ((x17 < x4)→( Vj_ullagelaw10_CountdownKnows_T5 x13 w v))∧(¬ (x17 < x4)→(
 ((x17 < x4)→( Vj_ullagelaw10_CountdownKnows_T6 x13 w v))∧(¬ (x17 < x4)→( Vj_ullagelaw10_CountdownKnows_T4 x13 w v))))
abbrev Vj_ullagelaw10_CountdownKnows_T1(x3:Int)(x17:Int)(x4:Int)(x13:Int)(w:World)(v:Value):Prop :=
 (0≤x3) ∧
 (x3 < 6) ∧
 ((x3=0)→( Vj_ullagelaw10_CountdownKnows_T2 x17 x4 x13 w v))∧(¬ (x3=0)→(
 ((x3=1)→( Vj_ullagelaw10_CountdownKnows_T3 x17 x4 x13 w v))∧(¬ (x3=1)→(
 ((x3=2)→( Vj_ullagelaw10_CountdownKnows_T2 x4 x17 x13 w v))∧(¬ (x3=2)→(
 ((x3=3)→( Vj_ullagelaw10_CountdownKnows_T3 x4 x17 x13 w v))∧(¬ (x3=3)→(
 ((x3=4)→(
 ((x17=x4)→( Vj_ullagelaw10_CountdownKnows_T5 x13 w v))∧(¬ (x17=x4)→(
 ((x17=x4)→( Vj_ullagelaw10_CountdownKnows_T6 x13 w v))∧(¬ (x17=x4)→( Vj_ullagelaw10_CountdownKnows_T4 x13 w v))))))∧(¬ (x3=4)→(
 ((x17=x4)→(
 ((x17≠x4)→( Vj_ullagelaw10_CountdownKnows_T6 x13 w v))∧(¬ (x17≠x4)→( Vj_ullagelaw10_CountdownKnows_T4 x13 w v))))∧(¬ (x17=x4)→( Vj_ullagelaw10_CountdownKnows_T5 x13 w v))))))))))))
theorem zec(p0 p1:Nat × Nat)(x0 x1 x2 x3 x4 x5 x6 x7 x8 x9:Int)(b0 b1:Bool)(s0:List UInt8)(w:World)(v:Value)(h :
 ∃ (x10:Int),(Vq w 45 #[.agg #[.int .i64 x0,.int .i64 x1,.string ⟨s0.toArray⟩,.int .i64 x2,.int .i64 x3,.int .i64 x4,(if b0=true then .slice none 0 0 else .slice (some (Vc.qad p0 (Int.toNat x5) (Int.toNat x6))) (Int.toNat x5) (Int.toNat x6):Value)],.int .i64 3000] (.int .i64 x10)) ∧
 ((3000 < x10)→( Vj_ullagelaw10_CountdownKnows_T7 w v))∧(¬ (3000 < x10)→(
 ((x0=1)→(
 (0≤x7) ∧
 ((¬ (b1=true))∨(x7=0)) ∧
 ((x7=0)→( Vj_ullagelaw10_CountdownKnows_T7 w v))∧(¬ (x7=0)→(
 (0≤x7) ∧
 ((¬ (b1=true))∨(x7=0)) ∧
 ((60 < x7)→( Vj_ullagelaw10_CountdownKnows_T7 w v))∧(¬ (60 < x7)→(
 ((x9 < 1)→( Vj_ullagelaw10_CountdownKnows_T7 w v))∧(¬ (x9 < 1)→(
 (0≤x7) ∧
 ((¬ (b1=true))∨(x7=0)) ∧
 ((x7≤x2)→( Vj_ullagelaw10_CountdownKnows_T7 w v))∧(¬ (x7≤x2)→(
 ∃ (Io6:List Vc.Vl→Prop) (mo6:List Vc.Vl→Nat),Io6 [.l (([]:List Value)),.i 0]∧∀ (l0:List Vc.OV) (x11:Int),Io6 [.l ((l0.map (·.1)++(([]:List Value)))),.i x11]→(
 (0≤x7) ∧
 ((¬ (b1=true))∨(x7=0)) ∧
 ((x11 < x7)→(
 (¬ (b1=true)) ∧
 (0≤x11) ∧
 (x11 < x7) ∧
 ∃ (x12:Int),w.cell? ⟨p1.1,p1.2 + (Int.toNat x11) * 1 + 0,none⟩=some (.int .i64 x12) ∧
 ∀ x13:Int,x13=(((3 + (l0.length + 0)) / 3:Nat):Int) →
 (x13≤1073741824) ∧
 ∀ x14:Int,x14=IntKind.i64.wrap (x11 + 1) →
 Io6 [.l ((l0.map (·.1)++(([.string ⟨s0.toArray⟩,.int .i64 x11,.int .i64 x12]:List Value)))),.i x14]∧mo6 [.l ((l0.map (·.1)++(([.string ⟨s0.toArray⟩,.int .i64 x11,.int .i64 x12]:List Value)))),.i x14] < mo6 [.l ((l0.map (·.1)++(([]:List Value)))),.i x11]))∧(¬ (x11 < x7)→(
 (0≤x7) ∧
 ((¬ (b1=true))∨(x7=0)) ∧
 ∀ x12:Int,x12=IntKind.i64.wrap (x7 - 1) →
 ∃ (x13:Int),∃ (x14:Int),(∀ (β:Nat→Nat) (w':World),Below w.heap.size w w'→(Vc.RowOk w.heap.size (β 6) (β 7) (β 8) (β 9) ((l0.map (·.1)++(([]:List Value)))) 3 61 w'∧True)→Calls Tryz.prog 29 #[.agg #[.int .i64 x0,.int .i64 x1,.string ⟨s0.toArray⟩,.int .i64 x2,.int .i64 x3,.int .i64 x4,(if b0=true then .slice none 0 0 else .slice (some (Vc.qad p0 (Int.toNat x5) (Int.toNat x6))) (Int.toNat x5) (Int.toNat x6):Value)],Vc.ownV (β 6) (β 7) (β 8) (β 9),.int .i64 x12,.int .i64 x9] w' (Vc.Ret (.tuple #[.int .i64 x13,.int .i64 x14]) w')) ∧
 ((x14=0)→(
 (¬ (b1=true)) ∧
 (0≤x12) ∧
 (x12 < x7) ∧
 ∃ (x15:Int),w.cell? ⟨p1.1,p1.2 + (Int.toNat x12) * 1 + 0,none⟩=some (.int .i64 x15) ∧
 ∀ x16:Int,x16=IntKind.i64.wrap (x12 - x2) →
 ∃ (Ix17:List Vc.Vl→Prop) (mx17:List Vc.Vl→Nat),Ix17 [.i x15,.i x16]∧∀ (x17:Int) (x18:Int),Ix17 [.i x17,.i x18]→(
 ((x18≤x12)→(
 ((0≤x18)→(
 ((x1=1)→(
 (¬ (b1=true)) ∧
 (0≤x18) ∧
 (x18 < x7) ∧
 ∃ (x19:Int),w.cell? ⟨p1.1,p1.2 + (Int.toNat x18) * 1 + 0,none⟩=some (.int .i64 x19) ∧
 ∀ x20:Int,x20=(if x19 > x17 then x19 else x17) →
 ((x1=2)→(
 (¬ (b1=true)) ∧
 (0≤x18) ∧
 (x18 < x7) ∧
 ∃ (x21:Int),w.cell? ⟨p1.1,p1.2 + (Int.toNat x18) * 1 + 0,none⟩=some (.int .i64 x21) ∧
 ∀ x22:Int,x22=(if x21 < x20 then x21 else x20) →
 ∀ x23:Int,x23=IntKind.i64.wrap (x18 + 1) →
 Ix17 [.i x22,.i x23]∧mx17 [.i x22,.i x23] < mx17 [.i x17,.i x18]))∧(¬ (x1=2)→(
 ∀ x21:Int,x21=IntKind.i64.wrap (x18 + 1) →
 Ix17 [.i x20,.i x21]∧mx17 [.i x20,.i x21] < mx17 [.i x17,.i x18]))))∧(¬ (x1=1)→(
 ((x1=2)→(
 (¬ (b1=true)) ∧
 (0≤x18) ∧
 (x18 < x7) ∧
 ∃ (x19:Int),w.cell? ⟨p1.1,p1.2 + (Int.toNat x18) * 1 + 0,none⟩=some (.int .i64 x19) ∧
 ∀ x20:Int,x20=(if x19 < x17 then x19 else x17) →
 ∀ x21:Int,x21=IntKind.i64.wrap (x18 + 1) →
 Ix17 [.i x20,.i x21]∧mx17 [.i x20,.i x21] < mx17 [.i x17,.i x18]))∧(¬ (x1=2)→(
 ∀ x19:Int,x19=IntKind.i64.wrap (x18 + 1) →
 Ix17 [.i x17,.i x19]∧mx17 [.i x17,.i x19] < mx17 [.i x17,.i x18]))))))∧(¬ (0≤x18)→( Vj_ullagelaw10_CountdownKnows_T1 x3 x17 x4 x13 w v))))∧(¬ (x18≤x12)→( Vj_ullagelaw10_CountdownKnows_T1 x3 x17 x4 x13 w v)))))∧(¬ (x14=0)→( Vj_ullagelaw10_CountdownKnows_T7 w v)))))))))))))))∧(¬ (x0=1)→( Vj_ullagelaw10_CountdownKnows_T7 w v))))):Calls Tryz.prog 8 #[.agg #[.int .i64 x0,.int .i64 x1,.string ⟨s0.toArray⟩,.int .i64 x2,.int .i64 x3,.int .i64 x4,(if b0=true then .slice none 0 0 else .slice (some (Vc.qad p0 (Int.toNat x5) (Int.toNat x6))) (Int.toNat x5) (Int.toNat x6):Value)],(if b1=true then .slice none 0 0 else .slice (some (Vc.qad p1 (Int.toNat x7) (Int.toNat x8))) (Int.toNat x7) (Int.toNat x8):Value),.int .i64 x9] w (Vc.Ret v w) :=
 Vc.zga (zae [15] (by kernel_rfl)) [(4000000000005,.inv [] [7,8] [44,45,46,47,50,51,52,53,54,55,56,57,58,59,60,48,49]),(7000000000014,.inv [] [12,13] [83,84,85,86,87,88,89,92,93,94,95,96,97,98,99,100,101,102,103,104,105,106,107,108,109,90,91]),(900000007,.inv [] [61] [])] [] 200 Tryz.func8 (b:=(Tryz.f8.body).getD .skip) (by kernel_rfl) [.cv (.agg [.int .i64 (.var 0),.int .i64 (.var 1),.sv 0,.int .i64 (.var 2),.int .i64 (.var 3),.int .i64 (.var 4),.qsl 0 0 7 (.var 5) (.var 6)]),.cv (.one (.qsl 1 1 1 (.var 7) (.var 8))),.cv (.one (.int .i64 (.var 9)))] ⟨10,2,0,2,0,1,0⟩ [] (Vc.envOf [x0,x1,x2,x3,x4,x5,x6,x7,x8,x9] [b0,b1] [] [p0,p1] [s0]) (by kernel_rfl) Vc.zta (by kernel_rfl) (by kernel_rfl) h
end Go.Proofs.YtdjgnbkclcjiiaaGreatDoor
