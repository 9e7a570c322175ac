import Derived.Test.YtdjgnbkclcjiiaaGreatDoorG0
set_option linter.unusedVariables false
set_option maxRecDepth 100000
namespace Go.Proofs.YtdjgnbkclcjiiaaGreatDoor
open Go Go.RowKit
theorem zxc(p0:Nat × Nat)(x0 x1:Int)(b0:Bool)(w:World)(v:Value)(h :
 ∃ (Ib1:List Vc.Vl→Prop) (mb1:List Vc.Vl→Nat),Ib1 [.b false,.i 0]∧∀ (b1:Bool) (x2:Int),Ib1 [.b b1,.i x2]→(
 (0≤x0) ∧
 ((¬ (b0=true))∨(x0=0)) ∧
 ((x2 < x0)→(
 (¬ (b0=true)) ∧
 (0≤x2) ∧
 (x2 < x0) ∧
 ∃ (s0:List UInt8),w.cell? ⟨p0.1,p0.2 + (Int.toNat x2) * 3 + 0,none⟩=some (.string ⟨s0.toArray⟩) ∧
 ∃ (b2:Bool),(Vq w 76 #[.string ⟨s0.toArray⟩] (.bool b2)) ∧
 ((b2=true)→(
 (¬ (b0=true)) ∧
 (0≤x2) ∧
 (x2 < x0) ∧
 ∃ (x3:Int),w.cell? ⟨p0.1,p0.2 + (Int.toNat x2) * 3 + 1,none⟩=some (.int .i64 x3) ∧
 ((0≤x3)→(
 ((x3≤1073741824)→(
 (¬ (b0=true)) ∧
 (0≤x2) ∧
 (x2 < x0) ∧
 ∃ (x4:Int),w.cell? ⟨p0.1,p0.2 + (Int.toNat x2) * 3 + 2,none⟩=some (.int .i64 x4) ∧
 (((-1073741824)≤x4)→(
 ((x4≤1073741824)→(
 ∃ (Ib3:List Vc.Vl→Prop) (mb3:List Vc.Vl→Nat),Ib3 [.b b1,.i 0]∧∀ (b3:Bool) (x5:Int),Ib3 [.b b3,.i x5]→(
 ((x5 < x2)→(
 (¬ (b0=true)) ∧
 (0≤x5) ∧
 (x5 < x0) ∧
 ∃ (s1:List UInt8),w.cell? ⟨p0.1,p0.2 + (Int.toNat x5) * 3 + 0,none⟩=some (.string ⟨s1.toArray⟩) ∧
 (¬ (b0=true)) ∧
 (0≤x2) ∧
 (x2 < x0) ∧
 ∃ (s2:List UInt8),w.cell? ⟨p0.1,p0.2 + (Int.toNat x2) * 3 + 0,none⟩=some (.string ⟨s2.toArray⟩) ∧
 ((s1=s2)→(
 (¬ (b0=true)) ∧
 (0≤x5) ∧
 (x5 < x0) ∧
 ∃ (x6:Int),w.cell? ⟨p0.1,p0.2 + (Int.toNat x5) * 3 + 1,none⟩=some (.int .i64 x6) ∧
 (¬ (b0=true)) ∧
 (0≤x2) ∧
 (x2 < x0) ∧
 ∃ (x7:Int),w.cell? ⟨p0.1,p0.2 + (Int.toNat x2) * 3 + 1,none⟩=some (.int .i64 x7) ∧
 ((x7 < x6)→(
 (.bool false:Value)=v))∧(¬ (x7 < x6)→(
 ∀ x8:Int,x8=IntKind.i64.wrap (x5 + 1) →
 Ib3 [.b b3,.i x8]∧mb3 [.b b3,.i x8] < mb3 [.b b3,.i x5]))))∧(¬ (s1=s2)→(
 ∀ x6:Int,x6=IntKind.i64.wrap (x5 + 1) →
 Ib3 [.b b3,.i x6]∧mb3 [.b b3,.i x6] < mb3 [.b b3,.i x5]))))∧(¬ (x5 < x2)→(
 ∀ x6:Int,x6=IntKind.i64.wrap (x2 + 1) →
 Ib1 [.b b3,.i x6]∧mb1 [.b b3,.i x6] < mb1 [.b b1,.i x2])))))∧(¬ (x4≤1073741824)→(
 (.bool false:Value)=v))))∧(¬ ((-1073741824)≤x4)→(
 (.bool false:Value)=v))))∧(¬ (x3≤1073741824)→(
 (.bool false:Value)=v))))∧(¬ (0≤x3)→(
 (.bool false:Value)=v))))∧(¬ (b2=true)→(
 (.bool false:Value)=v))))∧(¬ (x2 < x0)→(
 (0≤x0) ∧
 ((¬ (b0=true))∨(x0=0)) ∧
 (.bool (decide (x0≤1000)):Value)=v)))):Calls Tryz.prog 70 #[(if b0=true then .slice none 0 0 else .slice (some (Vc.qad p0 (Int.toNat x0) (Int.toNat x1))) (Int.toNat x0) (Int.toNat x1):Value)] w (Vc.Ret v w) :=
 Vc.zh (zza [71] (by kernel_rfl)) [(4000000000002,.inv [] [2,3] [5,6,7,8,11,12,13,14,15,16,17,18,19,20,21,22,23,24,25,26,27,28,29,30,31,32,33,34,35,4,36,37,38,41,42,43,44,45,46,47,48,49,50,51,52,53,54,55,56,57,58,59,60,61,62,63,64,39,40,9,10]),(3000000000007,.inv [] [2,4] [36,37,38,41,42,43,44,45,46,47,48,49,50,51,52,53,54,55,56,57,58,59,60,61,62,63,64,39,40])] [] 200 Tryz.func70 (b:=(Tryz.f70.body).getD .skip) (by kernel_rfl) [.cv (.one (.qsl 0 0 3 (.var 0) (.var 1)))] ⟨2,1,0,1,0,0,0⟩ [] (Vc.envOf [x0,x1] [b0] [] [p0]) (by kernel_rfl) Vc.zl (by kernel_rfl) (by kernel_rfl) h
theorem zqe(p0:Nat × Nat)(x0 x1 x2:Int)(b0:Bool)(s0:List UInt8)(w:World)(Q:Value→Prop)(QM:World→Value→Prop)(h :
 ∃ (Io4:List Vc.Vl→Prop) (mo4:List Vc.Vl→Nat),Io4 [.l (([]:List Value)),.i 0]∧∀ (l0:List Vc.OV) (x3:Int),Io4 [.l ((l0.map (·.1)++(([]:List Value)))),.i x3]→(
 (0≤x0) ∧
 ((¬ (b0=true))∨(x0=0)) ∧
 ((x3 < x0)→(
 (¬ (b0=true)) ∧
 (0≤x3) ∧
 (x3 < x0) ∧
 ∃ (s1:List UInt8),w.cell? ⟨p0.1,p0.2 + (Int.toNat x3) * 3 + 0,none⟩=some (.string ⟨s1.toArray⟩) ∧
 ((s1=s0)→(
 (¬ (b0=true)) ∧
 (0≤x3) ∧
 (x3 < x0) ∧
 ∃ (x4:Int),w.cell? ⟨p0.1,p0.2 + (Int.toNat x3) * 3 + 1,none⟩=some (.int .i64 x4) ∧
 ((x4≤x2)→(
 (¬ (b0=true)) ∧
 (0≤x3) ∧
 (x3 < x0) ∧
 ∃ (s2:List UInt8),w.cell? ⟨p0.1,p0.2 + (Int.toNat x3) * 3 + 0,none⟩=some (.string ⟨s2.toArray⟩) ∧
 ∃ (x5:Int),w.cell? ⟨p0.1,p0.2 + (Int.toNat x3) * 3 + 1,none⟩=some (.int .i64 x5) ∧
 ∃ (x6:Int),w.cell? ⟨p0.1,p0.2 + (Int.toNat x3) * 3 + 2,none⟩=some (.int .i64 x6) ∧
 ∀ x7:Int,x7=(((3 + (l0.length + 0)) / 3:Nat):Int) →
 (x7≤1073741824) ∧
 ∀ x8:Int,x8=IntKind.i64.wrap (x3 + 1) →
 Io4 [.l ((l0.map (·.1)++(([.string ⟨s2.toArray⟩,.int .i64 x5,.int .i64 x6]:List Value)))),.i x8]∧mo4 [.l ((l0.map (·.1)++(([.string ⟨s2.toArray⟩,.int .i64 x5,.int .i64 x6]:List Value)))),.i x8] < mo4 [.l ((l0.map (·.1)++(([]:List Value)))),.i x3]))∧(¬ (x4≤x2)→(
 ∀ x5:Int,x5=IntKind.i64.wrap (x3 + 1) →
 Io4 [.l ((l0.map (·.1)++(([]:List Value)))),.i x5]∧mo4 [.l ((l0.map (·.1)++(([]:List Value)))),.i x5] < mo4 [.l ((l0.map (·.1)++(([]:List Value)))),.i x3]))))∧(¬ (s1=s0)→(
 ∀ x4:Int,x4=IntKind.i64.wrap (x3 + 1) →
 Io4 [.l ((l0.map (·.1)++(([]:List Value)))),.i x4]∧mo4 [.l ((l0.map (·.1)++(([]:List Value)))),.i x4] < mo4 [.l ((l0.map (·.1)++(([]:List Value)))),.i x3]))))∧(¬ (x3 < x0)→(
 ∀ (β:Nat→Nat) (w':World),Below w.heap.size w w'→(Vc.RowOk w.heap.size (β 4) (β 5) (β 6) (β 7) ((l0.map (·.1)++(([]:List Value)))) 3 61 w'∧True)→QM w' (Vc.ownV (β 4) (β 5) (β 6) (β 7)))))):Calls Tryz.prog 155 #[(if b0=true then .slice none 0 0 else .slice (some (Vc.qad p0 (Int.toNat x0) (Int.toNat x1))) (Int.toNat x0) (Int.toNat x1):Value),.string ⟨s0.toArray⟩,.int .i64 x2] w (fun e w'=>∃ v,e=.returned v∧Below w.heap.size w w'∧(Q v∨QM w' v)) :=
 Vc.zav base [(4000000000003,.inv [] [7,8] [9,10,11,12,15,16,17,18,19,20,21,22,23,24,25,26,27,28,29,30,31,32,33,34,35,36,37,13,14]),(900000007,.inv [] [61] [])] [] 200 Tryz.func155 (b:=(Tryz.f155.body).getD .skip) (by kernel_rfl) [.cv (.one (.qsl 0 0 3 (.var 0) (.var 1))),.cv (.one (.sv 0)),.cv (.one (.int .i64 (.var 2)))] ⟨3,1,0,1,0,1,0⟩ [] (Vc.envOf [x0,x1,x2] [b0] [] [p0] [s0]) (by kernel_rfl) Vc.zl (by kernel_rfl) (by kernel_rfl) h
theorem zfh(p0:Nat × Nat)(x0 x1 x2 x3:Int)(b0:Bool)(w:World)(v:Value)(h :
 (0≤x0) ∧
 ((¬ (b0=true))∨(x0=0)) ∧
 ((x0=0)→(
 (.agg #[.int .i64 (-1099511627776),.int .i64 1099511627776]:Value)=v))∧(¬ (x0=0)→(
 (0≤x0) ∧
 ((¬ (b0=true))∨(x0=0)) ∧
 ∀ x4:Int,x4=IntKind.i64.wrap (x0 - 1) →
 (¬ (b0=true)) ∧
 (0≤x4) ∧
 (x4 < x0) ∧
 ∃ (x5:Int),w.cell? ⟨p0.1,p0.2 + (Int.toNat x4) * 3 + 1,none⟩=some (.int .i64 x5) ∧
 ∀ x6:Int,x6=IntKind.i64.wrap (x2 - x3) →
 ((x5 < x6)→(
 (.agg #[.int .i64 (-1099511627776),.int .i64 1099511627776]:Value)=v))∧(¬ (x5 < x6)→(
 (0≤x0) ∧
 ((¬ (b0=true))∨(x0=0)) ∧
 ∀ x7:Int,x7=IntKind.i64.wrap (x0 - 1) →
 (¬ (b0=true)) ∧
 (0≤x7) ∧
 (x7 < x0) ∧
 ∃ (x8:Int),w.cell? ⟨p0.1,p0.2 + (Int.toNat x7) * 3 + 2,none⟩=some (.int .i64 x8) ∧
 (.agg #[.int .i64 x8,.int .i64 x8]:Value)=v))))):Calls Tryz.prog 156 #[(if b0=true then .slice none 0 0 else .slice (some (Vc.qad p0 (Int.toNat x0) (Int.toNat x1))) (Int.toNat x0) (Int.toNat x1):Value),.int .i64 x2,.int .i64 x3] w (Vc.Ret v w) :=
 Vc.zh base [] [] 200 Tryz.func156 (b:=(Tryz.f156.body).getD .skip) (by kernel_rfl) [.cv (.one (.qsl 0 0 3 (.var 0) (.var 1))),.cv (.one (.int .i64 (.var 2))),.cv (.one (.int .i64 (.var 3)))] ⟨4,1,0,1,0,0,0⟩ [] (Vc.envOf [x0,x1,x2,x3] [b0] [] [p0]) (by kernel_rfl) Vc.zl (by kernel_rfl) (by kernel_rfl) h
abbrev Vj_ullageref10_sight_T2(l0:List Vc.OV)(x15:Int)(x3:Int)(Ib1:List Vc.Vl→Prop)(mb1:List Vc.Vl→Nat)(b1:Bool)(x2:Int)(w:World)(QM:World→Value→Prop):Prop :=
 ∀ x16:Int,x16=(((0 + (l0.length + 0)) / 3:Nat):Int) →
 ((x15 < x16)→(
 ∀ x17:Int,x17=(((0 + (l0.length + 0)) / 3:Nat):Int) →
 (0≤x15) ∧
 (x15 < x17) ∧
 ∃ (x18:Int),((l0.map (·.1)++(([]:List Value))))[(Int.toNat x15) * 3 + 1]? = some (.int .i64 x18) ∧
 ∀ x19:Int,x19=IntKind.i64.wrap (x15 - 1) →
 ∀ x20:Int,x20=(((0 + (l0.length + 0)) / 3:Nat):Int) →
 (0≤x19) ∧
 (x19 < x20) ∧
 ∃ (x21:Int),((l0.map (·.1)++(([]:List Value))))[(Int.toNat x19) * 3 + 1]? = some (.int .i64 x21) ∧
 ∀ x22:Int,x22=IntKind.i64.wrap (x18 - x21) →
 ((x3 < x22)→(
 ∀ x23:Int,x23=IntKind.i64.wrap (x15 + 1) →
 Ib1 [.b false,.i x23]∧mb1 [.b false,.i x23] < mb1 [.b b1,.i x15]))∧(¬ (x3 < x22)→(
 ∀ x23:Int,x23=IntKind.i64.wrap (x15 + 1) →
 Ib1 [.b b1,.i x23]∧mb1 [.b b1,.i x23] < mb1 [.b b1,.i x15]))))∧(¬ (x15 < x16)→(
 ((b1=true)→(
 ∀ x17:Int,x17=(((0 + (l0.length + 0)) / 3:Nat):Int) →
 ∀ x18:Int,x18=IntKind.i64.wrap (x17 - 1) →
 ∀ x19:Int,x19=(((0 + (l0.length + 0)) / 3:Nat):Int) →
 (0≤x18) ∧
 (x18 < x19) ∧
 ∃ (x20:Int),((l0.map (·.1)++(([]:List Value))))[(Int.toNat x18) * 3 + 1]? = some (.int .i64 x20) ∧
 ∀ x21:Int,x21=IntKind.i64.wrap (x2 - x3) →
 ∀ (β:Nat→Nat) (w':World),Below w.heap.size w w'→(Vc.RowOk w.heap.size (β 4) (β 5) (β 6) (β 7) ((l0.map (·.1)++(([]:List Value)))) 3 61 w'∧True)→QM w' (.tuple #[Vc.ownV (β 4) (β 5) (β 6) (β 7),.bool (decide (x20 ≥ x21))])))∧(¬ (b1=true)→(
 ∀ (β:Nat→Nat) (w':World),Below w.heap.size w w'→(Vc.RowOk w.heap.size (β 4) (β 5) (β 6) (β 7) ((l0.map (·.1)++(([]:List Value)))) 3 61 w'∧True)→QM w' (.tuple #[Vc.ownV (β 4) (β 5) (β 6) (β 7),.bool false])))))
abbrev Vj_ullageref10_sight_T1(l0:List Vc.OV)(x17:Int)(s0:List UInt8)(x10:Int)(x11:Int)(x3:Int)(Ib1:List Vc.Vl→Prop)(mb1:List Vc.Vl→Nat)(b1:Bool)(x2:Int)(w:World)(QM:World→Value→Prop):Prop :=
 ∀ x18:Int,x18=(((3 + (l0.length + 0)) / 3:Nat):Int) →
 ((x17 < x18)→(
 ∀ x19:Int,x19=(((3 + (l0.length + 0)) / 3:Nat):Int) →
 (0≤x17) ∧
 (x17 < x19) ∧
 ∃ (x20:Int),((.string ⟨s0.toArray⟩:Value)::(.int .i64 x10:Value)::(.int .i64 x11:Value)::(l0.map (·.1)++(([]:List Value))))[(Int.toNat x17) * 3 + 1]? = some (.int .i64 x20) ∧
 ∀ x21:Int,x21=IntKind.i64.wrap (x17 - 1) →
 ∀ x22:Int,x22=(((3 + (l0.length + 0)) / 3:Nat):Int) →
 (0≤x21) ∧
 (x21 < x22) ∧
 ∃ (x23:Int),((.string ⟨s0.toArray⟩:Value)::(.int .i64 x10:Value)::(.int .i64 x11:Value)::(l0.map (·.1)++(([]:List Value))))[(Int.toNat x21) * 3 + 1]? = some (.int .i64 x23) ∧
 ∀ x24:Int,x24=IntKind.i64.wrap (x20 - x23) →
 ((x3 < x24)→(
 ∀ x25:Int,x25=IntKind.i64.wrap (x17 + 1) →
 Ib1 [.b false,.i x25]∧mb1 [.b false,.i x25] < mb1 [.b b1,.i x17]))∧(¬ (x3 < x24)→(
 ∀ x25:Int,x25=IntKind.i64.wrap (x17 + 1) →
 Ib1 [.b b1,.i x25]∧mb1 [.b b1,.i x25] < mb1 [.b b1,.i x17]))))∧(¬ (x17 < x18)→(
 ((b1=true)→(
 ∀ x19:Int,x19=(((3 + (l0.length + 0)) / 3:Nat):Int) →
 ∀ x20:Int,x20=IntKind.i64.wrap (x19 - 1) →
 ∀ x21:Int,x21=(((3 + (l0.length + 0)) / 3:Nat):Int) →
 (0≤x20) ∧
 (x20 < x21) ∧
 ∃ (x22:Int),((.string ⟨s0.toArray⟩:Value)::(.int .i64 x10:Value)::(.int .i64 x11:Value)::(l0.map (·.1)++(([]:List Value))))[(Int.toNat x20) * 3 + 1]? = some (.int .i64 x22) ∧
 ∀ x23:Int,x23=IntKind.i64.wrap (x2 - x3) →
 ∀ (β:Nat→Nat) (w':World),Below w.heap.size w w'→(Vc.RowOk w.heap.size (β 9) (β 10) (β 11) (β 12) ((.string ⟨s0.toArray⟩:Value)::(.int .i64 x10:Value)::(.int .i64 x11:Value)::(l0.map (·.1)++(([]:List Value)))) 3 61 w'∧True)→QM w' (.tuple #[Vc.ownV (β 9) (β 10) (β 11) (β 12),.bool (decide (x22 ≥ x23))])))∧(¬ (b1=true)→(
 ∀ (β:Nat→Nat) (w':World),Below w.heap.size w w'→(Vc.RowOk w.heap.size (β 9) (β 10) (β 11) (β 12) ((.string ⟨s0.toArray⟩:Value)::(.int .i64 x10:Value)::(.int .i64 x11:Value)::(l0.map (·.1)++(([]:List Value)))) 3 61 w'∧True)→QM w' (.tuple #[Vc.ownV (β 9) (β 10) (β 11) (β 12),.bool false])))))
theorem zfg(p0:Nat × Nat)(x0 x1 x2 x3 x4:Int)(b0:Bool)(w:World)(Q:Value→Prop)(QM:World→Value→Prop)(h :
 ∃ (Ix5:List Vc.Vl→Prop) (mx5:List Vc.Vl→Nat),Ix5 [.i (-1),.i 0]∧∀ (x5:Int) (x6:Int),Ix5 [.i x5,.i x6]→(
 (0≤x0) ∧
 ((¬ (b0=true))∨(x0=0)) ∧
 ((x6 < x0)→(
 (¬ (b0=true)) ∧
 (0≤x6) ∧
 (x6 < x0) ∧
 ∃ (x7:Int),w.cell? ⟨p0.1,p0.2 + (Int.toNat x6) * 3 + 1,none⟩=some (.int .i64 x7) ∧
 ∀ x8:Int,x8=IntKind.i64.wrap (x2 - x4) →
 ((x7≤x8)→(
 ∀ x9:Int,x9=IntKind.i64.wrap (x6 + 1) →
 Ix5 [.i x6,.i x9]∧mx5 [.i x6,.i x9] < mx5 [.i x5,.i x6]))∧(¬ (x7≤x8)→(
 ∀ x9:Int,x9=IntKind.i64.wrap (x6 + 1) →
 Ix5 [.i x5,.i x9]∧mx5 [.i x5,.i x9] < mx5 [.i x5,.i x6]))))∧(¬ (x6 < x0)→(
 ((0≤x5)→(
 (¬ (b0=true)) ∧
 (0≤x5) ∧
 (x5 < x0) ∧
 ∃ (x7:Int),w.cell? ⟨p0.1,p0.2 + (Int.toNat x5) * 3 + 1,none⟩=some (.int .i64 x7) ∧
 ∀ x8:Int,x8=IntKind.i64.wrap (x2 - x4) →
 ∀ x9:Int,x9=IntKind.i64.wrap (x8 - x3) →
 ((x9≤x7)→(
 (¬ (b0=true)) ∧
 (0≤x5) ∧
 (x5 < x0) ∧
 ∃ (s0:List UInt8),w.cell? ⟨p0.1,p0.2 + (Int.toNat x5) * 3 + 0,none⟩=some (.string ⟨s0.toArray⟩) ∧
 ∃ (x10:Int),w.cell? ⟨p0.1,p0.2 + (Int.toNat x5) * 3 + 1,none⟩=some (.int .i64 x10) ∧
 ∃ (x11:Int),w.cell? ⟨p0.1,p0.2 + (Int.toNat x5) * 3 + 2,none⟩=some (.int .i64 x11) ∧
 ∀ x12:Int,x12=IntKind.i64.wrap (x5 + 1) →
 (¬ (b0=true)) ∧
 (0 < x1) ∧
 (0≤x0) ∧
 (x0≤x1) ∧
 (0≤x12) ∧
 (x12≤x0) ∧
 (x0≤x1) ∧
 ∀ x13:Int,x13=x0 - x12 →
 ∀ x14:Int,x14=x1 - x12 →
 ((x12 < x1)→(
 ∀ x15:Int,x15=0 + x12 →
 ∃ l0:List Vc.OV,Vc.SlAt w (.slice (some ⟨p0.1,p0.2 + (Int.toNat x15) * 3,none⟩) (Int.toNat x13) (Int.toNat x14)) 3 (l0.map (·.1)) ∧
 ∀ x16:Int,x16=(((3 + (l0.length + 0)) / 3:Nat):Int) →
 (x16≤1073741824) ∧
 ∃ (Ib1:List Vc.Vl→Prop) (mb1:List Vc.Vl→Nat),Ib1 [.b (decide (x7 ≥ x9)),.i 1]∧∀ (b1:Bool) (x17:Int),Ib1 [.b b1,.i x17]→( Vj_ullageref10_sight_T1 l0 x17 s0 x10 x11 x3 Ib1 mb1 b1 x2 w QM)))∧(¬ (x12 < x1)→(
 ∃ l0:List Vc.OV,Vc.SlAt w (.slice (some ⟨p0.1,p0.2,none⟩) (Int.toNat x13) (Int.toNat x14)) 3 (l0.map (·.1)) ∧
 ∀ x15:Int,x15=(((3 + (l0.length + 0)) / 3:Nat):Int) →
 (x15≤1073741824) ∧
 ∃ (Ib1:List Vc.Vl→Prop) (mb1:List Vc.Vl→Nat),Ib1 [.b (decide (x7 ≥ x9)),.i 1]∧∀ (b1:Bool) (x16:Int),Ib1 [.b b1,.i x16]→( Vj_ullageref10_sight_T1 l0 x16 s0 x10 x11 x3 Ib1 mb1 b1 x2 w QM)))))∧(¬ (x9≤x7)→(
 ∀ x10:Int,x10=IntKind.i64.wrap (x5 + 1) →
 (¬ (b0=true)) ∧
 (0 < x1) ∧
 (0≤x0) ∧
 (x0≤x1) ∧
 (0≤x10) ∧
 (x10≤x0) ∧
 (x0≤x1) ∧
 ∀ x11:Int,x11=x0 - x10 →
 ∀ x12:Int,x12=x1 - x10 →
 ((x10 < x1)→(
 ∀ x13:Int,x13=0 + x10 →
 ∃ l0:List Vc.OV,Vc.SlAt w (.slice (some ⟨p0.1,p0.2 + (Int.toNat x13) * 3,none⟩) (Int.toNat x11) (Int.toNat x12)) 3 (l0.map (·.1)) ∧
 ∀ x14:Int,x14=(((0 + (l0.length + 0)) / 3:Nat):Int) →
 (x14≤1073741824) ∧
 ∃ (Ib1:List Vc.Vl→Prop) (mb1:List Vc.Vl→Nat),Ib1 [.b (decide (x7 ≥ x9)),.i 1]∧∀ (b1:Bool) (x15:Int),Ib1 [.b b1,.i x15]→( Vj_ullageref10_sight_T2 l0 x15 x3 Ib1 mb1 b1 x2 w QM)))∧(¬ (x10 < x1)→(
 ∃ l0:List Vc.OV,Vc.SlAt w (.slice (some ⟨p0.1,p0.2,none⟩) (Int.toNat x11) (Int.toNat x12)) 3 (l0.map (·.1)) ∧
 ∀ x13:Int,x13=(((0 + (l0.length + 0)) / 3:Nat):Int) →
 (x13≤1073741824) ∧
 ∃ (Ib1:List Vc.Vl→Prop) (mb1:List Vc.Vl→Nat),Ib1 [.b (decide (x7 ≥ x9)),.i 1]∧∀ (b1:Bool) (x14:Int),Ib1 [.b b1,.i x14]→( Vj_ullageref10_sight_T2 l0 x14 x3 Ib1 mb1 b1 x2 w QM)))))))∧(¬ (0≤x5)→(
 ∀ x7:Int,x7=IntKind.i64.wrap (x5 + 1) →
 (¬ (b0=true)) ∧
 (0 < x1) ∧
 (0≤x0) ∧
 (x0≤x1) ∧
 (0≤x7) ∧
 (x7≤x0) ∧
 (x0≤x1) ∧
 ∀ x8:Int,x8=x0 - x7 →
 ∀ x9:Int,x9=x1 - x7 →
 ((x7 < x1)→(
 ∀ x10:Int,x10=0 + x7 →
 ∃ l0:List Vc.OV,Vc.SlAt w (.slice (some ⟨p0.1,p0.2 + (Int.toNat x10) * 3,none⟩) (Int.toNat x8) (Int.toNat x9)) 3 (l0.map (·.1)) ∧
 ∀ x11:Int,x11=(((0 + (l0.length + 0)) / 3:Nat):Int) →
 (x11≤1073741824) ∧
 ∃ (Ib1:List Vc.Vl→Prop) (mb1:List Vc.Vl→Nat),Ib1 [.b false,.i 1]∧∀ (b1:Bool) (x12:Int),Ib1 [.b b1,.i x12]→( Vj_ullageref10_sight_T2 l0 x12 x3 Ib1 mb1 b1 x2 w QM)))∧(¬ (x7 < x1)→(
 ∃ l0:List Vc.OV,Vc.SlAt w (.slice (some ⟨p0.1,p0.2,none⟩) (Int.toNat x8) (Int.toNat x9)) 3 (l0.map (·.1)) ∧
 ∀ x10:Int,x10=(((0 + (l0.length + 0)) / 3:Nat):Int) →
 (x10≤1073741824) ∧
 ∃ (Ib1:List Vc.Vl→Prop) (mb1:List Vc.Vl→Nat),Ib1 [.b false,.i 1]∧∀ (b1:Bool) (x11:Int),Ib1 [.b b1,.i x11]→( Vj_ullageref10_sight_T2 l0 x11 x3 Ib1 mb1 b1 x2 w QM))))))))):Calls Tryz.prog 157 #[(if b0=true then .slice none 0 0 else .slice (some (Vc.qad p0 (Int.toNat x0) (Int.toNat x1))) (Int.toNat x0) (Int.toNat x1):Value),.int .i64 x2,.int .i64 x3,.int .i64 x4] w (fun e w'=>∃ v,e=.returned v∧Below w.heap.size w w'∧(Q v∨QM w' v)) :=
 Vc.zav base [(4000000000004,.inv [] [10,12] [15,16,17,18,21,22,23,24,25,26,27,28,29,30,19,20]),(4000000000013,.inv [] [13,14] [60,61,62,63,66,67,68,69,70,71,72,73,74,75,76,77,78,79,64,65]),(900000011,.inv [] [61] [])] [] 200 Tryz.func157 (b:=(Tryz.f157.body).getD .skip) (by kernel_rfl) [.cv (.one (.qsl 0 0 3 (.var 0) (.var 1))),.cv (.one (.int .i64 (.var 2))),.cv (.one (.int .i64 (.var 3))),.cv (.one (.int .i64 (.var 4)))] ⟨5,1,0,1,0,0,0⟩ [] (Vc.envOf [x0,x1,x2,x3,x4] [b0] [] [p0]) (by kernel_rfl) Vc.zl (by kernel_rfl) (by kernel_rfl) h
theorem zne(p0:Nat × Nat)(x0 x1:Int)(b0 b1:Bool)(w:World)(v:Value)(h :
 ∃ (Ix2:List Vc.Vl→Prop) (mx2:List Vc.Vl→Nat),Ix2 [.i 0,.i (-1099511627776)]∧∀ (x2:Int) (x3:Int),Ix2 [.i x2,.i x3]→(
 (0≤x0) ∧
 ((¬ (b0=true))∨(x0=0)) ∧
 ((x2 < x0)→(
 (¬ (b0=true)) ∧
 (0≤x2) ∧
 (x2 < x0) ∧
 ∃ (x4:Int),w.cell? ⟨p0.1,p0.2 + (Int.toNat x2) * 3 + 2,none⟩=some (.int .i64 x4) ∧
 ∀ x5:Int,x5=(if x4 > x3 then x4 else x3) →
 ∀ x6:Int,x6=IntKind.i64.wrap (x2 + 1) →
 Ix2 [.i x6,.i x5]∧mx2 [.i x6,.i x5] < mx2 [.i x2,.i x3]))∧(¬ (x2 < x0)→(
 ((b1=true)→(
 (.agg #[.int .i64 x3,.int .i64 x3]:Value)=v))∧(¬ (b1=true)→(
 (.agg #[.int .i64 x3,.int .i64 1099511627776]:Value)=v)))))):Calls Tryz.prog 158 #[(if b0=true then .slice none 0 0 else .slice (some (Vc.qad p0 (Int.toNat x0) (Int.toNat x1))) (Int.toNat x0) (Int.toNat x1):Value),.bool b1] w (Vc.Ret v w) :=
 Vc.zh base [(4000000000003,.inv [(5,0)] [6] [8,9,10,11,14,15,16,17,18,19,20,21,22,12,13])] [] 200 Tryz.func158 (b:=(Tryz.f158.body).getD .skip) (by kernel_rfl) [.cv (.one (.qsl 0 0 3 (.var 0) (.var 1))),.cv (.one (.bool (.var 1)))] ⟨2,2,0,1,0,0,0⟩ [] (Vc.envOf [x0,x1] [b0,b1] [] [p0]) (by kernel_rfl) Vc.zl (by kernel_rfl) (by kernel_rfl) h
theorem zgg(p0:Nat × Nat)(x0 x1:Int)(b0 b1:Bool)(w:World)(v:Value)(h :
 ∃ (Ix2:List Vc.Vl→Prop) (mx2:List Vc.Vl→Nat),Ix2 [.i 0,.i 1099511627776]∧∀ (x2:Int) (x3:Int),Ix2 [.i x2,.i x3]→(
 (0≤x0) ∧
 ((¬ (b0=true))∨(x0=0)) ∧
 ((x2 < x0)→(
 (¬ (b0=true)) ∧
 (0≤x2) ∧
 (x2 < x0) ∧
 ∃ (x4:Int),w.cell? ⟨p0.1,p0.2 + (Int.toNat x2) * 3 + 2,none⟩=some (.int .i64 x4) ∧
 ∀ x5:Int,x5=(if x4 < x3 then x4 else x3) →
 ∀ x6:Int,x6=IntKind.i64.wrap (x2 + 1) →
 Ix2 [.i x6,.i x5]∧mx2 [.i x6,.i x5] < mx2 [.i x2,.i x3]))∧(¬ (x2 < x0)→(
 ((b1=true)→(
 (.agg #[.int .i64 x3,.int .i64 x3]:Value)=v))∧(¬ (b1=true)→(
 (.agg #[.int .i64 (-1099511627776),.int .i64 x3]:Value)=v)))))):Calls Tryz.prog 159 #[(if b0=true then .slice none 0 0 else .slice (some (Vc.qad p0 (Int.toNat x0) (Int.toNat x1))) (Int.toNat x0) (Int.toNat x1):Value),.bool b1] w (Vc.Ret v w) :=
 Vc.zh base [(4000000000003,.inv [(5,1)] [6] [8,9,10,11,14,15,16,17,18,19,20,21,22,12,13])] [] 200 Tryz.func159 (b:=(Tryz.f159.body).getD .skip) (by kernel_rfl) [.cv (.one (.qsl 0 0 3 (.var 0) (.var 1))),.cv (.one (.bool (.var 1)))] ⟨2,2,0,1,0,0,0⟩ [] (Vc.envOf [x0,x1] [b0,b1] [] [p0]) (by kernel_rfl) Vc.zl (by kernel_rfl) (by kernel_rfl) h
theorem zhg(p0 p1:Nat × Nat)(x0 x1 x2 x3 x4 x5 x6 x7 x8 x9 x10:Int)(b0 b1:Bool)(s0:List UInt8)(w:World)(v:Value)(h :
 ((x0=1)→(
 ∃ (x11:Int),∃ (x12:Int),(Vq w 131 #[.agg #[.int .i64 x0,.int .i64 x1,.string ⟨s0.toArray⟩,.int .i64 x2,.int .i64 x3,.int .i64 x4,(if b0=true then .slice none 0 0 else .slice (some (Vc.qad p0 (Int.toNat x5) (Int.toNat x6))) (Int.toNat x5) (Int.toNat x6):Value)],(if b1=true then .slice none 0 0 else .slice (some (Vc.qad p1 (Int.toNat x7) (Int.toNat x8))) (Int.toNat x7) (Int.toNat x8):Value),.int .i64 x9,.int .i64 x10] (.agg #[.int .i64 x11,.int .i64 x12])) ∧
 ∃ (x13:Int),(Vq w 130 #[.agg #[.int .i64 x11,.int .i64 x12],.int .i64 x3,.int .i64 x4] (.int .i64 x13)) ∧
 (.int .i64 x13:Value)=v))∧(¬ (x0=1)→(
 (¬ (b0=true)) ∧
 (0 < x5) ∧
 ∃ (x11:Int),w.cell? ⟨p0.1,p0.2 + (Int.toNat 0) * 7 + 0,none⟩=some (.int .i64 x11) ∧
 ∃ (x12:Int),w.cell? ⟨p0.1,p0.2 + (Int.toNat 0) * 7 + 1,none⟩=some (.int .i64 x12) ∧
 ∃ (s1:List UInt8),w.cell? ⟨p0.1,p0.2 + (Int.toNat 0) * 7 + 2,none⟩=some (.string ⟨s1.toArray⟩) ∧
 ∃ (x13:Int),w.cell? ⟨p0.1,p0.2 + (Int.toNat 0) * 7 + 3,none⟩=some (.int .i64 x13) ∧
 ∃ (x14:Int),w.cell? ⟨p0.1,p0.2 + (Int.toNat 0) * 7 + 4,none⟩=some (.int .i64 x14) ∧
 ∃ (x15:Int),w.cell? ⟨p0.1,p0.2 + (Int.toNat 0) * 7 + 5,none⟩=some (.int .i64 x15) ∧
 ∃ (b2:Bool) (p2:Nat × Nat) (x16 x17:Int),w.cell? ⟨p0.1,p0.2 + (Int.toNat 0) * 7 + 6,none⟩=some ((if b2=true then .slice none 0 0 else .slice (some (Vc.qad p2 (Int.toNat x16) (Int.toNat x17))) (Int.toNat x16) (Int.toNat x17):Value)) ∧
 ∃ (x18:Int),(Vq w 72 #[.agg #[.int .i64 x11,.int .i64 x12,.string ⟨s1.toArray⟩,.int .i64 x13,.int .i64 x14,.int .i64 x15,(if b2=true then .slice none 0 0 else .slice (some (Vc.qad p2 (Int.toNat x16) (Int.toNat x17))) (Int.toNat x16) (Int.toNat x17):Value)],(if b1=true then .slice none 0 0 else .slice (some (Vc.qad p1 (Int.toNat x7) (Int.toNat x8))) (Int.toNat x7) (Int.toNat x8):Value),.int .i64 x9,.int .i64 x10] (.int .i64 x18)) ∧
 ((x0=2)→(
 ∀ x19:Int,x19=IntKind.i64.wrap (0 - x18) →
 (.int .i64 x19:Value)=v))∧(¬ (x0=2)→(
 (¬ (b0=true)) ∧
 (1 < x5) ∧
 ∃ (x19:Int),w.cell? ⟨p0.1,p0.2 + (Int.toNat 1) * 7 + 0,none⟩=some (.int .i64 x19) ∧
 ∃ (x20:Int),w.cell? ⟨p0.1,p0.2 + (Int.toNat 1) * 7 + 1,none⟩=some (.int .i64 x20) ∧
 ∃ (s2:List UInt8),w.cell? ⟨p0.1,p0.2 + (Int.toNat 1) * 7 + 2,none⟩=some (.string ⟨s2.toArray⟩) ∧
 ∃ (x21:Int),w.cell? ⟨p0.1,p0.2 + (Int.toNat 1) * 7 + 3,none⟩=some (.int .i64 x21) ∧
 ∃ (x22:Int),w.cell? ⟨p0.1,p0.2 + (Int.toNat 1) * 7 + 4,none⟩=some (.int .i64 x22) ∧
 ∃ (x23:Int),w.cell? ⟨p0.1,p0.2 + (Int.toNat 1) * 7 + 5,none⟩=some (.int .i64 x23) ∧
 ∃ (b3:Bool) (p3:Nat × Nat) (x24 x25:Int),w.cell? ⟨p0.1,p0.2 + (Int.toNat 1) * 7 + 6,none⟩=some ((if b3=true then .slice none 0 0 else .slice (some (Vc.qad p3 (Int.toNat x24) (Int.toNat x25))) (Int.toNat x24) (Int.toNat x25):Value)) ∧
 ∃ (x26:Int),(Vq w 72 #[.agg #[.int .i64 x19,.int .i64 x20,.string ⟨s2.toArray⟩,.int .i64 x21,.int .i64 x22,.int .i64 x23,(if b3=true then .slice none 0 0 else .slice (some (Vc.qad p3 (Int.toNat x24) (Int.toNat x25))) (Int.toNat x24) (Int.toNat x25):Value)],(if b1=true then .slice none 0 0 else .slice (some (Vc.qad p1 (Int.toNat x7) (Int.toNat x8))) (Int.toNat x7) (Int.toNat x8):Value),.int .i64 x9,.int .i64 x10] (.int .i64 x26)) ∧
 ((x0=3)→(
 ∀ x27:Int,x27=(if x26 < x18 then x26 else x18) →
 (.int .i64 x27:Value)=v))∧(¬ (x0=3)→(
 ∀ x27:Int,x27=(if x26 > x18 then x26 else x18) →
 (.int .i64 x27:Value)=v))))))):Calls Tryz.prog 72 #[.agg #[.int .i64 x0,.int .i64 x1,.string ⟨s0.toArray⟩,.int .i64 x2,.int .i64 x3,.int .i64 x4,(if b0=true then .slice none 0 0 else .slice (some (Vc.qad p0 (Int.toNat x5) (Int.toNat x6))) (Int.toNat x5) (Int.toNat x6):Value)],(if b1=true then .slice none 0 0 else .slice (some (Vc.qad p1 (Int.toNat x7) (Int.toNat x8))) (Int.toNat x7) (Int.toNat x8):Value),.int .i64 x9,.int .i64 x10] w (Vc.Ret v w) :=
 Vc.zh base [] [] 200 Tryz.func72 (b:=(Tryz.f72.body).getD .skip) (by kernel_rfl) [.cv (.agg [.int .i64 (.var 0),.int .i64 (.var 1),.sv 0,.int .i64 (.var 2),.int .i64 (.var 3),.int .i64 (.var 4),.qsl 0 0 7 (.var 5) (.var 6)]),.cv (.one (.qsl 1 1 3 (.var 7) (.var 8))),.cv (.one (.int .i64 (.var 9))),.cv (.one (.int .i64 (.var 10)))] ⟨11,2,0,2,0,1,0⟩ [] (Vc.envOf [x0,x1,x2,x3,x4,x5,x6,x7,x8,x9,x10] [b0,b1] [] [p0,p1] [s0]) (by kernel_rfl) Vc.zl (by kernel_rfl) (by kernel_rfl) h
theorem zjg(p0 p1:Nat × Nat)(x0 x1 x2 x3 x4 x5 x6 x7 x8 x9 x10:Int)(b0 b1:Bool)(s0:List UInt8)(w:World)(v:Value)(h :
 ∃ (b2:Bool),(Vq w 24 #[.agg #[.int .i64 x0,.int .i64 x1,.string ⟨s0.toArray⟩,.int .i64 x2,.int .i64 x3,.int .i64 x4,(if b0=true then .slice none 0 0 else .slice (some (Vc.qad p0 (Int.toNat x5) (Int.toNat x6))) (Int.toNat x5) (Int.toNat x6):Value)]] (.bool b2)) ∧
 ((b2=true)→(
 ∃ (b3:Bool),(Vq w 70 #[(if b1=true then .slice none 0 0 else .slice (some (Vc.qad p1 (Int.toNat x7) (Int.toNat x8))) (Int.toNat x7) (Int.toNat x8):Value)] (.bool b3)) ∧
 ((b3=true)→(
 ((0≤x9)→(
 ((x9≤1073741824)→(
 ((0≤x10)→(
 ((x10≤1000)→(
 ∃ (x11:Int),(Vq w 72 #[.agg #[.int .i64 x0,.int .i64 x1,.string ⟨s0.toArray⟩,.int .i64 x2,.int .i64 x3,.int .i64 x4,(if b0=true then .slice none 0 0 else .slice (some (Vc.qad p0 (Int.toNat x5) (Int.toNat x6))) (Int.toNat x5) (Int.toNat x6):Value)],(if b1=true then .slice none 0 0 else .slice (some (Vc.qad p1 (Int.toNat x7) (Int.toNat x8))) (Int.toNat x7) (Int.toNat x8):Value),.int .i64 x9,.int .i64 x10] (.int .i64 x11)) ∧
 (.tuple #[.int .i64 x11,.int .i64 0]:Value)=v))∧(¬ (x10≤1000)→(
 (.tuple #[.int .i64 0,.int .i64 4]:Value)=v))))∧(¬ (0≤x10)→(
 (.tuple #[.int .i64 0,.int .i64 4]:Value)=v))))∧(¬ (x9≤1073741824)→(
 (.tuple #[.int .i64 0,.int .i64 4]:Value)=v))))∧(¬ (0≤x9)→(
 (.tuple #[.int .i64 0,.int .i64 4]:Value)=v))))∧(¬ (b3=true)→(
 (.tuple #[.int .i64 0,.int .i64 2]:Value)=v))))∧(¬ (b2=true)→(
 (.tuple #[.int .i64 0,.int .i64 2]:Value)=v))):Calls Tryz.prog 30 #[.agg #[.int .i64 x0,.int .i64 x1,.string ⟨s0.toArray⟩,.int .i64 x2,.int .i64 x3,.int .i64 x4,(if b0=true then .slice none 0 0 else .slice (some (Vc.qad p0 (Int.toNat x5) (Int.toNat x6))) (Int.toNat x5) (Int.toNat x6):Value)],(if b1=true then .slice none 0 0 else .slice (some (Vc.qad p1 (Int.toNat x7) (Int.toNat x8))) (Int.toNat x7) (Int.toNat x8):Value),.int .i64 x9,.int .i64 x10] w (Vc.Ret v w) :=
 Vc.zh (zza [71] (by kernel_rfl)) [] [] 200 Tryz.func30 (b:=(Tryz.f30.body).getD .skip) (by kernel_rfl) [.cv (.agg [.int .i64 (.var 0),.int .i64 (.var 1),.sv 0,.int .i64 (.var 2),.int .i64 (.var 3),.int .i64 (.var 4),.qsl 0 0 7 (.var 5) (.var 6)]),.cv (.one (.qsl 1 1 3 (.var 7) (.var 8))),.cv (.one (.int .i64 (.var 9))),.cv (.one (.int .i64 (.var 10)))] ⟨11,2,0,2,0,1,0⟩ [] (Vc.envOf [x0,x1,x2,x3,x4,x5,x6,x7,x8,x9,x10] [b0,b1] [] [p0,p1] [s0]) (by kernel_rfl) Vc.zl (by kernel_rfl) (by kernel_rfl) h
end Go.Proofs.YtdjgnbkclcjiiaaGreatDoor
