import Derived.Test.YtdjgnbkclcjiiaaGreatDoorG0
import Derived.Test.YtdjgnbkclcjiiaaGreatDoorSn
section
set_option linter.unusedVariables false
set_option maxRecDepth 100000
namespace Go.Proofs.YtdjgnbkclcjiiaaGreatDoor
open Go Go.RowKit
theorem zvh(x0:Int)(w:World)(v:Value)(h :
 ((97≤x0)→(
 (.bool (decide (x0≤122)):Value)=v))∧(¬ (97≤x0)→(
 (.bool false:Value)=v))):Calls Tryz.prog 113 #[.int .u8 x0] w (Vc.Ret v w) :=
 Vc.zi base [] [] 200 Tryz.func113 (b:=(Tryz.f113.body).getD .skip) (by kernel_rfl) [.cv (.one (.int .u8 (.var 0)))] ⟨1,0,0,0,0,0,0⟩ [] (Vc.envOf [x0] [] [] []) (by kernel_rfl) Vc.zg (by kernel_rfl) (by kernel_rfl) h
theorem zck(x0:Int)(w:World)(v:Value)(h :
 ((97≤x0)→(
 ((x0≤122)→(
 (.bool true:Value)=v))∧(¬ (x0≤122)→(
 ((48≤x0)→(
 ((x0≤57)→(
 (.bool true:Value)=v))∧(¬ (x0≤57)→(
 (.bool (x0 == 45):Value)=v))))∧(¬ (48≤x0)→(
 (.bool (x0 == 45):Value)=v))))))∧(¬ (97≤x0)→(
 ((48≤x0)→(
 ((x0≤57)→(
 (.bool true:Value)=v))∧(¬ (x0≤57)→(
 (.bool (x0 == 45):Value)=v))))∧(¬ (48≤x0)→(
 (.bool (x0 == 45):Value)=v))))):Calls Tryz.prog 114 #[.int .u8 x0] w (Vc.Ret v w) :=
 Vc.zi (zz [113,115] (by kernel_rfl)) [] [] 200 Tryz.func114 (b:=(Tryz.f114.body).getD .skip) (by kernel_rfl) [.cv (.one (.int .u8 (.var 0)))] ⟨1,0,0,0,0,0,0⟩ [] (Vc.envOf [x0] [] [] []) (by kernel_rfl) Vc.zg (by kernel_rfl) (by kernel_rfl) h
theorem zgj(s0:List UInt8)(w:World)(v:Value)(h :
 ∀ x0:Int,x0=((s0.length:Nat):Int) →
 ((1≤x0)→(
 ((x0≤32)→(
 ∀ x1:Int,x1=((s0.length:Nat):Int) →
 (0 < x1) ∧
 ∀ x2:Int,x2=(((s0.getD (Int.toNat 0) 0).toNat:Nat):Int) →
 ∃ (b0:Bool),(Vq w 113 #[.int .u8 x2] (.bool b0)) ∧
 ((b0=true)→(
 Vg_0 w ∧
 ((s0=([109,111,115,116]:List UInt8))→(
 (.bool false:Value)=v))∧(¬ (s0=([109,111,115,116]:List UInt8))→(
 Vg_0 w ∧
 ((s0=([108,101,97,115,116]:List UInt8))→(
 (.bool false:Value)=v))∧(¬ (s0=([108,101,97,115,116]:List UInt8))→(
 ∀ l0:List Vc.OV,l0.map (·.1)=s0.map Vc.u8V →
 ∀ x3:Int,x3=(((0 + (l0.length + 0)) / 1:Nat):Int) →
 ∃ (Ib1:List Vc.Vl→Prop) (mb1:List Vc.Vl→Nat),Ib1 [.b false,.i 0]∧∀ (b1:Bool) (x4:Int),Ib1 [.b b1,.i x4]→(
 ((x4 < x3)→(
 ∀ x5:Int,x5=(((0 + (l0.length + 0)) / 1:Nat):Int) →
 (0≤x4) ∧
 (x4 < x5) ∧
 ∃ (x6:Int),((l0.map (·.1)++(([]:List Value))))[(Int.toNat x4) * 1 + 0]? = some (.int .u8 x6) ∧
 ∃ (b2:Bool),(Vq w 114 #[.int .u8 x6] (.bool b2)) ∧
 ((b2=true)→(
 ∀ x7:Int,x7=IntKind.i64.wrap (x4 + 1) →
 Ib1 [.b b1,.i x7]∧mb1 [.b b1,.i x7] < mb1 [.b b1,.i x4]))∧(¬ (b2=true)→(
 (.bool false:Value)=v))))∧(¬ (x4 < x3)→(
 (.bool true:Value)=v)))))))))∧(¬ (b0=true)→(
 (.bool false:Value)=v))))∧(¬ (x0≤32)→(
 (.bool false:Value)=v))))∧(¬ (1≤x0)→(
 (.bool false:Value)=v))):Calls Tryz.prog 127 #[.string ⟨s0.toArray⟩] w (Vc.Ret v w) :=
 Vc.zi (zz [67,75,133] (by kernel_rfl)) [(1000000000004,.inv [] [2,23] [24,25,26,4,27,28,29,30])] globs 200 Tryz.func127 (b:=(Tryz.f127.body).getD .skip) (by kernel_rfl) [.cv (.one (.sv 0))] ⟨0,0,0,1,0,1,0⟩ [.glo 0 0] (Vc.envOf [] [] [] [(0,0)] [s0]) (by kernel_rfl) (Vc.zp (by kernel_rfl) rfl Vc.zg) (by kernel_rfl) (by kernel_rfl) h
abbrev Vj___countdown_maker__make_T4(x1:Int)(x2:Int)(s0:List UInt8)(x3:Int)(x4:Int)(x5:Int)(b0:Bool)(p0:Nat × Nat)(x6:Int)(x7:Int)(x9:Int)(v:Value)(new:Array Value):Prop :=
 ∀ v0:Vc.OV,v0.1=Value.iface 183 (.agg #[.int .i64 x1,.int .i64 x2,.string ⟨s0.toArray⟩,.int .i64 x3,.int .i64 x4,.int .i64 x5,(if b0=true then .slice none 0 0 else .slice (some (Vc.qad p0 (Int.toNat x6) (Int.toNat x7))) (Int.toNat x6) (Int.toNat x7):Value)]) →
 (.agg #[.tuple #[v0.1,.bool false],.agg #[.int .i64 x9]]:Value)=.agg #[v,.agg new]
abbrev Vj___countdown_maker__make_T3(x4:Int)(x5:Int)(x6:Int)(b0:Bool)(v0:Vc.OV)(x9:Int)(v:Value)(new:Array Value):Prop :=
 ((x4≤5)→(
 (((-1073741824)≤x5)→(
 ((x5≤1073741824)→(
 (0≤x6) ∧
 ((¬ (b0=true))∨(x6=0)) ∧
 (.agg #[.tuple #[v0.1,.bool (x6 == 0)],.agg #[.int .i64 x9]]:Value)=.agg #[v,.agg new]))∧(¬ (x5≤1073741824)→(
 (.agg #[.tuple #[v0.1,.bool false],.agg #[.int .i64 x9]]:Value)=.agg #[v,.agg new]))))∧(¬ ((-1073741824)≤x5)→(
 (.agg #[.tuple #[v0.1,.bool false],.agg #[.int .i64 x9]]:Value)=.agg #[v,.agg new]))))∧(¬ (x4≤5)→(
 (.agg #[.tuple #[v0.1,.bool false],.agg #[.int .i64 x9]]:Value)=.agg #[v,.agg new]))
abbrev Vj___countdown_maker__make_T2(x1:Int)(l0:List Vc.OV)(x11:Int)(v:Value)(new:Array Value):Prop :=
 ((x1=4)→(
 ∀ x14:Int,x14=(((0 + (l0.length + 0)) / 1:Nat):Int) →
 ((x14=2)→(
 ∀ x15:Int,x15=(((0 + (l0.length + 0)) / 1:Nat):Int) →
 (0 < x15) ∧
 ∃ (v0:Vc.OV),((l0.map (·.1)++(([]:List Value))))[(Int.toNat 0) * 1 + 0]? = some (v0.1) ∧
 ∀ x16:Int,x16=(((0 + (l0.length + 0)) / 1:Nat):Int) →
 (1 < x16) ∧
 ∃ (v1:Vc.OV),((l0.map (·.1)++(([]:List Value))))[(Int.toNat 1) * 1 + 0]? = some (v1.1) ∧
 ∀ v2:Vc.OV,v2.1=Value.iface 181 (.agg #[v0.1,v1.1]) →
 (.agg #[.tuple #[v2.1,.bool true],.agg #[.int .i64 x11]]:Value)=.agg #[v,.agg new]))∧(¬ (x14=2)→(
 (.agg #[.tuple #[.nilIface,.bool false],.agg #[.int .i64 x11]]:Value)=.agg #[v,.agg new]))))∧(¬ (x1=4)→(
 (.agg #[.tuple #[.nilIface,.bool false],.agg #[.int .i64 x11]]:Value)=.agg #[v,.agg new]))
abbrev Vj___countdown_maker__make_T1(x1:Int)(l0:List Vc.OV)(x11:Int)(v:Value)(new:Array Value):Prop :=
 ((x1=3)→(
 ∀ x13:Int,x13=(((0 + (l0.length + 0)) / 1:Nat):Int) →
 ((x13=2)→(
 ∀ x14:Int,x14=(((0 + (l0.length + 0)) / 1:Nat):Int) →
 (0 < x14) ∧
 ∃ (v0:Vc.OV),((l0.map (·.1)++(([]:List Value))))[(Int.toNat 0) * 1 + 0]? = some (v0.1) ∧
 ∀ x15:Int,x15=(((0 + (l0.length + 0)) / 1:Nat):Int) →
 (1 < x15) ∧
 ∃ (v1:Vc.OV),((l0.map (·.1)++(([]:List Value))))[(Int.toNat 1) * 1 + 0]? = some (v1.1) ∧
 ∀ v2:Vc.OV,v2.1=Value.iface 180 (.agg #[v0.1,v1.1]) →
 (.agg #[.tuple #[v2.1,.bool true],.agg #[.int .i64 x11]]:Value)=.agg #[v,.agg new]))∧(¬ (x13=2)→( Vj___countdown_maker__make_T2 x1 l0 x11 v new))))∧(¬ (x1=3)→( Vj___countdown_maker__make_T2 x1 l0 x11 v new))
theorem zrd(p0:Nat × Nat)(x0 x1 x2 x3 x4 x5 x6 x7 x8:Int)(b0:Bool)(s0:List UInt8)(xl:Nat)(w:World)(v:Value)(new:Array Value)(hx:w.heap[xl]? = some (.cells #[.int .i64 x0] 163))(h :
 ∀ x9:Int,x9=IntKind.i64.wrap (x0 + 1) →
 ((200 < x9)→(
 (.agg #[.tuple #[.nilIface,.bool false],.agg #[.int .i64 x9]]:Value)=.agg #[v,.agg new]))∧(¬ (200 < x9)→(
 ((20 < x8)→(
 (.agg #[.tuple #[.nilIface,.bool false],.agg #[.int .i64 x9]]:Value)=.agg #[v,.agg new]))∧(¬ (20 < x8)→(
 ((x1=1)→(
 ((0≤x2)→(
 ((x2≤2)→(
 ∃ (b1:Bool),(∀ w':World,Vc.BelX xl w w'→Calls Tryz.prog 127 #[.string ⟨s0.toArray⟩] w' (Vc.Ret (.bool b1) w')) ∧
 ((b1=true)→(
 ((0≤x3)→(
 ((x3≤1000)→(
 ((x2=0)→(
 ∀ v0:Vc.OV,v0.1=Value.iface 183 (.agg #[.int .i64 x1,.int .i64 x2,.string ⟨s0.toArray⟩,.int .i64 x3,.int .i64 x4,.int .i64 x5,(if b0=true then .slice none 0 0 else .slice (some (Vc.qad p0 (Int.toNat x6) (Int.toNat x7))) (Int.toNat x6) (Int.toNat x7):Value)]) →
 ((x3=0)→(
 ((0≤x4)→( Vj___countdown_maker__make_T3 x4 x5 x6 b0 v0 x9 v new))∧(¬ (0≤x4)→(
 (.agg #[.tuple #[v0.1,.bool false],.agg #[.int .i64 x9]]:Value)=.agg #[v,.agg new]))))∧(¬ (x3=0)→(
 (.agg #[.tuple #[v0.1,.bool false],.agg #[.int .i64 x9]]:Value)=.agg #[v,.agg new]))))∧(¬ (x2=0)→(
 ∀ v0:Vc.OV,v0.1=Value.iface 183 (.agg #[.int .i64 x1,.int .i64 x2,.string ⟨s0.toArray⟩,.int .i64 x3,.int .i64 x4,.int .i64 x5,(if b0=true then .slice none 0 0 else .slice (some (Vc.qad p0 (Int.toNat x6) (Int.toNat x7))) (Int.toNat x6) (Int.toNat x7):Value)]) →
 ((0≤x4)→( Vj___countdown_maker__make_T3 x4 x5 x6 b0 v0 x9 v new))∧(¬ (0≤x4)→(
 (.agg #[.tuple #[v0.1,.bool false],.agg #[.int .i64 x9]]:Value)=.agg #[v,.agg new]))))))∧(¬ (x3≤1000)→( Vj___countdown_maker__make_T4 x1 x2 s0 x3 x4 x5 b0 p0 x6 x7 x9 v new))))∧(¬ (0≤x3)→( Vj___countdown_maker__make_T4 x1 x2 s0 x3 x4 x5 b0 p0 x6 x7 x9 v new))))∧(¬ (b1=true)→( Vj___countdown_maker__make_T4 x1 x2 s0 x3 x4 x5 b0 p0 x6 x7 x9 v new))))∧(¬ (x2≤2)→( Vj___countdown_maker__make_T4 x1 x2 s0 x3 x4 x5 b0 p0 x6 x7 x9 v new))))∧(¬ (0≤x2)→( Vj___countdown_maker__make_T4 x1 x2 s0 x3 x4 x5 b0 p0 x6 x7 x9 v new))))∧(¬ (x1=1)→(
 ((x2=0)→(
 ((s0=([]:List UInt8))→(
 ((x3=0)→(
 ((x4=0)→(
 ((x5=0)→(
 (0≤x6) ∧
 ((¬ (b0=true))∨(x6=0)) ∧
 ((2 < x6)→(
 (.agg #[.tuple #[.nilIface,.bool false],.agg #[.int .i64 x9]]:Value)=.agg #[v,.agg new]))∧(¬ (2 < x6)→(
 (0≤x6) ∧
 ((¬ (b0=true))∨(x6=0)) ∧
 ∃ (Io6:List Vc.Vl→Prop) (mo6:List Vc.Vl→Nat),Io6 [.l (([]:List Value)),.i 0,.i x9]∧∀ (l0:List Vc.OV) (x10:Int) (x11:Int),Io6 [.l ((l0.map (·.1)++(([]:List Value)))),.i x10,.i x11]→(
 ((x10 < x6)→(
 (¬ (b0=true)) ∧
 (0≤x10) ∧
 (x10 < x6) ∧
 ∃ (x12:Int),(Vc.hideB xl w).cell? ⟨p0.1,p0.2 + (Int.toNat x10) * 7 + 0,none⟩=some (.int .i64 x12) ∧
 ∃ (x13:Int),(Vc.hideB xl w).cell? ⟨p0.1,p0.2 + (Int.toNat x10) * 7 + 1,none⟩=some (.int .i64 x13) ∧
 ∃ (s1:List UInt8),(Vc.hideB xl w).cell? ⟨p0.1,p0.2 + (Int.toNat x10) * 7 + 2,none⟩=some (.string ⟨s1.toArray⟩) ∧
 ∃ (x14:Int),(Vc.hideB xl w).cell? ⟨p0.1,p0.2 + (Int.toNat x10) * 7 + 3,none⟩=some (.int .i64 x14) ∧
 ∃ (x15:Int),(Vc.hideB xl w).cell? ⟨p0.1,p0.2 + (Int.toNat x10) * 7 + 4,none⟩=some (.int .i64 x15) ∧
 ∃ (x16:Int),(Vc.hideB xl w).cell? ⟨p0.1,p0.2 + (Int.toNat x10) * 7 + 5,none⟩=some (.int .i64 x16) ∧
 ∃ (b1:Bool) (p1:Nat × Nat) (x17 x18:Int),(Vc.hideB xl w).cell? ⟨p0.1,p0.2 + (Int.toNat x10) * 7 + 6,none⟩=some ((if b1=true then .slice none 0 0 else .slice (some (Vc.qad p1 (Int.toNat x17) (Int.toNat x18))) (Int.toNat x17) (Int.toNat x18):Value)) ∧
 ∀ x19:Int,x19=IntKind.i64.wrap (x8 + 1) →
 ∃ (v0:Vc.OV),∃ (b2:Bool),∃ (x20:Int),(∀ (β:Nat→Nat) (w':World),Vc.BelX xl w w'→(((β 0=xl∨w.heap.size≤β 0)∧w'.heap[β 0]? = some (.cells #[.int .i64 x11] 163))∧True)→Calls Tryz.prog 96 #[Vc.ptr (β 0) 0,.agg #[.int .i64 x12,.int .i64 x13,.string ⟨s1.toArray⟩,.int .i64 x14,.int .i64 x15,.int .i64 x16,(if b1=true then .slice none 0 0 else .slice (some (Vc.qad p1 (Int.toNat x17) (Int.toNat x18))) (Int.toNat x17) (Int.toNat x18):Value)],.int .i64 x19] w' (Vc.Eff (.tuple #[v0.1,.bool b2]) (β 0) #[.int .i64 x20] 163 w')) ∧
 ((b2=true)→(
 ∀ x21:Int,x21=(((1 + (l0.length + 0)) / 1:Nat):Int) →
 (x21≤1073741824) ∧
 ∀ x22:Int,x22=IntKind.i64.wrap (x10 + 1) →
 Io6 [.l ((l0.map (·.1)++(([v0.1]:List Value)))),.i x22,.i x20]∧mo6 [.l ((l0.map (·.1)++(([v0.1]:List Value)))),.i x22,.i x20] < mo6 [.l ((l0.map (·.1)++(([]:List Value)))),.i x10,.i x11]))∧(¬ (b2=true)→(
 (.agg #[.tuple #[.nilIface,.bool false],.agg #[.int .i64 x20]]:Value)=.agg #[v,.agg new]))))∧(¬ (x10 < x6)→(
 ((x1=2)→(
 ∀ x12:Int,x12=(((0 + (l0.length + 0)) / 1:Nat):Int) →
 ((x12=1)→(
 ∀ x13:Int,x13=(((0 + (l0.length + 0)) / 1:Nat):Int) →
 (0 < x13) ∧
 ∃ (v0:Vc.OV),((l0.map (·.1)++(([]:List Value))))[(Int.toNat 0) * 1 + 0]? = some (v0.1) ∧
 ∀ v1:Vc.OV,v1.1=Value.iface 176 (.agg #[v0.1]) →
 (.agg #[.tuple #[v1.1,.bool true],.agg #[.int .i64 x11]]:Value)=.agg #[v,.agg new]))∧(¬ (x12=1)→( Vj___countdown_maker__make_T1 x1 l0 x11 v new))))∧(¬ (x1=2)→( Vj___countdown_maker__make_T1 x1 l0 x11 v new)))))))))∧(¬ (x5=0)→(
 (.agg #[.tuple #[.nilIface,.bool false],.agg #[.int .i64 x9]]:Value)=.agg #[v,.agg new]))))∧(¬ (x4=0)→(
 (.agg #[.tuple #[.nilIface,.bool false],.agg #[.int .i64 x9]]:Value)=.agg #[v,.agg new]))))∧(¬ (x3=0)→(
 (.agg #[.tuple #[.nilIface,.bool false],.agg #[.int .i64 x9]]:Value)=.agg #[v,.agg new]))))∧(¬ (s0=([]:List UInt8))→(
 (.agg #[.tuple #[.nilIface,.bool false],.agg #[.int .i64 x9]]:Value)=.agg #[v,.agg new]))))∧(¬ (x2=0)→(
 (.agg #[.tuple #[.nilIface,.bool false],.agg #[.int .i64 x9]]:Value)=.agg #[v,.agg new]))))))))):Calls Tryz.prog 96 #[Vc.ptr xl 0,.agg #[.int .i64 x1,.int .i64 x2,.string ⟨s0.toArray⟩,.int .i64 x3,.int .i64 x4,.int .i64 x5,(if b0=true then .slice none 0 0 else .slice (some (Vc.qad p0 (Int.toNat x6) (Int.toNat x7))) (Int.toNat x6) (Int.toNat x7):Value)],.int .i64 x8] w (Vc.Eff v xl new 163 w) :=
 Vc.zpk (zz [67] (by kernel_rfl)) [(1000000000013,.inv [(0,0)] [9,106] [12,13,11,107,108,109,110,111,112,113,114,115,116,117,118,119,120,121,122,123,124]),(900000009,.inv [] [98] []),(3000096,.inv [(0,0)] [0] [])] [] 200 Tryz.func96 (b:=(Tryz.f96.body).getD .skip) (by kernel_rfl) [.cv (.one (.loc 0 0)),.cv (.agg [.int .i64 (.var 1),.int .i64 (.var 2),.sv 0,.int .i64 (.var 3),.int .i64 (.var 4),.int .i64 (.var 5),.qsl 0 0 7 (.var 6) (.var 7)]),.cv (.one (.int .i64 (.var 8)))] [.int .i64 (.var 0)] 163 ⟨9,1,0,1,1,1,0⟩ [] (Vc.envOf [x0,x1,x2,x3,x4,x5,x6,x7,x8] [b0] [] [p0] [s0]) (by kernel_rfl) (by kernel_rfl) Vc.zg (by kernel_rfl) (by kernel_rfl) (by decide) (by kernel_rfl) hx h
theorem zdk(p0:Nat × Nat)(x0 x1 x2 x3 x4 x5 x6:Int)(b0:Bool)(s0:List UInt8)(w:World)(v:Value)(h :
 ∃ (v0:Vc.OV),∃ (b1:Bool),∃ (x7:Int),(∀ (β:Nat→Nat) (w':World),Below w.heap.size w w'→((w.heap.size≤β 1∧w'.heap[β 1]? = some (.cells #[.int .i64 0] 163))∧True)→Calls Tryz.prog 96 #[Vc.ptr (β 1) 0,.agg #[.int .i64 x0,.int .i64 x1,.string ⟨s0.toArray⟩,.int .i64 x2,.int .i64 x3,.int .i64 x4,(if b0=true then .slice none 0 0 else .slice (some (Vc.qad p0 (Int.toNat x5) (Int.toNat x6))) (Int.toNat x5) (Int.toNat x6):Value)],.int .i64 1] w' (Vc.Eff (.tuple #[v0.1,.bool b1]) (β 1) #[.int .i64 x7] 163 w')) ∧
 (.tuple #[v0.1,.bool b1]:Value)=v):Calls Tryz.prog 49 #[.agg #[.int .i64 x0,.int .i64 x1,.string ⟨s0.toArray⟩,.int .i64 x2,.int .i64 x3,.int .i64 x4,(if b0=true then .slice none 0 0 else .slice (some (Vc.qad p0 (Int.toNat x5) (Int.toNat x6))) (Int.toNat x5) (Int.toNat x6):Value)]] w (Vc.Ret v w) :=
 Vc.zi base [(3000096,.inv [(0,0)] [0] [])] [] 200 Tryz.func49 (b:=(Tryz.f49.body).getD .skip) (by kernel_rfl) [.cv (.agg [.int .i64 (.var 0),.int .i64 (.var 1),.sv 0,.int .i64 (.var 2),.int .i64 (.var 3),.int .i64 (.var 4),.qsl 0 0 7 (.var 5) (.var 6)])] ⟨7,1,0,1,0,1,0⟩ [] (Vc.envOf [x0,x1,x2,x3,x4,x5,x6] [b0] [] [p0] [s0]) (by kernel_rfl) Vc.zg (by kernel_rfl) (by kernel_rfl) h
end Go.Proofs.YtdjgnbkclcjiiaaGreatDoor
end
section
set_option linter.unusedVariables false
set_option linter.unusedSimpArgs false
set_option maxRecDepth 4000
namespace Go.Proofs.YtdjgnbkclcjiiaaGreatDoor
open Go Go.RowKit Vc
attribute [local irreducible] Go.Calls
theorem zkz(c:UInt8)(w:World):Calls Tryz.prog 113 #[.int .u8 (c.toNat:Int)] w (Vc.Ret (.bool (letB c)) w):=by
 refine zvh _ w _ (iteI (fun h => ?_) (fun h => ?_))
 all_goals (refine zwa ?_;unfold letB;rw [Bool.eq_iff_iff];simp;omega)
theorem zfx(c:UInt8)(w:World):Calls Tryz.prog 114 #[.int .u8 (c.toNat:Int)] w (Vc.Ret (.bool (markB c)) w):=by
 have e:markB c=decide ((97≤c.toNat∧c.toNat≤122)∨(48≤c.toNat∧c.toNat≤57)∨c.toNat=45):=by
  unfold markB letB digB;rw [Bool.eq_iff_iff];simp only [Bool.or_eq_true,Bool.and_eq_true,decide_eq_true_eq,or_assoc]
 refine zck _ w _ (iteI (fun h=>iteI (fun h2 => ?_) (fun h2=>iteI (fun h3=>iteI (fun h4 => ?_) (fun h4 => ?_)) (fun h3 => ?_))) (fun h=>iteI (fun h3=>iteI (fun h4 => ?_) (fun h4 => ?_)) (fun h3 => ?_)))
 all_goals (refine zwa ?_;rw [e,Bool.eq_iff_iff];simp;omega)
theorem zhj{s:List UInt8}(h:¬ (1≤((s.length:Nat):Int)∧((s.length:Nat):Int)≤32)):nameB s=false:=by
 by_cases h1:1≤s.length
 ·have:¬ s.length≤32:=by omega
  simp [nameB,this]
 ·simp [nameB,h1]
def msN(n:Nat)(L:List Vl):Nat:=match L with
 | [.b _,.i i]=>n - i.toNat
 | _=>0
theorem zdr{w:World}(hV:Vg_0 w)(s:List UInt8):Calls Tryz.prog 127 #[.string ⟨s.toArray⟩] w (Vc.Ret (.bool (nameB s)) w):=by
 refine zgj s w _ ?_;rintro x0 rfl;refine iteI (fun h1=>iteI (fun h2 => ?_) (fun h2=>by rw [zhj (by omega)])) (fun h1=>by rw [zhj (by omega)]);rintro x1 rfl;refine⟨by omega, ?_⟩;rintro x2 rfl
 obtain⟨c,r,rfl⟩:∃ c r,s=c::r:=by
  cases s with
  | nil=>simp at h1
  | cons c r=>exact⟨c,r,rfl⟩
 have hl32:(c::r).length≤32:=by omega
 refine⟨_,fun w' _=>zkz c w',iteI (fun hl => ?_) (fun hl => ?_)⟩;rotate_left
 ·refine zwa ?_;simp only [nameB];rw [Bool.eq_false_iff.2 hl];simp
 refine⟨hV,iteI (fun he=>by rw [he];rfl) (fun he=>⟨hV,iteI (fun he2=>by rw [he2];rfl) (fun he2 => ?_)⟩)⟩
 have fin:nameB (c::r)=(c::r).all markB:=by
  have a1:decide ((c::r)=wMost)=false:=decide_eq_false he;have a2:decide ((c::r)=wLeast)=false:=decide_eq_false he2;have a3:decide (1≤(c::r).length)=true:=decide_eq_true (by simp);have a4:decide ((c::r).length≤32)=true:=decide_eq_true hl32;unfold nameB;rw [a1,a2,a3,a4];simp only [hl,Bool.not_false,Bool.and_true,Bool.true_and]
 rw [fin];clear fin he he2 hl;generalize (c::r)=s at *;intro l0 hl0 x3 hx3;have hlen:l0.length=s.length:=by have:=congrArg List.length hl0;simpa using this
 have hx:x3=(s.length:Nat):=by rw [hx3];simp only [Nat.zero_add,Nat.add_zero,Nat.div_one,hlen]
 subst hx;clear hx3;refine⟨fun L=>∃ (b:Bool) (i:Nat),L=[.b b,.i i]∧i≤s.length∧(s.take i).all markB=true,msN s.length,⟨false,0,rfl,Nat.zero_le _,rfl⟩, ?_⟩;rintro b1 x4 ⟨b,i,hy,hi,hA⟩;simp only [List.cons.injEq,Vl.i.injEq,Vl.b.injEq,and_true]at hy;obtain⟨rfl,rfl⟩:=hy;refine iteI (fun hlt => ?_) (fun hge => ?_)
 ·have hi':i < s.length:=by omega
  have hs:s[i]? = some s[i]:=List.getElem?_eq_getElem hi';generalize s[i]=a at hs;rintro x5 hx5;have hx:x5=(s.length:Nat):=by rw [hx5];simp only [Nat.zero_add,Nat.add_zero,Nat.div_one,hlen]
  subst hx;refine⟨by omega,by omega,((a.toNat:Nat):Int), ?_,_,fun w' _=>zfx a w',iteI (fun hm => ?_) (fun hm => ?_)⟩
  ·rw [hl0,List.append_nil,Int.toNat_natCast,Nat.mul_one,Nat.add_zero,List.getElem?_map,hs];rfl
  ·rintro x7 rfl;rw [ze (by omega)];refine⟨⟨b1,i + 1,rfl,by omega, ?_⟩,by simp only [msN];omega⟩;rw [List.take_add_one,hs,List.all_append,hA];simp [hm]
  ·refine zwa ?_;symm;rw [Bool.eq_false_iff];intro hall;exact hm (List.all_eq_true.1 hall a (List.mem_of_getElem? hs))
 ·obtain rfl:i=s.length:=by omega
  rw [List.take_length]at hA;rw [hA]
theorem zfda{x y:Nat}{w w':World}{a:Addr}{u:Value}(hb:BelX x w w')(hy:y=x∨w.heap.size≤y)(h:(hideB x w).cell? a=some u):(hideB y w').cell? a=some u:=by
 obtain⟨h1,h2⟩:=zhp h;have hlt:=World.block_lt_of_cell? _ _ h2;rw [← h2];unfold World.cell? hideB;rw [Array.getElem?_setIfInBounds_ne (by omega),hb.block a.block hlt h1]
theorem zgda{y:Nat}{w w':World}{a:Addr}{u:Value}(hb:Below w.heap.size w w')(hy:w.heap.size≤y)(h:w.cell? a=some u):(hideB y w').cell? a=some u:=by
 have hlt:=World.block_lt_of_cell? _ _ h;rw [← h];unfold World.cell? hideB;rw [Array.getElem?_setIfInBounds_ne (by omega),hb.block a.block hlt]
theorem sl_y{x y sz:Nat}{w w':World}{v:Value}{xs:List Value}(hb:BelX x w w')(hy:y=x∨w.heap.size≤y)(h:SlAt (hideB x w) v sz xs):SlAt (hideB y w') v sz xs:=by
 rcases h with h | h | ⟨b,o,len,cap,h1,h2,h3⟩
 ·exact .inl h
 ·exact .inr (.inl h)
 ·exact .inr (.inr ⟨b,o,len,cap,h1,h2,fun j u hj=>zfda hb hy (h3 j u hj)⟩)
theorem sl_n{y sz:Nat}{w w':World}{v:Value}{xs:List Value}(hb:Below w.heap.size w w')(hy:w.heap.size≤y)(h:SlAt w v sz xs):SlAt (hideB y w') v sz xs:=by
 rcases h with h | h | ⟨b,o,len,cap,h1,h2,h3⟩
 ·exact .inl h
 ·exact .inr (.inl h)
 ·exact .inr (.inr ⟨b,o,len,cap,h1,h2,fun j u hj=>zgda hb hy (h3 j u hj)⟩)
mutual
theorem RlAt.y{x y:Nat}{w w':World}(hb:BelX x w w')(hy:y=x∨w.heap.size≤y):∀ {r:Rl},RlAt (hideB x w) r→RlAt (hideB y w') r
  | .mk _ _ _ _ _ _ v ks,h=>by
    simp only [RlAt]at h ⊢;exact⟨sl_y hb hy h.1,RlAtL.y hb hy h.2⟩
theorem RlAtL.y{x y:Nat}{w w':World}(hb:BelX x w w')(hy:y=x∨w.heap.size≤y):∀ {l:List Rl},RlAtL (hideB x w) l→RlAtL (hideB y w') l
  | [],h=>trivial
  | r::l,h=>by
    simp only [RlAtL]at h ⊢;exact⟨RlAt.y hb hy h.1,RlAtL.y hb hy h.2⟩
end
mutual
theorem RlAt.n{y:Nat}{w w':World}(hb:Below w.heap.size w w')(hy:w.heap.size≤y):∀ {r:Rl},RlAt w r→RlAt (hideB y w') r
  | .mk _ _ _ _ _ _ v ks,h=>by
    simp only [RlAt]at h ⊢;exact⟨sl_n hb hy h.1,RlAtL.n hb hy h.2⟩
theorem RlAtL.n{y:Nat}{w w':World}(hb:Below w.heap.size w w')(hy:w.heap.size≤y):∀ {l:List Rl},RlAtL w l→RlAtL (hideB y w') l
  | [],h=>trivial
  | r::l,h=>by
    simp only [RlAtL]at h ⊢;exact⟨RlAt.n hb hy h.1,RlAtL.n hb hy h.2⟩
end
theorem zk{w:World}{v:Value}{l:List Rl}(h:SlAt w v 7 (l.flatMap rlc)):∃ (b0:Bool) (p0:Nat × Nat) (x1:Int),v=(if b0=true then .slice none 0 0 else .slice (some (Vc.qad p0 (Int.toNat (l.length:Int)) (Int.toNat x1))) (Int.toNat (l.length:Int)) (Int.toNat x1))∧(b0=true→l.length=0) ∧
  (∀ (i:Nat) (z:Rl),l[i]? = some z→w.cell? ⟨p0.1,p0.2 + i * 7 + 0,none⟩=some (.int .i64 z.op)∧w.cell? ⟨p0.1,p0.2 + i * 7 + 1,none⟩=some (.int .i64 z.ask)∧w.cell? ⟨p0.1,p0.2 + i * 7 + 2,none⟩=some (.string ⟨z.nm.toArray⟩) ∧
   w.cell? ⟨p0.1,p0.2 + i * 7 + 3,none⟩=some (.int .i64 z.wi)∧w.cell? ⟨p0.1,p0.2 + i * 7 + 4,none⟩=some (.int .i64 z.cm)∧w.cell? ⟨p0.1,p0.2 + i * 7 + 5,none⟩=some (.int .i64 z.n)∧w.cell? ⟨p0.1,p0.2 + i * 7 + 6,none⟩=some z.v):=by
 obtain⟨b0,p0,x1,h1,h2,h3⟩:=zyba h (by decide) (zxk zhf l);refine⟨b0,p0,x1,h1,h2,fun i p hp => ?_⟩;simp only [Nat.add_assoc]
 exact⟨h3 (i * 7 + 0) _ (zgf zhf hp (by decide)),h3 (i * 7 + 1) _ (zgf zhf hp (by decide)),h3 (i * 7 + 2) _ (zgf zhf hp (by decide)),h3 (i * 7 + 3) _ (zgf zhf hp (by decide)),
  h3 (i * 7 + 4) _ (zgf zhf hp (by decide)),h3 (i * 7 + 5) _ (zgf zhf hp (by decide)),h3 (i * 7 + 6) _ (zgf zhf hp (by decide))⟩
theorem zbe{b:Bool}{n:Nat}(h:b=true→n=0):(¬ b=true)∨((n:Int)=0):=by
 by_cases hb:b=true
 ·exact .inr (by rw [h hb];rfl)
 ·exact .inl hb
end Go.Proofs.YtdjgnbkclcjiiaaGreatDoor
end
