import Derived.Test.YtdjgnbkclcjiiaaGreatDoorG0
set_option linter.unusedVariables false
set_option maxRecDepth 100000
namespace Go.Proofs.YtdjgnbkclcjiiaaGreatDoor
open Go Go.RowKit
theorem zfc(s0 s1:List UInt8)(w:World)(v:Value)(h :
 ∀ x0:Int,x0=((s0.length:Nat):Int) →
 ∀ x1:Int,x1=((s1.length:Nat):Int) →
 ((x1≤x0)→(
 ∀ x2:Int,x2=((s1.length:Nat):Int) →
 ((0:Int)≤0∧(0:Int)≤x2∧x2≤(List.length s0:Int))∧∀ s2:List UInt8,s2=List.take (Int.toNat x2 - Int.toNat 0) (List.drop (Int.toNat 0) s0) →
 (.bool (decide (s2=s1)):Value)=v))∧(¬ (x1≤x0)→(
 (.bool false:Value)=v))):Calls Tryz.prog 150 #[.string ⟨s0.toArray⟩,.string ⟨s1.toArray⟩] w (Vc.Ret v w) :=
 Vc.zi base [] [] 200 Tryz.func150 (b:=(Tryz.f150.body).getD .skip) (by kernel_rfl) [.cv (.one (.sv 0)),.cv (.one (.sv 1))] ⟨0,0,0,0,0,2,0⟩ [] (Vc.envOf [] [] [] [] [s0,s1]) (by kernel_rfl) Vc.zg (by kernel_rfl) (by kernel_rfl) h
abbrev Vj_countdown_scan_T9(w:World)(x1:Int)(s0:List UInt8)(v:Value):Prop :=
 Vg_2 w ∧
 ∀ x15:Int,x15=IntKind.i64.wrap (x1 + 1) →
 ((0:Int)≤x1∧(x1:Int)≤x15∧x15≤(List.length s0:Int))∧∀ s6:List UInt8,s6=List.take (Int.toNat x15 - Int.toNat x1) (List.drop (Int.toNat x1) s0) →
 (.agg #[.int .i64 x1,.int .i64 x15,.string ⟨s6.toArray⟩,.bool false,.bool false]:Value)=v
abbrev Vj_countdown_scan_T8(w:World)(x1:Int)(s0:List UInt8)(v:Value):Prop :=
 Vg_2 w ∧
 ∀ x11:Int,x11=IntKind.i64.wrap (x1 + 2) →
 ((0:Int)≤x1∧(x1:Int)≤x11∧x11≤(List.length s0:Int))∧∀ s2:List UInt8,s2=List.take (Int.toNat x11 - Int.toNat x1) (List.drop (Int.toNat x1) s0) →
 (.agg #[.int .i64 x1,.int .i64 x11,.string ⟨s2.toArray⟩,.bool false,.bool false]:Value)=v
abbrev Vj_countdown_scan_T7(x10:Int)(x1:Int)(s0:List UInt8)(v:Value):Prop :=
 ∀ x14:Int,x14=IntKind.i64.wrap (x10 - x1) →
 ((0:Int)≤x1∧(x1:Int)≤x10∧x10≤(List.length s0:Int))∧∀ s1:List UInt8,s1=List.take (Int.toNat x10 - Int.toNat x1) (List.drop (Int.toNat x1) s0) →
 (.agg #[.int .i64 x1,.int .i64 x10,.string ⟨s1.toArray⟩,.bool true,.bool (decide (x14 > 10))]:Value)=v
abbrev Vj_countdown_scan_T6(x8:Int)(x1:Int)(s0:List UInt8)(v:Value):Prop :=
 ∀ x10:Int,x10=IntKind.i64.wrap (x8 - x1) →
 ((0:Int)≤x1∧(x1:Int)≤x8∧x8≤(List.length s0:Int))∧∀ s1:List UInt8,s1=List.take (Int.toNat x8 - Int.toNat x1) (List.drop (Int.toNat x1) s0) →
 (.agg #[.int .i64 x1,.int .i64 x8,.string ⟨s1.toArray⟩,.bool false,.bool (decide (x10 > 32))]:Value)=v
abbrev Vj_countdown_scan_T5(x11:Int)(x8:Int)(Ix8:List Vc.Vl→Prop)(mx8:List Vc.Vl→Nat)(x1:Int)(s0:List UInt8)(v:Value):Prop :=
 ((x11=45)→(
 ∀ x12:Int,x12=IntKind.i64.wrap (x8 + 1) →
 Ix8 [.i x12]∧mx8 [.i x12] < mx8 [.i x8]))∧(¬ (x11=45)→( Vj_countdown_scan_T6 x8 x1 s0 v))
abbrev Vj_countdown_scan_T4(x11:Int)(x8:Int)(Ix8:List Vc.Vl→Prop)(mx8:List Vc.Vl→Nat)(x1:Int)(s0:List UInt8)(v:Value):Prop :=
 ((48≤x11)→(
 ((x11≤57)→(
 ∀ x12:Int,x12=IntKind.i64.wrap (x8 + 1) →
 Ix8 [.i x12]∧mx8 [.i x12] < mx8 [.i x8]))∧(¬ (x11≤57)→( Vj_countdown_scan_T5 x11 x8 Ix8 mx8 x1 s0 v))))∧(¬ (48≤x11)→( Vj_countdown_scan_T5 x11 x8 Ix8 mx8 x1 s0 v))
abbrev Vj_countdown_scan_T3(w:World)(s0:List UInt8)(x1:Int)(v:Value):Prop :=
 Vg_2 w ∧
 ∀ x10:Int,x10=((s0.length:Nat):Int) →
 ((0:Int)≤x1∧(x1:Int)≤x10∧x10≤(List.length s0:Int))∧∀ s1:List UInt8,s1=List.take (Int.toNat x10 - Int.toNat x1) (List.drop (Int.toNat x1) s0) →
 ∃ (b0:Bool),(Vq w 150 #[.string ⟨s1.toArray⟩,.string ⟨(([60,61]:List UInt8)).toArray⟩] (.bool b0)) ∧
 ((b0=true)→( Vj_countdown_scan_T8 w x1 s0 v))∧(¬ (b0=true)→(
 Vg_2 w ∧
 ∀ x11:Int,x11=((s0.length:Nat):Int) →
 ((0:Int)≤x1∧(x1:Int)≤x11∧x11≤(List.length s0:Int))∧∀ s2:List UInt8,s2=List.take (Int.toNat x11 - Int.toNat x1) (List.drop (Int.toNat x1) s0) →
 ∃ (b1:Bool),(Vq w 150 #[.string ⟨s2.toArray⟩,.string ⟨(([62,61]:List UInt8)).toArray⟩] (.bool b1)) ∧
 ((b1=true)→( Vj_countdown_scan_T8 w x1 s0 v))∧(¬ (b1=true)→(
 Vg_2 w ∧
 ∀ x12:Int,x12=((s0.length:Nat):Int) →
 ((0:Int)≤x1∧(x1:Int)≤x12∧x12≤(List.length s0:Int))∧∀ s3:List UInt8,s3=List.take (Int.toNat x12 - Int.toNat x1) (List.drop (Int.toNat x1) s0) →
 ∃ (b2:Bool),(Vq w 150 #[.string ⟨s3.toArray⟩,.string ⟨(([61,61]:List UInt8)).toArray⟩] (.bool b2)) ∧
 ((b2=true)→( Vj_countdown_scan_T8 w x1 s0 v))∧(¬ (b2=true)→(
 Vg_2 w ∧
 ∀ x13:Int,x13=((s0.length:Nat):Int) →
 ((0:Int)≤x1∧(x1:Int)≤x13∧x13≤(List.length s0:Int))∧∀ s4:List UInt8,s4=List.take (Int.toNat x13 - Int.toNat x1) (List.drop (Int.toNat x1) s0) →
 ∃ (b3:Bool),(Vq w 150 #[.string ⟨s4.toArray⟩,.string ⟨(([33,61]:List UInt8)).toArray⟩] (.bool b3)) ∧
 ((b3=true)→( Vj_countdown_scan_T8 w x1 s0 v))∧(¬ (b3=true)→(
 Vg_2 w ∧
 ∀ x14:Int,x14=((s0.length:Nat):Int) →
 ((0:Int)≤x1∧(x1:Int)≤x14∧x14≤(List.length s0:Int))∧∀ s5:List UInt8,s5=List.take (Int.toNat x14 - Int.toNat x1) (List.drop (Int.toNat x1) s0) →
 ∃ (b4:Bool),(Vq w 150 #[.string ⟨s5.toArray⟩,.string ⟨(([60]:List UInt8)).toArray⟩] (.bool b4)) ∧
 ((b4=true)→( Vj_countdown_scan_T9 w x1 s0 v))∧(¬ (b4=true)→(
 Vg_2 w ∧
 ∀ x15:Int,x15=((s0.length:Nat):Int) →
 ((0:Int)≤x1∧(x1:Int)≤x15∧x15≤(List.length s0:Int))∧∀ s6:List UInt8,s6=List.take (Int.toNat x15 - Int.toNat x1) (List.drop (Int.toNat x1) s0) →
 ∃ (b5:Bool),(Vq w 150 #[.string ⟨s6.toArray⟩,.string ⟨(([62]:List UInt8)).toArray⟩] (.bool b5)) ∧
 ((b5=true)→( Vj_countdown_scan_T9 w x1 s0 v))∧(¬ (b5=true)→(
 Vg_2 w ∧
 ∀ x16:Int,x16=((s0.length:Nat):Int) →
 ((0:Int)≤x1∧(x1:Int)≤x16∧x16≤(List.length s0:Int))∧∀ s7:List UInt8,s7=List.take (Int.toNat x16 - Int.toNat x1) (List.drop (Int.toNat x1) s0) →
 ∃ (b6:Bool),(Vq w 150 #[.string ⟨s7.toArray⟩,.string ⟨(([124]:List UInt8)).toArray⟩] (.bool b6)) ∧
 ((b6=true)→( Vj_countdown_scan_T9 w x1 s0 v))∧(¬ (b6=true)→(
 Vg_2 w ∧
 ∀ x17:Int,x17=((s0.length:Nat):Int) →
 ((0:Int)≤x1∧(x1:Int)≤x17∧x17≤(List.length s0:Int))∧∀ s8:List UInt8,s8=List.take (Int.toNat x17 - Int.toNat x1) (List.drop (Int.toNat x1) s0) →
 ∃ (b7:Bool),(Vq w 150 #[.string ⟨s8.toArray⟩,.string ⟨(([38]:List UInt8)).toArray⟩] (.bool b7)) ∧
 ((b7=true)→( Vj_countdown_scan_T9 w x1 s0 v))∧(¬ (b7=true)→(
 Vg_2 w ∧
 ∀ x18:Int,x18=((s0.length:Nat):Int) →
 ((0:Int)≤x1∧(x1:Int)≤x18∧x18≤(List.length s0:Int))∧∀ s9:List UInt8,s9=List.take (Int.toNat x18 - Int.toNat x1) (List.drop (Int.toNat x1) s0) →
 ∃ (b8:Bool),(Vq w 150 #[.string ⟨s9.toArray⟩,.string ⟨(([33]:List UInt8)).toArray⟩] (.bool b8)) ∧
 ((b8=true)→( Vj_countdown_scan_T9 w x1 s0 v))∧(¬ (b8=true)→(
 Vg_2 w ∧
 ∀ x19:Int,x19=((s0.length:Nat):Int) →
 ((0:Int)≤x1∧(x1:Int)≤x19∧x19≤(List.length s0:Int))∧∀ s10:List UInt8,s10=List.take (Int.toNat x19 - Int.toNat x1) (List.drop (Int.toNat x1) s0) →
 ∃ (b9:Bool),(Vq w 150 #[.string ⟨s10.toArray⟩,.string ⟨(([40]:List UInt8)).toArray⟩] (.bool b9)) ∧
 ((b9=true)→( Vj_countdown_scan_T9 w x1 s0 v))∧(¬ (b9=true)→(
 Vg_2 w ∧
 ∀ x20:Int,x20=((s0.length:Nat):Int) →
 ((0:Int)≤x1∧(x1:Int)≤x20∧x20≤(List.length s0:Int))∧∀ s11:List UInt8,s11=List.take (Int.toNat x20 - Int.toNat x1) (List.drop (Int.toNat x1) s0) →
 ∃ (b10:Bool),(Vq w 150 #[.string ⟨s11.toArray⟩,.string ⟨(([41]:List UInt8)).toArray⟩] (.bool b10)) ∧
 ((b10=true)→( Vj_countdown_scan_T9 w x1 s0 v))∧(¬ (b10=true)→(
 Vg_2 w ∧
 ∀ x21:Int,x21=((s0.length:Nat):Int) →
 ((0:Int)≤x1∧(x1:Int)≤x21∧x21≤(List.length s0:Int))∧∀ s12:List UInt8,s12=List.take (Int.toNat x21 - Int.toNat x1) (List.drop (Int.toNat x1) s0) →
 ∃ (b11:Bool),(Vq w 150 #[.string ⟨s12.toArray⟩,.string ⟨(([44]:List UInt8)).toArray⟩] (.bool b11)) ∧
 ((b11=true)→( Vj_countdown_scan_T9 w x1 s0 v))∧(¬ (b11=true)→(
 Vg_2 w ∧
 ∀ x22:Int,x22=((s0.length:Nat):Int) →
 ((0:Int)≤x1∧(x1:Int)≤x22∧x22≤(List.length s0:Int))∧∀ s13:List UInt8,s13=List.take (Int.toNat x22 - Int.toNat x1) (List.drop (Int.toNat x1) s0) →
 ∃ (b12:Bool),(Vq w 150 #[.string ⟨s13.toArray⟩,.string ⟨(([45]:List UInt8)).toArray⟩] (.bool b12)) ∧
 ((b12=true)→( Vj_countdown_scan_T9 w x1 s0 v))∧(¬ (b12=true)→(
 (.agg #[.int .i64 x1,.int .i64 x1,.string ⟨(([]:List UInt8)).toArray⟩,.bool false,.bool true]:Value)=v))))))))))))))))))))))))))
abbrev Vj_countdown_scan_T2(s0:List UInt8)(x1:Int)(v:Value)(w:World):Prop :=
 ∀ x8:Int,x8=((s0.length:Nat):Int) →
 (0≤x1) ∧
 (x1 < x8) ∧
 ∀ x9:Int,x9=(((s0.getD (Int.toNat x1) 0).toNat:Nat):Int) →
 ((48≤x9)→(
 ((x9≤57)→(
 ∃ (Ix10:List Vc.Vl→Prop) (mx10:List Vc.Vl→Nat),Ix10 [.i x1]∧∀ (x10:Int),Ix10 [.i x10]→(
 ∀ x11:Int,x11=((s0.length:Nat):Int) →
 ((x10 < x11)→(
 ∀ x12:Int,x12=((s0.length:Nat):Int) →
 (0≤x10) ∧
 (x10 < x12) ∧
 ∀ x13:Int,x13=(((s0.getD (Int.toNat x10) 0).toNat:Nat):Int) →
 ((48≤x13)→(
 ((x13≤57)→(
 ∀ x14:Int,x14=IntKind.i64.wrap (x10 + 1) →
 Ix10 [.i x14]∧mx10 [.i x14] < mx10 [.i x10]))∧(¬ (x13≤57)→( Vj_countdown_scan_T7 x10 x1 s0 v))))∧(¬ (48≤x13)→( Vj_countdown_scan_T7 x10 x1 s0 v))))∧(¬ (x10 < x11)→( Vj_countdown_scan_T7 x10 x1 s0 v)))))∧(¬ (x9≤57)→( Vj_countdown_scan_T3 w s0 x1 v))))∧(¬ (48≤x9)→( Vj_countdown_scan_T3 w s0 x1 v))
abbrev Vj_countdown_scan_T1(s0:List UInt8)(x1:Int)(v:Value)(w:World):Prop :=
 ∀ x5:Int,x5=((s0.length:Nat):Int) →
 ((x1=x5)→(
 (.agg #[.int .i64 x1,.int .i64 x1,.string ⟨(([]:List UInt8)).toArray⟩,.bool false,.bool false]:Value)=v))∧(¬ (x1=x5)→(
 ∀ x6:Int,x6=((s0.length:Nat):Int) →
 (0≤x1) ∧
 (x1 < x6) ∧
 ∀ x7:Int,x7=(((s0.getD (Int.toNat x1) 0).toNat:Nat):Int) →
 ((97≤x7)→(
 ((x7≤122)→(
 ∃ (Ix8:List Vc.Vl→Prop) (mx8:List Vc.Vl→Nat),Ix8 [.i x1]∧∀ (x8:Int),Ix8 [.i x8]→(
 ∀ x9:Int,x9=((s0.length:Nat):Int) →
 ((x8 < x9)→(
 ∀ x10:Int,x10=((s0.length:Nat):Int) →
 (0≤x8) ∧
 (x8 < x10) ∧
 ∀ x11:Int,x11=(((s0.getD (Int.toNat x8) 0).toNat:Nat):Int) →
 ((97≤x11)→(
 ((x11≤122)→(
 ∀ x12:Int,x12=IntKind.i64.wrap (x8 + 1) →
 Ix8 [.i x12]∧mx8 [.i x12] < mx8 [.i x8]))∧(¬ (x11≤122)→( Vj_countdown_scan_T4 x11 x8 Ix8 mx8 x1 s0 v))))∧(¬ (97≤x11)→( Vj_countdown_scan_T4 x11 x8 Ix8 mx8 x1 s0 v))))∧(¬ (x8 < x9)→( Vj_countdown_scan_T6 x8 x1 s0 v)))))∧(¬ (x7≤122)→( Vj_countdown_scan_T2 s0 x1 v w))))∧(¬ (97≤x7)→( Vj_countdown_scan_T2 s0 x1 v w))))
theorem zak(x0:Int)(s0:List UInt8)(w:World)(v:Value)(h :
 ∃ (Ix1:List Vc.Vl→Prop) (mx1:List Vc.Vl→Nat),Ix1 [.i x0]∧∀ (x1:Int),Ix1 [.i x1]→(
 ∀ x2:Int,x2=((s0.length:Nat):Int) →
 ((x1 < x2)→(
 ∀ x3:Int,x3=((s0.length:Nat):Int) →
 (0≤x1) ∧
 (x1 < x3) ∧
 ∀ x4:Int,x4=(((s0.getD (Int.toNat x1) 0).toNat:Nat):Int) →
 ((x4=32)→(
 ∀ x5:Int,x5=IntKind.i64.wrap (x1 + 1) →
 Ix1 [.i x5]∧mx1 [.i x5] < mx1 [.i x1]))∧(¬ (x4=32)→( Vj_countdown_scan_T1 s0 x1 v w))))∧(¬ (x1 < x2)→( Vj_countdown_scan_T1 s0 x1 v w)))):Calls Tryz.prog 60 #[.string ⟨s0.toArray⟩,.int .i64 x0] w (Vc.Ret v w) :=
 Vc.zi (zz [111,112,117,113,115,114,116,118] (by kernel_rfl)) [(11000000000001,.inv [] [1] [7,8,9,10,11,12,13,14,15,16,17,18,19])] globs 200 Tryz.func60 (b:=(Tryz.f60.body).getD .skip) (by kernel_rfl) [.cv (.one (.sv 0)),.cv (.one (.int .i64 (.var 0)))] ⟨1,0,0,1,0,1,0⟩ [.glo 0 2] (Vc.envOf [x0] [] [] [(2,0)] [s0]) (by kernel_rfl) (Vc.zp (by kernel_rfl) rfl Vc.zg) (by kernel_rfl) (by kernel_rfl) h
abbrev Vj_strconv_Atoi_T4(w:World)(s0:List UInt8):Prop :=
 ∃ (x1:Int),∃ (v0:Vc.OV),(Vq w 186 #[.string ⟨s0.toArray⟩,.int .i64 10,.int .i64 0] (.tuple #[.int .i64 x1,v0.1])) ∧
 False
abbrev Vj_strconv_Atoi_T3(w:World)(s0:List UInt8)(v:Value):Prop :=
 ∀ v0:Vc.OV,v0.1=Value.iface 266 (.int .i64 2) →
 ∃ (v1:Vc.OV),(Vq w 182 #[.string ⟨(([65,116,111,105]:List UInt8)).toArray⟩,.string ⟨s0.toArray⟩,.int .i64 0,.int .i64 0,v0.1] (v1.1)) ∧
 (.tuple #[.int .i64 0,v1.1]:Value)=v
abbrev Vj_strconv_Atoi_T2(x7:Int)(x5:Int)(l0:List Vc.OV)(w:World)(s0:List UInt8)(v:Value)(x6:Int)(Ix6:List Vc.Vl→Prop)(mx6:List Vc.Vl→Nat):Prop :=
 ((x7 < x5)→(
 ∀ x8:Int,x8=(((0 + (l0.length + 0)) / 1:Nat):Int) →
 (0≤x7) ∧
 (x7 < x8) ∧
 ∃ (x9:Int),((l0.map (·.1)++(([]:List Value))))[(Int.toNat x7) * 1 + 0]? = some (.int .u8 x9) ∧
 ∀ x10:Int,x10=IntKind.u8.wrap (x9 - 48) →
 ((9 < x10)→( Vj_strconv_Atoi_T3 w s0 v))∧(¬ (9 < x10)→(
 ∀ x11:Int,x11=IntKind.i64.wrap (x6 * 10) →
 ∀ x12:Int,x12=IntKind.i64.wrap (x10) →
 ∀ x13:Int,x13=IntKind.i64.wrap (x11 + x12) →
 ∀ x14:Int,x14=IntKind.i64.wrap (x7 + 1) →
 Ix6 [.i x13,.i x14]∧mx6 [.i x13,.i x14] < mx6 [.i x6,.i x7]))))∧(¬ (x7 < x5)→(
 ∀ x8:Int,x8=((s0.length:Nat):Int) →
 (0 < x8) ∧
 ∀ x9:Int,x9=(((s0.getD (Int.toNat 0) 0).toNat:Nat):Int) →
 ((x9=45)→(
 ∀ x10:Int,x10=IntKind.i64.wrap (0 - x6) →
 (.tuple #[.int .i64 x10,.nilIface]:Value)=v))∧(¬ (x9=45)→(
 (.tuple #[.int .i64 x6,.nilIface]:Value)=v))))
abbrev Vj_strconv_Atoi_T1(s0:List UInt8)(w:World)(v:Value):Prop :=
 ∀ x3:Int,x3=((s0.length:Nat):Int) →
 ((0:Int)≤1∧(1:Int)≤x3∧x3≤(List.length s0:Int))∧∀ s1:List UInt8,s1=List.take (Int.toNat x3 - Int.toNat 1) (List.drop (Int.toNat 1) s0) →
 ∀ x4:Int,x4=((s1.length:Nat):Int) →
 ((x4 < 1)→( Vj_strconv_Atoi_T3 w s0 v))∧(¬ (x4 < 1)→(
 ∀ l0:List Vc.OV,l0.map (·.1)=s1.map Vc.u8V →
 ∀ x5:Int,x5=(((0 + (l0.length + 0)) / 1:Nat):Int) →
 ∃ (Ix6:List Vc.Vl→Prop) (mx6:List Vc.Vl→Nat),Ix6 [.i 0,.i 0]∧∀ (x6:Int) (x7:Int),Ix6 [.i x6,.i x7]→( Vj_strconv_Atoi_T2 x7 x5 l0 w s0 v x6 Ix6 mx6)))
theorem zsm(s0:List UInt8)(w:World)(v:Value)(h :
 ∀ x0:Int,x0=((s0.length:Nat):Int) →
 ((0 < x0)→(
 ((x0 < 19)→(
 ∀ x1:Int,x1=((s0.length:Nat):Int) →
 (0 < x1) ∧
 ∀ x2:Int,x2=(((s0.getD (Int.toNat 0) 0).toNat:Nat):Int) →
 ((x2=45)→( Vj_strconv_Atoi_T1 s0 w v))∧(¬ (x2=45)→(
 ∀ x3:Int,x3=((s0.length:Nat):Int) →
 (0 < x3) ∧
 ∀ x4:Int,x4=(((s0.getD (Int.toNat 0) 0).toNat:Nat):Int) →
 ((x4=43)→( Vj_strconv_Atoi_T1 s0 w v))∧(¬ (x4=43)→(
 ∀ l0:List Vc.OV,l0.map (·.1)=s0.map Vc.u8V →
 ∀ x5:Int,x5=(((0 + (l0.length + 0)) / 1:Nat):Int) →
 ∃ (Ix6:List Vc.Vl→Prop) (mx6:List Vc.Vl→Nat),Ix6 [.i 0,.i 0]∧∀ (x6:Int) (x7:Int),Ix6 [.i x6,.i x7]→( Vj_strconv_Atoi_T2 x7 x5 l0 w s0 v x6 Ix6 mx6)))))))∧(¬ (x0 < 19)→( Vj_strconv_Atoi_T4 w s0))))∧(¬ (0 < x0)→( Vj_strconv_Atoi_T4 w s0))):Calls Tryz.prog 174 #[.string ⟨s0.toArray⟩] w (Vc.Ret v w) :=
 Vc.zi (zz [181] (by kernel_rfl)) [(1000000000010,.inv [] [6,49] [2,3,50,51,52,8,53,54,55,56,57,58,59,60,61,62,63])] [] 200 Tryz.func174 (b:=(Tryz.f174.body).getD .skip) (by kernel_rfl) [.cv (.one (.sv 0))] ⟨0,0,0,0,0,1,0⟩ [] (Vc.envOf [] [] [] [] [s0]) (by kernel_rfl) Vc.zg (by kernel_rfl) (by kernel_rfl) h
theorem zge(p0:Nat × Nat)(s0:List UInt8)(w:World)(v:Value)(h :
 ∃ (b0:Bool),w.cell? ⟨p0.1,p0.2 + (Int.toNat 0) * 6 + 5,none⟩=some (.bool b0) ∧
 ((b0=true)→(
 (.bool false:Value)=v))∧(¬ (b0=true)→(
 ∃ (s1:List UInt8),w.cell? ⟨p0.1,p0.2 + (Int.toNat 0) * 6 + 3,none⟩=some (.string ⟨s1.toArray⟩) ∧
 (.bool (decide (s1=s0)):Value)=v))):Calls Tryz.prog 152 #[.pointer (some ⟨p0.1,p0.2 + (Int.toNat 0) * 6 + 0,none⟩),.string ⟨s0.toArray⟩] w (Vc.Ret v w) :=
 Vc.zi base [] [] 200 Tryz.func152 (b:=(Tryz.f152.body).getD .skip) (by kernel_rfl) [.cv (.one (.ext 0 (.lit (0)) 6 0)),.cv (.one (.sv 0))] ⟨0,0,0,1,0,1,0⟩ [] (Vc.envOf [] [] [] [p0] [s0]) (by kernel_rfl) Vc.zg (by kernel_rfl) (by kernel_rfl) h
theorem zmb(x0 x1:Int)(b0 b1:Bool)(s0 s1 s2:List UInt8)(xl:Nat)(w:World)(v:Value)(new:Array Value)(hx:w.heap[xl]? = some (.cells #[.string ⟨s0.toArray⟩,.int .i64 x0,.int .i64 x1,.string ⟨s1.toArray⟩,.bool b0,.bool b1] 114))(h :
 ∃ (b2:Bool),(∀ (β:Nat→Nat) (w':World),Vc.BelX xl w w'→(((β 0=xl∨w.heap.size≤β 0)∧w'.heap[β 0]? = some (.cells #[.string ⟨s0.toArray⟩,.int .i64 x0,.int .i64 x1,.string ⟨s1.toArray⟩,.bool b0,.bool b1] 114))∧True)→Calls Tryz.prog 152 #[Vc.ptr (β 0) 0,.string ⟨s2.toArray⟩] w' (Vc.Ret (.bool b2) w')) ∧
 ((b2=true)→(
 ∃ (x2:Int),∃ (x3:Int),∃ (s3:List UInt8),∃ (b3:Bool),∃ (b4:Bool),(∀ w':World,Vc.BelX xl w w'→Calls Tryz.prog 60 #[.string ⟨s0.toArray⟩,.int .i64 x1] w' (Vc.Ret (.agg #[.int .i64 x2,.int .i64 x3,.string ⟨s3.toArray⟩,.bool b3,.bool b4]) w')) ∧
 (.agg #[.bool true,.agg #[.string ⟨s0.toArray⟩,.int .i64 x2,.int .i64 x3,.string ⟨s3.toArray⟩,.bool b3,.bool b4]]:Value)=.agg #[v,.agg new]))∧(¬ (b2=true)→(
 (.agg #[.bool false,.agg #[.string ⟨s0.toArray⟩,.int .i64 x0,.int .i64 x1,.string ⟨s1.toArray⟩,.bool b0,.bool b1]]:Value)=.agg #[v,.agg new]))):Calls Tryz.prog 120 #[Vc.ptr xl 0,.string ⟨s2.toArray⟩] w (Vc.Eff v xl new 114 w) :=
 Vc.zpk base [] [] 200 Tryz.func120 (b:=(Tryz.f120.body).getD .skip) (by kernel_rfl) [.cv (.one (.loc 0 0)),.cv (.one (.sv 2))] [.sv 0,.int .i64 (.var 0),.int .i64 (.var 1),.sv 1,.bool (.var 0),.bool (.var 1)] 114 ⟨2,2,0,0,1,3,0⟩ [] (Vc.envOf [x0,x1] [b0,b1] [] [] [s0,s1,s2]) (by kernel_rfl) (by kernel_rfl) Vc.zg (by kernel_rfl) (by kernel_rfl) (by decide) (by kernel_rfl) hx h
theorem znd(x0 x1:Int)(b0 b1:Bool)(s0 s1 s2:List UInt8)(xl:Nat)(w:World)(v:Value)(new:Array Value)(hx:w.heap[xl]? = some (.cells #[.string ⟨s0.toArray⟩,.int .i64 x0,.int .i64 x1,.string ⟨s1.toArray⟩,.bool b0,.bool b1] 114))(h :
 ∃ (b2:Bool),∃ (x2:Int),∃ (x3:Int),∃ (s3:List UInt8),∃ (b3:Bool),∃ (b4:Bool),(∀ (β:Nat→Nat) (w':World),Vc.BelX xl w w'→(((β 0=xl∨w.heap.size≤β 0)∧w'.heap[β 0]? = some (.cells #[.string ⟨s0.toArray⟩,.int .i64 x0,.int .i64 x1,.string ⟨s1.toArray⟩,.bool b0,.bool b1] 114))∧True)→Calls Tryz.prog 120 #[Vc.ptr (β 0) 0,.string ⟨s2.toArray⟩] w' (Vc.Eff (.bool b2) (β 0) #[.string ⟨s0.toArray⟩,.int .i64 x2,.int .i64 x3,.string ⟨s3.toArray⟩,.bool b3,.bool b4] 114 w')) ∧
 ((b2=true)→(
 (.agg #[.tuple #[],.agg #[.string ⟨s0.toArray⟩,.int .i64 x2,.int .i64 x3,.string ⟨s3.toArray⟩,.bool b3,.bool b4]]:Value)=.agg #[v,.agg new]))∧(¬ (b2=true)→(
 ∀ v0:Vc.OV,v0.1=Value.iface 108 (.agg #[.int .i64 x2,.int .i64 5]) →
 ∀ w':World,Vc.BelX xl w w'→False))):Calls Tryz.prog 162 #[Vc.ptr xl 0,.string ⟨s2.toArray⟩] w (Vc.Eff v xl new 114 w) :=
 Vc.zpk (zz [62] (by kernel_rfl)) [(3000120,.inv [(0,1),(0,2),(0,3),(0,4),(0,5)] [0] [])] [] 200 Tryz.func162 (b:=(Tryz.f162.body).getD .skip) (by kernel_rfl) [.cv (.one (.loc 0 0)),.cv (.one (.sv 2))] [.sv 0,.int .i64 (.var 0),.int .i64 (.var 1),.sv 1,.bool (.var 0),.bool (.var 1)] 114 ⟨2,2,0,0,1,3,0⟩ [] (Vc.envOf [x0,x1] [b0,b1] [] [] [s0,s1,s2]) (by kernel_rfl) (by kernel_rfl) Vc.zg (by kernel_rfl) (by kernel_rfl) (by decide) (by kernel_rfl) hx h
theorem zyc(x0 x1:Int)(b0 b1:Bool)(s0 s1 s2:List UInt8)(xl:Nat)(w:World)(v:Value)(hx:w.heap[xl]? = some (.cells #[.string ⟨s0.toArray⟩,.int .i64 x0,.int .i64 x1,.string ⟨s1.toArray⟩,.bool b0,.bool b1] 114))(h :
 ∃ (b2:Bool),∃ (x2:Int),∃ (x3:Int),∃ (s3:List UInt8),∃ (b3:Bool),∃ (b4:Bool),(∀ (β:Nat→Nat) (w':World),Vc.BelX xl w w'→(((β 0=xl∨w.heap.size≤β 0)∧w'.heap[β 0]? = some (.cells #[.string ⟨s0.toArray⟩,.int .i64 x0,.int .i64 x1,.string ⟨s1.toArray⟩,.bool b0,.bool b1] 114))∧True)→Calls Tryz.prog 120 #[Vc.ptr (β 0) 0,.string ⟨s2.toArray⟩] w' (Vc.Eff (.bool b2) (β 0) #[.string ⟨s0.toArray⟩,.int .i64 x2,.int .i64 x3,.string ⟨s3.toArray⟩,.bool b3,.bool b4] 114 w')) ∧
 ((b2=true)→(
 False))∧(¬ (b2=true)→(
 ∀ v0:Vc.OV,v0.1=Value.iface 108 (.agg #[.int .i64 x2,.int .i64 5]) →
 ∀ w':World,Vc.BelX xl w w'→(v0.1:Value)=v))):Calls Tryz.prog 162 #[Vc.ptr xl 0,.string ⟨s2.toArray⟩] w (Vc.PanL v [xl] w) :=
 Vc.zpe (zz [62] (by kernel_rfl)) [(3000120,.inv [(0,1),(0,2),(0,3),(0,4),(0,5)] [0] [])] [] 200 Tryz.func162 (b:=(Tryz.f162.body).getD .skip) (by kernel_rfl) [.cv (.one (.loc 0 0)),.cv (.one (.sv 2))] [.sv 0,.int .i64 (.var 0),.int .i64 (.var 1),.sv 1,.bool (.var 0),.bool (.var 1)] 114 ⟨2,2,0,0,1,3,0⟩ [] (Vc.envOf [x0,x1] [b0,b1] [] [] [s0,s1,s2]) (by kernel_rfl) (by kernel_rfl) Vc.zg (by kernel_rfl) (by kernel_rfl) (by decide) (by kernel_rfl) hx h
theorem zod(x0 x1:Int)(b0 b1:Bool)(s0 s1:List UInt8)(xl:Nat)(w:World)(v:Value)(new:Array Value)(hx:w.heap[xl]? = some (.cells #[.string ⟨s0.toArray⟩,.int .i64 x0,.int .i64 x1,.string ⟨s1.toArray⟩,.bool b0,.bool b1] 114))(h :
 ((b1=true)→(
 ∀ v0:Vc.OV,v0.1=Value.iface 108 (.agg #[.int .i64 x0,.int .i64 5]) →
 ∀ w':World,Vc.BelX xl w w'→False))∧(¬ (b1=true)→(
 ∃ (b2:Bool),(∀ w':World,Vc.BelX xl w w'→Calls Tryz.prog 127 #[.string ⟨s1.toArray⟩] w' (Vc.Ret (.bool b2) w')) ∧
 ((b2=true)→(
 ∃ (b3:Bool),∃ (x2:Int),∃ (x3:Int),∃ (s2:List UInt8),∃ (b4:Bool),∃ (b5:Bool),(∀ (β:Nat→Nat) (w':World),Vc.BelX xl w w'→(((β 0=xl∨w.heap.size≤β 0)∧w'.heap[β 0]? = some (.cells #[.string ⟨s0.toArray⟩,.int .i64 x0,.int .i64 x1,.string ⟨s1.toArray⟩,.bool b0,.bool b1] 114))∧True)→Calls Tryz.prog 120 #[Vc.ptr (β 0) 0,.string ⟨s1.toArray⟩] w' (Vc.Eff (.bool b3) (β 0) #[.string ⟨s0.toArray⟩,.int .i64 x2,.int .i64 x3,.string ⟨s2.toArray⟩,.bool b4,.bool b5] 114 w')) ∧
 (.agg #[.string ⟨s1.toArray⟩,.agg #[.string ⟨s0.toArray⟩,.int .i64 x2,.int .i64 x3,.string ⟨s2.toArray⟩,.bool b4,.bool b5]]:Value)=.agg #[v,.agg new]))∧(¬ (b2=true)→(
 ∀ v0:Vc.OV,v0.1=Value.iface 108 (.agg #[.int .i64 x0,.int .i64 5]) →
 ∀ w':World,Vc.BelX xl w w'→False))))):Calls Tryz.prog 163 #[Vc.ptr xl 0] w (Vc.Eff v xl new 114 w) :=
 Vc.zpk (zz [62] (by kernel_rfl)) [(3000120,.inv [(0,1),(0,2),(0,3),(0,4),(0,5)] [0] [])] [] 200 Tryz.func163 (b:=(Tryz.f163.body).getD .skip) (by kernel_rfl) [.cv (.one (.loc 0 0))] [.sv 0,.int .i64 (.var 0),.int .i64 (.var 1),.sv 1,.bool (.var 0),.bool (.var 1)] 114 ⟨2,2,0,0,1,2,0⟩ [] (Vc.envOf [x0,x1] [b0,b1] [] [] [s0,s1]) (by kernel_rfl) (by kernel_rfl) Vc.zg (by kernel_rfl) (by kernel_rfl) (by decide) (by kernel_rfl) hx h
theorem zzc(x0 x1:Int)(b0 b1:Bool)(s0 s1:List UInt8)(xl:Nat)(w:World)(v:Value)(hx:w.heap[xl]? = some (.cells #[.string ⟨s0.toArray⟩,.int .i64 x0,.int .i64 x1,.string ⟨s1.toArray⟩,.bool b0,.bool b1] 114))(h :
 ((b1=true)→(
 ∀ v0:Vc.OV,v0.1=Value.iface 108 (.agg #[.int .i64 x0,.int .i64 5]) →
 ∀ w':World,Vc.BelX xl w w'→(v0.1:Value)=v))∧(¬ (b1=true)→(
 ∃ (b2:Bool),(∀ w':World,Vc.BelX xl w w'→Calls Tryz.prog 127 #[.string ⟨s1.toArray⟩] w' (Vc.Ret (.bool b2) w')) ∧
 ((b2=true)→(
 ∃ (b3:Bool),∃ (x2:Int),∃ (x3:Int),∃ (s2:List UInt8),∃ (b4:Bool),∃ (b5:Bool),(∀ (β:Nat→Nat) (w':World),Vc.BelX xl w w'→(((β 0=xl∨w.heap.size≤β 0)∧w'.heap[β 0]? = some (.cells #[.string ⟨s0.toArray⟩,.int .i64 x0,.int .i64 x1,.string ⟨s1.toArray⟩,.bool b0,.bool b1] 114))∧True)→Calls Tryz.prog 120 #[Vc.ptr (β 0) 0,.string ⟨s1.toArray⟩] w' (Vc.Eff (.bool b3) (β 0) #[.string ⟨s0.toArray⟩,.int .i64 x2,.int .i64 x3,.string ⟨s2.toArray⟩,.bool b4,.bool b5] 114 w')) ∧
 False))∧(¬ (b2=true)→(
 ∀ v0:Vc.OV,v0.1=Value.iface 108 (.agg #[.int .i64 x0,.int .i64 5]) →
 ∀ w':World,Vc.BelX xl w w'→(v0.1:Value)=v))))):Calls Tryz.prog 163 #[Vc.ptr xl 0] w (Vc.PanL v [xl] w) :=
 Vc.zpe (zz [62] (by kernel_rfl)) [(3000120,.inv [(0,1),(0,2),(0,3),(0,4),(0,5)] [0] [])] [] 200 Tryz.func163 (b:=(Tryz.f163.body).getD .skip) (by kernel_rfl) [.cv (.one (.loc 0 0))] [.sv 0,.int .i64 (.var 0),.int .i64 (.var 1),.sv 1,.bool (.var 0),.bool (.var 1)] 114 ⟨2,2,0,0,1,2,0⟩ [] (Vc.envOf [x0,x1] [b0,b1] [] [] [s0,s1]) (by kernel_rfl) (by kernel_rfl) Vc.zg (by kernel_rfl) (by kernel_rfl) (by decide) (by kernel_rfl) hx h
abbrev Vj___countdown_parser__number_T1(x9:Int)(x3:Int)(s0:List UInt8)(x7:Int)(x8:Int)(s3:List UInt8)(b6:Bool)(b7:Bool)(v:Value)(new:Array Value)(x0:Int)(w:World)(xl:Nat):Prop :=
 ((x9≤x3)→(
 (.agg #[.int .i64 x9,.agg #[.string ⟨s0.toArray⟩,.int .i64 x7,.int .i64 x8,.string ⟨s3.toArray⟩,.bool b6,.bool b7]]:Value)=.agg #[v,.agg new]))∧(¬ (x9≤x3)→(
 ∀ v1:Vc.OV,v1.1=Value.iface 108 (.agg #[.int .i64 x0,.int .i64 4]) →
 ∀ w':World,Vc.BelX xl w w'→False))
theorem zdb(x0 x1 x2 x3:Int)(b0 b1:Bool)(s0 s1:List UInt8)(xl:Nat)(w:World)(v:Value)(new:Array Value)(hx:w.heap[xl]? = some (.cells #[.string ⟨s0.toArray⟩,.int .i64 x0,.int .i64 x1,.string ⟨s1.toArray⟩,.bool b0,.bool b1] 114))(h :
 ∃ (b2:Bool),∃ (x4:Int),∃ (x5:Int),∃ (s2:List UInt8),∃ (b3:Bool),∃ (b4:Bool),(∀ (β:Nat→Nat) (w':World),Vc.BelX xl w w'→(((β 0=xl∨w.heap.size≤β 0)∧w'.heap[β 0]? = some (.cells #[.string ⟨s0.toArray⟩,.int .i64 x0,.int .i64 x1,.string ⟨s1.toArray⟩,.bool b0,.bool b1] 114))∧True)→Calls Tryz.prog 120 #[Vc.ptr (β 0) 0,.string ⟨(([45]:List UInt8)).toArray⟩] w' (Vc.Eff (.bool b2) (β 0) #[.string ⟨s0.toArray⟩,.int .i64 x4,.int .i64 x5,.string ⟨s2.toArray⟩,.bool b3,.bool b4] 114 w')) ∧
 ((b2=true)→(
 ((b3=true)→(
 ((b4=true)→(
 ∀ v0:Vc.OV,v0.1=Value.iface 108 (.agg #[.int .i64 x4,.int .i64 5]) →
 ∀ w':World,Vc.BelX xl w w'→False))∧(¬ (b4=true)→(
 ∃ (x6:Int),∃ (v0:Vc.OV),(∀ w':World,Vc.BelX xl w w'→Calls Tryz.prog 174 #[.string ⟨s2.toArray⟩] w' (Vc.Ret (.tuple #[.int .i64 x6,v0.1]) w')) ∧
 ∃ (b5:Bool),∃ (x7:Int),∃ (x8:Int),∃ (s3:List UInt8),∃ (b6:Bool),∃ (b7:Bool),(∀ (β:Nat→Nat) (w':World),Vc.BelX xl w w'→(((β 0=xl∨w.heap.size≤β 0)∧w'.heap[β 0]? = some (.cells #[.string ⟨s0.toArray⟩,.int .i64 x4,.int .i64 x5,.string ⟨s2.toArray⟩,.bool b3,.bool b4] 114))∧True)→Calls Tryz.prog 120 #[Vc.ptr (β 0) 0,.string ⟨s2.toArray⟩] w' (Vc.Eff (.bool b5) (β 0) #[.string ⟨s0.toArray⟩,.int .i64 x7,.int .i64 x8,.string ⟨s3.toArray⟩,.bool b6,.bool b7] 114 w')) ∧
 ∀ x9:Int,x9=IntKind.i64.wrap (x6 * (-1)) →
 ((x2≤x9)→( Vj___countdown_parser__number_T1 x9 x3 s0 x7 x8 s3 b6 b7 v new x0 w xl))∧(¬ (x2≤x9)→(
 ∀ v1:Vc.OV,v1.1=Value.iface 108 (.agg #[.int .i64 x0,.int .i64 4]) →
 ∀ w':World,Vc.BelX xl w w'→False))))))∧(¬ (b3=true)→(
 ∀ v0:Vc.OV,v0.1=Value.iface 108 (.agg #[.int .i64 x4,.int .i64 5]) →
 ∀ w':World,Vc.BelX xl w w'→False))))∧(¬ (b2=true)→(
 ((b3=true)→(
 ((b4=true)→(
 ∀ v0:Vc.OV,v0.1=Value.iface 108 (.agg #[.int .i64 x4,.int .i64 5]) →
 ∀ w':World,Vc.BelX xl w w'→False))∧(¬ (b4=true)→(
 ∃ (x6:Int),∃ (v0:Vc.OV),(∀ w':World,Vc.BelX xl w w'→Calls Tryz.prog 174 #[.string ⟨s2.toArray⟩] w' (Vc.Ret (.tuple #[.int .i64 x6,v0.1]) w')) ∧
 ∃ (b5:Bool),∃ (x7:Int),∃ (x8:Int),∃ (s3:List UInt8),∃ (b6:Bool),∃ (b7:Bool),(∀ (β:Nat→Nat) (w':World),Vc.BelX xl w w'→(((β 0=xl∨w.heap.size≤β 0)∧w'.heap[β 0]? = some (.cells #[.string ⟨s0.toArray⟩,.int .i64 x4,.int .i64 x5,.string ⟨s2.toArray⟩,.bool b3,.bool b4] 114))∧True)→Calls Tryz.prog 120 #[Vc.ptr (β 0) 0,.string ⟨s2.toArray⟩] w' (Vc.Eff (.bool b5) (β 0) #[.string ⟨s0.toArray⟩,.int .i64 x7,.int .i64 x8,.string ⟨s3.toArray⟩,.bool b6,.bool b7] 114 w')) ∧
 ∀ x9:Int,x9=IntKind.i64.wrap (x6 * 1) →
 ((x2≤x9)→( Vj___countdown_parser__number_T1 x9 x3 s0 x7 x8 s3 b6 b7 v new x0 w xl))∧(¬ (x2≤x9)→(
 ∀ v1:Vc.OV,v1.1=Value.iface 108 (.agg #[.int .i64 x0,.int .i64 4]) →
 ∀ w':World,Vc.BelX xl w w'→False))))))∧(¬ (b3=true)→(
 ∀ v0:Vc.OV,v0.1=Value.iface 108 (.agg #[.int .i64 x4,.int .i64 5]) →
 ∀ w':World,Vc.BelX xl w w'→False))))):Calls Tryz.prog 164 #[Vc.ptr xl 0,.int .i64 x2,.int .i64 x3] w (Vc.Eff v xl new 114 w) :=
 Vc.zpk (zz [62,67] (by kernel_rfl)) [(3000120,.inv [(0,1),(0,2),(0,3),(0,4),(0,5)] [0] [])] [] 200 Tryz.func164 (b:=(Tryz.f164.body).getD .skip) (by kernel_rfl) [.cv (.one (.loc 0 0)),.cv (.one (.int .i64 (.var 2))),.cv (.one (.int .i64 (.var 3)))] [.sv 0,.int .i64 (.var 0),.int .i64 (.var 1),.sv 1,.bool (.var 0),.bool (.var 1)] 114 ⟨4,2,0,0,1,2,0⟩ [] (Vc.envOf [x0,x1,x2,x3] [b0,b1] [] [] [s0,s1]) (by kernel_rfl) (by kernel_rfl) Vc.zg (by kernel_rfl) (by kernel_rfl) (by decide) (by kernel_rfl) hx h
theorem zn(x0 x1 x2 x3:Int)(b0 b1:Bool)(s0 s1:List UInt8)(xl:Nat)(w:World)(v:Value)(hx:w.heap[xl]? = some (.cells #[.string ⟨s0.toArray⟩,.int .i64 x0,.int .i64 x1,.string ⟨s1.toArray⟩,.bool b0,.bool b1] 114))(h :
 ∃ (b2:Bool),∃ (x4:Int),∃ (x5:Int),∃ (s2:List UInt8),∃ (b3:Bool),∃ (b4:Bool),(∀ (β:Nat→Nat) (w':World),Vc.BelX xl w w'→(((β 0=xl∨w.heap.size≤β 0)∧w'.heap[β 0]? = some (.cells #[.string ⟨s0.toArray⟩,.int .i64 x0,.int .i64 x1,.string ⟨s1.toArray⟩,.bool b0,.bool b1] 114))∧True)→Calls Tryz.prog 120 #[Vc.ptr (β 0) 0,.string ⟨(([45]:List UInt8)).toArray⟩] w' (Vc.Eff (.bool b2) (β 0) #[.string ⟨s0.toArray⟩,.int .i64 x4,.int .i64 x5,.string ⟨s2.toArray⟩,.bool b3,.bool b4] 114 w')) ∧
 ((b2=true)→(
 ((b3=true)→(
 ((b4=true)→(
 ∀ v0:Vc.OV,v0.1=Value.iface 108 (.agg #[.int .i64 x4,.int .i64 5]) →
 ∀ w':World,Vc.BelX xl w w'→(v0.1:Value)=v))∧(¬ (b4=true)→(
 ∃ (x6:Int),∃ (v0:Vc.OV),(∀ w':World,Vc.BelX xl w w'→Calls Tryz.prog 174 #[.string ⟨s2.toArray⟩] w' (Vc.Ret (.tuple #[.int .i64 x6,v0.1]) w')) ∧
 ∃ (b5:Bool),∃ (x7:Int),∃ (x8:Int),∃ (s3:List UInt8),∃ (b6:Bool),∃ (b7:Bool),(∀ (β:Nat→Nat) (w':World),Vc.BelX xl w w'→(((β 0=xl∨w.heap.size≤β 0)∧w'.heap[β 0]? = some (.cells #[.string ⟨s0.toArray⟩,.int .i64 x4,.int .i64 x5,.string ⟨s2.toArray⟩,.bool b3,.bool b4] 114))∧True)→Calls Tryz.prog 120 #[Vc.ptr (β 0) 0,.string ⟨s2.toArray⟩] w' (Vc.Eff (.bool b5) (β 0) #[.string ⟨s0.toArray⟩,.int .i64 x7,.int .i64 x8,.string ⟨s3.toArray⟩,.bool b6,.bool b7] 114 w')) ∧
 ∀ x9:Int,x9=IntKind.i64.wrap (x6 * (-1)) →
 ((x2≤x9)→(
 ((x9≤x3)→(
 False))∧(¬ (x9≤x3)→(
 ∀ v1:Vc.OV,v1.1=Value.iface 108 (.agg #[.int .i64 x0,.int .i64 4]) →
 ∀ w':World,Vc.BelX xl w w'→(v1.1:Value)=v))))∧(¬ (x2≤x9)→(
 ∀ v1:Vc.OV,v1.1=Value.iface 108 (.agg #[.int .i64 x0,.int .i64 4]) →
 ∀ w':World,Vc.BelX xl w w'→(v1.1:Value)=v))))))∧(¬ (b3=true)→(
 ∀ v0:Vc.OV,v0.1=Value.iface 108 (.agg #[.int .i64 x4,.int .i64 5]) →
 ∀ w':World,Vc.BelX xl w w'→(v0.1:Value)=v))))∧(¬ (b2=true)→(
 ((b3=true)→(
 ((b4=true)→(
 ∀ v0:Vc.OV,v0.1=Value.iface 108 (.agg #[.int .i64 x4,.int .i64 5]) →
 ∀ w':World,Vc.BelX xl w w'→(v0.1:Value)=v))∧(¬ (b4=true)→(
 ∃ (x6:Int),∃ (v0:Vc.OV),(∀ w':World,Vc.BelX xl w w'→Calls Tryz.prog 174 #[.string ⟨s2.toArray⟩] w' (Vc.Ret (.tuple #[.int .i64 x6,v0.1]) w')) ∧
 ∃ (b5:Bool),∃ (x7:Int),∃ (x8:Int),∃ (s3:List UInt8),∃ (b6:Bool),∃ (b7:Bool),(∀ (β:Nat→Nat) (w':World),Vc.BelX xl w w'→(((β 0=xl∨w.heap.size≤β 0)∧w'.heap[β 0]? = some (.cells #[.string ⟨s0.toArray⟩,.int .i64 x4,.int .i64 x5,.string ⟨s2.toArray⟩,.bool b3,.bool b4] 114))∧True)→Calls Tryz.prog 120 #[Vc.ptr (β 0) 0,.string ⟨s2.toArray⟩] w' (Vc.Eff (.bool b5) (β 0) #[.string ⟨s0.toArray⟩,.int .i64 x7,.int .i64 x8,.string ⟨s3.toArray⟩,.bool b6,.bool b7] 114 w')) ∧
 ∀ x9:Int,x9=IntKind.i64.wrap (x6 * 1) →
 ((x2≤x9)→(
 ((x9≤x3)→(
 False))∧(¬ (x9≤x3)→(
 ∀ v1:Vc.OV,v1.1=Value.iface 108 (.agg #[.int .i64 x0,.int .i64 4]) →
 ∀ w':World,Vc.BelX xl w w'→(v1.1:Value)=v))))∧(¬ (x2≤x9)→(
 ∀ v1:Vc.OV,v1.1=Value.iface 108 (.agg #[.int .i64 x0,.int .i64 4]) →
 ∀ w':World,Vc.BelX xl w w'→(v1.1:Value)=v))))))∧(¬ (b3=true)→(
 ∀ v0:Vc.OV,v0.1=Value.iface 108 (.agg #[.int .i64 x4,.int .i64 5]) →
 ∀ w':World,Vc.BelX xl w w'→(v0.1:Value)=v))))):Calls Tryz.prog 164 #[Vc.ptr xl 0,.int .i64 x2,.int .i64 x3] w (Vc.PanL v [xl] w) :=
 Vc.zpe (zz [62,67] (by kernel_rfl)) [(3000120,.inv [(0,1),(0,2),(0,3),(0,4),(0,5)] [0] [])] [] 200 Tryz.func164 (b:=(Tryz.f164.body).getD .skip) (by kernel_rfl) [.cv (.one (.loc 0 0)),.cv (.one (.int .i64 (.var 2))),.cv (.one (.int .i64 (.var 3)))] [.sv 0,.int .i64 (.var 0),.int .i64 (.var 1),.sv 1,.bool (.var 0),.bool (.var 1)] 114 ⟨4,2,0,0,1,2,0⟩ [] (Vc.envOf [x0,x1,x2,x3] [b0,b1] [] [] [s0,s1]) (by kernel_rfl) (by kernel_rfl) Vc.zg (by kernel_rfl) (by kernel_rfl) (by decide) (by kernel_rfl) hx h
end Go.Proofs.YtdjgnbkclcjiiaaGreatDoor
