import Derived.Test.YtdjgnbkclcjiiaaGreatDoorG0
set_option linter.unusedVariables false
set_option maxRecDepth 100000
namespace Go.Proofs.YtdjgnbkclcjiiaaGreatDoor
open Go Go.RowKit
theorem zbi(v0 v1:Vc.OV)(hv0:v0.1=Value.iface 176 (.agg #[v1.1]))(w:World)(v:Value)(h :
 ∃ (b0:Bool),(Vq w 105 #[v1.1] (.bool b0)) ∧
 ((b0=true)→(
 ∃ (s0:List UInt8),(Vq w 104 #[v1.1,.bool true] (.string ⟨s0.toArray⟩)) ∧
 (List.length ([33]:List UInt8) + List.length s0≤9223372036854775807)∧∀ s1:List UInt8,s1=([33]:List UInt8)++s0 →
 (.string ⟨s1.toArray⟩:Value)=v))∧(¬ (b0=true)→(
 ∃ (b1:Bool),(Vq w 106 #[v1.1] (.bool b1)) ∧
 ∃ (s0:List UInt8),(Vq w 104 #[v1.1,.bool b1] (.string ⟨s0.toArray⟩)) ∧
 (List.length ([33]:List UInt8) + List.length s0≤9223372036854775807)∧∀ s1:List UInt8,s1=([33]:List UInt8)++s0 →
 (.string ⟨s1.toArray⟩:Value)=v))):Calls Tryz.prog 55 #[v0.1] w (Vc.Ret v w) :=
 Vc.zi base [] globs 200 Tryz.func55 (b:=(Tryz.f55.body).getD .skip) (by kernel_rfl) [.cv (.one (.val 0))] ⟨0,0,2,2,0,0,0⟩ [.glo 0 0,.glo 1 1,.ifc 0 176 (.agg [.val 1])] (Vc.envOf [] [] [v0,v1] [(0,0),(1,0)]) (by kernel_rfl) (Vc.zp (by kernel_rfl) rfl (Vc.zp (by kernel_rfl) rfl (Vc.zp (by kernel_rfl) hv0 Vc.zg))) (by kernel_rfl) (by kernel_rfl) h
theorem zci(v0 v1 v2:Vc.OV)(hv0:v0.1=Value.iface 180 (.agg #[v1.1,v2.1]))(w:World)(v:Value)(h :
 ∃ (b0:Bool),(Vq w 105 #[v1.1] (.bool b0)) ∧
 ∃ (s0:List UInt8),(Vq w 104 #[v1.1,.bool b0] (.string ⟨s0.toArray⟩)) ∧
 (List.length s0 + List.length ([32,38,32]:List UInt8)≤9223372036854775807)∧∀ s1:List UInt8,s1=s0++([32,38,32]:List UInt8) →
 ∃ (b1:Bool),(Vq w 105 #[v2.1] (.bool b1)) ∧
 ((b1=true)→(
 ∃ (s2:List UInt8),(Vq w 104 #[v2.1,.bool true] (.string ⟨s2.toArray⟩)) ∧
 (List.length s1 + List.length s2≤9223372036854775807)∧∀ s3:List UInt8,s3=s1++s2 →
 (.string ⟨s3.toArray⟩:Value)=v))∧(¬ (b1=true)→(
 ∃ (b2:Bool),(Vq w 106 #[v2.1] (.bool b2)) ∧
 ∃ (s2:List UInt8),(Vq w 104 #[v2.1,.bool b2] (.string ⟨s2.toArray⟩)) ∧
 (List.length s1 + List.length s2≤9223372036854775807)∧∀ s3:List UInt8,s3=s1++s2 →
 (.string ⟨s3.toArray⟩:Value)=v))):Calls Tryz.prog 55 #[v0.1] w (Vc.Ret v w) :=
 Vc.zi base [] globs 200 Tryz.func55 (b:=(Tryz.f55.body).getD .skip) (by kernel_rfl) [.cv (.one (.val 0))] ⟨0,0,3,2,0,0,0⟩ [.glo 0 0,.glo 1 1,.ifc 0 180 (.agg [.val 1,.val 2])] (Vc.envOf [] [] [v0,v1,v2] [(0,0),(1,0)]) (by kernel_rfl) (Vc.zp (by kernel_rfl) rfl (Vc.zp (by kernel_rfl) rfl (Vc.zp (by kernel_rfl) hv0 Vc.zg))) (by kernel_rfl) (by kernel_rfl) h
theorem zdi(v0 v1 v2:Vc.OV)(hv0:v0.1=Value.iface 181 (.agg #[v1.1,v2.1]))(w:World)(v:Value)(h :
 ∃ (s0:List UInt8),(Vq w 55 #[v1.1] (.string ⟨s0.toArray⟩)) ∧
 (List.length s0 + List.length ([32,124,32]:List UInt8)≤9223372036854775807)∧∀ s1:List UInt8,s1=s0++([32,124,32]:List UInt8) →
 ∃ (b0:Bool),(Vq w 105 #[v2.1] (.bool b0)) ∧
 ∃ (s2:List UInt8),(Vq w 104 #[v2.1,.bool b0] (.string ⟨s2.toArray⟩)) ∧
 (List.length s1 + List.length s2≤9223372036854775807)∧∀ s3:List UInt8,s3=s1++s2 →
 (.string ⟨s3.toArray⟩:Value)=v):Calls Tryz.prog 55 #[v0.1] w (Vc.Ret v w) :=
 Vc.zi base [] globs 200 Tryz.func55 (b:=(Tryz.f55.body).getD .skip) (by kernel_rfl) [.cv (.one (.val 0))] ⟨0,0,3,2,0,0,0⟩ [.glo 0 0,.glo 1 1,.ifc 0 181 (.agg [.val 1,.val 2])] (Vc.envOf [] [] [v0,v1,v2] [(0,0),(1,0)]) (by kernel_rfl) (Vc.zp (by kernel_rfl) rfl (Vc.zp (by kernel_rfl) rfl (Vc.zp (by kernel_rfl) hv0 Vc.zg))) (by kernel_rfl) (by kernel_rfl) h
abbrev Vj_countdown_text_A_T3(w:World)(s6:List UInt8)(x4:Int)(v:Value):Prop :=
 Vg_1 w ∧
 (List.length s6 + List.length ([60]:List UInt8)≤9223372036854775807)∧∀ s7:List UInt8,s7=s6++([60]:List UInt8) →
 (List.length s7 + List.length ([32]:List UInt8)≤9223372036854775807)∧∀ s8:List UInt8,s8=s7++([32]:List UInt8) →
 ∃ (s9:List UInt8),(Vq w 107 #[.int .i64 x4] (.string ⟨s9.toArray⟩)) ∧
 (List.length s8 + List.length s9≤9223372036854775807)∧∀ s10:List UInt8,s10=s8++s9 →
 (.string ⟨s10.toArray⟩:Value)=v
abbrev Vj_countdown_text_A_T2(x3:Int)(w:World)(s6:List UInt8)(x4:Int)(v:Value):Prop :=
 ((x3=1)→(
 Vg_1 w ∧
 (List.length s6 + List.length ([60,61]:List UInt8)≤9223372036854775807)∧∀ s7:List UInt8,s7=s6++([60,61]:List UInt8) →
 (List.length s7 + List.length ([32]:List UInt8)≤9223372036854775807)∧∀ s8:List UInt8,s8=s7++([32]:List UInt8) →
 ∃ (s9:List UInt8),(Vq w 107 #[.int .i64 x4] (.string ⟨s9.toArray⟩)) ∧
 (List.length s8 + List.length s9≤9223372036854775807)∧∀ s10:List UInt8,s10=s8++s9 →
 (.string ⟨s10.toArray⟩:Value)=v))∧(¬ (x3=1)→(
 ((x3=2)→(
 Vg_1 w ∧
 (List.length s6 + List.length ([62]:List UInt8)≤9223372036854775807)∧∀ s7:List UInt8,s7=s6++([62]:List UInt8) →
 (List.length s7 + List.length ([32]:List UInt8)≤9223372036854775807)∧∀ s8:List UInt8,s8=s7++([32]:List UInt8) →
 ∃ (s9:List UInt8),(Vq w 107 #[.int .i64 x4] (.string ⟨s9.toArray⟩)) ∧
 (List.length s8 + List.length s9≤9223372036854775807)∧∀ s10:List UInt8,s10=s8++s9 →
 (.string ⟨s10.toArray⟩:Value)=v))∧(¬ (x3=2)→(
 ((x3=3)→(
 Vg_1 w ∧
 (List.length s6 + List.length ([62,61]:List UInt8)≤9223372036854775807)∧∀ s7:List UInt8,s7=s6++([62,61]:List UInt8) →
 (List.length s7 + List.length ([32]:List UInt8)≤9223372036854775807)∧∀ s8:List UInt8,s8=s7++([32]:List UInt8) →
 ∃ (s9:List UInt8),(Vq w 107 #[.int .i64 x4] (.string ⟨s9.toArray⟩)) ∧
 (List.length s8 + List.length s9≤9223372036854775807)∧∀ s10:List UInt8,s10=s8++s9 →
 (.string ⟨s10.toArray⟩:Value)=v))∧(¬ (x3=3)→(
 ((x3=4)→(
 Vg_1 w ∧
 (List.length s6 + List.length ([61,61]:List UInt8)≤9223372036854775807)∧∀ s7:List UInt8,s7=s6++([61,61]:List UInt8) →
 (List.length s7 + List.length ([32]:List UInt8)≤9223372036854775807)∧∀ s8:List UInt8,s8=s7++([32]:List UInt8) →
 ∃ (s9:List UInt8),(Vq w 107 #[.int .i64 x4] (.string ⟨s9.toArray⟩)) ∧
 (List.length s8 + List.length s9≤9223372036854775807)∧∀ s10:List UInt8,s10=s8++s9 →
 (.string ⟨s10.toArray⟩:Value)=v))∧(¬ (x3=4)→(
 Vg_1 w ∧
 (List.length s6 + List.length ([33,61]:List UInt8)≤9223372036854775807)∧∀ s7:List UInt8,s7=s6++([33,61]:List UInt8) →
 (List.length s7 + List.length ([32]:List UInt8)≤9223372036854775807)∧∀ s8:List UInt8,s8=s7++([32]:List UInt8) →
 ∃ (s9:List UInt8),(Vq w 107 #[.int .i64 x4] (.string ⟨s9.toArray⟩)) ∧
 (List.length s8 + List.length s9≤9223372036854775807)∧∀ s10:List UInt8,s10=s8++s9 →
 (.string ⟨s10.toArray⟩:Value)=v))))))))
abbrev Vj_countdown_text_A_T1(s0:List UInt8)(x3:Int)(w:World)(x4:Int)(v:Value):Prop :=
 (List.length s0 + List.length ([32]:List UInt8)≤9223372036854775807)∧∀ s1:List UInt8,s1=s0++([32]:List UInt8) →
 (0≤x3) ∧
 (x3 < 6) ∧
 ((x3=0)→( Vj_countdown_text_A_T3 w s1 x4 v))∧(¬ (x3=0)→( Vj_countdown_text_A_T2 x3 w s1 x4 v))
theorem zei(p2:Nat × Nat)(x0 x1 x2 x3 x4 x5 x6:Int)(b0:Bool)(v0:Vc.OV)(s0:List UInt8)(hv0:v0.1=Value.iface 183 (.agg #[.int .i64 x0,.int .i64 x1,.string ⟨s0.toArray⟩,.int .i64 x2,.int .i64 x3,.int .i64 x4,(if b0=true then .slice none 0 0 else .slice (some (Vc.qad p2 (Int.toNat x5) (Int.toNat x6))) (Int.toNat x5) (Int.toNat x6):Value)]))(w:World)(v:Value)(h :
 ((x1=0)→(
 ((x3=5)→(
 ((x4=0)→(
 (.string ⟨s0.toArray⟩:Value)=v))∧(¬ (x4=0)→( Vj_countdown_text_A_T1 s0 x3 w x4 v))))∧(¬ (x3=5)→( Vj_countdown_text_A_T1 s0 x3 w x4 v))))∧(¬ (x1=0)→(
 (0≤x1) ∧
 (x1 < 3) ∧
 ((x1=0)→(
 Vg_0 w ∧
 (List.length ([40]:List UInt8) + List.length s0≤9223372036854775807)∧∀ s1:List UInt8,s1=([40]:List UInt8)++s0 →
 (List.length s1 + List.length ([44,32]:List UInt8)≤9223372036854775807)∧∀ s2:List UInt8,s2=s1++([44,32]:List UInt8) →
 ∃ (s3:List UInt8),(Vq w 107 #[.int .i64 x2] (.string ⟨s3.toArray⟩)) ∧
 (List.length s2 + List.length s3≤9223372036854775807)∧∀ s4:List UInt8,s4=s2++s3 →
 (List.length s4 + List.length ([41]:List UInt8)≤9223372036854775807)∧∀ s5:List UInt8,s5=s4++([41]:List UInt8) →
 (List.length s5 + List.length ([32]:List UInt8)≤9223372036854775807)∧∀ s6:List UInt8,s6=s5++([32]:List UInt8) →
 (0≤x3) ∧
 (x3 < 6) ∧
 ((x3=0)→( Vj_countdown_text_A_T3 w s6 x4 v))∧(¬ (x3=0)→( Vj_countdown_text_A_T2 x3 w s6 x4 v))))∧(¬ (x1=0)→(
 ((x1=1)→(
 Vg_0 w ∧
 (List.length ([109,111,115,116,40]:List UInt8) + List.length s0≤9223372036854775807)∧∀ s1:List UInt8,s1=([109,111,115,116,40]:List UInt8)++s0 →
 (List.length s1 + List.length ([44,32]:List UInt8)≤9223372036854775807)∧∀ s2:List UInt8,s2=s1++([44,32]:List UInt8) →
 ∃ (s3:List UInt8),(Vq w 107 #[.int .i64 x2] (.string ⟨s3.toArray⟩)) ∧
 (List.length s2 + List.length s3≤9223372036854775807)∧∀ s4:List UInt8,s4=s2++s3 →
 (List.length s4 + List.length ([41]:List UInt8)≤9223372036854775807)∧∀ s5:List UInt8,s5=s4++([41]:List UInt8) →
 (List.length s5 + List.length ([32]:List UInt8)≤9223372036854775807)∧∀ s6:List UInt8,s6=s5++([32]:List UInt8) →
 (0≤x3) ∧
 (x3 < 6) ∧
 ((x3=0)→( Vj_countdown_text_A_T3 w s6 x4 v))∧(¬ (x3=0)→( Vj_countdown_text_A_T2 x3 w s6 x4 v))))∧(¬ (x1=1)→(
 Vg_0 w ∧
 (List.length ([108,101,97,115,116,40]:List UInt8) + List.length s0≤9223372036854775807)∧∀ s1:List UInt8,s1=([108,101,97,115,116,40]:List UInt8)++s0 →
 (List.length s1 + List.length ([44,32]:List UInt8)≤9223372036854775807)∧∀ s2:List UInt8,s2=s1++([44,32]:List UInt8) →
 ∃ (s3:List UInt8),(Vq w 107 #[.int .i64 x2] (.string ⟨s3.toArray⟩)) ∧
 (List.length s2 + List.length s3≤9223372036854775807)∧∀ s4:List UInt8,s4=s2++s3 →
 (List.length s4 + List.length ([41]:List UInt8)≤9223372036854775807)∧∀ s5:List UInt8,s5=s4++([41]:List UInt8) →
 (List.length s5 + List.length ([32]:List UInt8)≤9223372036854775807)∧∀ s6:List UInt8,s6=s5++([32]:List UInt8) →
 (0≤x3) ∧
 (x3 < 6) ∧
 ((x3=0)→( Vj_countdown_text_A_T3 w s6 x4 v))∧(¬ (x3=0)→( Vj_countdown_text_A_T2 x3 w s6 x4 v))))))))):Calls Tryz.prog 55 #[v0.1] w (Vc.Ret v w) :=
 Vc.zi base [] globs 200 Tryz.func55 (b:=(Tryz.f55.body).getD .skip) (by kernel_rfl) [.cv (.one (.val 0))] ⟨7,1,1,3,0,1,0⟩ [.glo 0 0,.glo 1 1,.ifc 0 183 (.agg [.int .i64 (.var 0),.int .i64 (.var 1),.sv 0,.int .i64 (.var 2),.int .i64 (.var 3),.int .i64 (.var 4),.qsl 0 2 7 (.var 5) (.var 6)])] (Vc.envOf [x0,x1,x2,x3,x4,x5,x6] [b0] [v0] [(0,0),(1,0),p2] [s0]) (by kernel_rfl) (Vc.zp (by kernel_rfl) rfl (Vc.zp (by kernel_rfl) rfl (Vc.zp (by kernel_rfl) hv0 Vc.zg))) (by kernel_rfl) (by kernel_rfl) h
theorem zfi(p0:Nat × Nat)(x0 x1 x2 x3 x4 x5 x6:Int)(b0:Bool)(v0:Vc.OV)(s0:List UInt8)(hv0:v0.1=Value.iface 183 (.agg #[.int .i64 x0,.int .i64 x1,.string ⟨s0.toArray⟩,.int .i64 x2,.int .i64 x3,.int .i64 x4,(if b0=true then .slice none 0 0 else .slice (some (Vc.qad p0 (Int.toNat x5) (Int.toNat x6))) (Int.toNat x5) (Int.toNat x6):Value)]))(w:World)(v:Value)(h :
 (.bool false:Value)=v):Calls Tryz.prog 105 #[v0.1] w (Vc.Ret v w) :=
 Vc.zi base [] [] 200 Tryz.func105 (b:=(Tryz.f105.body).getD .skip) (by kernel_rfl) [.cv (.one (.val 0))] ⟨7,1,1,1,0,1,0⟩ [.ifc 0 183 (.agg [.int .i64 (.var 0),.int .i64 (.var 1),.sv 0,.int .i64 (.var 2),.int .i64 (.var 3),.int .i64 (.var 4),.qsl 0 0 7 (.var 5) (.var 6)])] (Vc.envOf [x0,x1,x2,x3,x4,x5,x6] [b0] [v0] [p0] [s0]) (by kernel_rfl) (Vc.zp (by kernel_rfl) hv0 Vc.zg) (by kernel_rfl) (by kernel_rfl) h
theorem zgi(v0 v1:Vc.OV)(hv0:v0.1=Value.iface 176 (.agg #[v1.1]))(w:World)(v:Value)(h :
 (.bool false:Value)=v):Calls Tryz.prog 105 #[v0.1] w (Vc.Ret v w) :=
 Vc.zi base [] [] 200 Tryz.func105 (b:=(Tryz.f105.body).getD .skip) (by kernel_rfl) [.cv (.one (.val 0))] ⟨0,0,2,0,0,0,0⟩ [.ifc 0 176 (.agg [.val 1])] (Vc.envOf [] [] [v0,v1] []) (by kernel_rfl) (Vc.zp (by kernel_rfl) hv0 Vc.zg) (by kernel_rfl) (by kernel_rfl) h
theorem zhi(v0 v1 v2:Vc.OV)(hv0:v0.1=Value.iface 180 (.agg #[v1.1,v2.1]))(w:World)(v:Value)(h :
 (.bool false:Value)=v):Calls Tryz.prog 105 #[v0.1] w (Vc.Ret v w) :=
 Vc.zi base [] [] 200 Tryz.func105 (b:=(Tryz.f105.body).getD .skip) (by kernel_rfl) [.cv (.one (.val 0))] ⟨0,0,3,0,0,0,0⟩ [.ifc 0 180 (.agg [.val 1,.val 2])] (Vc.envOf [] [] [v0,v1,v2] []) (by kernel_rfl) (Vc.zp (by kernel_rfl) hv0 Vc.zg) (by kernel_rfl) (by kernel_rfl) h
theorem zii(v0 v1 v2:Vc.OV)(hv0:v0.1=Value.iface 181 (.agg #[v1.1,v2.1]))(w:World)(v:Value)(h :
 (.bool true:Value)=v):Calls Tryz.prog 105 #[v0.1] w (Vc.Ret v w) :=
 Vc.zi base [] [] 200 Tryz.func105 (b:=(Tryz.f105.body).getD .skip) (by kernel_rfl) [.cv (.one (.val 0))] ⟨0,0,3,0,0,0,0⟩ [.ifc 0 181 (.agg [.val 1,.val 2])] (Vc.envOf [] [] [v0,v1,v2] []) (by kernel_rfl) (Vc.zp (by kernel_rfl) hv0 Vc.zg) (by kernel_rfl) (by kernel_rfl) h
theorem zch(p0:Nat × Nat)(x0 x1 x2 x3 x4 x5 x6:Int)(b0:Bool)(v0:Vc.OV)(s0:List UInt8)(hv0:v0.1=Value.iface 183 (.agg #[.int .i64 x0,.int .i64 x1,.string ⟨s0.toArray⟩,.int .i64 x2,.int .i64 x3,.int .i64 x4,(if b0=true then .slice none 0 0 else .slice (some (Vc.qad p0 (Int.toNat x5) (Int.toNat x6))) (Int.toNat x5) (Int.toNat x6):Value)]))(w:World)(v:Value)(h :
 (.bool false:Value)=v):Calls Tryz.prog 106 #[v0.1] w (Vc.Ret v w) :=
 Vc.zi base [] [] 200 Tryz.func106 (b:=(Tryz.f106.body).getD .skip) (by kernel_rfl) [.cv (.one (.val 0))] ⟨7,1,1,1,0,1,0⟩ [.ifc 0 183 (.agg [.int .i64 (.var 0),.int .i64 (.var 1),.sv 0,.int .i64 (.var 2),.int .i64 (.var 3),.int .i64 (.var 4),.qsl 0 0 7 (.var 5) (.var 6)])] (Vc.envOf [x0,x1,x2,x3,x4,x5,x6] [b0] [v0] [p0] [s0]) (by kernel_rfl) (Vc.zp (by kernel_rfl) hv0 Vc.zg) (by kernel_rfl) (by kernel_rfl) h
theorem zdh(v0 v1:Vc.OV)(hv0:v0.1=Value.iface 176 (.agg #[v1.1]))(w:World)(v:Value)(h :
 (.bool false:Value)=v):Calls Tryz.prog 106 #[v0.1] w (Vc.Ret v w) :=
 Vc.zi base [] [] 200 Tryz.func106 (b:=(Tryz.f106.body).getD .skip) (by kernel_rfl) [.cv (.one (.val 0))] ⟨0,0,2,0,0,0,0⟩ [.ifc 0 176 (.agg [.val 1])] (Vc.envOf [] [] [v0,v1] []) (by kernel_rfl) (Vc.zp (by kernel_rfl) hv0 Vc.zg) (by kernel_rfl) (by kernel_rfl) h
theorem zeh(v0 v1 v2:Vc.OV)(hv0:v0.1=Value.iface 180 (.agg #[v1.1,v2.1]))(w:World)(v:Value)(h :
 (.bool true:Value)=v):Calls Tryz.prog 106 #[v0.1] w (Vc.Ret v w) :=
 Vc.zi base [] [] 200 Tryz.func106 (b:=(Tryz.f106.body).getD .skip) (by kernel_rfl) [.cv (.one (.val 0))] ⟨0,0,3,0,0,0,0⟩ [.ifc 0 180 (.agg [.val 1,.val 2])] (Vc.envOf [] [] [v0,v1,v2] []) (by kernel_rfl) (Vc.zp (by kernel_rfl) hv0 Vc.zg) (by kernel_rfl) (by kernel_rfl) h
theorem zfh(v0 v1 v2:Vc.OV)(hv0:v0.1=Value.iface 181 (.agg #[v1.1,v2.1]))(w:World)(v:Value)(h :
 (.bool false:Value)=v):Calls Tryz.prog 106 #[v0.1] w (Vc.Ret v w) :=
 Vc.zi base [] [] 200 Tryz.func106 (b:=(Tryz.f106.body).getD .skip) (by kernel_rfl) [.cv (.one (.val 0))] ⟨0,0,3,0,0,0,0⟩ [.ifc 0 181 (.agg [.val 1,.val 2])] (Vc.envOf [] [] [v0,v1,v2] []) (by kernel_rfl) (Vc.zp (by kernel_rfl) hv0 Vc.zg) (by kernel_rfl) (by kernel_rfl) h
theorem zji(b0:Bool)(v0:Vc.OV)(w:World)(v:Value)(h :
 ((b0=true)→(
 ∃ (s0:List UInt8),(Vq w 55 #[v0.1] (.string ⟨s0.toArray⟩)) ∧
 (List.length ([40]:List UInt8) + List.length s0≤9223372036854775807)∧∀ s1:List UInt8,s1=([40]:List UInt8)++s0 →
 (List.length s1 + List.length ([41]:List UInt8)≤9223372036854775807)∧∀ s2:List UInt8,s2=s1++([41]:List UInt8) →
 (.string ⟨s2.toArray⟩:Value)=v))∧(¬ (b0=true)→(
 ∃ (s0:List UInt8),(Vq w 55 #[v0.1] (.string ⟨s0.toArray⟩)) ∧
 (.string ⟨s0.toArray⟩:Value)=v))):Calls Tryz.prog 104 #[v0.1,.bool b0] w (Vc.Ret v w) :=
 Vc.zi base [] [] 200 Tryz.func104 (b:=(Tryz.f104.body).getD .skip) (by kernel_rfl) [.cv (.one (.val 0)),.cv (.one (.bool (.var 0)))] ⟨0,1,1,0,0,0,0⟩ [] (Vc.envOf [] [b0] [v0] []) (by kernel_rfl) Vc.zg (by kernel_rfl) (by kernel_rfl) h
theorem zkf(p0:Nat × Nat)(x0 x1 x2 x3 x4 x5 x6:Int)(b0:Bool)(s0:List UInt8)(w:World)(v:Value)(h :
 ∃ (v0:Vc.OV),∃ (b1:Bool),(Vq w 49 #[.agg #[.int .i64 x0,.int .i64 x1,.string ⟨s0.toArray⟩,.int .i64 x2,.int .i64 x3,.int .i64 x4,(if b0=true then .slice none 0 0 else .slice (some (Vc.qad p0 (Int.toNat x5) (Int.toNat x6))) (Int.toNat x5) (Int.toNat x6):Value)]] (.tuple #[v0.1,.bool b1])) ∧
 ((b1=true)→(
 ∃ (s1:List UInt8),(Vq w 55 #[v0.1] (.string ⟨s1.toArray⟩)) ∧
 (.string ⟨s1.toArray⟩:Value)=v))∧(¬ (b1=true)→(
 (.string ⟨(([]:List UInt8)).toArray⟩:Value)=v))):Calls Tryz.prog 22 #[.agg #[.int .i64 x0,.int .i64 x1,.string ⟨s0.toArray⟩,.int .i64 x2,.int .i64 x3,.int .i64 x4,(if b0=true then .slice none 0 0 else .slice (some (Vc.qad p0 (Int.toNat x5) (Int.toNat x6))) (Int.toNat x5) (Int.toNat x6):Value)]] w (Vc.Ret v w) :=
 Vc.zi base [] [] 200 Tryz.func22 (b:=(Tryz.f22.body).getD .skip) (by kernel_rfl) [.cv (.agg [.int .i64 (.var 0),.int .i64 (.var 1),.sv 0,.int .i64 (.var 2),.int .i64 (.var 3),.int .i64 (.var 4),.qsl 0 0 7 (.var 5) (.var 6)])] ⟨7,1,0,1,0,1,0⟩ [] (Vc.envOf [x0,x1,x2,x3,x4,x5,x6] [b0] [] [p0] [s0]) (by kernel_rfl) Vc.zg (by kernel_rfl) (by kernel_rfl) h
theorem zjg(x0:Int)(w:World)(v:Value)(h :
 ((x0 < 0)→(
 ∃ (Is0:List Vc.Vl→Prop) (ms0:List Vc.Vl→Nat),Is0 [.s [],.i x0,.s []]∧∀ (s0:List UInt8) (x1:Int) (s1:List UInt8),Is0 [.s s0,.i x1,.s s1]→(
 ∀ x2:Int,x2=Int.tmod x1 10 →
 ∀ x3:Int,x3=Int.tmod x1 10 →
 ∀ x4:Int,x4=IntKind.i64.wrap (0 - x3) →
 ∀ x5:Int,x5=(if x4 > x2 then x4 else x2) →
 ∀ x6:Int,x6=IntKind.i64.wrap (48 + x5) →
 ∀ x7:Int,x7=IntKind.u8.wrap (x6) →
 (∀ v∈([.int .u8 x7]:List Value),∃ n:Int,v=Value.int .u8 n)∧∀ s2:List UInt8,s2=List.map Vc.byteV ([.int .u8 x7]:List Value) →
 (List.length s2 + List.length s0≤9223372036854775807)∧∀ s3:List UInt8,s3=s2++s0 →
 ∀ x8:Int,x8=IntKind.i64.wrap (Int.tdiv x1 10) →
 ((x8=0)→(
 (List.length ([45]:List UInt8) + List.length s3≤9223372036854775807)∧∀ s4:List UInt8,s4=([45]:List UInt8)++s3 →
 (.string ⟨s4.toArray⟩:Value)=v))∧(¬ (x8=0)→(
 Is0 [.s s3,.i x8,.s s1]∧ms0 [.s s3,.i x8,.s s1] < ms0 [.s s0,.i x1,.s s1])))))∧(¬ (x0 < 0)→(
 ∃ (Is0:List Vc.Vl→Prop) (ms0:List Vc.Vl→Nat),Is0 [.s [],.i x0,.s []]∧∀ (s0:List UInt8) (x1:Int) (s1:List UInt8),Is0 [.s s0,.i x1,.s s1]→(
 ∀ x2:Int,x2=Int.tmod x1 10 →
 ∀ x3:Int,x3=Int.tmod x1 10 →
 ∀ x4:Int,x4=IntKind.i64.wrap (0 - x3) →
 ∀ x5:Int,x5=(if x4 > x2 then x4 else x2) →
 ∀ x6:Int,x6=IntKind.i64.wrap (48 + x5) →
 ∀ x7:Int,x7=IntKind.u8.wrap (x6) →
 (∀ v∈([.int .u8 x7]:List Value),∃ n:Int,v=Value.int .u8 n)∧∀ s2:List UInt8,s2=List.map Vc.byteV ([.int .u8 x7]:List Value) →
 (List.length s2 + List.length s0≤9223372036854775807)∧∀ s3:List UInt8,s3=s2++s0 →
 ∀ x8:Int,x8=IntKind.i64.wrap (Int.tdiv x1 10) →
 ((x8=0)→(
 (List.length ([]:List UInt8) + List.length s3≤9223372036854775807)∧∀ s4:List UInt8,s4=([]:List UInt8)++s3 →
 (.string ⟨s4.toArray⟩:Value)=v))∧(¬ (x8=0)→(
 Is0 [.s s3,.i x8,.s s1]∧ms0 [.s s3,.i x8,.s s1] < ms0 [.s s0,.i x1,.s s1])))))):Calls Tryz.prog 110 #[.int .i64 x0] w (Vc.Ret v w) :=
 Vc.zi base [(13000000000004,.inv [] [3,0,2] [7,8,9,10,11,12,13,14,15,16,17,18,19,20,21,22,23,24,25])] [] 200 Tryz.func110 (b:=(Tryz.f110.body).getD .skip) (by kernel_rfl) [.cv (.one (.int .i64 (.var 0)))] ⟨1,0,0,0,0,0,0⟩ [] (Vc.envOf [x0] [] [] []) (by kernel_rfl) Vc.zg (by kernel_rfl) (by kernel_rfl) h
theorem zkg(p0:Nat × Nat)(x0 x1 x2 x3 x4 x5 x6 x7:Int)(b0:Bool)(s0:List UInt8)(w:World)(v:Value)(h :
 ∃ (s1:List UInt8),(Vq w 58 #[.agg #[.int .i64 x0,.int .i64 x1,.string ⟨s0.toArray⟩,.int .i64 x2,.int .i64 x3,.int .i64 x4,(if b0=true then .slice none 0 0 else .slice (some (Vc.qad p0 (Int.toNat x5) (Int.toNat x6))) (Int.toNat x5) (Int.toNat x6):Value)]] (.string ⟨s1.toArray⟩)) ∧
 ((x7 < x0)→(
 (List.length ([40]:List UInt8) + List.length s1≤9223372036854775807)∧∀ s2:List UInt8,s2=([40]:List UInt8)++s1 →
 (List.length s2 + List.length ([41]:List UInt8)≤9223372036854775807)∧∀ s3:List UInt8,s3=s2++([41]:List UInt8) →
 (.string ⟨s3.toArray⟩:Value)=v))∧(¬ (x7 < x0)→(
 (.string ⟨s1.toArray⟩:Value)=v))):Calls Tryz.prog 109 #[.agg #[.int .i64 x0,.int .i64 x1,.string ⟨s0.toArray⟩,.int .i64 x2,.int .i64 x3,.int .i64 x4,(if b0=true then .slice none 0 0 else .slice (some (Vc.qad p0 (Int.toNat x5) (Int.toNat x6))) (Int.toNat x5) (Int.toNat x6):Value)],.int .i64 x7] w (Vc.Ret v w) :=
 Vc.zi base [] [] 200 Tryz.func109 (b:=(Tryz.f109.body).getD .skip) (by kernel_rfl) [.cv (.agg [.int .i64 (.var 0),.int .i64 (.var 1),.sv 0,.int .i64 (.var 2),.int .i64 (.var 3),.int .i64 (.var 4),.qsl 0 0 7 (.var 5) (.var 6)]),.cv (.one (.int .i64 (.var 7)))] ⟨8,1,0,1,0,1,0⟩ [] (Vc.envOf [x0,x1,x2,x3,x4,x5,x6,x7] [b0] [] [p0] [s0]) (by kernel_rfl) Vc.zg (by kernel_rfl) (by kernel_rfl) h
abbrev Vj_ullageref10_text_T2(s5:List UInt8)(x3:Int)(w:World)(x4:Int)(v:Value):Prop :=
 (List.length s5 + List.length ([32]:List UInt8)≤9223372036854775807)∧∀ s6:List UInt8,s6=s5++([32]:List UInt8) →
 (0≤x3) ∧
 (x3 < 6) ∧
 ((x3=0)→(
 (List.length s6 + List.length ([60]:List UInt8)≤9223372036854775807)∧∀ s7:List UInt8,s7=s6++([60]:List UInt8) →
 (List.length s7 + List.length ([32]:List UInt8)≤9223372036854775807)∧∀ s8:List UInt8,s8=s7++([32]:List UInt8) →
 ∃ (s9:List UInt8),(Vq w 110 #[.int .i64 x4] (.string ⟨s9.toArray⟩)) ∧
 (List.length s8 + List.length s9≤9223372036854775807)∧∀ s10:List UInt8,s10=s8++s9 →
 (.string ⟨s10.toArray⟩:Value)=v))∧(¬ (x3=0)→(
 ((x3=1)→(
 (List.length s6 + List.length ([60,61]:List UInt8)≤9223372036854775807)∧∀ s7:List UInt8,s7=s6++([60,61]:List UInt8) →
 (List.length s7 + List.length ([32]:List UInt8)≤9223372036854775807)∧∀ s8:List UInt8,s8=s7++([32]:List UInt8) →
 ∃ (s9:List UInt8),(Vq w 110 #[.int .i64 x4] (.string ⟨s9.toArray⟩)) ∧
 (List.length s8 + List.length s9≤9223372036854775807)∧∀ s10:List UInt8,s10=s8++s9 →
 (.string ⟨s10.toArray⟩:Value)=v))∧(¬ (x3=1)→(
 ((x3=2)→(
 (List.length s6 + List.length ([62]:List UInt8)≤9223372036854775807)∧∀ s7:List UInt8,s7=s6++([62]:List UInt8) →
 (List.length s7 + List.length ([32]:List UInt8)≤9223372036854775807)∧∀ s8:List UInt8,s8=s7++([32]:List UInt8) →
 ∃ (s9:List UInt8),(Vq w 110 #[.int .i64 x4] (.string ⟨s9.toArray⟩)) ∧
 (List.length s8 + List.length s9≤9223372036854775807)∧∀ s10:List UInt8,s10=s8++s9 →
 (.string ⟨s10.toArray⟩:Value)=v))∧(¬ (x3=2)→(
 ((x3=3)→(
 (List.length s6 + List.length ([62,61]:List UInt8)≤9223372036854775807)∧∀ s7:List UInt8,s7=s6++([62,61]:List UInt8) →
 (List.length s7 + List.length ([32]:List UInt8)≤9223372036854775807)∧∀ s8:List UInt8,s8=s7++([32]:List UInt8) →
 ∃ (s9:List UInt8),(Vq w 110 #[.int .i64 x4] (.string ⟨s9.toArray⟩)) ∧
 (List.length s8 + List.length s9≤9223372036854775807)∧∀ s10:List UInt8,s10=s8++s9 →
 (.string ⟨s10.toArray⟩:Value)=v))∧(¬ (x3=3)→(
 ((x3=4)→(
 (List.length s6 + List.length ([61,61]:List UInt8)≤9223372036854775807)∧∀ s7:List UInt8,s7=s6++([61,61]:List UInt8) →
 (List.length s7 + List.length ([32]:List UInt8)≤9223372036854775807)∧∀ s8:List UInt8,s8=s7++([32]:List UInt8) →
 ∃ (s9:List UInt8),(Vq w 110 #[.int .i64 x4] (.string ⟨s9.toArray⟩)) ∧
 (List.length s8 + List.length s9≤9223372036854775807)∧∀ s10:List UInt8,s10=s8++s9 →
 (.string ⟨s10.toArray⟩:Value)=v))∧(¬ (x3=4)→(
 (List.length s6 + List.length ([33,61]:List UInt8)≤9223372036854775807)∧∀ s7:List UInt8,s7=s6++([33,61]:List UInt8) →
 (List.length s7 + List.length ([32]:List UInt8)≤9223372036854775807)∧∀ s8:List UInt8,s8=s7++([32]:List UInt8) →
 ∃ (s9:List UInt8),(Vq w 110 #[.int .i64 x4] (.string ⟨s9.toArray⟩)) ∧
 (List.length s8 + List.length s9≤9223372036854775807)∧∀ s10:List UInt8,s10=s8++s9 →
 (.string ⟨s10.toArray⟩:Value)=v))))))))))
abbrev Vj_ullageref10_text_T1(x3:Int)(x4:Int)(s5:List UInt8)(v:Value)(w:World):Prop :=
 ((x3=5)→(
 ((x4=0)→(
 (.string ⟨s5.toArray⟩:Value)=v))∧(¬ (x4=0)→( Vj_ullageref10_text_T2 s5 x3 w x4 v))))∧(¬ (x3=5)→( Vj_ullageref10_text_T2 s5 x3 w x4 v))
theorem zab(p0:Nat × Nat)(x0 x1 x2 x3 x4 x5 x6:Int)(b0:Bool)(s0:List UInt8)(w:World)(v:Value)(h :
 ((x0=2)→(
 (¬ (b0=true)) ∧
 (0 < x5) ∧
 ∃ (x7:Int),w.cell? ⟨p0.1,p0.2 + (Int.toNat 0) * 7 + 0,none⟩=some (.int .i64 x7) ∧
 ∃ (x8:Int),w.cell? ⟨p0.1,p0.2 + (Int.toNat 0) * 7 + 1,none⟩=some (.int .i64 x8) ∧
 ∃ (s1:List UInt8),w.cell? ⟨p0.1,p0.2 + (Int.toNat 0) * 7 + 2,none⟩=some (.string ⟨s1.toArray⟩) ∧
 ∃ (x9:Int),w.cell? ⟨p0.1,p0.2 + (Int.toNat 0) * 7 + 3,none⟩=some (.int .i64 x9) ∧
 ∃ (x10:Int),w.cell? ⟨p0.1,p0.2 + (Int.toNat 0) * 7 + 4,none⟩=some (.int .i64 x10) ∧
 ∃ (x11:Int),w.cell? ⟨p0.1,p0.2 + (Int.toNat 0) * 7 + 5,none⟩=some (.int .i64 x11) ∧
 ∃ (b1:Bool) (p1:Nat × Nat) (x12 x13:Int),w.cell? ⟨p0.1,p0.2 + (Int.toNat 0) * 7 + 6,none⟩=some ((if b1=true then .slice none 0 0 else .slice (some (Vc.qad p1 (Int.toNat x12) (Int.toNat x13))) (Int.toNat x12) (Int.toNat x13):Value)) ∧
 ∃ (s2:List UInt8),(Vq w 109 #[.agg #[.int .i64 x7,.int .i64 x8,.string ⟨s1.toArray⟩,.int .i64 x9,.int .i64 x10,.int .i64 x11,(if b1=true then .slice none 0 0 else .slice (some (Vc.qad p1 (Int.toNat x12) (Int.toNat x13))) (Int.toNat x12) (Int.toNat x13):Value)],.int .i64 2] (.string ⟨s2.toArray⟩)) ∧
 (List.length ([33]:List UInt8) + List.length s2≤9223372036854775807)∧∀ s3:List UInt8,s3=([33]:List UInt8)++s2 →
 (.string ⟨s3.toArray⟩:Value)=v))∧(¬ (x0=2)→(
 ((x0=3)→(
 (¬ (b0=true)) ∧
 (0 < x5) ∧
 ∃ (x7:Int),w.cell? ⟨p0.1,p0.2 + (Int.toNat 0) * 7 + 0,none⟩=some (.int .i64 x7) ∧
 ∃ (x8:Int),w.cell? ⟨p0.1,p0.2 + (Int.toNat 0) * 7 + 1,none⟩=some (.int .i64 x8) ∧
 ∃ (s1:List UInt8),w.cell? ⟨p0.1,p0.2 + (Int.toNat 0) * 7 + 2,none⟩=some (.string ⟨s1.toArray⟩) ∧
 ∃ (x9:Int),w.cell? ⟨p0.1,p0.2 + (Int.toNat 0) * 7 + 3,none⟩=some (.int .i64 x9) ∧
 ∃ (x10:Int),w.cell? ⟨p0.1,p0.2 + (Int.toNat 0) * 7 + 4,none⟩=some (.int .i64 x10) ∧
 ∃ (x11:Int),w.cell? ⟨p0.1,p0.2 + (Int.toNat 0) * 7 + 5,none⟩=some (.int .i64 x11) ∧
 ∃ (b1:Bool) (p1:Nat × Nat) (x12 x13:Int),w.cell? ⟨p0.1,p0.2 + (Int.toNat 0) * 7 + 6,none⟩=some ((if b1=true then .slice none 0 0 else .slice (some (Vc.qad p1 (Int.toNat x12) (Int.toNat x13))) (Int.toNat x12) (Int.toNat x13):Value)) ∧
 (¬ (b0=true)) ∧
 (1 < x5) ∧
 ∃ (x14:Int),w.cell? ⟨p0.1,p0.2 + (Int.toNat 1) * 7 + 0,none⟩=some (.int .i64 x14) ∧
 ∃ (x15:Int),w.cell? ⟨p0.1,p0.2 + (Int.toNat 1) * 7 + 1,none⟩=some (.int .i64 x15) ∧
 ∃ (s2:List UInt8),w.cell? ⟨p0.1,p0.2 + (Int.toNat 1) * 7 + 2,none⟩=some (.string ⟨s2.toArray⟩) ∧
 ∃ (x16:Int),w.cell? ⟨p0.1,p0.2 + (Int.toNat 1) * 7 + 3,none⟩=some (.int .i64 x16) ∧
 ∃ (x17:Int),w.cell? ⟨p0.1,p0.2 + (Int.toNat 1) * 7 + 4,none⟩=some (.int .i64 x17) ∧
 ∃ (x18:Int),w.cell? ⟨p0.1,p0.2 + (Int.toNat 1) * 7 + 5,none⟩=some (.int .i64 x18) ∧
 ∃ (b2:Bool) (p2:Nat × Nat) (x19 x20:Int),w.cell? ⟨p0.1,p0.2 + (Int.toNat 1) * 7 + 6,none⟩=some ((if b2=true then .slice none 0 0 else .slice (some (Vc.qad p2 (Int.toNat x19) (Int.toNat x20))) (Int.toNat x19) (Int.toNat x20):Value)) ∧
 ∃ (s3:List UInt8),(Vq w 109 #[.agg #[.int .i64 x7,.int .i64 x8,.string ⟨s1.toArray⟩,.int .i64 x9,.int .i64 x10,.int .i64 x11,(if b1=true then .slice none 0 0 else .slice (some (Vc.qad p1 (Int.toNat x12) (Int.toNat x13))) (Int.toNat x12) (Int.toNat x13):Value)],.int .i64 3] (.string ⟨s3.toArray⟩)) ∧
 (List.length s3 + List.length ([32,38,32]:List UInt8)≤9223372036854775807)∧∀ s4:List UInt8,s4=s3++([32,38,32]:List UInt8) →
 ∃ (s5:List UInt8),(Vq w 109 #[.agg #[.int .i64 x14,.int .i64 x15,.string ⟨s2.toArray⟩,.int .i64 x16,.int .i64 x17,.int .i64 x18,(if b2=true then .slice none 0 0 else .slice (some (Vc.qad p2 (Int.toNat x19) (Int.toNat x20))) (Int.toNat x19) (Int.toNat x20):Value)],.int .i64 2] (.string ⟨s5.toArray⟩)) ∧
 (List.length s4 + List.length s5≤9223372036854775807)∧∀ s6:List UInt8,s6=s4++s5 →
 (.string ⟨s6.toArray⟩:Value)=v))∧(¬ (x0=3)→(
 ((x0=4)→(
 (¬ (b0=true)) ∧
 (0 < x5) ∧
 ∃ (x7:Int),w.cell? ⟨p0.1,p0.2 + (Int.toNat 0) * 7 + 0,none⟩=some (.int .i64 x7) ∧
 ∃ (x8:Int),w.cell? ⟨p0.1,p0.2 + (Int.toNat 0) * 7 + 1,none⟩=some (.int .i64 x8) ∧
 ∃ (s1:List UInt8),w.cell? ⟨p0.1,p0.2 + (Int.toNat 0) * 7 + 2,none⟩=some (.string ⟨s1.toArray⟩) ∧
 ∃ (x9:Int),w.cell? ⟨p0.1,p0.2 + (Int.toNat 0) * 7 + 3,none⟩=some (.int .i64 x9) ∧
 ∃ (x10:Int),w.cell? ⟨p0.1,p0.2 + (Int.toNat 0) * 7 + 4,none⟩=some (.int .i64 x10) ∧
 ∃ (x11:Int),w.cell? ⟨p0.1,p0.2 + (Int.toNat 0) * 7 + 5,none⟩=some (.int .i64 x11) ∧
 ∃ (b1:Bool) (p1:Nat × Nat) (x12 x13:Int),w.cell? ⟨p0.1,p0.2 + (Int.toNat 0) * 7 + 6,none⟩=some ((if b1=true then .slice none 0 0 else .slice (some (Vc.qad p1 (Int.toNat x12) (Int.toNat x13))) (Int.toNat x12) (Int.toNat x13):Value)) ∧
 (¬ (b0=true)) ∧
 (1 < x5) ∧
 ∃ (x14:Int),w.cell? ⟨p0.1,p0.2 + (Int.toNat 1) * 7 + 0,none⟩=some (.int .i64 x14) ∧
 ∃ (x15:Int),w.cell? ⟨p0.1,p0.2 + (Int.toNat 1) * 7 + 1,none⟩=some (.int .i64 x15) ∧
 ∃ (s2:List UInt8),w.cell? ⟨p0.1,p0.2 + (Int.toNat 1) * 7 + 2,none⟩=some (.string ⟨s2.toArray⟩) ∧
 ∃ (x16:Int),w.cell? ⟨p0.1,p0.2 + (Int.toNat 1) * 7 + 3,none⟩=some (.int .i64 x16) ∧
 ∃ (x17:Int),w.cell? ⟨p0.1,p0.2 + (Int.toNat 1) * 7 + 4,none⟩=some (.int .i64 x17) ∧
 ∃ (x18:Int),w.cell? ⟨p0.1,p0.2 + (Int.toNat 1) * 7 + 5,none⟩=some (.int .i64 x18) ∧
 ∃ (b2:Bool) (p2:Nat × Nat) (x19 x20:Int),w.cell? ⟨p0.1,p0.2 + (Int.toNat 1) * 7 + 6,none⟩=some ((if b2=true then .slice none 0 0 else .slice (some (Vc.qad p2 (Int.toNat x19) (Int.toNat x20))) (Int.toNat x19) (Int.toNat x20):Value)) ∧
 ∃ (s3:List UInt8),(Vq w 109 #[.agg #[.int .i64 x7,.int .i64 x8,.string ⟨s1.toArray⟩,.int .i64 x9,.int .i64 x10,.int .i64 x11,(if b1=true then .slice none 0 0 else .slice (some (Vc.qad p1 (Int.toNat x12) (Int.toNat x13))) (Int.toNat x12) (Int.toNat x13):Value)],.int .i64 4] (.string ⟨s3.toArray⟩)) ∧
 (List.length s3 + List.length ([32,124,32]:List UInt8)≤9223372036854775807)∧∀ s4:List UInt8,s4=s3++([32,124,32]:List UInt8) →
 ∃ (s5:List UInt8),(Vq w 109 #[.agg #[.int .i64 x14,.int .i64 x15,.string ⟨s2.toArray⟩,.int .i64 x16,.int .i64 x17,.int .i64 x18,(if b2=true then .slice none 0 0 else .slice (some (Vc.qad p2 (Int.toNat x19) (Int.toNat x20))) (Int.toNat x19) (Int.toNat x20):Value)],.int .i64 3] (.string ⟨s5.toArray⟩)) ∧
 (List.length s4 + List.length s5≤9223372036854775807)∧∀ s6:List UInt8,s6=s4++s5 →
 (.string ⟨s6.toArray⟩:Value)=v))∧(¬ (x0=4)→(
 ((0 < x1)→(
 ∀ x7:Int,x7=IntKind.i64.wrap (x1 - 1) →
 (0≤x7) ∧
 (x7 < 2) ∧
 ((x7=0)→(
 (List.length ([109,111,115,116,40]:List UInt8) + List.length s0≤9223372036854775807)∧∀ s1:List UInt8,s1=([109,111,115,116,40]:List UInt8)++s0 →
 (List.length s1 + List.length ([44,32]:List UInt8)≤9223372036854775807)∧∀ s2:List UInt8,s2=s1++([44,32]:List UInt8) →
 ∃ (s3:List UInt8),(Vq w 110 #[.int .i64 x2] (.string ⟨s3.toArray⟩)) ∧
 (List.length s2 + List.length s3≤9223372036854775807)∧∀ s4:List UInt8,s4=s2++s3 →
 (List.length s4 + List.length ([41]:List UInt8)≤9223372036854775807)∧∀ s5:List UInt8,s5=s4++([41]:List UInt8) →
 ((x1=0)→( Vj_ullageref10_text_T1 x3 x4 s5 v w))∧(¬ (x1=0)→( Vj_ullageref10_text_T2 s5 x3 w x4 v))))∧(¬ (x7=0)→(
 (List.length ([108,101,97,115,116,40]:List UInt8) + List.length s0≤9223372036854775807)∧∀ s1:List UInt8,s1=([108,101,97,115,116,40]:List UInt8)++s0 →
 (List.length s1 + List.length ([44,32]:List UInt8)≤9223372036854775807)∧∀ s2:List UInt8,s2=s1++([44,32]:List UInt8) →
 ∃ (s3:List UInt8),(Vq w 110 #[.int .i64 x2] (.string ⟨s3.toArray⟩)) ∧
 (List.length s2 + List.length s3≤9223372036854775807)∧∀ s4:List UInt8,s4=s2++s3 →
 (List.length s4 + List.length ([41]:List UInt8)≤9223372036854775807)∧∀ s5:List UInt8,s5=s4++([41]:List UInt8) →
 ((x1=0)→( Vj_ullageref10_text_T1 x3 x4 s5 v w))∧(¬ (x1=0)→( Vj_ullageref10_text_T2 s5 x3 w x4 v))))))∧(¬ (0 < x1)→(
 ((x1=0)→( Vj_ullageref10_text_T1 x3 x4 s0 v w))∧(¬ (x1=0)→( Vj_ullageref10_text_T2 s0 x3 w x4 v))))))))))):Calls Tryz.prog 58 #[.agg #[.int .i64 x0,.int .i64 x1,.string ⟨s0.toArray⟩,.int .i64 x2,.int .i64 x3,.int .i64 x4,(if b0=true then .slice none 0 0 else .slice (some (Vc.qad p0 (Int.toNat x5) (Int.toNat x6))) (Int.toNat x5) (Int.toNat x6):Value)]] w (Vc.Ret v w) :=
 Vc.zi base [] [] 200 Tryz.func58 (b:=(Tryz.f58.body).getD .skip) (by kernel_rfl) [.cv (.agg [.int .i64 (.var 0),.int .i64 (.var 1),.sv 0,.int .i64 (.var 2),.int .i64 (.var 3),.int .i64 (.var 4),.qsl 0 0 7 (.var 5) (.var 6)])] ⟨7,1,0,1,0,1,0⟩ [] (Vc.envOf [x0,x1,x2,x3,x4,x5,x6] [b0] [] [p0] [s0]) (by kernel_rfl) Vc.zg (by kernel_rfl) (by kernel_rfl) h
theorem zse(p0:Nat × Nat)(x0 x1 x2 x3 x4 x5 x6:Int)(b0:Bool)(s0:List UInt8)(w:World)(v:Value)(h :
 ∃ (b1:Bool),(Vq w 24 #[.agg #[.int .i64 x0,.int .i64 x1,.string ⟨s0.toArray⟩,.int .i64 x2,.int .i64 x3,.int .i64 x4,(if b0=true then .slice none 0 0 else .slice (some (Vc.qad p0 (Int.toNat x5) (Int.toNat x6))) (Int.toNat x5) (Int.toNat x6):Value)]] (.bool b1)) ∧
 ((b1=true)→(
 ∃ (s1:List UInt8),(Vq w 58 #[.agg #[.int .i64 x0,.int .i64 x1,.string ⟨s0.toArray⟩,.int .i64 x2,.int .i64 x3,.int .i64 x4,(if b0=true then .slice none 0 0 else .slice (some (Vc.qad p0 (Int.toNat x5) (Int.toNat x6))) (Int.toNat x5) (Int.toNat x6):Value)]] (.string ⟨s1.toArray⟩)) ∧
 (.string ⟨s1.toArray⟩:Value)=v))∧(¬ (b1=true)→(
 (.string ⟨(([]:List UInt8)).toArray⟩:Value)=v))):Calls Tryz.prog 25 #[.agg #[.int .i64 x0,.int .i64 x1,.string ⟨s0.toArray⟩,.int .i64 x2,.int .i64 x3,.int .i64 x4,(if b0=true then .slice none 0 0 else .slice (some (Vc.qad p0 (Int.toNat x5) (Int.toNat x6))) (Int.toNat x5) (Int.toNat x6):Value)]] w (Vc.Ret v w) :=
 Vc.zi base [] [] 200 Tryz.func25 (b:=(Tryz.f25.body).getD .skip) (by kernel_rfl) [.cv (.agg [.int .i64 (.var 0),.int .i64 (.var 1),.sv 0,.int .i64 (.var 2),.int .i64 (.var 3),.int .i64 (.var 4),.qsl 0 0 7 (.var 5) (.var 6)])] ⟨7,1,0,1,0,1,0⟩ [] (Vc.envOf [x0,x1,x2,x3,x4,x5,x6] [b0] [] [p0] [s0]) (by kernel_rfl) Vc.zg (by kernel_rfl) (by kernel_rfl) h
end Go.Proofs.YtdjgnbkclcjiiaaGreatDoor
