import Derived.Test.YtdjgnbkclcjiiaaGreatDoorG0
set_option linter.unusedVariables false
set_option maxRecDepth 100000
namespace Go.Proofs.YtdjgnbkclcjiiaaGreatDoor
open Go Go.RowKit
abbrev Vj_countdown_answer_T2(b0:Bool)(v:Value)(b1:Bool)(b2:Bool):Prop :=
 ((b0=true)→(
 (.int .i64 0:Value)=v))∧(¬ (b0=true)→(
 ((b1=true)→(
 (.int .i64 0:Value)=v))∧(¬ (b1=true)→(
 ((b2=true)→(
 (.int .i64 0:Value)=v))∧(¬ (b2=true)→(
 (.int .i64 (-1):Value)=v))))))
abbrev Vj_countdown_answer_T1(b1:Bool)(b2:Bool)(v:Value)(b0:Bool):Prop :=
 ((b1=true)→(
 ((b2=true)→(
 (.int .i64 1:Value)=v))∧(¬ (b2=true)→( Vj_countdown_answer_T2 b0 v b1 b2))))∧(¬ (b1=true)→( Vj_countdown_answer_T2 b0 v b1 b2))
theorem zkg(x0 x1 x2 x3:Int)(w:World)(v:Value)(h :
 (0≤x2) ∧
 (x2 < 6) ∧
 ((x2=0)→(
 Vg_1 w ∧
 ∀ x4:Int,x4=(if x3 < x1 then x3 else x1) →
 ∀ x5:Int,x5=(if x4 > x0 then x4 else x0) →
 ∃ (b0:Bool),(Vq w 219 #[.int .i64 x0,.int .i64 x3] (.bool b0)) ∧
 ∃ (b1:Bool),(Vq w 219 #[.int .i64 x5,.int .i64 x3] (.bool b1)) ∧
 ∃ (b2:Bool),(Vq w 219 #[.int .i64 x1,.int .i64 x3] (.bool b2)) ∧
 ((b0=true)→( Vj_countdown_answer_T1 b1 b2 v b0))∧(¬ (b0=true)→( Vj_countdown_answer_T2 b0 v b1 b2))))∧(¬ (x2=0)→(
 ((x2=1)→(
 Vg_1 w ∧
 ∀ x4:Int,x4=(if x3 < x1 then x3 else x1) →
 ∀ x5:Int,x5=(if x4 > x0 then x4 else x0) →
 ∃ (b0:Bool),(Vq w 220 #[.int .i64 x0,.int .i64 x3] (.bool b0)) ∧
 ∃ (b1:Bool),(Vq w 220 #[.int .i64 x5,.int .i64 x3] (.bool b1)) ∧
 ∃ (b2:Bool),(Vq w 220 #[.int .i64 x1,.int .i64 x3] (.bool b2)) ∧
 ((b0=true)→( Vj_countdown_answer_T1 b1 b2 v b0))∧(¬ (b0=true)→( Vj_countdown_answer_T2 b0 v b1 b2))))∧(¬ (x2=1)→(
 ((x2=2)→(
 Vg_1 w ∧
 ∀ x4:Int,x4=(if x3 < x1 then x3 else x1) →
 ∀ x5:Int,x5=(if x4 > x0 then x4 else x0) →
 ∃ (b0:Bool),(Vq w 221 #[.int .i64 x0,.int .i64 x3] (.bool b0)) ∧
 ∃ (b1:Bool),(Vq w 221 #[.int .i64 x5,.int .i64 x3] (.bool b1)) ∧
 ∃ (b2:Bool),(Vq w 221 #[.int .i64 x1,.int .i64 x3] (.bool b2)) ∧
 ((b0=true)→( Vj_countdown_answer_T1 b1 b2 v b0))∧(¬ (b0=true)→( Vj_countdown_answer_T2 b0 v b1 b2))))∧(¬ (x2=2)→(
 ((x2=3)→(
 Vg_1 w ∧
 ∀ x4:Int,x4=(if x3 < x1 then x3 else x1) →
 ∀ x5:Int,x5=(if x4 > x0 then x4 else x0) →
 ∃ (b0:Bool),(Vq w 222 #[.int .i64 x0,.int .i64 x3] (.bool b0)) ∧
 ∃ (b1:Bool),(Vq w 222 #[.int .i64 x5,.int .i64 x3] (.bool b1)) ∧
 ∃ (b2:Bool),(Vq w 222 #[.int .i64 x1,.int .i64 x3] (.bool b2)) ∧
 ((b0=true)→( Vj_countdown_answer_T1 b1 b2 v b0))∧(¬ (b0=true)→( Vj_countdown_answer_T2 b0 v b1 b2))))∧(¬ (x2=3)→(
 ((x2=4)→(
 Vg_1 w ∧
 ∀ x4:Int,x4=(if x3 < x1 then x3 else x1) →
 ∀ x5:Int,x5=(if x4 > x0 then x4 else x0) →
 ∃ (b0:Bool),(Vq w 223 #[.int .i64 x0,.int .i64 x3] (.bool b0)) ∧
 ∃ (b1:Bool),(Vq w 223 #[.int .i64 x5,.int .i64 x3] (.bool b1)) ∧
 ∃ (b2:Bool),(Vq w 223 #[.int .i64 x1,.int .i64 x3] (.bool b2)) ∧
 ((b0=true)→( Vj_countdown_answer_T1 b1 b2 v b0))∧(¬ (b0=true)→( Vj_countdown_answer_T2 b0 v b1 b2))))∧(¬ (x2=4)→(
 Vg_1 w ∧
 ∀ x4:Int,x4=(if x3 < x1 then x3 else x1) →
 ∀ x5:Int,x5=(if x4 > x0 then x4 else x0) →
 ∃ (b0:Bool),(Vq w 224 #[.int .i64 x0,.int .i64 x3] (.bool b0)) ∧
 ∃ (b1:Bool),(Vq w 224 #[.int .i64 x5,.int .i64 x3] (.bool b1)) ∧
 ∃ (b2:Bool),(Vq w 224 #[.int .i64 x1,.int .i64 x3] (.bool b2)) ∧
 ((b0=true)→( Vj_countdown_answer_T1 b1 b2 v b0))∧(¬ (b0=true)→( Vj_countdown_answer_T2 b0 v b1 b2))))))))))))):Calls Tryz.prog 128 #[.agg #[.int .i64 x0,.int .i64 x1],.int .i64 x2,.int .i64 x3] w (Vc.Ret v w) :=
 Vc.zh base [] globs 200 Tryz.func128 (b:=(Tryz.f128.body).getD .skip) (by kernel_rfl) [.cv (.agg [.int .i64 (.var 0),.int .i64 (.var 1)]),.cv (.one (.int .i64 (.var 2))),.cv (.one (.int .i64 (.var 3)))] ⟨4,0,0,1,0,0,0⟩ [.glo 0 1] (Vc.envOf [x0,x1,x2,x3] [] [] [(1,0)]) (by kernel_rfl) (Vc.zud (by kernel_rfl) rfl Vc.zaa) (by kernel_rfl) (by kernel_rfl) h
theorem zif(v0 v1 v2:Vc.OV)(hv0:v0.1=Value.iface 176 (.agg #[v1.1]))(w:World)(v:Value)(h :
 ∃ (x0:Int),(Vq w 68 #[v1.1,v2.1] (.int .i64 x0)) ∧
 ∀ x1:Int,x1=IntKind.i64.wrap (0 - x0) →
 (.int .i64 x1:Value)=v):Calls Tryz.prog 68 #[v0.1,v2.1] w (Vc.Ret v w) :=
 Vc.zh base [] [] 200 Tryz.func68 (b:=(Tryz.f68.body).getD .skip) (by kernel_rfl) [.cv (.one (.val 0)),.cv (.one (.val 2))] ⟨0,0,3,0,0,0,0⟩ [.ifc 0 176 (.agg [.val 1])] (Vc.envOf [] [] [v0,v1,v2] []) (by kernel_rfl) (Vc.zud (by kernel_rfl) hv0 Vc.zaa) (by kernel_rfl) (by kernel_rfl) h
theorem zjf(v0 v1 v2 v3:Vc.OV)(hv0:v0.1=Value.iface 180 (.agg #[v1.1,v2.1]))(w:World)(v:Value)(h :
 ∃ (x0:Int),(Vq w 68 #[v1.1,v3.1] (.int .i64 x0)) ∧
 ∃ (x1:Int),(Vq w 68 #[v2.1,v3.1] (.int .i64 x1)) ∧
 ∀ x2:Int,x2=(if x1 < x0 then x1 else x0) →
 (.int .i64 x2:Value)=v):Calls Tryz.prog 68 #[v0.1,v3.1] w (Vc.Ret v w) :=
 Vc.zh base [] [] 200 Tryz.func68 (b:=(Tryz.f68.body).getD .skip) (by kernel_rfl) [.cv (.one (.val 0)),.cv (.one (.val 3))] ⟨0,0,4,0,0,0,0⟩ [.ifc 0 180 (.agg [.val 1,.val 2])] (Vc.envOf [] [] [v0,v1,v2,v3] []) (by kernel_rfl) (Vc.zud (by kernel_rfl) hv0 Vc.zaa) (by kernel_rfl) (by kernel_rfl) h
theorem zkf(v0 v1 v2 v3:Vc.OV)(hv0:v0.1=Value.iface 181 (.agg #[v1.1,v2.1]))(w:World)(v:Value)(h :
 ∃ (x0:Int),(Vq w 68 #[v1.1,v3.1] (.int .i64 x0)) ∧
 ∃ (x1:Int),(Vq w 68 #[v2.1,v3.1] (.int .i64 x1)) ∧
 ∀ x2:Int,x2=(if x1 > x0 then x1 else x0) →
 (.int .i64 x2:Value)=v):Calls Tryz.prog 68 #[v0.1,v3.1] w (Vc.Ret v w) :=
 Vc.zh base [] [] 200 Tryz.func68 (b:=(Tryz.f68.body).getD .skip) (by kernel_rfl) [.cv (.one (.val 0)),.cv (.one (.val 3))] ⟨0,0,4,0,0,0,0⟩ [.ifc 0 181 (.agg [.val 1,.val 2])] (Vc.envOf [] [] [v0,v1,v2,v3] []) (by kernel_rfl) (Vc.zud (by kernel_rfl) hv0 Vc.zaa) (by kernel_rfl) (by kernel_rfl) h
theorem zlf(p0:Nat × Nat)(s0:List UInt8)(w:World)(v:Value)(h :
 ∃ (b0:Bool) (p1:Nat × Nat) (x0 x1:Int),w.cell? ⟨p0.1,p0.2 + (Int.toNat 0) * 1 + 0,none⟩=some ((if b0=true then .slice none 0 0 else .slice (some (Vc.qad p1 (Int.toNat x0) (Int.toNat x1))) (Int.toNat x0) (Int.toNat x1):Value)) ∧
 (0≤x0) ∧
 ((¬ (b0=true))∨(x0=0)) ∧
 ∃ (Ix2:List Vc.Vl→Prop) (mx2:List Vc.Vl→Nat),Ix2 [.i 0,.i 0]∧∀ (x2:Int) (x3:Int),Ix2 [.i x2,.i x3]→(
 ((x3 < x0)→(
 (¬ (b0=true)) ∧
 (0≤x3) ∧
 (x3 < x0) ∧
 ∃ (s1:List UInt8),w.cell? ⟨p1.1,p1.2 + (Int.toNat x3) * 1 + 0,none⟩=some (.string ⟨s1.toArray⟩) ∧
 ((s0=s1)→(
 (.bool (decide (x3 ≥ 0)):Value)=v))∧(¬ (s0=s1)→(
 ∀ x4:Int,x4=IntKind.i64.wrap (x3 + 1) →
 Ix2 [.i x2,.i x4]∧mx2 [.i x2,.i x4] < mx2 [.i x2,.i x3]))))∧(¬ (x3 < x0)→(
 (.bool false:Value)=v)))):Calls Tryz.prog 74 #[.string ⟨s0.toArray⟩,.pointer (some ⟨p0.1,p0.2 + (Int.toNat 0) * 1 + 0,none⟩)] w (Vc.Ret v w) :=
 Vc.zh (zrb [75,133] (by kernel_rfl)) [(1000000000002,.inv [] [4,8] [9,10,5,11,12,13,14,15,16,17,18])] [] 200 Tryz.func74 (b:=(Tryz.f74.body).getD .skip) (by kernel_rfl) [.cv (.one (.sv 0)),.cv (.one (.ext 0 (.lit (0)) 1 0))] ⟨0,0,0,1,0,1,0⟩ [] (Vc.envOf [] [] [] [p0] [s0]) (by kernel_rfl) Vc.zaa (by kernel_rfl) (by kernel_rfl) h
theorem zmf(p0 p1:Nat × Nat)(x0 x1 x2 x3 x4 x5 x6 x7 x8:Int)(b0 b1:Bool)(s0:List UInt8)(w:World)(v:Value)(h :
 ((x0=1)→(
 ∃ (Ix9:List Vc.Vl→Prop) (mx9:List Vc.Vl→Nat),Ix9 [.i 0,.i 0]∧∀ (x9:Int) (x10:Int),Ix9 [.i x9,.i x10]→(
 (0≤x7) ∧
 ((¬ (b1=true))∨(x7=0)) ∧
 ((x10 < x7)→(
 (¬ (b1=true)) ∧
 (0≤x10) ∧
 (x10 < x7) ∧
 ∃ (s1:List UInt8),w.cell? ⟨p1.1,p1.2 + (Int.toNat x10) * 1 + 0,none⟩=some (.string ⟨s1.toArray⟩) ∧
 ((s1=s0)→(
 ∀ x11:Int,x11=IntKind.i64.wrap (x10 + 1) →
 Ix9 [.i 1,.i x11]∧mx9 [.i 1,.i x11] < mx9 [.i x9,.i x10]))∧(¬ (s1=s0)→(
 ∀ x11:Int,x11=IntKind.i64.wrap (x10 + 1) →
 Ix9 [.i x9,.i x11]∧mx9 [.i x9,.i x11] < mx9 [.i x9,.i x10]))))∧(¬ (x10 < x7)→(
 ∃ (b2:Bool),(Vq w 103 #[.int .i64 x9,.int .i64 x3,.int .i64 x4] (.bool b2)) ∧
 (.bool b2:Value)=v)))))∧(¬ (x0=1)→(
 (¬ (b0=true)) ∧
 (0 < x5) ∧
 ∃ (x9:Int),w.cell? ⟨p0.1,p0.2 + (Int.toNat 0) * 7 + 0,none⟩=some (.int .i64 x9) ∧
 ∃ (x10:Int),w.cell? ⟨p0.1,p0.2 + (Int.toNat 0) * 7 + 1,none⟩=some (.int .i64 x10) ∧
 ∃ (s1:List UInt8),w.cell? ⟨p0.1,p0.2 + (Int.toNat 0) * 7 + 2,none⟩=some (.string ⟨s1.toArray⟩) ∧
 ∃ (x11:Int),w.cell? ⟨p0.1,p0.2 + (Int.toNat 0) * 7 + 3,none⟩=some (.int .i64 x11) ∧
 ∃ (x12:Int),w.cell? ⟨p0.1,p0.2 + (Int.toNat 0) * 7 + 4,none⟩=some (.int .i64 x12) ∧
 ∃ (x13:Int),w.cell? ⟨p0.1,p0.2 + (Int.toNat 0) * 7 + 5,none⟩=some (.int .i64 x13) ∧
 ∃ (b2:Bool) (p2:Nat × Nat) (x14 x15:Int),w.cell? ⟨p0.1,p0.2 + (Int.toNat 0) * 7 + 6,none⟩=some ((if b2=true then .slice none 0 0 else .slice (some (Vc.qad p2 (Int.toNat x14) (Int.toNat x15))) (Int.toNat x14) (Int.toNat x15):Value)) ∧
 ∃ (b3:Bool),(Vq w 54 #[.agg #[.int .i64 x9,.int .i64 x10,.string ⟨s1.toArray⟩,.int .i64 x11,.int .i64 x12,.int .i64 x13,(if b2=true then .slice none 0 0 else .slice (some (Vc.qad p2 (Int.toNat x14) (Int.toNat x15))) (Int.toNat x14) (Int.toNat x15):Value)],(if b1=true then .slice none 0 0 else .slice (some (Vc.qad p1 (Int.toNat x7) (Int.toNat x8))) (Int.toNat x7) (Int.toNat x8):Value)] (.bool b3)) ∧
 ((x0=2)→(
 (.bool (!b3):Value)=v))∧(¬ (x0=2)→(
 (¬ (b0=true)) ∧
 (1 < x5) ∧
 ∃ (x16:Int),w.cell? ⟨p0.1,p0.2 + (Int.toNat 1) * 7 + 0,none⟩=some (.int .i64 x16) ∧
 ∃ (x17:Int),w.cell? ⟨p0.1,p0.2 + (Int.toNat 1) * 7 + 1,none⟩=some (.int .i64 x17) ∧
 ∃ (s2:List UInt8),w.cell? ⟨p0.1,p0.2 + (Int.toNat 1) * 7 + 2,none⟩=some (.string ⟨s2.toArray⟩) ∧
 ∃ (x18:Int),w.cell? ⟨p0.1,p0.2 + (Int.toNat 1) * 7 + 3,none⟩=some (.int .i64 x18) ∧
 ∃ (x19:Int),w.cell? ⟨p0.1,p0.2 + (Int.toNat 1) * 7 + 4,none⟩=some (.int .i64 x19) ∧
 ∃ (x20:Int),w.cell? ⟨p0.1,p0.2 + (Int.toNat 1) * 7 + 5,none⟩=some (.int .i64 x20) ∧
 ∃ (b4:Bool) (p3:Nat × Nat) (x21 x22:Int),w.cell? ⟨p0.1,p0.2 + (Int.toNat 1) * 7 + 6,none⟩=some ((if b4=true then .slice none 0 0 else .slice (some (Vc.qad p3 (Int.toNat x21) (Int.toNat x22))) (Int.toNat x21) (Int.toNat x22):Value)) ∧
 ∃ (b5:Bool),(Vq w 54 #[.agg #[.int .i64 x16,.int .i64 x17,.string ⟨s2.toArray⟩,.int .i64 x18,.int .i64 x19,.int .i64 x20,(if b4=true then .slice none 0 0 else .slice (some (Vc.qad p3 (Int.toNat x21) (Int.toNat x22))) (Int.toNat x21) (Int.toNat x22):Value)],(if b1=true then .slice none 0 0 else .slice (some (Vc.qad p1 (Int.toNat x7) (Int.toNat x8))) (Int.toNat x7) (Int.toNat x8):Value)] (.bool b5)) ∧
 ((x0=3)→(
 ((b3=true)→(
 (.bool b5:Value)=v))∧(¬ (b3=true)→(
 (.bool false:Value)=v))))∧(¬ (x0=3)→(
 ((b3=true)→(
 (.bool true:Value)=v))∧(¬ (b3=true)→(
 (.bool b5:Value)=v))))))))):Calls Tryz.prog 54 #[.agg #[.int .i64 x0,.int .i64 x1,.string ⟨s0.toArray⟩,.int .i64 x2,.int .i64 x3,.int .i64 x4,(if b0=true then .slice none 0 0 else .slice (some (Vc.qad p0 (Int.toNat x5) (Int.toNat x6))) (Int.toNat x5) (Int.toNat x6):Value)],(if b1=true then .slice none 0 0 else .slice (some (Vc.qad p1 (Int.toNat x7) (Int.toNat x8))) (Int.toNat x7) (Int.toNat x8):Value)] w (Vc.Ret v w) :=
 Vc.zh base [(4000000000004,.inv [] [5,6] [12,13,14,15,18,19,20,21,22,23,24,16,17])] [] 200 Tryz.func54 (b:=(Tryz.f54.body).getD .skip) (by kernel_rfl) [.cv (.agg [.int .i64 (.var 0),.int .i64 (.var 1),.sv 0,.int .i64 (.var 2),.int .i64 (.var 3),.int .i64 (.var 4),.qsl 0 0 7 (.var 5) (.var 6)]),.cv (.one (.qsl 1 1 1 (.var 7) (.var 8)))] ⟨9,2,0,2,0,1,0⟩ [] (Vc.envOf [x0,x1,x2,x3,x4,x5,x6,x7,x8] [b0,b1] [] [p0,p1] [s0]) (by kernel_rfl) Vc.zaa (by kernel_rfl) (by kernel_rfl) h
theorem znf(p0 p1:Nat × Nat)(x0 x1 x2 x3 x4 x5 x6 x7 x8:Int)(b0 b1:Bool)(s0:List UInt8)(w:World)(v:Value)(h :
 ∃ (b2:Bool),(Vq w 24 #[.agg #[.int .i64 x0,.int .i64 x1,.string ⟨s0.toArray⟩,.int .i64 x2,.int .i64 x3,.int .i64 x4,(if b0=true then .slice none 0 0 else .slice (some (Vc.qad p0 (Int.toNat x5) (Int.toNat x6))) (Int.toNat x5) (Int.toNat x6):Value)]] (.bool b2)) ∧
 ((b2=true)→(
 ∃ (b3:Bool),(Vq w 54 #[.agg #[.int .i64 x0,.int .i64 x1,.string ⟨s0.toArray⟩,.int .i64 x2,.int .i64 x3,.int .i64 x4,(if b0=true then .slice none 0 0 else .slice (some (Vc.qad p0 (Int.toNat x5) (Int.toNat x6))) (Int.toNat x5) (Int.toNat x6):Value)],(if b1=true then .slice none 0 0 else .slice (some (Vc.qad p1 (Int.toNat x7) (Int.toNat x8))) (Int.toNat x7) (Int.toNat x8):Value)] (.bool b3)) ∧
 (.tuple #[.bool b3,.int .i64 0]:Value)=v))∧(¬ (b2=true)→(
 (.tuple #[.bool false,.int .i64 2]:Value)=v))):Calls Tryz.prog 20 #[.agg #[.int .i64 x0,.int .i64 x1,.string ⟨s0.toArray⟩,.int .i64 x2,.int .i64 x3,.int .i64 x4,(if b0=true then .slice none 0 0 else .slice (some (Vc.qad p0 (Int.toNat x5) (Int.toNat x6))) (Int.toNat x5) (Int.toNat x6):Value)],(if b1=true then .slice none 0 0 else .slice (some (Vc.qad p1 (Int.toNat x7) (Int.toNat x8))) (Int.toNat x7) (Int.toNat x8):Value)] w (Vc.Ret v w) :=
 Vc.zh base [] [] 200 Tryz.func20 (b:=(Tryz.f20.body).getD .skip) (by kernel_rfl) [.cv (.agg [.int .i64 (.var 0),.int .i64 (.var 1),.sv 0,.int .i64 (.var 2),.int .i64 (.var 3),.int .i64 (.var 4),.qsl 0 0 7 (.var 5) (.var 6)]),.cv (.one (.qsl 1 1 1 (.var 7) (.var 8)))] ⟨9,2,0,2,0,1,0⟩ [] (Vc.envOf [x0,x1,x2,x3,x4,x5,x6,x7,x8] [b0,b1] [] [p0,p1] [s0]) (by kernel_rfl) Vc.zaa (by kernel_rfl) (by kernel_rfl) h
theorem zxb(p0 p1:Nat × Nat)(x0 x1 x2 x3 x4 x5 x6 x7 x8:Int)(b0 b1:Bool)(s0:List UInt8)(w:World)(v:Value)(h :
 ∃ (x9:Int),(Vq w 45 #[.agg #[.int .i64 x0,.int .i64 x1,.string ⟨s0.toArray⟩,.int .i64 x2,.int .i64 x3,.int .i64 x4,(if b0=true then .slice none 0 0 else .slice (some (Vc.qad p0 (Int.toNat x5) (Int.toNat x6))) (Int.toNat x5) (Int.toNat x6):Value)],.int .i64 3000] (.int .i64 x9)) ∧
 ((3000 < x9)→(
 ∃ (b2:Bool),(Vq w 16 #[] (.bool b2)) ∧
 (.bool b2:Value)=v))∧(¬ (3000 < x9)→(
 (0≤x7) ∧
 ((¬ (b1=true))∨(x7=0)) ∧
 ((50 < x7)→(
 ∃ (b2:Bool),(Vq w 16 #[] (.bool b2)) ∧
 (.bool b2:Value)=v))∧(¬ (50 < x7)→(
 ∃ (b2:Bool),∃ (x10:Int),(Vq w 32 #[.agg #[.int .i64 x0,.int .i64 x1,.string ⟨s0.toArray⟩,.int .i64 x2,.int .i64 x3,.int .i64 x4,(if b0=true then .slice none 0 0 else .slice (some (Vc.qad p0 (Int.toNat x5) (Int.toNat x6))) (Int.toNat x5) (Int.toNat x6):Value)],(if b1=true then .slice none 0 0 else .slice (some (Vc.qad p1 (Int.toNat x7) (Int.toNat x8))) (Int.toNat x7) (Int.toNat x8):Value)] (.tuple #[.bool b2,.int .i64 x10])) ∧
 ∃ (b3:Bool),∃ (x11:Int),(Vq w 20 #[.agg #[.int .i64 x0,.int .i64 x1,.string ⟨s0.toArray⟩,.int .i64 x2,.int .i64 x3,.int .i64 x4,(if b0=true then .slice none 0 0 else .slice (some (Vc.qad p0 (Int.toNat x5) (Int.toNat x6))) (Int.toNat x5) (Int.toNat x6):Value)],(if b1=true then .slice none 0 0 else .slice (some (Vc.qad p1 (Int.toNat x7) (Int.toNat x8))) (Int.toNat x7) (Int.toNat x8):Value)] (.tuple #[.bool b3,.int .i64 x11])) ∧
 ((((b2=true)↔(b3=true)))→(
 ((x10=x11)→(
 ∃ (b4:Bool),(Vq w 16 #[] (.bool b4)) ∧
 (.bool b4:Value)=v))∧(¬ (x10=x11)→(
 (.bool false:Value)=v))))∧(¬ (((b2=true)↔(b3=true)))→(
 (.bool false:Value)=v))))))):Calls Tryz.prog 10 #[.agg #[.int .i64 x0,.int .i64 x1,.string ⟨s0.toArray⟩,.int .i64 x2,.int .i64 x3,.int .i64 x4,(if b0=true then .slice none 0 0 else .slice (some (Vc.qad p0 (Int.toNat x5) (Int.toNat x6))) (Int.toNat x5) (Int.toNat x6):Value)],(if b1=true then .slice none 0 0 else .slice (some (Vc.qad p1 (Int.toNat x7) (Int.toNat x8))) (Int.toNat x7) (Int.toNat x8):Value)] w (Vc.Ret v w) :=
 Vc.zh (zrb [15] (by kernel_rfl)) [] [] 200 Tryz.func10 (b:=(Tryz.f10.body).getD .skip) (by kernel_rfl) [.cv (.agg [.int .i64 (.var 0),.int .i64 (.var 1),.sv 0,.int .i64 (.var 2),.int .i64 (.var 3),.int .i64 (.var 4),.qsl 0 0 7 (.var 5) (.var 6)]),.cv (.one (.qsl 1 1 1 (.var 7) (.var 8)))] ⟨9,2,0,2,0,1,0⟩ [] (Vc.envOf [x0,x1,x2,x3,x4,x5,x6,x7,x8] [b0,b1] [] [p0,p1] [s0]) (by kernel_rfl) Vc.zaa (by kernel_rfl) (by kernel_rfl) h
end Go.Proofs.YtdjgnbkclcjiiaaGreatDoor
