import Derived.Test.YtfclibhhkphckaaGreatDoorG0
set_option linter.unusedVariables false
set_option maxRecDepth 100000
namespace Go.Proofs.YtfclibhhkphckaaGreatDoor
open Go Go.RowKit
theorem zhf(x0:Int)(w:World)(v:Value)(h :
 ((97≤x0)→(
 ((x0≤122)→(
 (.bool true:Value)=v))∧(¬ (x0≤122)→(
 ((65≤x0)→(
 (.bool (decide (x0≤90)):Value)=v))∧(¬ (65≤x0)→(
 (.bool false:Value)=v))))))∧(¬ (97≤x0)→(
 ((65≤x0)→(
 (.bool (decide (x0≤90)):Value)=v))∧(¬ (65≤x0)→(
 (.bool false:Value)=v))))):Calls Tryz.prog 143 #[.int .u8 x0] w (Vc.Ret v w) :=
 Vc.zb base [] [] 200 Tryz.func143 (b:=(Tryz.f143.body).getD .skip) (by kernel_rfl) [.cv (.one (.int .u8 (.var 0)))] ⟨1,0,0,0,0,0,0⟩ [] (Vc.envOf [x0] [] [] []) (by kernel_rfl) Vc.zc (by kernel_rfl) (by kernel_rfl) h
theorem zzf(x0:Int)(w:World)(v:Value)(h :
 ((48≤x0)→(
 (.bool (decide (x0≤57)):Value)=v))∧(¬ (48≤x0)→(
 (.bool false:Value)=v))):Calls Tryz.prog 141 #[.int .u8 x0] w (Vc.Ret v w) :=
 Vc.zb base [] [] 200 Tryz.func141 (b:=(Tryz.f141.body).getD .skip) (by kernel_rfl) [.cv (.one (.int .u8 (.var 0)))] ⟨1,0,0,0,0,0,0⟩ [] (Vc.envOf [x0] [] [] []) (by kernel_rfl) Vc.zc (by kernel_rfl) (by kernel_rfl) h
theorem zag(p0:Nat × Nat)(x0 x1:Int)(b0:Bool)(s0:List UInt8)(w:World)(v:Value)(h :
 ∃ (Ix2:List Vc.Vl→Prop) (mx2:List Vc.Vl→Nat),Ix2 [.i 0,.i 0]∧∀ (x2:Int) (x3:Int),Ix2 [.i x2,.i x3]→(
 (0≤x0) ∧
 ((¬ (b0=true))∨(x0=0)) ∧
 ((x3 < x0)→(
 (¬ (b0=true)) ∧
 (0≤x3) ∧
 (x3 < x0) ∧
 ∃ (s1:List UInt8),w.cell? ⟨p0.1,p0.2 + (Int.toNat x3) * 1 + 0,none⟩=some (.string ⟨s1.toArray⟩) ∧
 ((s1=s0)→(
 (.int .i64 x3:Value)=v))∧(¬ (s1=s0)→(
 ∀ x4:Int,x4=IntKind.i64.wrap (x3 + 1) →
 Ix2 [.i x2,.i x4]∧mx2 [.i x2,.i x4] < mx2 [.i x2,.i x3]))))∧(¬ (x3 < x0)→(
 (.int .i64 (-1):Value)=v)))):Calls Tryz.prog 144 #[(if b0=true then .slice none 0 0 else .slice (some (Vc.qad p0 (Int.toNat x0) (Int.toNat x1))) (Int.toNat x0) (Int.toNat x1):Value),.string ⟨s0.toArray⟩] w (Vc.Ret v w) :=
 Vc.zb base [(4000000000002,.inv [] [4,5] [6,7,8,9,12,13,14,15,16,17,18,10,11])] [] 200 Tryz.func144 (b:=(Tryz.f144.body).getD .skip) (by kernel_rfl) [.cv (.one (.qsl 0 0 1 (.var 0) (.var 1))),.cv (.one (.sv 0))] ⟨2,1,0,1,0,1,0⟩ [] (Vc.envOf [x0,x1] [b0] [] [p0] [s0]) (by kernel_rfl) Vc.zc (by kernel_rfl) (by kernel_rfl) h
theorem ztg(s0:List UInt8)(w:World)(v:Value)(h :
 ((([107,109]:List UInt8)=s0)→(
 (.int .i64 0:Value)=v))∧(¬ (([107,109]:List UInt8)=s0)→(
 ((([109]:List UInt8)=s0)→(
 (.int .i64 1:Value)=v))∧(¬ (([109]:List UInt8)=s0)→(
 ((([99,109]:List UInt8)=s0)→(
 (.int .i64 2:Value)=v))∧(¬ (([99,109]:List UInt8)=s0)→(
 ((([115]:List UInt8)=s0)→(
 (.int .i64 3:Value)=v))∧(¬ (([115]:List UInt8)=s0)→(
 ((([109,115]:List UInt8)=s0)→(
 (.int .i64 4:Value)=v))∧(¬ (([109,115]:List UInt8)=s0)→(
 ((([109,105,110]:List UInt8)=s0)→(
 (.int .i64 5:Value)=v))∧(¬ (([109,105,110]:List UInt8)=s0)→(
 ((([104]:List UInt8)=s0)→(
 (.int .i64 6:Value)=v))∧(¬ (([104]:List UInt8)=s0)→(
 ((([116]:List UInt8)=s0)→(
 (.int .i64 7:Value)=v))∧(¬ (([116]:List UInt8)=s0)→(
 ((([107,103]:List UInt8)=s0)→(
 (.int .i64 8:Value)=v))∧(¬ (([107,103]:List UInt8)=s0)→(
 ((([77,78]:List UInt8)=s0)→(
 (.int .i64 9:Value)=v))∧(¬ (([77,78]:List UInt8)=s0)→(
 ((([107,78]:List UInt8)=s0)→(
 (.int .i64 10:Value)=v))∧(¬ (([107,78]:List UInt8)=s0)→(
 ((([78]:List UInt8)=s0)→(
 (.int .i64 11:Value)=v))∧(¬ (([78]:List UInt8)=s0)→(
 ((([80,97]:List UInt8)=s0)→(
 (.int .i64 12:Value)=v))∧(¬ (([80,97]:List UInt8)=s0)→(
 ((([107,80,97]:List UInt8)=s0)→(
 (.int .i64 13:Value)=v))∧(¬ (([107,80,97]:List UInt8)=s0)→(
 (.int .i64 (-1):Value)=v))))))))))))))))))))))))))))):Calls Tryz.prog 146 #[.string ⟨s0.toArray⟩] w (Vc.Ret v w) :=
 Vc.zb (ze [161,174] (by kernel_rfl)) [] [] 200 Tryz.func146 (b:=(Tryz.f146.body).getD .skip) (by kernel_rfl) [.cv (.one (.sv 0))] ⟨0,0,0,0,0,1,0⟩ [] (Vc.envOf [] [] [] [] [s0]) (by kernel_rfl) Vc.zc (by kernel_rfl) (by kernel_rfl) h
theorem zje(s0:List UInt8)(w:World)(v:Value)(h :
 ((([118,101,104,105,99,108,101]:List UInt8)=s0)→(
 (.bool true:Value)=v))∧(¬ (([118,101,104,105,99,108,101]:List UInt8)=s0)→(
 ((([108,101,116]:List UInt8)=s0)→(
 (.bool true:Value)=v))∧(¬ (([108,101,116]:List UInt8)=s0)→(
 ((([115,116,97,103,101]:List UInt8)=s0)→(
 (.bool true:Value)=v))∧(¬ (([115,116,97,103,101]:List UInt8)=s0)→(
 ((([101,110,103,105,110,101]:List UInt8)=s0)→(
 (.bool true:Value)=v))∧(¬ (([101,110,103,105,110,101]:List UInt8)=s0)→(
 ((([105,110]:List UInt8)=s0)→(
 (.bool true:Value)=v))∧(¬ (([105,110]:List UInt8)=s0)→(
 ((([100,114,97,103]:List UInt8)=s0)→(
 (.bool true:Value)=v))∧(¬ (([100,114,97,103]:List UInt8)=s0)→(
 ((([108,105,109,105,116,115]:List UInt8)=s0)→(
 (.bool true:Value)=v))∧(¬ (([108,105,109,105,116,115]:List UInt8)=s0)→(
 ((([112,97,121,108,111,97,100]:List UInt8)=s0)→(
 (.bool true:Value)=v))∧(¬ (([112,97,121,108,111,97,100]:List UInt8)=s0)→(
 ((([100,114,121]:List UInt8)=s0)→(
 (.bool true:Value)=v))∧(¬ (([100,114,121]:List UInt8)=s0)→(
 ((([112,114,111,112]:List UInt8)=s0)→(
 (.bool true:Value)=v))∧(¬ (([112,114,111,112]:List UInt8)=s0)→(
 ((([99,111,117,110,116]:List UInt8)=s0)→(
 (.bool true:Value)=v))∧(¬ (([99,111,117,110,116]:List UInt8)=s0)→(
 ((([116,104,114,117,115,116]:List UInt8)=s0)→(
 (.bool true:Value)=v))∧(¬ (([116,104,114,117,115,116]:List UInt8)=s0)→(
 ((([102,108,111,119]:List UInt8)=s0)→(
 (.bool true:Value)=v))∧(¬ (([102,108,111,119]:List UInt8)=s0)→(
 ((([108,101,97,115,116]:List UInt8)=s0)→(
 (.bool true:Value)=v))∧(¬ (([108,101,97,115,116]:List UInt8)=s0)→(
 ((([115,116,97,114,116]:List UInt8)=s0)→(
 (.bool true:Value)=v))∧(¬ (([115,116,97,114,116]:List UInt8)=s0)→(
 ((([115,116,111,112]:List UInt8)=s0)→(
 (.bool true:Value)=v))∧(¬ (([115,116,111,112]:List UInt8)=s0)→(
 ((([97,120,105,97,108]:List UInt8)=s0)→(
 (.bool true:Value)=v))∧(¬ (([97,120,105,97,108]:List UInt8)=s0)→(
 ((([98,101,110,100,105,110,103]:List UInt8)=s0)→(
 (.bool true:Value)=v))∧(¬ (([98,101,110,100,105,110,103]:List UInt8)=s0)→(
 ∃ (x0:Int),(Vq w 146 #[.string ⟨s0.toArray⟩] (.int .i64 x0)) ∧
 (.bool (decide (x0 ≥ 0)):Value)=v))))))))))))))))))))))))))))))))))))):Calls Tryz.prog 120 #[.string ⟨s0.toArray⟩] w (Vc.Ret v w) :=
 Vc.zb (ze [144] (by kernel_rfl)) [] [] 200 Tryz.func120 (b:=(Tryz.f120.body).getD .skip) (by kernel_rfl) [.cv (.one (.sv 0))] ⟨0,0,0,0,0,1,0⟩ [] (Vc.envOf [] [] [] [] [s0]) (by kernel_rfl) Vc.zc (by kernel_rfl) (by kernel_rfl) h
theorem zif(x0:Int)(s0:List UInt8)(w:World)(v:Value)(h :
 ∃ (Ib0:List Vc.Vl→Prop) (mb0:List Vc.Vl→Nat),Ib0 [.b false,.i 0,.i 1,.i 0,.i 0,.i x0]∧∀ (b0:Bool) (x1:Int) (x2:Int) (x3:Int) (x4:Int) (x5:Int),Ib0 [.b b0,.i x1,.i x2,.i x3,.i x4,.i x5]→(
 ∀ x6:Int,x6=((s0.length:Nat):Int) →
 ((x5 < x6)→(
 ∀ x7:Int,x7=((s0.length:Nat):Int) →
 (0≤x5) ∧
 (x5 < x7) ∧
 ∀ x8:Int,x8=(((s0.getD (Int.toNat x5) 0).toNat:Nat):Int) →
 ∃ (b1:Bool),(Vq w 141 #[.int .u8 x8] (.bool b1)) ∧
 ((b1=true)→(
 ∀ x9:Int,x9=((s0.length:Nat):Int) →
 (0≤x5) ∧
 (x5 < x9) ∧
 ∀ x10:Int,x10=(((s0.getD (Int.toNat x5) 0).toNat:Nat):Int) →
 ((x10=46)→(
 ∀ x11:Int,x11=IntKind.i64.wrap (x5 + 1) →
 Ib0 [.b true,.i x1,.i x2,.i x3,.i x4,.i x11]∧mb0 [.b true,.i x1,.i x2,.i x3,.i x4,.i x11] < mb0 [.b b0,.i x1,.i x2,.i x3,.i x4,.i x5]))∧(¬ (x10=46)→(
 ((x3 < 18)→(
 ∀ x11:Int,x11=IntKind.i64.wrap (10 * x1) →
 ∀ x12:Int,x12=((s0.length:Nat):Int) →
 (0≤x5) ∧
 (x5 < x12) ∧
 ∀ x13:Int,x13=(((s0.getD (Int.toNat x5) 0).toNat:Nat):Int) →
 ∀ x14:Int,x14=IntKind.u8.wrap (x13 - 48) →
 ∀ x15:Int,x15=IntKind.i64.wrap (x14) →
 ∀ x16:Int,x16=IntKind.i64.wrap (x11 + x15) →
 ((b0=true)→(
 ∀ x17:Int,x17=IntKind.i64.wrap (10 * x2) →
 ∀ x18:Int,x18=IntKind.i64.wrap (x3 + 1) →
 ∀ x19:Int,x19=IntKind.i64.wrap (x5 + 1) →
 Ib0 [.b b0,.i x16,.i x17,.i x18,.i x4,.i x19]∧mb0 [.b b0,.i x16,.i x17,.i x18,.i x4,.i x19] < mb0 [.b b0,.i x1,.i x2,.i x3,.i x4,.i x5]))∧(¬ (b0=true)→(
 ∀ x17:Int,x17=IntKind.i64.wrap (x3 + 1) →
 ∀ x18:Int,x18=IntKind.i64.wrap (x5 + 1) →
 Ib0 [.b b0,.i x16,.i x2,.i x17,.i x4,.i x18]∧mb0 [.b b0,.i x16,.i x2,.i x17,.i x4,.i x18] < mb0 [.b b0,.i x1,.i x2,.i x3,.i x4,.i x5]))))∧(¬ (x3 < 18)→(
 ∀ x11:Int,x11=IntKind.i64.wrap (x5 + 1) →
 Ib0 [.b b0,.i x1,.i x2,.i x3,.i 4,.i x11]∧mb0 [.b b0,.i x1,.i x2,.i x3,.i 4,.i x11] < mb0 [.b b0,.i x1,.i x2,.i x3,.i x4,.i x5]))))))∧(¬ (b1=true)→(
 ((b0=true)→(
 ∃ (x9:Int),∃ (x10:Int),∃ (x11:Int),∃ (x12:Int),∃ (x13:Int),∃ (x14:Int),(Vq w 160 #[.int .i64 x1,.int .i64 x2,.int .i64 0,.int .i64 0,.int .i64 0] (.tuple #[.agg #[.int .i64 x9,.int .i64 x10,.int .i64 x11,.int .i64 x12,.int .i64 x13],.int .i64 x14])) ∧
 (.agg #[.int .i64 2,.int .i64 x0,.int .i64 x5,.string ⟨(([]:List UInt8)).toArray⟩,.int .i64 x9,.int .i64 x10,.int .i64 x11,.int .i64 x12,.int .i64 x13,.int .i64 x4]:Value)=v))∧(¬ (b0=true)→(
 ∀ x9:Int,x9=((s0.length:Nat):Int) →
 (0≤x5) ∧
 (x5 < x9) ∧
 ∀ x10:Int,x10=(((s0.getD (Int.toNat x5) 0).toNat:Nat):Int) →
 ((x10=46)→(
 ∀ x11:Int,x11=IntKind.i64.wrap (x5 + 1) →
 ∀ x12:Int,x12=((s0.length:Nat):Int) →
 ((x11 < x12)→(
 ∀ x13:Int,x13=IntKind.i64.wrap (x5 + 1) →
 ∀ x14:Int,x14=((s0.length:Nat):Int) →
 (0≤x13) ∧
 (x13 < x14) ∧
 ∀ x15:Int,x15=(((s0.getD (Int.toNat x13) 0).toNat:Nat):Int) →
 ∃ (b2:Bool),(Vq w 141 #[.int .u8 x15] (.bool b2)) ∧
 ((b2=true)→(
 ∀ x16:Int,x16=((s0.length:Nat):Int) →
 (0≤x5) ∧
 (x5 < x16) ∧
 ∀ x17:Int,x17=(((s0.getD (Int.toNat x5) 0).toNat:Nat):Int) →
 ((x17=46)→(
 ∀ x18:Int,x18=IntKind.i64.wrap (x5 + 1) →
 Ib0 [.b true,.i x1,.i x2,.i x3,.i x4,.i x18]∧mb0 [.b true,.i x1,.i x2,.i x3,.i x4,.i x18] < mb0 [.b b0,.i x1,.i x2,.i x3,.i x4,.i x5]))∧(¬ (x17=46)→(
 ((x3 < 18)→(
 ∀ x18:Int,x18=IntKind.i64.wrap (10 * x1) →
 ∀ x19:Int,x19=((s0.length:Nat):Int) →
 (0≤x5) ∧
 (x5 < x19) ∧
 ∀ x20:Int,x20=(((s0.getD (Int.toNat x5) 0).toNat:Nat):Int) →
 ∀ x21:Int,x21=IntKind.u8.wrap (x20 - 48) →
 ∀ x22:Int,x22=IntKind.i64.wrap (x21) →
 ∀ x23:Int,x23=IntKind.i64.wrap (x18 + x22) →
 ((b0=true)→(
 ∀ x24:Int,x24=IntKind.i64.wrap (10 * x2) →
 ∀ x25:Int,x25=IntKind.i64.wrap (x3 + 1) →
 ∀ x26:Int,x26=IntKind.i64.wrap (x5 + 1) →
 Ib0 [.b b0,.i x23,.i x24,.i x25,.i x4,.i x26]∧mb0 [.b b0,.i x23,.i x24,.i x25,.i x4,.i x26] < mb0 [.b b0,.i x1,.i x2,.i x3,.i x4,.i x5]))∧(¬ (b0=true)→(
 ∀ x24:Int,x24=IntKind.i64.wrap (x3 + 1) →
 ∀ x25:Int,x25=IntKind.i64.wrap (x5 + 1) →
 Ib0 [.b b0,.i x23,.i x2,.i x24,.i x4,.i x25]∧mb0 [.b b0,.i x23,.i x2,.i x24,.i x4,.i x25] < mb0 [.b b0,.i x1,.i x2,.i x3,.i x4,.i x5]))))∧(¬ (x3 < 18)→(
 ∀ x18:Int,x18=IntKind.i64.wrap (x5 + 1) →
 Ib0 [.b b0,.i x1,.i x2,.i x3,.i 4,.i x18]∧mb0 [.b b0,.i x1,.i x2,.i x3,.i 4,.i x18] < mb0 [.b b0,.i x1,.i x2,.i x3,.i x4,.i x5]))))))∧(¬ (b2=true)→(
 ∃ (x16:Int),∃ (x17:Int),∃ (x18:Int),∃ (x19:Int),∃ (x20:Int),∃ (x21:Int),(Vq w 160 #[.int .i64 x1,.int .i64 x2,.int .i64 0,.int .i64 0,.int .i64 0] (.tuple #[.agg #[.int .i64 x16,.int .i64 x17,.int .i64 x18,.int .i64 x19,.int .i64 x20],.int .i64 x21])) ∧
 (.agg #[.int .i64 2,.int .i64 x0,.int .i64 x5,.string ⟨(([]:List UInt8)).toArray⟩,.int .i64 x16,.int .i64 x17,.int .i64 x18,.int .i64 x19,.int .i64 x20,.int .i64 x4]:Value)=v))))∧(¬ (x11 < x12)→(
 ∃ (x13:Int),∃ (x14:Int),∃ (x15:Int),∃ (x16:Int),∃ (x17:Int),∃ (x18:Int),(Vq w 160 #[.int .i64 x1,.int .i64 x2,.int .i64 0,.int .i64 0,.int .i64 0] (.tuple #[.agg #[.int .i64 x13,.int .i64 x14,.int .i64 x15,.int .i64 x16,.int .i64 x17],.int .i64 x18])) ∧
 (.agg #[.int .i64 2,.int .i64 x0,.int .i64 x5,.string ⟨(([]:List UInt8)).toArray⟩,.int .i64 x13,.int .i64 x14,.int .i64 x15,.int .i64 x16,.int .i64 x17,.int .i64 x4]:Value)=v))))∧(¬ (x10=46)→(
 ∃ (x11:Int),∃ (x12:Int),∃ (x13:Int),∃ (x14:Int),∃ (x15:Int),∃ (x16:Int),(Vq w 160 #[.int .i64 x1,.int .i64 x2,.int .i64 0,.int .i64 0,.int .i64 0] (.tuple #[.agg #[.int .i64 x11,.int .i64 x12,.int .i64 x13,.int .i64 x14,.int .i64 x15],.int .i64 x16])) ∧
 (.agg #[.int .i64 2,.int .i64 x0,.int .i64 x5,.string ⟨(([]:List UInt8)).toArray⟩,.int .i64 x11,.int .i64 x12,.int .i64 x13,.int .i64 x14,.int .i64 x15,.int .i64 x4]:Value)=v))))))))∧(¬ (x5 < x6)→(
 ∃ (x7:Int),∃ (x8:Int),∃ (x9:Int),∃ (x10:Int),∃ (x11:Int),∃ (x12:Int),(Vq w 160 #[.int .i64 x1,.int .i64 x2,.int .i64 0,.int .i64 0,.int .i64 0] (.tuple #[.agg #[.int .i64 x7,.int .i64 x8,.int .i64 x9,.int .i64 x10,.int .i64 x11],.int .i64 x12])) ∧
 (.agg #[.int .i64 2,.int .i64 x0,.int .i64 x5,.string ⟨(([]:List UInt8)).toArray⟩,.int .i64 x7,.int .i64 x8,.int .i64 x9,.int .i64 x10,.int .i64 x11,.int .i64 x4]:Value)=v)))):Calls Tryz.prog 142 #[.string ⟨s0.toArray⟩,.int .i64 x0] w (Vc.Ret v w) :=
 Vc.zb base [(39000000000003,.inv [(5,9),(5,2)] [9,6,7,8] [13,14,15,16,17,18,19,20,21,22,23,24,25,26,27,28,29,30,31,32,33,34,35,36,37,38,39,40,41,42,43,44,45,46,47,48,49,50,51,52,53,54,55,56,57,58,59,60,61,62,63,64,65,66,67,68,69,70,71,72,73,74,75,76,77])] [] 200 Tryz.func142 (b:=(Tryz.f142.body).getD .skip) (by kernel_rfl) [.cv (.one (.sv 0)),.cv (.one (.int .i64 (.var 0)))] ⟨1,0,0,0,0,1,0⟩ [] (Vc.envOf [x0] [] [] [] [s0]) (by kernel_rfl) Vc.zc (by kernel_rfl) (by kernel_rfl) h
theorem zug(x0:Int)(s0:List UInt8)(w:World)(v:Value)(h :
 ∃ (Ix1:List Vc.Vl→Prop) (mx1:List Vc.Vl→Nat),Ix1 [.i x0]∧∀ (x1:Int),Ix1 [.i x1]→(
 ∀ x2:Int,x2=((s0.length:Nat):Int) →
 ((x1 < x2)→(
 ∀ x3:Int,x3=((s0.length:Nat):Int) →
 (0≤x1) ∧
 (x1 < x3) ∧
 ∀ x4:Int,x4=(((s0.getD (Int.toNat x1) 0).toNat:Nat):Int) →
 ((x4=32)→(
 ∀ x5:Int,x5=IntKind.i64.wrap (x1 + 1) →
 Ix1 [.i x5]∧mx1 [.i x5] < mx1 [.i x1]))∧(¬ (x4=32)→(
 ∀ x5:Int,x5=((s0.length:Nat):Int) →
 (0≤x1) ∧
 (x1 < x5) ∧
 ∀ x6:Int,x6=(((s0.getD (Int.toNat x1) 0).toNat:Nat):Int) →
 ((x6=10)→(
 ∀ x7:Int,x7=IntKind.i64.wrap (x1 + 1) →
 Ix1 [.i x7]∧mx1 [.i x7] < mx1 [.i x1]))∧(¬ (x6=10)→(
 ∀ x7:Int,x7=((s0.length:Nat):Int) →
 ((x1=x7)→(
 (.agg #[.int .i64 0,.int .i64 x1,.int .i64 x1,.string ⟨(([]:List UInt8)).toArray⟩,.int .i64 0,.int .i64 0,.int .i64 0,.int .i64 0,.int .i64 0,.int .i64 0]:Value)=v))∧(¬ (x1=x7)→(
 ∀ x8:Int,x8=((s0.length:Nat):Int) →
 (0≤x1) ∧
 (x1 < x8) ∧
 ∀ x9:Int,x9=(((s0.getD (Int.toNat x1) 0).toNat:Nat):Int) →
 ∃ (b0:Bool),(Vq w 141 #[.int .u8 x9] (.bool b0)) ∧
 ((b0=true)→(
 ∃ (x10:Int),∃ (x11:Int),∃ (x12:Int),∃ (s1:List UInt8),∃ (x13:Int),∃ (x14:Int),∃ (x15:Int),∃ (x16:Int),∃ (x17:Int),∃ (x18:Int),(Vq w 142 #[.string ⟨s0.toArray⟩,.int .i64 x1] (.agg #[.int .i64 x10,.int .i64 x11,.int .i64 x12,.string ⟨s1.toArray⟩,.int .i64 x13,.int .i64 x14,.int .i64 x15,.int .i64 x16,.int .i64 x17,.int .i64 x18])) ∧
 (.agg #[.int .i64 x10,.int .i64 x11,.int .i64 x12,.string ⟨s1.toArray⟩,.int .i64 x13,.int .i64 x14,.int .i64 x15,.int .i64 x16,.int .i64 x17,.int .i64 x18]:Value)=v))∧(¬ (b0=true)→(
 ∀ x10:Int,x10=((s0.length:Nat):Int) →
 (0≤x1) ∧
 (x1 < x10) ∧
 ∀ x11:Int,x11=(((s0.getD (Int.toNat x1) 0).toNat:Nat):Int) →
 ∃ (b1:Bool),(Vq w 143 #[.int .u8 x11] (.bool b1)) ∧
 ((b1=true)→(
 ∃ (Ix12:List Vc.Vl→Prop) (mx12:List Vc.Vl→Nat),Ix12 [.i x1]∧∀ (x12:Int),Ix12 [.i x12]→(
 ∀ x13:Int,x13=((s0.length:Nat):Int) →
 ((x12 < x13)→(
 ∀ x14:Int,x14=((s0.length:Nat):Int) →
 (0≤x12) ∧
 (x12 < x14) ∧
 ∀ x15:Int,x15=(((s0.getD (Int.toNat x12) 0).toNat:Nat):Int) →
 ∃ (b2:Bool),(Vq w 143 #[.int .u8 x15] (.bool b2)) ∧
 ((b2=true)→(
 ∀ x16:Int,x16=IntKind.i64.wrap (x12 + 1) →
 Ix12 [.i x16]∧mx12 [.i x16] < mx12 [.i x12]))∧(¬ (b2=true)→(
 ∀ x16:Int,x16=((s0.length:Nat):Int) →
 (0≤x12) ∧
 (x12 < x16) ∧
 ∀ x17:Int,x17=(((s0.getD (Int.toNat x12) 0).toNat:Nat):Int) →
 ∃ (b3:Bool),(Vq w 141 #[.int .u8 x17] (.bool b3)) ∧
 ((b3=true)→(
 ∀ x18:Int,x18=IntKind.i64.wrap (x12 + 1) →
 Ix12 [.i x18]∧mx12 [.i x18] < mx12 [.i x12]))∧(¬ (b3=true)→(
 ∀ x18:Int,x18=((s0.length:Nat):Int) →
 (0≤x12) ∧
 (x12 < x18) ∧
 ∀ x19:Int,x19=(((s0.getD (Int.toNat x12) 0).toNat:Nat):Int) →
 ((x19=45)→(
 ∀ x20:Int,x20=IntKind.i64.wrap (x12 + 1) →
 Ix12 [.i x20]∧mx12 [.i x20] < mx12 [.i x12]))∧(¬ (x19=45)→(
 ∃ (Ix20:List Vc.Vl→Prop) (mx20:List Vc.Vl→Nat),Ix20 [.i x12]∧∀ (x20:Int),Ix20 [.i x20]→(
 ∀ x21:Int,x21=IntKind.i64.wrap (x20 - 1) →
 ∀ x22:Int,x22=((s0.length:Nat):Int) →
 (0≤x21) ∧
 (x21 < x22) ∧
 ∀ x23:Int,x23=(((s0.getD (Int.toNat x21) 0).toNat:Nat):Int) →
 ((x23=45)→(
 ∀ x24:Int,x24=IntKind.i64.wrap (x20 - 1) →
 Ix20 [.i x24]∧mx20 [.i x24] < mx20 [.i x20]))∧(¬ (x23=45)→(
 ((0:Int)≤x1∧(x1:Int)≤x20∧x20≤(List.length s0:Int))∧∀ s1:List UInt8,s1=List.take (Int.toNat x20 - Int.toNat x1) (List.drop (Int.toNat x1) s0) →
 ∀ x24:Int,x24=((s1.length:Nat):Int) →
 ((32 < x24)→(
 (.agg #[.int .i64 1,.int .i64 x1,.int .i64 x20,.string ⟨s1.toArray⟩,.int .i64 0,.int .i64 0,.int .i64 0,.int .i64 0,.int .i64 0,.int .i64 5]:Value)=v))∧(¬ (32 < x24)→(
 (.agg #[.int .i64 1,.int .i64 x1,.int .i64 x20,.string ⟨s1.toArray⟩,.int .i64 0,.int .i64 0,.int .i64 0,.int .i64 0,.int .i64 0,.int .i64 0]:Value)=v)))))))))))))∧(¬ (x12 < x13)→(
 ∃ (Ix14:List Vc.Vl→Prop) (mx14:List Vc.Vl→Nat),Ix14 [.i x12]∧∀ (x14:Int),Ix14 [.i x14]→(
 ∀ x15:Int,x15=IntKind.i64.wrap (x14 - 1) →
 ∀ x16:Int,x16=((s0.length:Nat):Int) →
 (0≤x15) ∧
 (x15 < x16) ∧
 ∀ x17:Int,x17=(((s0.getD (Int.toNat x15) 0).toNat:Nat):Int) →
 ((x17=45)→(
 ∀ x18:Int,x18=IntKind.i64.wrap (x14 - 1) →
 Ix14 [.i x18]∧mx14 [.i x18] < mx14 [.i x14]))∧(¬ (x17=45)→(
 ((0:Int)≤x1∧(x1:Int)≤x14∧x14≤(List.length s0:Int))∧∀ s1:List UInt8,s1=List.take (Int.toNat x14 - Int.toNat x1) (List.drop (Int.toNat x1) s0) →
 ∀ x18:Int,x18=((s1.length:Nat):Int) →
 ((32 < x18)→(
 (.agg #[.int .i64 1,.int .i64 x1,.int .i64 x14,.string ⟨s1.toArray⟩,.int .i64 0,.int .i64 0,.int .i64 0,.int .i64 0,.int .i64 0,.int .i64 5]:Value)=v))∧(¬ (32 < x18)→(
 (.agg #[.int .i64 1,.int .i64 x1,.int .i64 x14,.string ⟨s1.toArray⟩,.int .i64 0,.int .i64 0,.int .i64 0,.int .i64 0,.int .i64 0,.int .i64 0]:Value)=v))))))))))∧(¬ (b1=true)→(
 ∃ (Ix12:List Vc.Vl→Prop) (mx12:List Vc.Vl→Nat),Ix12 [.i 2,.i x1,.s [],.i 0,.i 0,.i 0,.s [],.i 0,.i 0,.i 0,.i 0,.i 0,.i 0]∧∀ (x12:Int) (x13:Int) (s1:List UInt8) (x14:Int) (x15:Int) (x16:Int) (s2:List UInt8) (x17:Int) (x18:Int) (x19:Int) (x20:Int) (x21:Int) (x22:Int),Ix12 [.i x12,.i x13,.s s1,.i x14,.i x15,.i x16,.s s2,.i x17,.i x18,.i x19,.i x20,.i x21,.i x22]→(
 ((0 < x12)→(
 ∀ x23:Int,x23=IntKind.i64.wrap (x1 + x12) →
 ∀ x24:Int,x24=((s0.length:Nat):Int) →
 ((x23≤x24)→(
 ∀ x25:Int,x25=IntKind.i64.wrap (x1 + x12) →
 ((0:Int)≤x1∧(x1:Int)≤x25∧x25≤(List.length s0:Int))∧∀ s3:List UInt8,s3=List.take (Int.toNat x25 - Int.toNat x1) (List.drop (Int.toNat x1) s0) →
 ∃ (x26:Int),(∀ (β:Nat→Nat) (w':World),Below w.heap.size w w'→((w.heap.size≤β 2∧w'.heap[β 2]? = some (.cells #[.string ⟨(([43,45]:List UInt8)).toArray⟩,.string ⟨(([46,46]:List UInt8)).toArray⟩,.string ⟨(([123]:List UInt8)).toArray⟩,.string ⟨(([125]:List UInt8)).toArray⟩,.string ⟨(([59]:List UInt8)).toArray⟩,.string ⟨(([58]:List UInt8)).toArray⟩,.string ⟨(([61]:List UInt8)).toArray⟩,.string ⟨(([43]:List UInt8)).toArray⟩,.string ⟨(([45]:List UInt8)).toArray⟩,.string ⟨(([42]:List UInt8)).toArray⟩,.string ⟨(([47]:List UInt8)).toArray⟩,.string ⟨(([40]:List UInt8)).toArray⟩,.string ⟨(([41]:List UInt8)).toArray⟩] 9))∧True)→Calls Tryz.prog 144 #[.slice (some ⟨β 2,0,none⟩) 13 13,.string ⟨s3.toArray⟩] w' (Vc.Ret (.int .i64 x26) w')) ∧
 ((0≤x26)→(
 ∀ x27:Int,x27=IntKind.i64.wrap (x1 + x12) →
 ((0:Int)≤x1∧(x1:Int)≤x27∧x27≤(List.length s0:Int))∧∀ s4:List UInt8,s4=List.take (Int.toNat x27 - Int.toNat x1) (List.drop (Int.toNat x1) s0) →
 (.agg #[.int .i64 3,.int .i64 x1,.int .i64 x27,.string ⟨s4.toArray⟩,.int .i64 0,.int .i64 0,.int .i64 0,.int .i64 0,.int .i64 0,.int .i64 0]:Value)=v))∧(¬ (0≤x26)→(
 ∀ x27:Int,x27=IntKind.i64.wrap (x12 - 1) →
 Ix12 [.i x27,.i x13,.s s1,.i x14,.i x15,.i x16,.s s2,.i x17,.i x18,.i x19,.i x20,.i x21,.i x22]∧mx12 [.i x27,.i x13,.s s1,.i x14,.i x15,.i x16,.s s2,.i x17,.i x18,.i x19,.i x20,.i x21,.i x22] < mx12 [.i x12,.i x13,.s s1,.i x14,.i x15,.i x16,.s s2,.i x17,.i x18,.i x19,.i x20,.i x21,.i x22]))))∧(¬ (x23≤x24)→(
 ∀ x25:Int,x25=IntKind.i64.wrap (x12 - 1) →
 Ix12 [.i x25,.i x13,.s s1,.i x14,.i x15,.i x16,.s s2,.i x17,.i x18,.i x19,.i x20,.i x21,.i x22]∧mx12 [.i x25,.i x13,.s s1,.i x14,.i x15,.i x16,.s s2,.i x17,.i x18,.i x19,.i x20,.i x21,.i x22] < mx12 [.i x12,.i x13,.s s1,.i x14,.i x15,.i x16,.s s2,.i x17,.i x18,.i x19,.i x20,.i x21,.i x22]))))∧(¬ (0 < x12)→(
 (.agg #[.int .i64 3,.int .i64 x1,.int .i64 x13,.string ⟨s1.toArray⟩,.int .i64 0,.int .i64 0,.int .i64 0,.int .i64 0,.int .i64 0,.int .i64 5]:Value)=v)))))))))))))))∧(¬ (x1 < x2)→(
 ∀ x3:Int,x3=((s0.length:Nat):Int) →
 ((x1=x3)→(
 (.agg #[.int .i64 0,.int .i64 x1,.int .i64 x1,.string ⟨(([]:List UInt8)).toArray⟩,.int .i64 0,.int .i64 0,.int .i64 0,.int .i64 0,.int .i64 0,.int .i64 0]:Value)=v))∧(¬ (x1=x3)→(
 ∀ x4:Int,x4=((s0.length:Nat):Int) →
 (0≤x1) ∧
 (x1 < x4) ∧
 ∀ x5:Int,x5=(((s0.getD (Int.toNat x1) 0).toNat:Nat):Int) →
 ∃ (b0:Bool),(Vq w 141 #[.int .u8 x5] (.bool b0)) ∧
 ((b0=true)→(
 ∃ (x6:Int),∃ (x7:Int),∃ (x8:Int),∃ (s1:List UInt8),∃ (x9:Int),∃ (x10:Int),∃ (x11:Int),∃ (x12:Int),∃ (x13:Int),∃ (x14:Int),(Vq w 142 #[.string ⟨s0.toArray⟩,.int .i64 x1] (.agg #[.int .i64 x6,.int .i64 x7,.int .i64 x8,.string ⟨s1.toArray⟩,.int .i64 x9,.int .i64 x10,.int .i64 x11,.int .i64 x12,.int .i64 x13,.int .i64 x14])) ∧
 (.agg #[.int .i64 x6,.int .i64 x7,.int .i64 x8,.string ⟨s1.toArray⟩,.int .i64 x9,.int .i64 x10,.int .i64 x11,.int .i64 x12,.int .i64 x13,.int .i64 x14]:Value)=v))∧(¬ (b0=true)→(
 ∀ x6:Int,x6=((s0.length:Nat):Int) →
 (0≤x1) ∧
 (x1 < x6) ∧
 ∀ x7:Int,x7=(((s0.getD (Int.toNat x1) 0).toNat:Nat):Int) →
 ∃ (b1:Bool),(Vq w 143 #[.int .u8 x7] (.bool b1)) ∧
 ((b1=true)→(
 ∃ (Ix8:List Vc.Vl→Prop) (mx8:List Vc.Vl→Nat),Ix8 [.i x1]∧∀ (x8:Int),Ix8 [.i x8]→(
 ∀ x9:Int,x9=((s0.length:Nat):Int) →
 ((x8 < x9)→(
 ∀ x10:Int,x10=((s0.length:Nat):Int) →
 (0≤x8) ∧
 (x8 < x10) ∧
 ∀ x11:Int,x11=(((s0.getD (Int.toNat x8) 0).toNat:Nat):Int) →
 ∃ (b2:Bool),(Vq w 143 #[.int .u8 x11] (.bool b2)) ∧
 ((b2=true)→(
 ∀ x12:Int,x12=IntKind.i64.wrap (x8 + 1) →
 Ix8 [.i x12]∧mx8 [.i x12] < mx8 [.i x8]))∧(¬ (b2=true)→(
 ∀ x12:Int,x12=((s0.length:Nat):Int) →
 (0≤x8) ∧
 (x8 < x12) ∧
 ∀ x13:Int,x13=(((s0.getD (Int.toNat x8) 0).toNat:Nat):Int) →
 ∃ (b3:Bool),(Vq w 141 #[.int .u8 x13] (.bool b3)) ∧
 ((b3=true)→(
 ∀ x14:Int,x14=IntKind.i64.wrap (x8 + 1) →
 Ix8 [.i x14]∧mx8 [.i x14] < mx8 [.i x8]))∧(¬ (b3=true)→(
 ∀ x14:Int,x14=((s0.length:Nat):Int) →
 (0≤x8) ∧
 (x8 < x14) ∧
 ∀ x15:Int,x15=(((s0.getD (Int.toNat x8) 0).toNat:Nat):Int) →
 ((x15=45)→(
 ∀ x16:Int,x16=IntKind.i64.wrap (x8 + 1) →
 Ix8 [.i x16]∧mx8 [.i x16] < mx8 [.i x8]))∧(¬ (x15=45)→(
 ∃ (Ix16:List Vc.Vl→Prop) (mx16:List Vc.Vl→Nat),Ix16 [.i x8]∧∀ (x16:Int),Ix16 [.i x16]→(
 ∀ x17:Int,x17=IntKind.i64.wrap (x16 - 1) →
 ∀ x18:Int,x18=((s0.length:Nat):Int) →
 (0≤x17) ∧
 (x17 < x18) ∧
 ∀ x19:Int,x19=(((s0.getD (Int.toNat x17) 0).toNat:Nat):Int) →
 ((x19=45)→(
 ∀ x20:Int,x20=IntKind.i64.wrap (x16 - 1) →
 Ix16 [.i x20]∧mx16 [.i x20] < mx16 [.i x16]))∧(¬ (x19=45)→(
 ((0:Int)≤x1∧(x1:Int)≤x16∧x16≤(List.length s0:Int))∧∀ s1:List UInt8,s1=List.take (Int.toNat x16 - Int.toNat x1) (List.drop (Int.toNat x1) s0) →
 ∀ x20:Int,x20=((s1.length:Nat):Int) →
 ((32 < x20)→(
 (.agg #[.int .i64 1,.int .i64 x1,.int .i64 x16,.string ⟨s1.toArray⟩,.int .i64 0,.int .i64 0,.int .i64 0,.int .i64 0,.int .i64 0,.int .i64 5]:Value)=v))∧(¬ (32 < x20)→(
 (.agg #[.int .i64 1,.int .i64 x1,.int .i64 x16,.string ⟨s1.toArray⟩,.int .i64 0,.int .i64 0,.int .i64 0,.int .i64 0,.int .i64 0,.int .i64 0]:Value)=v)))))))))))))∧(¬ (x8 < x9)→(
 ∃ (Ix10:List Vc.Vl→Prop) (mx10:List Vc.Vl→Nat),Ix10 [.i x8]∧∀ (x10:Int),Ix10 [.i x10]→(
 ∀ x11:Int,x11=IntKind.i64.wrap (x10 - 1) →
 ∀ x12:Int,x12=((s0.length:Nat):Int) →
 (0≤x11) ∧
 (x11 < x12) ∧
 ∀ x13:Int,x13=(((s0.getD (Int.toNat x11) 0).toNat:Nat):Int) →
 ((x13=45)→(
 ∀ x14:Int,x14=IntKind.i64.wrap (x10 - 1) →
 Ix10 [.i x14]∧mx10 [.i x14] < mx10 [.i x10]))∧(¬ (x13=45)→(
 ((0:Int)≤x1∧(x1:Int)≤x10∧x10≤(List.length s0:Int))∧∀ s1:List UInt8,s1=List.take (Int.toNat x10 - Int.toNat x1) (List.drop (Int.toNat x1) s0) →
 ∀ x14:Int,x14=((s1.length:Nat):Int) →
 ((32 < x14)→(
 (.agg #[.int .i64 1,.int .i64 x1,.int .i64 x10,.string ⟨s1.toArray⟩,.int .i64 0,.int .i64 0,.int .i64 0,.int .i64 0,.int .i64 0,.int .i64 5]:Value)=v))∧(¬ (32 < x14)→(
 (.agg #[.int .i64 1,.int .i64 x1,.int .i64 x10,.string ⟨s1.toArray⟩,.int .i64 0,.int .i64 0,.int .i64 0,.int .i64 0,.int .i64 0,.int .i64 0]:Value)=v))))))))))∧(¬ (b1=true)→(
 ∃ (Ix8:List Vc.Vl→Prop) (mx8:List Vc.Vl→Nat),Ix8 [.i 2,.i x1,.s [],.i 0,.i 0,.i 0,.s [],.i 0,.i 0,.i 0,.i 0,.i 0,.i 0]∧∀ (x8:Int) (x9:Int) (s1:List UInt8) (x10:Int) (x11:Int) (x12:Int) (s2:List UInt8) (x13:Int) (x14:Int) (x15:Int) (x16:Int) (x17:Int) (x18:Int),Ix8 [.i x8,.i x9,.s s1,.i x10,.i x11,.i x12,.s s2,.i x13,.i x14,.i x15,.i x16,.i x17,.i x18]→(
 ((0 < x8)→(
 ∀ x19:Int,x19=IntKind.i64.wrap (x1 + x8) →
 ∀ x20:Int,x20=((s0.length:Nat):Int) →
 ((x19≤x20)→(
 ∀ x21:Int,x21=IntKind.i64.wrap (x1 + x8) →
 ((0:Int)≤x1∧(x1:Int)≤x21∧x21≤(List.length s0:Int))∧∀ s3:List UInt8,s3=List.take (Int.toNat x21 - Int.toNat x1) (List.drop (Int.toNat x1) s0) →
 ∃ (x22:Int),(∀ (β:Nat→Nat) (w':World),Below w.heap.size w w'→((w.heap.size≤β 2∧w'.heap[β 2]? = some (.cells #[.string ⟨(([43,45]:List UInt8)).toArray⟩,.string ⟨(([46,46]:List UInt8)).toArray⟩,.string ⟨(([123]:List UInt8)).toArray⟩,.string ⟨(([125]:List UInt8)).toArray⟩,.string ⟨(([59]:List UInt8)).toArray⟩,.string ⟨(([58]:List UInt8)).toArray⟩,.string ⟨(([61]:List UInt8)).toArray⟩,.string ⟨(([43]:List UInt8)).toArray⟩,.string ⟨(([45]:List UInt8)).toArray⟩,.string ⟨(([42]:List UInt8)).toArray⟩,.string ⟨(([47]:List UInt8)).toArray⟩,.string ⟨(([40]:List UInt8)).toArray⟩,.string ⟨(([41]:List UInt8)).toArray⟩] 9))∧True)→Calls Tryz.prog 144 #[.slice (some ⟨β 2,0,none⟩) 13 13,.string ⟨s3.toArray⟩] w' (Vc.Ret (.int .i64 x22) w')) ∧
 ((0≤x22)→(
 ∀ x23:Int,x23=IntKind.i64.wrap (x1 + x8) →
 ((0:Int)≤x1∧(x1:Int)≤x23∧x23≤(List.length s0:Int))∧∀ s4:List UInt8,s4=List.take (Int.toNat x23 - Int.toNat x1) (List.drop (Int.toNat x1) s0) →
 (.agg #[.int .i64 3,.int .i64 x1,.int .i64 x23,.string ⟨s4.toArray⟩,.int .i64 0,.int .i64 0,.int .i64 0,.int .i64 0,.int .i64 0,.int .i64 0]:Value)=v))∧(¬ (0≤x22)→(
 ∀ x23:Int,x23=IntKind.i64.wrap (x8 - 1) →
 Ix8 [.i x23,.i x9,.s s1,.i x10,.i x11,.i x12,.s s2,.i x13,.i x14,.i x15,.i x16,.i x17,.i x18]∧mx8 [.i x23,.i x9,.s s1,.i x10,.i x11,.i x12,.s s2,.i x13,.i x14,.i x15,.i x16,.i x17,.i x18] < mx8 [.i x8,.i x9,.s s1,.i x10,.i x11,.i x12,.s s2,.i x13,.i x14,.i x15,.i x16,.i x17,.i x18]))))∧(¬ (x19≤x20)→(
 ∀ x21:Int,x21=IntKind.i64.wrap (x8 - 1) →
 Ix8 [.i x21,.i x9,.s s1,.i x10,.i x11,.i x12,.s s2,.i x13,.i x14,.i x15,.i x16,.i x17,.i x18]∧mx8 [.i x21,.i x9,.s s1,.i x10,.i x11,.i x12,.s s2,.i x13,.i x14,.i x15,.i x16,.i x17,.i x18] < mx8 [.i x8,.i x9,.s s1,.i x10,.i x11,.i x12,.s s2,.i x13,.i x14,.i x15,.i x16,.i x17,.i x18]))))∧(¬ (0 < x8)→(
 (.agg #[.int .i64 3,.int .i64 x1,.int .i64 x9,.string ⟨s1.toArray⟩,.int .i64 0,.int .i64 0,.int .i64 0,.int .i64 0,.int .i64 0,.int .i64 5]:Value)=v))))))))))))):Calls Tryz.prog 119 #[.string ⟨s0.toArray⟩,.int .i64 x0] w (Vc.Ret v w) :=
 Vc.zb (ze [145] (by kernel_rfl)) [(16000000000001,.inv [] [1] [7,8,9,10,11,12,13,14,15,16,17,18,19,20,21,22,23,24]),(26000000000010,.inv [(5,2)] [] [45,46,47,48,49,50,51,52,53,54,55,56,57,58,59,60,61,62,63,64,65,66,67,68,69,70,71,72,73,74]),(6000000000012,.inv [(5,2)] [] [75,76,77,78,79,80,81,82,83,84]),(2000000000020,.inv [(5,2),(5,3),(4,0),(4,1),(4,2),(4,3),(4,4),(4,5),(4,6),(4,7),(4,8),(4,9)] [6] [98,99,102,103,104,105,106,107,108,109,110,111,112,113,114,115,116,117,118,119,120,121,122,123,124,125,126,127,128,129,100,101])] [] 200 Tryz.func119 (b:=(Tryz.f119.body).getD .skip) (by kernel_rfl) [.cv (.one (.sv 0)),.cv (.one (.int .i64 (.var 0)))] ⟨1,0,0,0,0,1,0⟩ [] (Vc.envOf [x0] [] [] [] [s0]) (by kernel_rfl) Vc.zc (by kernel_rfl) (by kernel_rfl) h
theorem zvg(s0:List UInt8)(w:World)(v:Value)(h :
 ∃ (x0:Int),∃ (x1:Int),∃ (x2:Int),∃ (s1:List UInt8),∃ (x3:Int),∃ (x4:Int),∃ (x5:Int),∃ (x6:Int),∃ (x7:Int),∃ (x8:Int),(Vq w 119 #[.string ⟨s0.toArray⟩,.int .i64 0] (.agg #[.int .i64 x0,.int .i64 x1,.int .i64 x2,.string ⟨s1.toArray⟩,.int .i64 x3,.int .i64 x4,.int .i64 x5,.int .i64 x6,.int .i64 x7,.int .i64 x8])) ∧
 ((x0=1)→(
 ((x8=0)→(
 ((x1=0)→(
 ∀ x9:Int,x9=((s0.length:Nat):Int) →
 ((x2=x9)→(
 ∃ (b0:Bool),(Vq w 120 #[.string ⟨s0.toArray⟩] (.bool b0)) ∧
 (.bool (!b0):Value)=v))∧(¬ (x2=x9)→(
 (.bool false:Value)=v))))∧(¬ (x1=0)→(
 (.bool false:Value)=v))))∧(¬ (x8=0)→(
 (.bool false:Value)=v))))∧(¬ (x0=1)→(
 (.bool false:Value)=v))):Calls Tryz.prog 85 #[.string ⟨s0.toArray⟩] w (Vc.Ret v w) :=
 Vc.zb base [] [] 200 Tryz.func85 (b:=(Tryz.f85.body).getD .skip) (by kernel_rfl) [.cv (.one (.sv 0))] ⟨0,0,0,0,0,1,0⟩ [] (Vc.envOf [] [] [] [] [s0]) (by kernel_rfl) Vc.zc (by kernel_rfl) (by kernel_rfl) h
end Go.Proofs.YtfclibhhkphckaaGreatDoor
