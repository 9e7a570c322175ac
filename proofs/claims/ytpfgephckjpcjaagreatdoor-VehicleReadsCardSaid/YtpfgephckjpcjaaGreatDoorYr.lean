import Derived.Test.YtpfgephckjpcjaaGreatDoorG0
set_option linter.unusedVariables false
set_option maxRecDepth 100000
namespace Go.Proofs.YtpfgephckjpcjaaGreatDoor
open Go Go.RowKit
abbrev UL:List Value := [.string ⟨(([107,109]:List UInt8)).toArray⟩,.int .i64 1,.int .i64 1,.int .i64 1,.int .i64 0,.int .i64 0,.string ⟨(([109]:List UInt8)).toArray⟩,.int .i64 1,.int .i64 1000,.int .i64 1,.int .i64 0,.int .i64 0,.string ⟨(([99,109]:List UInt8)).toArray⟩,.int .i64 1,.int .i64 100000,.int .i64 1,.int .i64 0,.int .i64 0,.string ⟨(([115]:List UInt8)).toArray⟩,.int .i64 1,.int .i64 1,.int .i64 0,.int .i64 1,.int .i64 0,.string ⟨(([109,115]:List UInt8)).toArray⟩,.int .i64 1,.int .i64 1000,.int .i64 0,.int .i64 1,.int .i64 0,.string ⟨(([109,105,110]:List UInt8)).toArray⟩,.int .i64 60,.int .i64 1,.int .i64 0,.int .i64 1,.int .i64 0,.string ⟨(([104]:List UInt8)).toArray⟩,.int .i64 3600,.int .i64 1,.int .i64 0,.int .i64 1,.int .i64 0,.string ⟨(([116]:List UInt8)).toArray⟩,.int .i64 1,.int .i64 1,.int .i64 0,.int .i64 0,.int .i64 1,.string ⟨(([107,103]:List UInt8)).toArray⟩,.int .i64 1,.int .i64 1000,.int .i64 0,.int .i64 0,.int .i64 1,.string ⟨(([77,78]:List UInt8)).toArray⟩,.int .i64 1,.int .i64 1,.int .i64 1,.int .i64 (-2),.int .i64 1,.string ⟨(([107,78]:List UInt8)).toArray⟩,.int .i64 1,.int .i64 1000,.int .i64 1,.int .i64 (-2),.int .i64 1,.string ⟨(([78]:List UInt8)).toArray⟩,.int .i64 1,.int .i64 1000000,.int .i64 1,.int .i64 (-2),.int .i64 1,.string ⟨(([80,97]:List UInt8)).toArray⟩,.int .i64 1,.int .i64 1,.int .i64 (-1),.int .i64 (-2),.int .i64 1,.string ⟨(([107,80,97]:List UInt8)).toArray⟩,.int .i64 1000,.int .i64 1,.int .i64 (-1),.int .i64 (-2),.int .i64 1]
theorem Sl(p0:Nat × Nat)(x0 x1 x2 x3 x4 x5 x6:Int)(b0:Bool)(s0:List UInt8)(w:World)(v:Value)(h :
 ((x4=0)->(
 (.agg #[.string ⟨s0.toArray⟩,.int .i64 x0,.slice none 0 0,.int .i64 x5,.int .i64 x6]:Value)=v))/\(¬(x4=0)->(
 (.agg #[.string ⟨s0.toArray⟩,.int .i64 x0,.slice none 0 0,.int .i64 x3,.int .i64 x4]:Value)=v))):Calls Tryz.prog 62 #[.agg #[.string ⟨s0.toArray⟩,.int .i64 x0,.slice none 0 0,.int .i64 x3,.int .i64 x4],.int .i64 x5,.int .i64 x6] w (Vc.aR v w) :=
 Vc.za base [] [] 200 Tryz.func62 (b:=(Tryz.f62.body).getD .skip) (by kernel_rfl) [.cv (.agg [.sv 0,.int .i64 (.var 0),.dK,.int .i64 (.var 3),.int .i64 (.var 4)]),.cv (.one (.int .i64 (.var 5))),.cv (.one (.int .i64 (.var 6)))] ⟨7,1,0,1,0,1,0⟩ [] (Vc.aH [x0,x1,x2,x3,x4,x5,x6] [b0] [] [p0] [s0]) (by kernel_rfl) Vc.zc (by kernel_rfl) (by kernel_rfl) h
theorem Nc(p0:Nat × Nat)(x0 x1 x2 x3 x4:Int)(b0:Bool)(s0:List UInt8)(w:World)(v:Value)(h :
 ∃(x5:Int),∃(x6:Int),∃(x7:Int),∃(s1:List UInt8),∃(x8:Int),∃(x9:Int),∃(ar:Int),∃(aC:Int),∃(aA:Int),∃(au:Int),(Vq w 19 #[.string ⟨s0.toArray⟩,.int .i64 x0] (.agg #[.int .i64 x5,.int .i64 x6,.int .i64 x7,.string ⟨s1.toArray⟩,.int .i64 x8,.int .i64 x9,.int .i64 ar,.int .i64 aC,.int .i64 aA,.int .i64 au])) /\
 ((au=0)->(
 ∃(s2:List UInt8),∃(ao:Int),∃(b1:Bool) (p1:Nat × Nat) (aD az:Int),∃(aS:Int),∃(aU:Int),(Vq w 62 #[.agg #[.string ⟨s0.toArray⟩,.int .i64 x0,.slice none 0 0,.int .i64 x3,.int .i64 x4],.int .i64 x6,.int .i64 5] (.agg #[.string ⟨s2.toArray⟩,.int .i64 ao,(if b1=true then .slice none 0 0 else .slice (some (Vc.aO p1 aD.toNat az.toNat)) aD.toNat az.toNat:Value),.int .i64 aS,.int .i64 aU])) /\
 (.agg #[.string ⟨s2.toArray⟩,.int .i64 ao,(if b1=true then .slice none 0 0 else .slice (some (Vc.aO p1 aD.toNat az.toNat)) aD.toNat az.toNat:Value),.int .i64 aS,.int .i64 aU]:Value)=v))/\(¬(au=0)->(
 ∃(s2:List UInt8),∃(ao:Int),∃(b1:Bool) (p1:Nat × Nat) (aD az:Int),∃(aS:Int),∃(aU:Int),(Vq w 62 #[.agg #[.string ⟨s0.toArray⟩,.int .i64 x0,.slice none 0 0,.int .i64 x3,.int .i64 x4],.int .i64 x6,.int .i64 au] (.agg #[.string ⟨s2.toArray⟩,.int .i64 ao,(if b1=true then .slice none 0 0 else .slice (some (Vc.aO p1 aD.toNat az.toNat)) aD.toNat az.toNat:Value),.int .i64 aS,.int .i64 aU])) /\
 (.agg #[.string ⟨s2.toArray⟩,.int .i64 ao,(if b1=true then .slice none 0 0 else .slice (some (Vc.aO p1 aD.toNat az.toNat)) aD.toNat az.toNat:Value),.int .i64 aS,.int .i64 aU]:Value)=v))):Calls Tryz.prog 20 #[.agg #[.string ⟨s0.toArray⟩,.int .i64 x0,.slice none 0 0,.int .i64 x3,.int .i64 x4]] w (Vc.aR v w) :=
 Vc.za base [] [] 200 Tryz.func20 (b:=(Tryz.f20.body).getD .skip) (by kernel_rfl) [.cv (.agg [.sv 0,.int .i64 (.var 0),.dK,.int .i64 (.var 3),.int .i64 (.var 4)])] ⟨5,1,0,1,0,1,0⟩ [] (Vc.aH [x0,x1,x2,x3,x4] [b0] [] [p0] [s0]) (by kernel_rfl) Vc.zc (by kernel_rfl) (by kernel_rfl) h
theorem Nd(p0:Nat × Nat)(x0 x1 x2 x3 x4:Int)(b0:Bool)(s0:List UInt8)(w:World)(v:Value)(h :
 ∃(x5:Int),∃(x6:Int),∃(x7:Int),∃(s1:List UInt8),∃(x8:Int),∃(x9:Int),∃(ar:Int),∃(aC:Int),∃(aA:Int),∃(au:Int),(Vq w 19 #[.string ⟨s0.toArray⟩,.int .i64 x0] (.agg #[.int .i64 x5,.int .i64 x6,.int .i64 x7,.string ⟨s1.toArray⟩,.int .i64 x8,.int .i64 x9,.int .i64 ar,.int .i64 aC,.int .i64 aA,.int .i64 au])) /\
 ((au=0)->(
 (.agg #[.string ⟨s0.toArray⟩,.int .i64 x0,.slice none 0 0,.int .i64 x3,.int .i64 x4]:Value)=v))/\(¬(au=0)->(
 ∃(s2:List UInt8),∃(ao:Int),∃(b1:Bool) (p1:Nat × Nat) (aD az:Int),∃(aS:Int),∃(aU:Int),(Vq w 62 #[.agg #[.string ⟨s0.toArray⟩,.int .i64 x0,.slice none 0 0,.int .i64 x3,.int .i64 x4],.int .i64 x6,.int .i64 au] (.agg #[.string ⟨s2.toArray⟩,.int .i64 ao,(if b1=true then .slice none 0 0 else .slice (some (Vc.aO p1 aD.toNat az.toNat)) aD.toNat az.toNat:Value),.int .i64 aS,.int .i64 aU])) /\
 (.agg #[.string ⟨s2.toArray⟩,.int .i64 ao,(if b1=true then .slice none 0 0 else .slice (some (Vc.aO p1 aD.toNat az.toNat)) aD.toNat az.toNat:Value),.int .i64 aS,.int .i64 aU]:Value)=v))):Calls Tryz.prog 99 #[.agg #[.string ⟨s0.toArray⟩,.int .i64 x0,.slice none 0 0,.int .i64 x3,.int .i64 x4]] w (Vc.aR v w) :=
 Vc.za base [] [] 200 Tryz.func99 (b:=(Tryz.f99.body).getD .skip) (by kernel_rfl) [.cv (.agg [.sv 0,.int .i64 (.var 0),.dK,.int .i64 (.var 3),.int .i64 (.var 4)])] ⟨5,1,0,1,0,1,0⟩ [] (Vc.aH [x0,x1,x2,x3,x4] [b0] [] [p0] [s0]) (by kernel_rfl) Vc.zc (by kernel_rfl) (by kernel_rfl) h
theorem Sm(p0:Nat × Nat)(x0 x1 x2 x3 x4:Int)(b0:Bool)(s0 s1:List UInt8)(w:World)(v:Value)(h :
 ∃(x5:Int),∃(x6:Int),∃(x7:Int),∃(s2:List UInt8),∃(x8:Int),∃(x9:Int),∃(ar:Int),∃(aC:Int),∃(aA:Int),∃(au:Int),(Vq w 19 #[.string ⟨s0.toArray⟩,.int .i64 x0] (.agg #[.int .i64 x5,.int .i64 x6,.int .i64 x7,.string ⟨s2.toArray⟩,.int .i64 x8,.int .i64 x9,.int .i64 ar,.int .i64 aC,.int .i64 aA,.int .i64 au])) /\
 ((x4=0)->(
 ((au=0)->(
 (.bool (decide (s2=s1)):Value)=v))/\(¬(au=0)->(
 (.bool false:Value)=v))))/\(¬(x4=0)->(
 (.bool false:Value)=v))):Calls Tryz.prog 55 #[.agg #[.string ⟨s0.toArray⟩,.int .i64 x0,.slice none 0 0,.int .i64 x3,.int .i64 x4],.string ⟨s1.toArray⟩] w (Vc.aR v w) :=
 Vc.za base [] [] 200 Tryz.func55 (b:=(Tryz.f55.body).getD .skip) (by kernel_rfl) [.cv (.agg [.sv 0,.int .i64 (.var 0),.dK,.int .i64 (.var 3),.int .i64 (.var 4)]),.cv (.one (.sv 1))] ⟨5,1,0,1,0,2,0⟩ [] (Vc.aH [x0,x1,x2,x3,x4] [b0] [] [p0] [s0,s1]) (by kernel_rfl) Vc.zc (by kernel_rfl) (by kernel_rfl) h
theorem Nf(p0:Nat × Nat)(x0 x1 x2 x3 x4:Int)(b0:Bool)(s0 s1:List UInt8)(w:World)(v:Value)(h :
 ∃(b1:Bool),(Vq w 55 #[.agg #[.string ⟨s0.toArray⟩,.int .i64 x0,.slice none 0 0,.int .i64 x3,.int .i64 x4],.string ⟨s1.toArray⟩] (.bool b1)) /\
 ((b1=true)->(
 ∃(x5:Int),∃(x6:Int),∃(x7:Int),∃(s2:List UInt8),∃(x8:Int),∃(x9:Int),∃(ar:Int),∃(aC:Int),∃(aA:Int),∃(au:Int),(Vq w 19 #[.string ⟨s0.toArray⟩,.int .i64 x0] (.agg #[.int .i64 x5,.int .i64 x6,.int .i64 x7,.string ⟨s2.toArray⟩,.int .i64 x8,.int .i64 x9,.int .i64 ar,.int .i64 aC,.int .i64 aA,.int .i64 au])) /\
 (.agg #[.string ⟨s0.toArray⟩,.int .i64 x7,.slice none 0 0,.int .i64 x3,.int .i64 x4]:Value)=v))/\(¬(b1=true)->(
 ∃(s2:List UInt8),∃(x5:Int),∃(b2:Bool) (p1:Nat × Nat) (x6 x7:Int),∃(x8:Int),∃(x9:Int),(Vq w 20 #[.agg #[.string ⟨s0.toArray⟩,.int .i64 x0,.slice none 0 0,.int .i64 x3,.int .i64 x4]] (.agg #[.string ⟨s2.toArray⟩,.int .i64 x5,(if b2=true then .slice none 0 0 else .slice (some (Vc.aO p1 x6.toNat x7.toNat)) x6.toNat x7.toNat:Value),.int .i64 x8,.int .i64 x9])) /\
 (.agg #[.string ⟨s2.toArray⟩,.int .i64 x5,(if b2=true then .slice none 0 0 else .slice (some (Vc.aO p1 x6.toNat x7.toNat)) x6.toNat x7.toNat:Value),.int .i64 x8,.int .i64 x9]:Value)=v))):Calls Tryz.prog 133 #[.agg #[.string ⟨s0.toArray⟩,.int .i64 x0,.slice none 0 0,.int .i64 x3,.int .i64 x4],.string ⟨s1.toArray⟩] w (Vc.aR v w) :=
 Vc.za base [] [] 200 Tryz.func133 (b:=(Tryz.f133.body).getD .skip) (by kernel_rfl) [.cv (.agg [.sv 0,.int .i64 (.var 0),.dK,.int .i64 (.var 3),.int .i64 (.var 4)]),.cv (.one (.sv 1))] ⟨5,1,0,1,0,2,0⟩ [] (Vc.aH [x0,x1,x2,x3,x4] [b0] [] [p0] [s0,s1]) (by kernel_rfl) Vc.zc (by kernel_rfl) (by kernel_rfl) h
abbrev cJ(s2:List UInt8)(az:Int)(b1:Bool)(p1:Nat × Nat)(aS:Int)(aU:Int)(bh:Int)(a_:Int)(bC:Int)(bI:Int)(bu:Int)(bJ:Int)(cL:Int)(v:Value):Prop :=
 (.tuple #[.agg #[.string ⟨s2.toArray⟩,.int .i64 az,(if b1=true then .slice none 0 0 else .slice (some (Vc.aO p1 aS.toNat aU.toNat)) aS.toNat aU.toNat:Value),.int .i64 bh,.int .i64 a_],.agg #[.int .i64 bC,.int .i64 bI,.int .i64 bu,.int .i64 bJ,.int .i64 cL]]:Value)=v
abbrev cK(w:World)(s2:List UInt8)(az:Int)(b1:Bool)(p1:Nat × Nat)(aS:Int)(aU:Int)(bh:Int)(a_:Int)(aD:Int)(cI:Int)(bC:Int)(bI:Int)(bu:Int)(bJ:Int)(cL:Int)(v:Value):Prop :=
 ∃(s3:List UInt8),∃(dO:Int),∃(b2:Bool) (p2:Nat × Nat) (eT eM:Int),∃(eA:Int),∃(cY:Int),(Vq w 62 #[.agg #[.string ⟨s2.toArray⟩,.int .i64 az,(if b1=true then .slice none 0 0 else .slice (some (Vc.aO p1 aS.toNat aU.toNat)) aS.toNat aU.toNat:Value),.int .i64 bh,.int .i64 a_],.int .i64 aD,.int .i64 cI] (.agg #[.string ⟨s3.toArray⟩,.int .i64 dO,(if b2=true then .slice none 0 0 else .slice (some (Vc.aO p2 eT.toNat eM.toNat)) eT.toNat eM.toNat:Value),.int .i64 eA,.int .i64 cY])) /\
 (.tuple #[.agg #[.string ⟨s3.toArray⟩,.int .i64 dO,(if b2=true then .slice none 0 0 else .slice (some (Vc.aO p2 eT.toNat eM.toNat)) eT.toNat eM.toNat:Value),.int .i64 eA,.int .i64 cY],.agg #[.int .i64 bC,.int .i64 bI,.int .i64 bu,.int .i64 bJ,.int .i64 cL]]:Value)=v
theorem zd(p0:Nat × Nat)(x0 x1 x2 x3 x4 x5 x6 x7 x8 x9 ar aC aA au ao aD:Int)(b0:Bool)(s0 s1:List UInt8)(w:World)(v:Value)(h :
 ∃(s2:List UInt8),∃(az:Int),∃(b1:Bool) (p1:Nat × Nat) (aS aU:Int),∃(bh:Int),∃(a_:Int),(Vq w 99 #[.agg #[.string ⟨s0.toArray⟩,.int .i64 x0,.slice none 0 0,.int .i64 x3,.int .i64 x4]] (.agg #[.string ⟨s2.toArray⟩,.int .i64 az,(if b1=true then .slice none 0 0 else .slice (some (Vc.aO p1 aS.toNat aU.toNat)) aS.toNat aU.toNat:Value),.int .i64 bh,.int .i64 a_])) /\
 ((s1=([43]:List UInt8))->(
 ∃(bC:Int),∃(bI:Int),∃(bu:Int),∃(bJ:Int),∃(cL:Int),∃(cI:Int),(Vq w 100 #[.agg #[.int .i64 x5,.int .i64 x6,.int .i64 x7,.int .i64 x8,.int .i64 x9],.agg #[.int .i64 ar,.int .i64 aC,.int .i64 aA,.int .i64 au,.int .i64 ao]] (.tuple #[.agg #[.int .i64 bC,.int .i64 bI,.int .i64 bu,.int .i64 bJ,.int .i64 cL],.int .i64 cI])) /\
 ((cI=0)->( cJ s2 az b1 p1 aS aU bh a_ bC bI bu bJ cL v))/\(¬(cI=0)->( cK w s2 az b1 p1 aS aU bh a_ aD cI bC bI bu bJ cL v))))/\(¬(s1=([43]:List UInt8))->(
 ((s1=([45]:List UInt8))->(
 ∃(bC:Int),∃(bI:Int),∃(bu:Int),∃(bJ:Int),∃(cL:Int),∃(cI:Int),(Vq w 101 #[.agg #[.int .i64 x5,.int .i64 x6,.int .i64 x7,.int .i64 x8,.int .i64 x9],.agg #[.int .i64 ar,.int .i64 aC,.int .i64 aA,.int .i64 au,.int .i64 ao]] (.tuple #[.agg #[.int .i64 bC,.int .i64 bI,.int .i64 bu,.int .i64 bJ,.int .i64 cL],.int .i64 cI])) /\
 ((cI=0)->( cJ s2 az b1 p1 aS aU bh a_ bC bI bu bJ cL v))/\(¬(cI=0)->( cK w s2 az b1 p1 aS aU bh a_ aD cI bC bI bu bJ cL v))))/\(¬(s1=([45]:List UInt8))->(
 ((s1=([42]:List UInt8))->(
 ∃(bC:Int),∃(bI:Int),∃(bu:Int),∃(bJ:Int),∃(cL:Int),∃(cI:Int),(Vq w 102 #[.agg #[.int .i64 x5,.int .i64 x6,.int .i64 x7,.int .i64 x8,.int .i64 x9],.agg #[.int .i64 ar,.int .i64 aC,.int .i64 aA,.int .i64 au,.int .i64 ao]] (.tuple #[.agg #[.int .i64 bC,.int .i64 bI,.int .i64 bu,.int .i64 bJ,.int .i64 cL],.int .i64 cI])) /\
 ((cI=0)->( cJ s2 az b1 p1 aS aU bh a_ bC bI bu bJ cL v))/\(¬(cI=0)->( cK w s2 az b1 p1 aS aU bh a_ aD cI bC bI bu bJ cL v))))/\(¬(s1=([42]:List UInt8))->(
 ∃(bC:Int),∃(bI:Int),∃(bu:Int),∃(bJ:Int),∃(cL:Int),∃(cI:Int),(Vq w 103 #[.agg #[.int .i64 x5,.int .i64 x6,.int .i64 x7,.int .i64 x8,.int .i64 x9],.agg #[.int .i64 ar,.int .i64 aC,.int .i64 aA,.int .i64 au,.int .i64 ao]] (.tuple #[.agg #[.int .i64 bC,.int .i64 bI,.int .i64 bu,.int .i64 bJ,.int .i64 cL],.int .i64 cI])) /\
 ((cI=0)->( cJ s2 az b1 p1 aS aU bh a_ bC bI bu bJ cL v))/\(¬(cI=0)->( cK w s2 az b1 p1 aS aU bh a_ aD cI bC bI bu bJ cL v))))))))):Calls Tryz.prog 56 #[.agg #[.string ⟨s0.toArray⟩,.int .i64 x0,.slice none 0 0,.int .i64 x3,.int .i64 x4],.agg #[.int .i64 x5,.int .i64 x6,.int .i64 x7,.int .i64 x8,.int .i64 x9],.agg #[.int .i64 ar,.int .i64 aC,.int .i64 aA,.int .i64 au,.int .i64 ao],.string ⟨s1.toArray⟩,.int .i64 aD] w (Vc.aR v w) :=
 Vc.za base [] [] 200 Tryz.func56 (b:=(Tryz.f56.body).getD .skip) (by kernel_rfl) [.cv (.agg [.sv 0,.int .i64 (.var 0),.dK,.int .i64 (.var 3),.int .i64 (.var 4)]),.cv (.agg [.int .i64 (.var 5),.int .i64 (.var 6),.int .i64 (.var 7),.int .i64 (.var 8),.int .i64 (.var 9)]),.cv (.agg [.int .i64 (.var 10),.int .i64 (.var 11),.int .i64 (.var 12),.int .i64 (.var 13),.int .i64 (.var 14)]),.cv (.one (.sv 1)),.cv (.one (.int .i64 (.var 15)))] ⟨16,1,0,1,0,2,0⟩ [] (Vc.aH [x0,x1,x2,x3,x4,x5,x6,x7,x8,x9,ar,aC,aA,au,ao,aD] [b0] [] [p0] [s0,s1]) (by kernel_rfl) Vc.zc (by kernel_rfl) (by kernel_rfl) h
abbrev dv(s0:List UInt8)(x7:Int)(x3:Int)(x4:Int)(x8:Int)(x9:Int)(ar:Int)(aC:Int)(aA:Int)(v:Value):Prop :=
 (.tuple #[.agg #[.string ⟨s0.toArray⟩,.int .i64 x7,.slice none 0 0,.int .i64 x3,.int .i64 x4],.agg #[.int .i64 x8,.int .i64 x9,.int .i64 ar,.int .i64 aC,.int .i64 aA]]:Value)=v
abbrev bU(w:World)(s0:List UInt8)(x0:Int)(x3:Int)(x4:Int)(v:Value):Prop :=
 ∃(s2:List UInt8),∃(ao:Int),∃(b3:Bool) (p1:Nat × Nat) (aD az:Int),∃(aS:Int),∃(aU:Int),(Vq w 20 #[.agg #[.string ⟨s0.toArray⟩,.int .i64 x0,.slice none 0 0,.int .i64 x3,.int .i64 x4]] (.agg #[.string ⟨s2.toArray⟩,.int .i64 ao,(if b3=true then .slice none 0 0 else .slice (some (Vc.aO p1 aD.toNat az.toNat)) aD.toNat az.toNat:Value),.int .i64 aS,.int .i64 aU])) /\
 (.tuple #[.agg #[.string ⟨s2.toArray⟩,.int .i64 ao,(if b3=true then .slice none 0 0 else .slice (some (Vc.aO p1 aD.toNat az.toNat)) aD.toNat az.toNat:Value),.int .i64 aS,.int .i64 aU],.agg #[.int .i64 0,.int .i64 0,.int .i64 0,.int .i64 0,.int .i64 0]]:Value)=v
theorem zf(p0:Nat × Nat)(x0 x1 x2 x3 x4:Int)(b0:Bool)(s0:List UInt8)(w:World)(v:Value)(h :
 ∃(b1:Bool),(Vq w 55 #[.agg #[.string ⟨s0.toArray⟩,.int .i64 x0,.slice none 0 0,.int .i64 x3,.int .i64 x4],.string ⟨(([45]:List UInt8)).toArray⟩] (.bool b1)) /\
 ((b1=true)->(
 ∃(s1:List UInt8),∃(x5:Int),∃(b2:Bool) (p1:Nat × Nat) (x6 x7:Int),∃(x8:Int),∃(x9:Int),(Vq w 133 #[.agg #[.string ⟨s0.toArray⟩,.int .i64 x0,.slice none 0 0,.int .i64 x3,.int .i64 x4],.string ⟨(([45]:List UInt8)).toArray⟩] (.agg #[.string ⟨s1.toArray⟩,.int .i64 x5,(if b2=true then .slice none 0 0 else .slice (some (Vc.aO p1 x6.toNat x7.toNat)) x6.toNat x7.toNat:Value),.int .i64 x8,.int .i64 x9])) /\
 ∃(s2:List UInt8),∃(ar:Int),∃(b3:Bool) (p2:Nat × Nat) (aC aA:Int),∃(au:Int),∃(ao:Int),∃(aD:Int),∃(az:Int),∃(aS:Int),∃(aU:Int),∃(bh:Int),(Vq w 98 #[.agg #[.string ⟨s1.toArray⟩,.int .i64 x5,(if b2=true then .slice none 0 0 else .slice (some (Vc.aO p1 x6.toNat x7.toNat)) x6.toNat x7.toNat:Value),.int .i64 x8,.int .i64 x9]] (.tuple #[.agg #[.string ⟨s2.toArray⟩,.int .i64 ar,(if b3=true then .slice none 0 0 else .slice (some (Vc.aO p2 aC.toNat aA.toNat)) aC.toNat aA.toNat:Value),.int .i64 au,.int .i64 ao],.agg #[.int .i64 aD,.int .i64 az,.int .i64 aS,.int .i64 aU,.int .i64 bh]])) /\
 ∀a_:Int,a_=IntKind.i64.wrap (0-aD) ->
 (.tuple #[.agg #[.string ⟨s2.toArray⟩,.int .i64 ar,(if b3=true then .slice none 0 0 else .slice (some (Vc.aO p2 aC.toNat aA.toNat)) aC.toNat aA.toNat:Value),.int .i64 au,.int .i64 ao],.agg #[.int .i64 a_,.int .i64 az,.int .i64 aS,.int .i64 aU,.int .i64 bh]]:Value)=v))/\(¬(b1=true)->(
 ∃(b2:Bool),(Vq w 55 #[.agg #[.string ⟨s0.toArray⟩,.int .i64 x0,.slice none 0 0,.int .i64 x3,.int .i64 x4],.string ⟨(([40]:List UInt8)).toArray⟩] (.bool b2)) /\
 ((b2=true)->(
 ∃(s1:List UInt8),∃(x5:Int),∃(b3:Bool) (p1:Nat × Nat) (x6 x7:Int),∃(x8:Int),∃(x9:Int),(Vq w 133 #[.agg #[.string ⟨s0.toArray⟩,.int .i64 x0,.slice none 0 0,.int .i64 x3,.int .i64 x4],.string ⟨(([40]:List UInt8)).toArray⟩] (.agg #[.string ⟨s1.toArray⟩,.int .i64 x5,(if b3=true then .slice none 0 0 else .slice (some (Vc.aO p1 x6.toNat x7.toNat)) x6.toNat x7.toNat:Value),.int .i64 x8,.int .i64 x9])) /\
 ∃(s2:List UInt8),∃(ar:Int),∃(b4:Bool) (p2:Nat × Nat) (aC aA:Int),∃(au:Int),∃(ao:Int),∃(aD:Int),∃(az:Int),∃(aS:Int),∃(aU:Int),∃(bh:Int),(Vq w 18 #[.agg #[.string ⟨s1.toArray⟩,.int .i64 x5,(if b3=true then .slice none 0 0 else .slice (some (Vc.aO p1 x6.toNat x7.toNat)) x6.toNat x7.toNat:Value),.int .i64 x8,.int .i64 x9]] (.tuple #[.agg #[.string ⟨s2.toArray⟩,.int .i64 ar,(if b4=true then .slice none 0 0 else .slice (some (Vc.aO p2 aC.toNat aA.toNat)) aC.toNat aA.toNat:Value),.int .i64 au,.int .i64 ao],.agg #[.int .i64 aD,.int .i64 az,.int .i64 aS,.int .i64 aU,.int .i64 bh]])) /\
 ∃(s3:List UInt8),∃(a_:Int),∃(b5:Bool) (p3:Nat × Nat) (bC bI:Int),∃(bu:Int),∃(bJ:Int),(Vq w 133 #[.agg #[.string ⟨s2.toArray⟩,.int .i64 ar,(if b4=true then .slice none 0 0 else .slice (some (Vc.aO p2 aC.toNat aA.toNat)) aC.toNat aA.toNat:Value),.int .i64 au,.int .i64 ao],.string ⟨(([41]:List UInt8)).toArray⟩] (.agg #[.string ⟨s3.toArray⟩,.int .i64 a_,(if b5=true then .slice none 0 0 else .slice (some (Vc.aO p3 bC.toNat bI.toNat)) bC.toNat bI.toNat:Value),.int .i64 bu,.int .i64 bJ])) /\
 (.tuple #[.agg #[.string ⟨s3.toArray⟩,.int .i64 a_,(if b5=true then .slice none 0 0 else .slice (some (Vc.aO p3 bC.toNat bI.toNat)) bC.toNat bI.toNat:Value),.int .i64 bu,.int .i64 bJ],.agg #[.int .i64 aD,.int .i64 az,.int .i64 aS,.int .i64 aU,.int .i64 bh]]:Value)=v))/\(¬(b2=true)->(
 ∃(x5:Int),∃(x6:Int),∃(x7:Int),∃(s1:List UInt8),∃(x8:Int),∃(x9:Int),∃(ar:Int),∃(aC:Int),∃(aA:Int),∃(au:Int),(Vq w 19 #[.string ⟨s0.toArray⟩,.int .i64 x0] (.agg #[.int .i64 x5,.int .i64 x6,.int .i64 x7,.string ⟨s1.toArray⟩,.int .i64 x8,.int .i64 x9,.int .i64 ar,.int .i64 aC,.int .i64 aA,.int .i64 au])) /\
 ((x4=0)->(
 ((au=0)->(
 ((x5=0)->( bU w s0 x0 x3 x4 v))/\(¬(x5=0)->(
 ((x5=3)->( bU w s0 x0 x3 x4 v))/\(¬(x5=3)->(
 ((x5=2)->(
 ∃(ao:Int),∃(aD:Int),∃(az:Int),∃(s2:List UInt8),∃(aS:Int),∃(aU:Int),∃(bh:Int),∃(a_:Int),∃(bC:Int),∃(bI:Int),(Vq w 19 #[.string ⟨s0.toArray⟩,.int .i64 x7] (.agg #[.int .i64 ao,.int .i64 aD,.int .i64 az,.string ⟨s2.toArray⟩,.int .i64 aS,.int .i64 aU,.int .i64 bh,.int .i64 a_,.int .i64 bC,.int .i64 bI])) /\
 ∃(bu:Int),(Vq w 134 #[.string ⟨s2.toArray⟩] (.int .i64 bu)) /\
 ((ao=1)->(
 ((bI=0)->(
 ((bu<0)->( dv s0 x7 x3 x4 x8 x9 ar aC aA v))/\(¬(bu<0)->(
 (0<=bu) /\
 (bu<14) /\
 ∃(bJ:Int),(UL)[bu.toNat*6+1]? = some (.int .i64 bJ) /\
 ∃(cL:Int),(UL)[bu.toNat*6+2]? = some (.int .i64 cL) /\
 ∃(cI:Int),(UL)[bu.toNat*6+3]? = some (.int .i64 cI) /\
 ∃(dO:Int),(UL)[bu.toNat*6+4]? = some (.int .i64 dO) /\
 ∃(eT:Int),(UL)[bu.toNat*6+5]? = some (.int .i64 eT) /\
 ∃(s3:List UInt8),∃(eM:Int),∃(b3:Bool) (p1:Nat × Nat) (eA cY:Int),∃(cW:Int),∃(dj:Int),∃(cP:Int),∃(cM:Int),∃(cQ:Int),∃(c_:Int),∃(cU:Int),(Vq w 56 #[.agg #[.string ⟨s0.toArray⟩,.int .i64 az,.slice none 0 0,.int .i64 x3,.int .i64 x4],.agg #[.int .i64 x8,.int .i64 x9,.int .i64 ar,.int .i64 aC,.int .i64 aA],.agg #[.int .i64 bJ,.int .i64 cL,.int .i64 cI,.int .i64 dO,.int .i64 eT],.string ⟨(([42]:List UInt8)).toArray⟩,.int .i64 aD] (.tuple #[.agg #[.string ⟨s3.toArray⟩,.int .i64 eM,(if b3=true then .slice none 0 0 else .slice (some (Vc.aO p1 eA.toNat cY.toNat)) eA.toNat cY.toNat:Value),.int .i64 cW,.int .i64 dj],.agg #[.int .i64 cP,.int .i64 cM,.int .i64 cQ,.int .i64 c_,.int .i64 cU]])) /\
 (.tuple #[.agg #[.string ⟨s3.toArray⟩,.int .i64 eM,(if b3=true then .slice none 0 0 else .slice (some (Vc.aO p1 eA.toNat cY.toNat)) eA.toNat cY.toNat:Value),.int .i64 cW,.int .i64 dj],.agg #[.int .i64 cP,.int .i64 cM,.int .i64 cQ,.int .i64 c_,.int .i64 cU]]:Value)=v))))/\(¬(bI=0)->( dv s0 x7 x3 x4 x8 x9 ar aC aA v))))/\(¬(ao=1)->( dv s0 x7 x3 x4 x8 x9 ar aC aA v))))/\(¬(x5=2)->(
 ∃(ao:Int),(Vq w 134 #[.string ⟨s1.toArray⟩] (.int .i64 ao)) /\
 ((0<=ao)->(
 (0<=ao) /\
 (ao<14) /\
 ∃(aD:Int),(UL)[ao.toNat*6+1]? = some (.int .i64 aD) /\
 ∃(az:Int),(UL)[ao.toNat*6+2]? = some (.int .i64 az) /\
 ∃(aS:Int),(UL)[ao.toNat*6+3]? = some (.int .i64 aS) /\
 ∃(aU:Int),(UL)[ao.toNat*6+4]? = some (.int .i64 aU) /\
 ∃(bh:Int),(UL)[ao.toNat*6+5]? = some (.int .i64 bh) /\
 (.tuple #[.agg #[.string ⟨s0.toArray⟩,.int .i64 x7,.slice none 0 0,.int .i64 x3,.int .i64 x4],.agg #[.int .i64 aD,.int .i64 az,.int .i64 aS,.int .i64 aU,.int .i64 bh]]:Value)=v))/\(¬(0<=ao)->(
 ∃(b3:Bool),(Vq w 136 #[.string ⟨s1.toArray⟩] (.bool b3)) /\
 ((b3=true)->( bU w s0 x0 x3 x4 v))/\(¬(b3=true)->(
 ∃(s2:List UInt8),∃(aD:Int),∃(b4:Bool) (p1:Nat × Nat) (az aS:Int),∃(aU:Int),∃(bh:Int),(Vq w 62 #[.agg #[.string ⟨s0.toArray⟩,.int .i64 x7,.slice none 0 0,.int .i64 x3,.int .i64 x4],.int .i64 x6,.int .i64 7] (.agg #[.string ⟨s2.toArray⟩,.int .i64 aD,(if b4=true then .slice none 0 0 else .slice (some (Vc.aO p1 az.toNat aS.toNat)) az.toNat aS.toNat:Value),.int .i64 aU,.int .i64 bh])) /\
 (.tuple #[.agg #[.string ⟨s2.toArray⟩,.int .i64 aD,(if b4=true then .slice none 0 0 else .slice (some (Vc.aO p1 az.toNat aS.toNat)) az.toNat aS.toNat:Value),.int .i64 aU,.int .i64 bh],.agg #[.int .i64 0,.int .i64 0,.int .i64 0,.int .i64 0,.int .i64 0]]:Value)=v))))))))))))/\(¬(au=0)->( bU w s0 x0 x3 x4 v))))/\(¬(x4=0)->( bU w s0 x0 x3 x4 v))))))):Calls Tryz.prog 98 #[.agg #[.string ⟨s0.toArray⟩,.int .i64 x0,.slice none 0 0,.int .i64 x3,.int .i64 x4]] w (Vc.aR v w) :=
 Vc.za (ze [135,157] (by kernel_rfl)) [(2820015,.kT)] [] 200 Tryz.func98 (b:=(Tryz.f98.body).getD .skip) (by kernel_rfl) [.cv (.agg [.sv 0,.int .i64 (.var 0),.dK,.int .i64 (.var 3),.int .i64 (.var 4)])] ⟨5,1,0,1,0,1,0⟩ [] (Vc.aH [x0,x1,x2,x3,x4] [b0] [] [p0] [s0]) (by kernel_rfl) Vc.zc (by kernel_rfl) (by kernel_rfl) h
abbrev fG(w:World)(s2:List UInt8)(aD:Int)(b2:Bool)(p2:Nat × Nat)(az:Int)(aS:Int)(aU:Int)(bh:Int)(a_:Int)(bC:Int)(bI:Int)(bu:Int)(bJ:Int)(mA:List Vc.Vl->Prop)(v:Value)(oC:List Vc.Vl->Nat):Prop :=
 ∃(cL:Int),∃(cI:Int),∃(dO:Int),∃(s3:List UInt8),∃(eT:Int),∃(eM:Int),∃(eA:Int),∃(cY:Int),∃(cW:Int),∃(dj:Int),(Vq w 19 #[.string ⟨s2.toArray⟩,.int .i64 aD] (.agg #[.int .i64 cL,.int .i64 cI,.int .i64 dO,.string ⟨s3.toArray⟩,.int .i64 eT,.int .i64 eM,.int .i64 eA,.int .i64 cY,.int .i64 cW,.int .i64 dj])) /\
 ∃(s4:List UInt8),∃(cP:Int),∃(b4:Bool) (p3:Nat × Nat) (cM cQ:Int),∃(c_:Int),∃(cU:Int),∃(dk:Int),∃(dr:Int),∃(dV:Int),∃(dz:Int),∃(fk:Int),(Vq w 98 #[.agg #[.string ⟨s2.toArray⟩,.int .i64 dO,(if b2=true then .slice none 0 0 else .slice (some (Vc.aO p2 az.toNat aS.toNat)) az.toNat aS.toNat:Value),.int .i64 aU,.int .i64 bh]] (.tuple #[.agg #[.string ⟨s4.toArray⟩,.int .i64 cP,(if b4=true then .slice none 0 0 else .slice (some (Vc.aO p3 cM.toNat cQ.toNat)) cM.toNat cQ.toNat:Value),.int .i64 c_,.int .i64 cU],.agg #[.int .i64 dk,.int .i64 dr,.int .i64 dV,.int .i64 dz,.int .i64 fk]])) /\
 ∃(s5:List UInt8),∃(fa:Int),∃(b5:Bool) (p4:Nat × Nat) (eF eQ:Int),∃(ft:Int),∃(fu:Int),∃(ff:Int),∃(eX:Int),∃(fP:Int),∃(fm:Int),∃(gK:Int),(Vq w 56 #[.agg #[.string ⟨s4.toArray⟩,.int .i64 cP,(if b4=true then .slice none 0 0 else .slice (some (Vc.aO p3 cM.toNat cQ.toNat)) cM.toNat cQ.toNat:Value),.int .i64 c_,.int .i64 cU],.agg #[.int .i64 a_,.int .i64 bC,.int .i64 bI,.int .i64 bu,.int .i64 bJ],.agg #[.int .i64 dk,.int .i64 dr,.int .i64 dV,.int .i64 dz,.int .i64 fk],.string ⟨s3.toArray⟩,.int .i64 cI] (.tuple #[.agg #[.string ⟨s5.toArray⟩,.int .i64 fa,(if b5=true then .slice none 0 0 else .slice (some (Vc.aO p4 eF.toNat eQ.toNat)) eF.toNat eQ.toNat:Value),.int .i64 ft,.int .i64 fu],.agg #[.int .i64 ff,.int .i64 eX,.int .i64 fP,.int .i64 fm,.int .i64 gK]])) /\
 mA [.i fa,.s s5,.v ((if b5=true then .slice none 0 0 else .slice (some (Vc.aO p4 eF.toNat eQ.toNat)) eF.toNat eQ.toNat:Value)),.i ft,.i fu,.i ff,.i eX,.i fP,.i fm,.i gK]/\oC [.i fa,.s s5,.v ((if b5=true then .slice none 0 0 else .slice (some (Vc.aO p4 eF.toNat eQ.toNat)) eF.toNat eQ.toNat:Value)),.i ft,.i fu,.i ff,.i eX,.i fP,.i fm,.i gK]<oC [.i aD,.s s2,.v ((if b2=true then .slice none 0 0 else .slice (some (Vc.aO p2 az.toNat aS.toNat)) az.toNat aS.toNat:Value)),.i aU,.i bh,.i a_,.i bC,.i bI,.i bu,.i bJ]
theorem WT(p0:Nat × Nat)(x0 x1 x2 x3 x4:Int)(b0:Bool)(s0:List UInt8)(w:World)(v:Value)(h :
 ∃(s1:List UInt8),∃(x5:Int),∃(b1:Bool) (p1:Nat × Nat) (x6 x7:Int),∃(x8:Int),∃(x9:Int),∃(ar:Int),∃(aC:Int),∃(aA:Int),∃(au:Int),∃(ao:Int),(Vq w 98 #[.agg #[.string ⟨s0.toArray⟩,.int .i64 x0,.slice none 0 0,.int .i64 x3,.int .i64 x4]] (.tuple #[.agg #[.string ⟨s1.toArray⟩,.int .i64 x5,(if b1=true then .slice none 0 0 else .slice (some (Vc.aO p1 x6.toNat x7.toNat)) x6.toNat x7.toNat:Value),.int .i64 x8,.int .i64 x9],.agg #[.int .i64 ar,.int .i64 aC,.int .i64 aA,.int .i64 au,.int .i64 ao]])) /\
 ∃(mA:List Vc.Vl->Prop) (oC:List Vc.Vl->Nat),mA [.i x5,.s s1,.v ((if b1=true then .slice none 0 0 else .slice (some (Vc.aO p1 x6.toNat x7.toNat)) x6.toNat x7.toNat:Value)),.i x8,.i x9,.i ar,.i aC,.i aA,.i au,.i ao]/\∀(aD:Int) (s2:List UInt8) (b2:Bool) (p2:Nat × Nat) (az aS:Int) (aU:Int) (bh:Int) (a_:Int) (bC:Int) (bI:Int) (bu:Int) (bJ:Int),mA [.i aD,.s s2,.v ((if b2=true then .slice none 0 0 else .slice (some (Vc.aO p2 az.toNat aS.toNat)) az.toNat aS.toNat:Value)),.i aU,.i bh,.i a_,.i bC,.i bI,.i bu,.i bJ]->(
 ∃(b3:Bool),(Vq w 55 #[.agg #[.string ⟨s2.toArray⟩,.int .i64 aD,(if b2=true then .slice none 0 0 else .slice (some (Vc.aO p2 az.toNat aS.toNat)) az.toNat aS.toNat:Value),.int .i64 aU,.int .i64 bh],.string ⟨(([42]:List UInt8)).toArray⟩] (.bool b3)) /\
 ((b3=true)->( fG w s2 aD b2 p2 az aS aU bh a_ bC bI bu bJ mA v oC))/\(¬(b3=true)->(
 ∃(b4:Bool),(Vq w 55 #[.agg #[.string ⟨s2.toArray⟩,.int .i64 aD,(if b2=true then .slice none 0 0 else .slice (some (Vc.aO p2 az.toNat aS.toNat)) az.toNat aS.toNat:Value),.int .i64 aU,.int .i64 bh],.string ⟨(([47]:List UInt8)).toArray⟩] (.bool b4)) /\
 ((b4=true)->( fG w s2 aD b2 p2 az aS aU bh a_ bC bI bu bJ mA v oC))/\(¬(b4=true)->(
 (.tuple #[.agg #[.string ⟨s2.toArray⟩,.int .i64 aD,(if b2=true then .slice none 0 0 else .slice (some (Vc.aO p2 az.toNat aS.toNat)) az.toNat aS.toNat:Value),.int .i64 aU,.int .i64 bh],.agg #[.int .i64 a_,.int .i64 bC,.int .i64 bI,.int .i64 bu,.int .i64 bJ]]:Value)=v)))))):Calls Tryz.prog 54 #[.agg #[.string ⟨s0.toArray⟩,.int .i64 x0,.slice none 0 0,.int .i64 x3,.int .i64 x4]] w (Vc.aR v w) :=
 Vc.za base [(6000000000002,.inv [(1,1),(1,0),(1,2),(1,3),(1,4),(4,0),(4,1),(4,2),(4,3),(4,4)] [] [13,14,15,16,17,18,19,20,21,22,23,5,24,25,26,28,29,27,30,31,6,7,33,34,35,36,37,38,39,40,32,41,42])] [] 200 Tryz.func54 (b:=(Tryz.f54.body).getD .skip) (by kernel_rfl) [.cv (.agg [.sv 0,.int .i64 (.var 0),.dK,.int .i64 (.var 3),.int .i64 (.var 4)])] ⟨5,1,0,1,0,1,0⟩ [] (Vc.aH [x0,x1,x2,x3,x4] [b0] [] [p0] [s0]) (by kernel_rfl) Vc.zc (by kernel_rfl) (by kernel_rfl) h
abbrev eB(w:World)(s2:List UInt8)(aD:Int)(b2:Bool)(p2:Nat × Nat)(az:Int)(aS:Int)(aU:Int)(bh:Int)(a_:Int)(bC:Int)(bI:Int)(bu:Int)(bJ:Int)(mA:List Vc.Vl->Prop)(v:Value)(oC:List Vc.Vl->Nat):Prop :=
 ∃(cL:Int),∃(cI:Int),∃(dO:Int),∃(s3:List UInt8),∃(eT:Int),∃(eM:Int),∃(eA:Int),∃(cY:Int),∃(cW:Int),∃(dj:Int),(Vq w 19 #[.string ⟨s2.toArray⟩,.int .i64 aD] (.agg #[.int .i64 cL,.int .i64 cI,.int .i64 dO,.string ⟨s3.toArray⟩,.int .i64 eT,.int .i64 eM,.int .i64 eA,.int .i64 cY,.int .i64 cW,.int .i64 dj])) /\
 ∃(s4:List UInt8),∃(cP:Int),∃(b4:Bool) (p3:Nat × Nat) (cM cQ:Int),∃(c_:Int),∃(cU:Int),∃(dk:Int),∃(dr:Int),∃(dV:Int),∃(dz:Int),∃(fk:Int),(Vq w 54 #[.agg #[.string ⟨s2.toArray⟩,.int .i64 dO,(if b2=true then .slice none 0 0 else .slice (some (Vc.aO p2 az.toNat aS.toNat)) az.toNat aS.toNat:Value),.int .i64 aU,.int .i64 bh]] (.tuple #[.agg #[.string ⟨s4.toArray⟩,.int .i64 cP,(if b4=true then .slice none 0 0 else .slice (some (Vc.aO p3 cM.toNat cQ.toNat)) cM.toNat cQ.toNat:Value),.int .i64 c_,.int .i64 cU],.agg #[.int .i64 dk,.int .i64 dr,.int .i64 dV,.int .i64 dz,.int .i64 fk]])) /\
 ∃(s5:List UInt8),∃(fa:Int),∃(b5:Bool) (p4:Nat × Nat) (eF eQ:Int),∃(ft:Int),∃(fu:Int),∃(ff:Int),∃(eX:Int),∃(fP:Int),∃(fm:Int),∃(gK:Int),(Vq w 56 #[.agg #[.string ⟨s4.toArray⟩,.int .i64 cP,(if b4=true then .slice none 0 0 else .slice (some (Vc.aO p3 cM.toNat cQ.toNat)) cM.toNat cQ.toNat:Value),.int .i64 c_,.int .i64 cU],.agg #[.int .i64 a_,.int .i64 bC,.int .i64 bI,.int .i64 bu,.int .i64 bJ],.agg #[.int .i64 dk,.int .i64 dr,.int .i64 dV,.int .i64 dz,.int .i64 fk],.string ⟨s3.toArray⟩,.int .i64 cI] (.tuple #[.agg #[.string ⟨s5.toArray⟩,.int .i64 fa,(if b5=true then .slice none 0 0 else .slice (some (Vc.aO p4 eF.toNat eQ.toNat)) eF.toNat eQ.toNat:Value),.int .i64 ft,.int .i64 fu],.agg #[.int .i64 ff,.int .i64 eX,.int .i64 fP,.int .i64 fm,.int .i64 gK]])) /\
 mA [.i fa,.s s5,.v ((if b5=true then .slice none 0 0 else .slice (some (Vc.aO p4 eF.toNat eQ.toNat)) eF.toNat eQ.toNat:Value)),.i ft,.i fu,.i ff,.i eX,.i fP,.i fm,.i gK]/\oC [.i fa,.s s5,.v ((if b5=true then .slice none 0 0 else .slice (some (Vc.aO p4 eF.toNat eQ.toNat)) eF.toNat eQ.toNat:Value)),.i ft,.i fu,.i ff,.i eX,.i fP,.i fm,.i gK]<oC [.i aD,.s s2,.v ((if b2=true then .slice none 0 0 else .slice (some (Vc.aO p2 az.toNat aS.toNat)) az.toNat aS.toNat:Value)),.i aU,.i bh,.i a_,.i bC,.i bI,.i bu,.i bJ]
theorem WU(p0:Nat × Nat)(x0 x1 x2 x3 x4:Int)(b0:Bool)(s0:List UInt8)(w:World)(v:Value)(h :
 ∃(s1:List UInt8),∃(x5:Int),∃(b1:Bool) (p1:Nat × Nat) (x6 x7:Int),∃(x8:Int),∃(x9:Int),∃(ar:Int),∃(aC:Int),∃(aA:Int),∃(au:Int),∃(ao:Int),(Vq w 54 #[.agg #[.string ⟨s0.toArray⟩,.int .i64 x0,.slice none 0 0,.int .i64 x3,.int .i64 x4]] (.tuple #[.agg #[.string ⟨s1.toArray⟩,.int .i64 x5,(if b1=true then .slice none 0 0 else .slice (some (Vc.aO p1 x6.toNat x7.toNat)) x6.toNat x7.toNat:Value),.int .i64 x8,.int .i64 x9],.agg #[.int .i64 ar,.int .i64 aC,.int .i64 aA,.int .i64 au,.int .i64 ao]])) /\
 ∃(mA:List Vc.Vl->Prop) (oC:List Vc.Vl->Nat),mA [.i x5,.s s1,.v ((if b1=true then .slice none 0 0 else .slice (some (Vc.aO p1 x6.toNat x7.toNat)) x6.toNat x7.toNat:Value)),.i x8,.i x9,.i ar,.i aC,.i aA,.i au,.i ao]/\∀(aD:Int) (s2:List UInt8) (b2:Bool) (p2:Nat × Nat) (az aS:Int) (aU:Int) (bh:Int) (a_:Int) (bC:Int) (bI:Int) (bu:Int) (bJ:Int),mA [.i aD,.s s2,.v ((if b2=true then .slice none 0 0 else .slice (some (Vc.aO p2 az.toNat aS.toNat)) az.toNat aS.toNat:Value)),.i aU,.i bh,.i a_,.i bC,.i bI,.i bu,.i bJ]->(
 ∃(b3:Bool),(Vq w 55 #[.agg #[.string ⟨s2.toArray⟩,.int .i64 aD,(if b2=true then .slice none 0 0 else .slice (some (Vc.aO p2 az.toNat aS.toNat)) az.toNat aS.toNat:Value),.int .i64 aU,.int .i64 bh],.string ⟨(([43]:List UInt8)).toArray⟩] (.bool b3)) /\
 ((b3=true)->( eB w s2 aD b2 p2 az aS aU bh a_ bC bI bu bJ mA v oC))/\(¬(b3=true)->(
 ∃(b4:Bool),(Vq w 55 #[.agg #[.string ⟨s2.toArray⟩,.int .i64 aD,(if b2=true then .slice none 0 0 else .slice (some (Vc.aO p2 az.toNat aS.toNat)) az.toNat aS.toNat:Value),.int .i64 aU,.int .i64 bh],.string ⟨(([45]:List UInt8)).toArray⟩] (.bool b4)) /\
 ((b4=true)->( eB w s2 aD b2 p2 az aS aU bh a_ bC bI bu bJ mA v oC))/\(¬(b4=true)->(
 (.tuple #[.agg #[.string ⟨s2.toArray⟩,.int .i64 aD,(if b2=true then .slice none 0 0 else .slice (some (Vc.aO p2 az.toNat aS.toNat)) az.toNat aS.toNat:Value),.int .i64 aU,.int .i64 bh],.agg #[.int .i64 a_,.int .i64 bC,.int .i64 bI,.int .i64 bu,.int .i64 bJ]]:Value)=v)))))):Calls Tryz.prog 18 #[.agg #[.string ⟨s0.toArray⟩,.int .i64 x0,.slice none 0 0,.int .i64 x3,.int .i64 x4]] w (Vc.aR v w) :=
 Vc.za base [(6000000000002,.inv [(1,1),(1,0),(1,2),(1,3),(1,4),(4,0),(4,1),(4,2),(4,3),(4,4)] [] [13,14,15,16,17,18,19,20,21,22,23,5,24,25,26,28,29,27,30,31,6,7,33,34,35,36,37,38,39,40,32,41,42])] [] 200 Tryz.func18 (b:=(Tryz.f18.body).getD .skip) (by kernel_rfl) [.cv (.agg [.sv 0,.int .i64 (.var 0),.dK,.int .i64 (.var 3),.int .i64 (.var 4)])] ⟨5,1,0,1,0,1,0⟩ [] (Vc.aH [x0,x1,x2,x3,x4] [b0] [] [p0] [s0]) (by kernel_rfl) Vc.zc (by kernel_rfl) (by kernel_rfl) h
theorem WV(s0:List UInt8)(w:World)(v:Value)(h :
 ∀x0:Int,x0=((s0.length:Nat):Int) ->
 ((20000<x0)->(
 (.tuple #[.agg #[.int .i64 0,.int .i64 0,.int .i64 0,.int .i64 0,.int .i64 0],.int .i64 0,.int .i64 3]:Value)=v))/\(¬(20000<x0)->(
 ∃(s1:List UInt8),∃(x1:Int),∃(b0:Bool) (p0:Nat × Nat) (x2 x3:Int),∃(x4:Int),∃(x5:Int),∃(x6:Int),∃(x7:Int),∃(x8:Int),∃(x9:Int),∃(ar:Int),(Vq w 18 #[.agg #[.string ⟨s0.toArray⟩,.int .i64 0,.slice none 0 0,.int .i64 0,.int .i64 0]] (.tuple #[.agg #[.string ⟨s1.toArray⟩,.int .i64 x1,(if b0=true then .slice none 0 0 else .slice (some (Vc.aO p0 x2.toNat x3.toNat)) x2.toNat x3.toNat:Value),.int .i64 x4,.int .i64 x5],.agg #[.int .i64 x6,.int .i64 x7,.int .i64 x8,.int .i64 x9,.int .i64 ar]])) /\
 ((x5=0)->(
 ∃(aC:Int),∃(aA:Int),∃(au:Int),∃(s2:List UInt8),∃(ao:Int),∃(aD:Int),∃(az:Int),∃(aS:Int),∃(aU:Int),∃(bh:Int),(Vq w 19 #[.string ⟨s0.toArray⟩,.int .i64 x1] (.agg #[.int .i64 aC,.int .i64 aA,.int .i64 au,.string ⟨s2.toArray⟩,.int .i64 ao,.int .i64 aD,.int .i64 az,.int .i64 aS,.int .i64 aU,.int .i64 bh])) /\
 ((aC=0)->(
 ∃(a_:Int),∃(bC:Int),∃(bI:Int),∃(s3:List UInt8),∃(bu:Int),∃(bJ:Int),∃(cL:Int),∃(cI:Int),∃(dO:Int),∃(eT:Int),(Vq w 19 #[.string ⟨s0.toArray⟩,.int .i64 x1] (.agg #[.int .i64 a_,.int .i64 bC,.int .i64 bI,.string ⟨s3.toArray⟩,.int .i64 bu,.int .i64 bJ,.int .i64 cL,.int .i64 cI,.int .i64 dO,.int .i64 eT])) /\
 ((eT=0)->(
 ((x5=0)->(
 (.tuple #[.agg #[.int .i64 x6,.int .i64 x7,.int .i64 x8,.int .i64 x9,.int .i64 ar],.int .i64 0,.int .i64 0]:Value)=v))/\(¬(x5=0)->(
 (.tuple #[.agg #[.int .i64 0,.int .i64 0,.int .i64 0,.int .i64 0,.int .i64 0],.int .i64 x4,.int .i64 x5]:Value)=v))))/\(¬(eT=0)->(
 ∃(s4:List UInt8),∃(eM:Int),∃(b1:Bool) (p1:Nat × Nat) (eA cY:Int),∃(cW:Int),∃(dj:Int),(Vq w 20 #[.agg #[.string ⟨s1.toArray⟩,.int .i64 x1,(if b0=true then .slice none 0 0 else .slice (some (Vc.aO p0 x2.toNat x3.toNat)) x2.toNat x3.toNat:Value),.int .i64 x4,.int .i64 x5]] (.agg #[.string ⟨s4.toArray⟩,.int .i64 eM,(if b1=true then .slice none 0 0 else .slice (some (Vc.aO p1 eA.toNat cY.toNat)) eA.toNat cY.toNat:Value),.int .i64 cW,.int .i64 dj])) /\
 ((dj=0)->(
 (.tuple #[.agg #[.int .i64 x6,.int .i64 x7,.int .i64 x8,.int .i64 x9,.int .i64 ar],.int .i64 0,.int .i64 0]:Value)=v))/\(¬(dj=0)->(
 (.tuple #[.agg #[.int .i64 0,.int .i64 0,.int .i64 0,.int .i64 0,.int .i64 0],.int .i64 cW,.int .i64 dj]:Value)=v))))))/\(¬(aC=0)->(
 ∃(s3:List UInt8),∃(a_:Int),∃(b1:Bool) (p1:Nat × Nat) (bC bI:Int),∃(bu:Int),∃(bJ:Int),(Vq w 20 #[.agg #[.string ⟨s1.toArray⟩,.int .i64 x1,(if b0=true then .slice none 0 0 else .slice (some (Vc.aO p0 x2.toNat x3.toNat)) x2.toNat x3.toNat:Value),.int .i64 x4,.int .i64 x5]] (.agg #[.string ⟨s3.toArray⟩,.int .i64 a_,(if b1=true then .slice none 0 0 else .slice (some (Vc.aO p1 bC.toNat bI.toNat)) bC.toNat bI.toNat:Value),.int .i64 bu,.int .i64 bJ])) /\
 ((bJ=0)->(
 (.tuple #[.agg #[.int .i64 x6,.int .i64 x7,.int .i64 x8,.int .i64 x9,.int .i64 ar],.int .i64 0,.int .i64 0]:Value)=v))/\(¬(bJ=0)->(
 (.tuple #[.agg #[.int .i64 0,.int .i64 0,.int .i64 0,.int .i64 0,.int .i64 0],.int .i64 bu,.int .i64 bJ]:Value)=v))))))/\(¬(x5=0)->(
 ((x5=0)->(
 (.tuple #[.agg #[.int .i64 x6,.int .i64 x7,.int .i64 x8,.int .i64 x9,.int .i64 ar],.int .i64 0,.int .i64 0]:Value)=v))/\(¬(x5=0)->(
 (.tuple #[.agg #[.int .i64 0,.int .i64 0,.int .i64 0,.int .i64 0,.int .i64 0],.int .i64 x4,.int .i64 x5]:Value)=v))))))):Calls Tryz.prog 6 #[.string ⟨s0.toArray⟩] w (Vc.aR v w) :=
 Vc.za base [] [] 200 Tryz.func6 (b:=(Tryz.f6.body).getD .skip) (by kernel_rfl) [.cv (.one (.sv 0))] ⟨0,0,0,0,0,1,0⟩ [] (Vc.aH [] [] [] [] [s0]) (by kernel_rfl) Vc.zc (by kernel_rfl) (by kernel_rfl) h
theorem WW(s0:List UInt8)(w:World)(v:Value)(h :
 ∀x0:Int,x0=((s0.length:Nat):Int) ->
 ((600<x0)->(
 ∃(b0:Bool),(Vq w 4 #[] (.bool b0)) /\
 (.bool b0:Value)=v))/\(¬(600<x0)->(
 ∃(x1:Int),∃(x2:Int),∃(x3:Int),∃(x4:Int),∃(x5:Int),∃(x6:Int),∃(x7:Int),(Vq w 5 #[.string ⟨s0.toArray⟩] (.tuple #[.agg #[.int .i64 x1,.int .i64 x2,.int .i64 x3,.int .i64 x4,.int .i64 x5],.int .i64 x6,.int .i64 x7])) /\
 ∃(x8:Int),∃(x9:Int),∃(ar:Int),∃(aC:Int),∃(aA:Int),∃(au:Int),∃(ao:Int),(Vq w 6 #[.string ⟨s0.toArray⟩] (.tuple #[.agg #[.int .i64 x8,.int .i64 x9,.int .i64 ar,.int .i64 aC,.int .i64 aA],.int .i64 au,.int .i64 ao])) /\
 (((x1=x8)/\((x2=x9)/\((x3=ar)/\((x4=aC)/\(x5=aA)))))->(
 ((x6=au)->(
 ((x7=ao)->(
 ∃(s1:List UInt8),(Vq w 7 #[.agg #[.int .i64 x1,.int .i64 x2,.int .i64 x3,.int .i64 x4,.int .i64 x5]] (.string ⟨s1.toArray⟩)) /\
 ∃(s2:List UInt8),(Vq w 8 #[.agg #[.int .i64 x8,.int .i64 x9,.int .i64 ar,.int .i64 aC,.int .i64 aA]] (.string ⟨s2.toArray⟩)) /\
 ((s1=s2)->(
 ∃(b0:Bool),(Vq w 4 #[] (.bool b0)) /\
 (.bool b0:Value)=v))/\(¬(s1=s2)->(
 (.bool false:Value)=v))))/\(¬(x7=ao)->(
 (.bool false:Value)=v))))/\(¬(x6=au)->(
 (.bool false:Value)=v))))/\(¬((x1=x8)/\((x2=x9)/\((x3=ar)/\((x4=aC)/\(x5=aA)))))->(
 (.bool false:Value)=v))))):Calls Tryz.prog 3 #[.string ⟨s0.toArray⟩] w (Vc.aR v w) :=
 Vc.za base [] [] 200 Tryz.func3 (b:=(Tryz.f3.body).getD .skip) (by kernel_rfl) [.cv (.one (.sv 0))] ⟨0,0,0,0,0,1,0⟩ [] (Vc.aH [] [] [] [] [s0]) (by kernel_rfl) Vc.zc (by kernel_rfl) (by kernel_rfl) h
end Go.Proofs.YtpfgephckjpcjaaGreatDoor
