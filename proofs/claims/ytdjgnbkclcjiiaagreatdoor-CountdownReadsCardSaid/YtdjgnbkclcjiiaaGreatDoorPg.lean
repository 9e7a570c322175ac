import Derived.Test.YtdjgnbkclcjiiaaGreatDoorG0
import Derived.Test.YtdjgnbkclcjiiaaGreatDoorPe
section
set_option linter.unusedVariables false
set_option maxRecDepth 100000
namespace Go.Proofs.YtdjgnbkclcjiiaaGreatDoor
open Go Go.RowKit
abbrev Vj_ullageref10_not_T2(x10:Int)(Q:Value→Prop)(s2:List UInt8)(x7:Int)(x8:Int)(x9:Int)(s3:List UInt8)(w:World):Prop :=
 ((x10 < 0)→(
 Q (.tuple #[.agg #[.string ⟨s2.toArray⟩,.int .i64 x7,.int .i64 x8,.int .i64 x9],.agg #[.int .i64 1,.int .i64 0,.string ⟨s3.toArray⟩,.int .i64 0,.int .i64 5,.int .i64 0,.slice none 0 0]])))∧(¬ (x10 < 0)→(
 ∃ (x11:Int),∃ (x12:Int),∃ (x13:Int),∃ (x14:Int),∃ (s4:List UInt8),∃ (b3:Bool),(Vq w 64 #[.string ⟨s2.toArray⟩,.int .i64 x7] (.agg #[.int .i64 x11,.int .i64 x12,.int .i64 x13,.int .i64 x14,.string ⟨s4.toArray⟩,.bool b3])) ∧
 ∃ (s5:List UInt8),∃ (x15:Int),∃ (x16:Int),∃ (x17:Int),∃ (x18:Int),(Vq w 166 #[.agg #[.string ⟨s2.toArray⟩,.int .i64 x13,.int .i64 x8,.int .i64 x9],.int .i64 (-1073741824),.int .i64 1073741824] (.tuple #[.agg #[.string ⟨s5.toArray⟩,.int .i64 x15,.int .i64 x16,.int .i64 x17],.int .i64 x18])) ∧
 Q (.tuple #[.agg #[.string ⟨s5.toArray⟩,.int .i64 x15,.int .i64 x16,.int .i64 x17],.agg #[.int .i64 1,.int .i64 0,.string ⟨s3.toArray⟩,.int .i64 0,.int .i64 x10,.int .i64 x18,.slice none 0 0]])))
abbrev Vj_ullageref10_not_T1(s1:List UInt8)(w:World)(s0:List UInt8)(x0:Int)(x1:Int)(x2:Int)(Q:Value→Prop):Prop :=
 ((s1=([108,101,97,115,116]:List UInt8))→(
 ∃ (s2:List UInt8),∃ (x7:Int),∃ (x8:Int),∃ (x9:Int),(Vq w 123 #[.agg #[.string ⟨s0.toArray⟩,.int .i64 x0,.int .i64 x1,.int .i64 x2],.string ⟨s1.toArray⟩] (.agg #[.string ⟨s2.toArray⟩,.int .i64 x7,.int .i64 x8,.int .i64 x9])) ∧
 ∃ (s3:List UInt8),∃ (x10:Int),∃ (x11:Int),∃ (x12:Int),(Vq w 123 #[.agg #[.string ⟨s2.toArray⟩,.int .i64 x7,.int .i64 x8,.int .i64 x9],.string ⟨(([40]:List UInt8)).toArray⟩] (.agg #[.string ⟨s3.toArray⟩,.int .i64 x10,.int .i64 x11,.int .i64 x12])) ∧
 ∃ (s4:List UInt8),∃ (x13:Int),∃ (x14:Int),∃ (x15:Int),∃ (s5:List UInt8),(Vq w 165 #[.agg #[.string ⟨s3.toArray⟩,.int .i64 x10,.int .i64 x11,.int .i64 x12]] (.tuple #[.agg #[.string ⟨s4.toArray⟩,.int .i64 x13,.int .i64 x14,.int .i64 x15],.string ⟨s5.toArray⟩])) ∧
 ∃ (s6:List UInt8),∃ (x16:Int),∃ (x17:Int),∃ (x18:Int),(Vq w 123 #[.agg #[.string ⟨s4.toArray⟩,.int .i64 x13,.int .i64 x14,.int .i64 x15],.string ⟨(([44]:List UInt8)).toArray⟩] (.agg #[.string ⟨s6.toArray⟩,.int .i64 x16,.int .i64 x17,.int .i64 x18])) ∧
 ∃ (s7:List UInt8),∃ (x19:Int),∃ (x20:Int),∃ (x21:Int),∃ (x22:Int),(Vq w 166 #[.agg #[.string ⟨s6.toArray⟩,.int .i64 x16,.int .i64 x17,.int .i64 x18],.int .i64 0,.int .i64 1000] (.tuple #[.agg #[.string ⟨s7.toArray⟩,.int .i64 x19,.int .i64 x20,.int .i64 x21],.int .i64 x22])) ∧
 ∃ (s8:List UInt8),∃ (x23:Int),∃ (x24:Int),∃ (x25:Int),(Vq w 123 #[.agg #[.string ⟨s7.toArray⟩,.int .i64 x19,.int .i64 x20,.int .i64 x21],.string ⟨(([41]:List UInt8)).toArray⟩] (.agg #[.string ⟨s8.toArray⟩,.int .i64 x23,.int .i64 x24,.int .i64 x25])) ∧
 ∃ (x26:Int),(Vq w 167 #[.agg #[.string ⟨s8.toArray⟩,.int .i64 x23,.int .i64 x24,.int .i64 x25]] (.int .i64 x26)) ∧
 ((x26 < 0)→(
 ∃ (x27:Int),∃ (x28:Int),∃ (x29:Int),∃ (x30:Int),∃ (s9:List UInt8),∃ (b3:Bool),(Vq w 64 #[.string ⟨s8.toArray⟩,.int .i64 x23] (.agg #[.int .i64 x27,.int .i64 x28,.int .i64 x29,.int .i64 x30,.string ⟨s9.toArray⟩,.bool b3])) ∧
 ∃ (s10:List UInt8),∃ (x31:Int),∃ (x32:Int),∃ (x33:Int),(Vq w 65 #[.agg #[.string ⟨s8.toArray⟩,.int .i64 x23,.int .i64 x24,.int .i64 x25],.int .i64 x28,.int .i64 5] (.agg #[.string ⟨s10.toArray⟩,.int .i64 x31,.int .i64 x32,.int .i64 x33])) ∧
 Q (.tuple #[.agg #[.string ⟨s10.toArray⟩,.int .i64 x31,.int .i64 x32,.int .i64 x33],.agg #[.int .i64 1,.int .i64 2,.string ⟨s5.toArray⟩,.int .i64 x22,.int .i64 x26,.int .i64 0,.slice none 0 0]])))∧(¬ (x26 < 0)→(
 ((x26 < 0)→(
 Q (.tuple #[.agg #[.string ⟨s8.toArray⟩,.int .i64 x23,.int .i64 x24,.int .i64 x25],.agg #[.int .i64 1,.int .i64 2,.string ⟨s5.toArray⟩,.int .i64 x22,.int .i64 5,.int .i64 0,.slice none 0 0]])))∧(¬ (x26 < 0)→(
 ∃ (x27:Int),∃ (x28:Int),∃ (x29:Int),∃ (x30:Int),∃ (s9:List UInt8),∃ (b3:Bool),(Vq w 64 #[.string ⟨s8.toArray⟩,.int .i64 x23] (.agg #[.int .i64 x27,.int .i64 x28,.int .i64 x29,.int .i64 x30,.string ⟨s9.toArray⟩,.bool b3])) ∧
 ∃ (s10:List UInt8),∃ (x31:Int),∃ (x32:Int),∃ (x33:Int),∃ (x34:Int),(Vq w 166 #[.agg #[.string ⟨s8.toArray⟩,.int .i64 x29,.int .i64 x24,.int .i64 x25],.int .i64 (-1073741824),.int .i64 1073741824] (.tuple #[.agg #[.string ⟨s10.toArray⟩,.int .i64 x31,.int .i64 x32,.int .i64 x33],.int .i64 x34])) ∧
 Q (.tuple #[.agg #[.string ⟨s10.toArray⟩,.int .i64 x31,.int .i64 x32,.int .i64 x33],.agg #[.int .i64 1,.int .i64 2,.string ⟨s5.toArray⟩,.int .i64 x22,.int .i64 x26,.int .i64 x34,.slice none 0 0]])))))))∧(¬ (s1=([108,101,97,115,116]:List UInt8))→(
 ∃ (s2:List UInt8),∃ (x7:Int),∃ (x8:Int),∃ (x9:Int),(Vq w 123 #[.agg #[.string ⟨s0.toArray⟩,.int .i64 x0,.int .i64 x1,.int .i64 x2],.string ⟨s1.toArray⟩] (.agg #[.string ⟨s2.toArray⟩,.int .i64 x7,.int .i64 x8,.int .i64 x9])) ∧
 ∃ (s3:List UInt8),∃ (x10:Int),∃ (x11:Int),∃ (x12:Int),(Vq w 123 #[.agg #[.string ⟨s2.toArray⟩,.int .i64 x7,.int .i64 x8,.int .i64 x9],.string ⟨(([40]:List UInt8)).toArray⟩] (.agg #[.string ⟨s3.toArray⟩,.int .i64 x10,.int .i64 x11,.int .i64 x12])) ∧
 ∃ (s4:List UInt8),∃ (x13:Int),∃ (x14:Int),∃ (x15:Int),∃ (s5:List UInt8),(Vq w 165 #[.agg #[.string ⟨s3.toArray⟩,.int .i64 x10,.int .i64 x11,.int .i64 x12]] (.tuple #[.agg #[.string ⟨s4.toArray⟩,.int .i64 x13,.int .i64 x14,.int .i64 x15],.string ⟨s5.toArray⟩])) ∧
 ∃ (s6:List UInt8),∃ (x16:Int),∃ (x17:Int),∃ (x18:Int),(Vq w 123 #[.agg #[.string ⟨s4.toArray⟩,.int .i64 x13,.int .i64 x14,.int .i64 x15],.string ⟨(([44]:List UInt8)).toArray⟩] (.agg #[.string ⟨s6.toArray⟩,.int .i64 x16,.int .i64 x17,.int .i64 x18])) ∧
 ∃ (s7:List UInt8),∃ (x19:Int),∃ (x20:Int),∃ (x21:Int),∃ (x22:Int),(Vq w 166 #[.agg #[.string ⟨s6.toArray⟩,.int .i64 x16,.int .i64 x17,.int .i64 x18],.int .i64 0,.int .i64 1000] (.tuple #[.agg #[.string ⟨s7.toArray⟩,.int .i64 x19,.int .i64 x20,.int .i64 x21],.int .i64 x22])) ∧
 ∃ (s8:List UInt8),∃ (x23:Int),∃ (x24:Int),∃ (x25:Int),(Vq w 123 #[.agg #[.string ⟨s7.toArray⟩,.int .i64 x19,.int .i64 x20,.int .i64 x21],.string ⟨(([41]:List UInt8)).toArray⟩] (.agg #[.string ⟨s8.toArray⟩,.int .i64 x23,.int .i64 x24,.int .i64 x25])) ∧
 ∃ (x26:Int),(Vq w 167 #[.agg #[.string ⟨s8.toArray⟩,.int .i64 x23,.int .i64 x24,.int .i64 x25]] (.int .i64 x26)) ∧
 ((x26 < 0)→(
 ∃ (x27:Int),∃ (x28:Int),∃ (x29:Int),∃ (x30:Int),∃ (s9:List UInt8),∃ (b3:Bool),(Vq w 64 #[.string ⟨s8.toArray⟩,.int .i64 x23] (.agg #[.int .i64 x27,.int .i64 x28,.int .i64 x29,.int .i64 x30,.string ⟨s9.toArray⟩,.bool b3])) ∧
 ∃ (s10:List UInt8),∃ (x31:Int),∃ (x32:Int),∃ (x33:Int),(Vq w 65 #[.agg #[.string ⟨s8.toArray⟩,.int .i64 x23,.int .i64 x24,.int .i64 x25],.int .i64 x28,.int .i64 5] (.agg #[.string ⟨s10.toArray⟩,.int .i64 x31,.int .i64 x32,.int .i64 x33])) ∧
 Q (.tuple #[.agg #[.string ⟨s10.toArray⟩,.int .i64 x31,.int .i64 x32,.int .i64 x33],.agg #[.int .i64 1,.int .i64 1,.string ⟨s5.toArray⟩,.int .i64 x22,.int .i64 x26,.int .i64 0,.slice none 0 0]])))∧(¬ (x26 < 0)→(
 ((x26 < 0)→(
 Q (.tuple #[.agg #[.string ⟨s8.toArray⟩,.int .i64 x23,.int .i64 x24,.int .i64 x25],.agg #[.int .i64 1,.int .i64 1,.string ⟨s5.toArray⟩,.int .i64 x22,.int .i64 5,.int .i64 0,.slice none 0 0]])))∧(¬ (x26 < 0)→(
 ∃ (x27:Int),∃ (x28:Int),∃ (x29:Int),∃ (x30:Int),∃ (s9:List UInt8),∃ (b3:Bool),(Vq w 64 #[.string ⟨s8.toArray⟩,.int .i64 x23] (.agg #[.int .i64 x27,.int .i64 x28,.int .i64 x29,.int .i64 x30,.string ⟨s9.toArray⟩,.bool b3])) ∧
 ∃ (s10:List UInt8),∃ (x31:Int),∃ (x32:Int),∃ (x33:Int),∃ (x34:Int),(Vq w 166 #[.agg #[.string ⟨s8.toArray⟩,.int .i64 x29,.int .i64 x24,.int .i64 x25],.int .i64 (-1073741824),.int .i64 1073741824] (.tuple #[.agg #[.string ⟨s10.toArray⟩,.int .i64 x31,.int .i64 x32,.int .i64 x33],.int .i64 x34])) ∧
 Q (.tuple #[.agg #[.string ⟨s10.toArray⟩,.int .i64 x31,.int .i64 x32,.int .i64 x33],.agg #[.int .i64 1,.int .i64 1,.string ⟨s5.toArray⟩,.int .i64 x22,.int .i64 x26,.int .i64 x34,.slice none 0 0]])))))))
theorem zhi(x0 x1 x2:Int)(s0:List UInt8)(w:World)(Q:Value→Prop)(QM:World→Value→Prop)(h :
 ∃ (b0:Bool),(Vq w 122 #[.agg #[.string ⟨s0.toArray⟩,.int .i64 x0,.int .i64 x1,.int .i64 x2],.string ⟨(([33]:List UInt8)).toArray⟩] (.bool b0)) ∧
 ((b0=true)→(
 ∃ (s1:List UInt8),∃ (x3:Int),∃ (x4:Int),∃ (x5:Int),(Vq w 123 #[.agg #[.string ⟨s0.toArray⟩,.int .i64 x0,.int .i64 x1,.int .i64 x2],.string ⟨(([33]:List UInt8)).toArray⟩] (.agg #[.string ⟨s1.toArray⟩,.int .i64 x3,.int .i64 x4,.int .i64 x5])) ∧
 ∃ (s2:List UInt8),∃ (x6:Int),∃ (x7:Int),∃ (x8:Int),∃ (x9:Int),∃ (x10:Int),∃ (s3:List UInt8),∃ (x11:Int),∃ (x12:Int),∃ (x13:Int),∃ (b1:Bool) (p0:Nat × Nat) (x14 x15:Int),(Vq w 153 #[.agg #[.string ⟨s1.toArray⟩,.int .i64 x3,.int .i64 x4,.int .i64 x5]] (.tuple #[.agg #[.string ⟨s2.toArray⟩,.int .i64 x6,.int .i64 x7,.int .i64 x8],.agg #[.int .i64 x9,.int .i64 x10,.string ⟨s3.toArray⟩,.int .i64 x11,.int .i64 x12,.int .i64 x13,(if b1=true then .slice none 0 0 else .slice (some (Vc.qad p0 (Int.toNat x14) (Int.toNat x15))) (Int.toNat x14) (Int.toNat x15):Value)]])) ∧
 ∀ (β:Nat→Nat) (w':World),Below w.heap.size w w'→((w.heap.size≤β 5∧w'.heap[β 5]? = some (.cells #[.int .i64 x9,.int .i64 x10,.string ⟨s3.toArray⟩,.int .i64 x11,.int .i64 x12,.int .i64 x13,(if b1=true then .slice none 0 0 else .slice (some (Vc.qad p0 (Int.toNat x14) (Int.toNat x15))) (Int.toNat x14) (Int.toNat x15):Value)] 30))∧True)→QM w' (.tuple #[.agg #[.string ⟨s2.toArray⟩,.int .i64 x6,.int .i64 x7,.int .i64 x8],.agg #[.int .i64 2,.int .i64 0,.string ⟨(([]:List UInt8)).toArray⟩,.int .i64 0,.int .i64 0,.int .i64 0,.slice (some ⟨β 5,0,none⟩) 1 1]])))∧(¬ (b0=true)→(
 ∃ (b1:Bool),(Vq w 122 #[.agg #[.string ⟨s0.toArray⟩,.int .i64 x0,.int .i64 x1,.int .i64 x2],.string ⟨(([40]:List UInt8)).toArray⟩] (.bool b1)) ∧
 ((b1=true)→(
 ∃ (s1:List UInt8),∃ (x3:Int),∃ (x4:Int),∃ (x5:Int),(Vq w 123 #[.agg #[.string ⟨s0.toArray⟩,.int .i64 x0,.int .i64 x1,.int .i64 x2],.string ⟨(([40]:List UInt8)).toArray⟩] (.agg #[.string ⟨s1.toArray⟩,.int .i64 x3,.int .i64 x4,.int .i64 x5])) ∧
 ∃ (s2:List UInt8),∃ (x6:Int),∃ (x7:Int),∃ (x8:Int),∃ (x9:Int),∃ (x10:Int),∃ (s3:List UInt8),∃ (x11:Int),∃ (x12:Int),∃ (x13:Int),∃ (b2:Bool) (p0:Nat × Nat) (x14 x15:Int),(Vq w 63 #[.agg #[.string ⟨s1.toArray⟩,.int .i64 x3,.int .i64 x4,.int .i64 x5]] (.tuple #[.agg #[.string ⟨s2.toArray⟩,.int .i64 x6,.int .i64 x7,.int .i64 x8],.agg #[.int .i64 x9,.int .i64 x10,.string ⟨s3.toArray⟩,.int .i64 x11,.int .i64 x12,.int .i64 x13,(if b2=true then .slice none 0 0 else .slice (some (Vc.qad p0 (Int.toNat x14) (Int.toNat x15))) (Int.toNat x14) (Int.toNat x15):Value)]])) ∧
 ∃ (s4:List UInt8),∃ (x16:Int),∃ (x17:Int),∃ (x18:Int),(Vq w 123 #[.agg #[.string ⟨s2.toArray⟩,.int .i64 x6,.int .i64 x7,.int .i64 x8],.string ⟨(([41]:List UInt8)).toArray⟩] (.agg #[.string ⟨s4.toArray⟩,.int .i64 x16,.int .i64 x17,.int .i64 x18])) ∧
 Q (.tuple #[.agg #[.string ⟨s4.toArray⟩,.int .i64 x16,.int .i64 x17,.int .i64 x18],.agg #[.int .i64 x9,.int .i64 x10,.string ⟨s3.toArray⟩,.int .i64 x11,.int .i64 x12,.int .i64 x13,(if b2=true then .slice none 0 0 else .slice (some (Vc.qad p0 (Int.toNat x14) (Int.toNat x15))) (Int.toNat x14) (Int.toNat x15):Value)]])))∧(¬ (b1=true)→(
 ∃ (x3:Int),∃ (x4:Int),∃ (x5:Int),∃ (x6:Int),∃ (s1:List UInt8),∃ (b2:Bool),(Vq w 64 #[.string ⟨s0.toArray⟩,.int .i64 x0] (.agg #[.int .i64 x3,.int .i64 x4,.int .i64 x5,.int .i64 x6,.string ⟨s1.toArray⟩,.bool b2])) ∧
 ((s1=([109,111,115,116]:List UInt8))→( Vj_ullageref10_not_T1 s1 w s0 x0 x1 x2 Q))∧(¬ (s1=([109,111,115,116]:List UInt8))→(
 ((s1=([108,101,97,115,116]:List UInt8))→( Vj_ullageref10_not_T1 s1 w s0 x0 x1 x2 Q))∧(¬ (s1=([108,101,97,115,116]:List UInt8))→(
 ∃ (s2:List UInt8),∃ (x7:Int),∃ (x8:Int),∃ (x9:Int),∃ (s3:List UInt8),(Vq w 165 #[.agg #[.string ⟨s0.toArray⟩,.int .i64 x0,.int .i64 x1,.int .i64 x2]] (.tuple #[.agg #[.string ⟨s2.toArray⟩,.int .i64 x7,.int .i64 x8,.int .i64 x9],.string ⟨s3.toArray⟩])) ∧
 ∃ (x10:Int),(Vq w 167 #[.agg #[.string ⟨s2.toArray⟩,.int .i64 x7,.int .i64 x8,.int .i64 x9]] (.int .i64 x10)) ∧
 ((x10 < 0)→( Vj_ullageref10_not_T2 x10 Q s2 x7 x8 x9 s3 w))∧(¬ (x10 < 0)→( Vj_ullageref10_not_T2 x10 Q s2 x7 x8 x9 s3 w))))))))))):Calls Tryz.prog 153 #[.agg #[.string ⟨s0.toArray⟩,.int .i64 x0,.int .i64 x1,.int .i64 x2]] w (fun e w'=>∃ v,e=.returned v∧Below w.heap.size w w'∧(Q v∨QM w' v)) :=
 Vc.zrv base [] [] 200 Tryz.func153 (b:=(Tryz.f153.body).getD .skip) (by kernel_rfl) [.cv (.agg [.sv 0,.int .i64 (.var 0),.int .i64 (.var 1),.int .i64 (.var 2)])] ⟨3,0,0,0,0,1,0⟩ [] (Vc.envOf [x0,x1,x2] [] [] [] [s0]) (by kernel_rfl) Vc.zn (by kernel_rfl) (by kernel_rfl) h
theorem zcj(x0 x1 x2:Int)(w:World)(v:Value)(h :
 ((x1≤x0)→(
 (.bool (decide (x0≤x2)):Value)=v))∧(¬ (x1≤x0)→(
 (.bool false:Value)=v))):Calls Tryz.prog 71 #[.int .i64 x0,.int .i64 x1,.int .i64 x2] w (Vc.Ret v w) :=
 Vc.zw base [] [] 200 Tryz.func71 (b:=(Tryz.f71.body).getD .skip) (by kernel_rfl) [.cv (.one (.int .i64 (.var 0))),.cv (.one (.int .i64 (.var 1))),.cv (.one (.int .i64 (.var 2)))] ⟨3,0,0,0,0,0,0⟩ [] (Vc.envOf [x0,x1,x2] [] [] []) (by kernel_rfl) Vc.zn (by kernel_rfl) (by kernel_rfl) h
end Go.Proofs.YtdjgnbkclcjiiaaGreatDoor
end
section
set_option linter.unusedVariables false
set_option linter.unusedSimpArgs false
set_option maxRecDepth 100000
namespace Go.Proofs.YtdjgnbkclcjiiaaGreatDoor
open Go Go.RowKit Go.Proofs Wk
open Vc (SlAt OV iteI Vl zfb zh)
attribute [local irreducible] Go.Calls
structure Sx where
 i:Nat
 a:Nat
 e:Int
def stV(s:List UInt8)(p:Sx):Value := .agg #[.string ⟨s.toArray⟩,.int .i64 (p.i:Nat),.int .i64 (p.a:Nat),.int .i64 p.e]
def failS(p:Sx)(a:Nat)(e:Int):Sx:=if p.e=0 then ⟨p.i,a,e⟩else p
theorem zgm{w:World}(s:List UInt8)(p:Sx)(a:Nat)(e:Int):Calls Tryz.prog 65 #[stV s p,.int .i64 (a:Nat),.int .i64 e] w (Vc.Ret (stV s (failS p a e)) w):=by
 refine zch _ _ _ _ _ s w _ (iteI (fun h => ?_) (fun h => ?_))
 ·unfold failS;rw [if_pos h];rfl
 ·unfold failS;rw [if_neg h];rfl
def isR(s:List UInt8)(p:Sx)(x:List UInt8):Bool:=decide (p.e=0) && isT s p.i x
def Nd(x:List UInt8):Prop:=∀ c l,x=c::l→digB c=false
theorem zgt{s:List UInt8}{i:Nat}{x:List UInt8}(h0:x ≠ [])(hx:Nd x):(!(tokS s i).bad && decide (rtx (tokS s i)=x))=isT s i x:=by
  unfold isT rtx;by_cases hn:(tokS s i).num=true
  · rw [if_pos hn];cases hb:(tokS s i).bad with
    | true=>rfl
    | false =>
      obtain⟨h1,h2,h3⟩:=zah hn hb;have e1:¬ ([]:List UInt8)=x:=fun e=>h0 e.symm
      have e2:¬ (tokS s i).x=x:=fun e=>by
        cases x with
        | nil=>exact h0 rfl
        | cons c l =>
          have:=h3 c (by rw [e];exact List.mem_cons_self ..)
          rw [hx c l rfl]at this;cases this
      rw [decide_eq_false e1,decide_eq_false e2]
  · rw [if_neg hn]
theorem ris{w:World}{s:List UInt8}{p:Sx}{x:List UInt8}(hl:s.length < 4611686018427387904)(hi:p.i≤s.length)(h0:x ≠ [])(hx:Nd x):Calls Tryz.prog 122 #[stV s p,.string ⟨x.toArray⟩] w (Vc.Ret (.bool (isR s p x)) w):=by
 refine zbj _ _ _ s x w _ ⟨_,_,_,_,rtx (tokS s p.i),(tokS s p.i).bad,fun w' hb=>zyl hl hi,iteI (fun he=>iteI (fun hb => ?_) (fun hb => ?_)) (fun he => ?_)⟩
 ·unfold isR;rw [decide_eq_true he,← zgt h0 hx,hb];rfl
 ·unfold isR;rw [decide_eq_true he,← zgt h0 hx,Bool.eq_false_iff.2 hb];simp
 ·unfold isR;rw [decide_eq_false he];rfl
def wantS(s x:List UInt8)(p:Sx):Sx:=if isR s p x=true then ⟨(tokS s p.i).t,p.a,p.e⟩else failS p (tokS s p.i).a 5
theorem zii{w:World}{s:List UInt8}{p:Sx}{x:List UInt8}(hl:s.length < 4611686018427387904)(hi:p.i≤s.length)(h0:x ≠ [])(hx:Nd x):Calls Tryz.prog 123 #[stV s p,.string ⟨x.toArray⟩] w (Vc.Ret (stV s (wantS s x p)) w):=by
 refine zdh _ _ _ s x w _ ⟨_,_,_,_,_,_,fun w' hb=>zyl hl hi,isR s p x,fun w' hb=>ris hl hi h0 hx,iteI (fun h => ?_) (fun h=>⟨_,_,_,_,fun w' hb=>zgm s p (tokS s p.i).a 5, ?_⟩)⟩
 ·unfold wantS;rw [if_pos h];rfl
 ·unfold wantS;rw [if_neg h];rfl
def nameS(s:List UInt8)(p:Sx):Sx × List UInt8:=if p.e=0∧(tokS s p.i).bad=false∧nameB (rtx (tokS s p.i))=true then (⟨(tokS s p.i).t,p.a,p.e⟩,rtx (tokS s p.i))else (failS p (tokS s p.i).a 5,[])
theorem zraa{w:World}{s:List UInt8}{p:Sx}(hl:s.length < 4611686018427387904)(hi:p.i≤s.length):Calls Tryz.prog 165 #[stV s p] w (Vc.Ret (.tuple #[stV s (nameS s p).1,.string ⟨(nameS s p).2.toArray⟩]) w):=by
 refine zeh _ _ _ s w _ ⟨_,_,_,_,rtx (tokS s p.i),(tokS s p.i).bad,fun w' hb=>zyl hl hi,iteI (fun he=>iteI (fun hb=>⟨_,_,_,_,fun w' hb=>zgm s p (tokS s p.i).a 5, ?_⟩) (fun hb=>⟨nameB (rtx (tokS s p.i)),fun w' _=>zew _ _,iteI (fun hn => ?_) (fun hn=>⟨_,_,_,_,fun w' hb=>zgm s p (tokS s p.i).a 5, ?_⟩)⟩)) (fun he=>⟨_,_,_,_,fun w' hb=>zgm s p (tokS s p.i).a 5, ?_⟩)⟩
 ·unfold nameS;rw [if_neg (fun h=>by rw [h.2.1]at hb;cases hb)];rfl
 ·unfold nameS;rw [if_pos ⟨he,Bool.eq_false_iff.2 hb,hn⟩];rfl
 ·unfold nameS;rw [if_neg (fun h=>hn h.2.2)];rfl
 ·unfold nameS;rw [if_neg (fun h=>he h.1)];rfl
theorem zgw(n lo hi:Int)(w:World):Calls Tryz.prog 71 #[.int .i64 n,.int .i64 lo,.int .i64 hi] w (Vc.Ret (.bool (inB n lo hi)) w):=by
 refine zcj _ _ _ w _ (iteI (fun h => ?_) (fun h => ?_))
 ·unfold inB;rw [decide_eq_true h];rfl
 ·unfold inB;rw [decide_eq_false h];rfl
def numT(s:List UInt8)(mi:Bool)(lo hi:Int)(i0:Nat)(p:Sx):Sx × Int :=
 if kindB (tokS s p.i)=2∧(tokS s p.i).bad=false then
  (if inB (if mi=true then -(numB (tokS s p.i))else numB (tokS s p.i)) lo hi=true then (⟨(tokS s p.i).t,p.a,p.e⟩,if mi=true then -(numB (tokS s p.i))else numB (tokS s p.i))
   else (failS ⟨(tokS s p.i).t,p.a,p.e⟩ (tokS s i0).a 4,if mi=true then -(numB (tokS s p.i))else numB (tokS s p.i)))
 else (failS p (tokS s p.i).a 5,0)
def numS(s:List UInt8)(lo hi:Int)(p:Sx):Sx × Int:=numT s (isR s p [45]) lo hi p.i (if isR s p [45]=true then wantS s [45] p else p)
theorem znb{c:UInt8}{l:List UInt8}(h:digB c=false):Nd (c::l):=fun c' l' e=>by injection e with e1 e2;subst e1;exact h
theorem zbn{s x:List UInt8}{p:Sx}(hi:p.i≤s.length):(wantS s x p).i≤s.length:=by
 unfold wantS;split
 ·exact (zg s hi).2.2.1
 ·unfold failS;split <;> exact hi
theorem zyj(t:Tk):kindB t=2↔t.num=true:=by
 unfold kindB;by_cases h:t.num=true
 ·simp [h]
 ·rw [if_neg h];refine⟨fun e => ?_,fun e=>absurd e h⟩;exfalso;by_cases h1:t.x=[]
  ·rw [if_pos h1]at e;by_cases h2:t.bad=true
   ·rw [if_pos h2]at e;exact absurd e (by decide)
   ·rw [if_neg h2]at e;exact absurd e (by decide)
  ·rw [if_neg h1]at e;by_cases h3:hdL t.x=true
   ·rw [if_pos h3]at e;exact absurd e (by decide)
   ·rw [if_neg h3]at e;exact absurd e (by decide)
theorem zhw{s:List UInt8}{i:Nat}(h:(tokS s i).num=true)(hb:(tokS s i).bad=false):numB (tokS s i)=digV (tokS s i).x∧0≤digV (tokS s i).x∧digV (tokS s i).x < 10000000000:=by
 obtain⟨h1,h2,h3⟩:=zah h hb;have hbd:=zwl _ _ rfl h3
 have h4:(10:Int) ^ (tokS s i).x.length≤10 ^ 10:=by
  have:=Nat.pow_le_pow_right (n:=10) (by omega) h2
  exact_mod_cast this
 have h5:(10:Int) ^ 10=10000000000:=by decide
 refine⟨?_,hbd.1,by omega⟩;unfold numB;rw [if_pos h,List.take_of_length_le h2]
theorem zco{w:World}{s:List UInt8}{p:Sx}(lo hi:Int)(hl:s.length < 4611686018427387904)(hi':p.i≤s.length):Calls Tryz.prog 166 #[stV s p,.int .i64 lo,.int .i64 hi] w (Vc.Ret (.tuple #[stV s (numS s lo hi p).1,.int .i64 (numS s lo hi p).2]) w):=by
 have T3:∀ (mi:Bool) (q:Sx),¬ (kindB (tokS s q.i)=2∧(tokS s q.i).bad=false)→Vj_ullageref10_number_T3 w s (q.i:Nat) (q.a:Nat) q.e ((tokS s q.i).a:Nat) (.tuple #[stV s (numT s mi lo hi p.i q).1,.int .i64 (numT s mi lo hi p.i q).2]):=fun mi q hc=>by
  refine⟨_,_,_,_,fun w' hb=>zgm s q (tokS s q.i).a 5, ?_⟩;unfold numT;rw [if_neg hc];rfl
 have T1:∀ (mi:Bool) (q:Sx),kindB (tokS s q.i)=2→Vj_ullageref10_number_T1 (tokS s q.i).bad w s (q.i:Nat) (q.a:Nat) q.e ((tokS s q.i).a:Nat) (.tuple #[stV s (numT s mi lo hi p.i q).1,.int .i64 (numT s mi lo hi p.i q).2]) mi (numB (tokS s q.i)) lo hi ((tokS s q.i).t:Nat) ((tokS s p.i).a:Nat):=fun mi q hk=>by
  refine iteI (fun hb=>T3 mi q (fun h=>by rw [h.2]at hb;cases hb)) (fun hb => ?_);have hb':=Bool.eq_false_iff.2 hb;obtain⟨e1,e2,e3⟩:=zhw ((zyj _).1 hk) hb';refine iteI (fun hm => ?_) (fun hm => ?_)
  ·intro x16 h16;rw [zh (by rw [e1];omega)]at h16;have e16:x16 = -(numB (tokS s q.i)):=by omega
   subst e16;refine⟨inB (-(numB (tokS s q.i))) lo hi,fun w' hb=>zgw _ _ _ _,iteI (fun hin => ?_) (fun hin=>⟨_,_,_,_,fun w' hb=>zgm s ⟨(tokS s q.i).t,q.a,q.e⟩ (tokS s p.i).a 4, ?_⟩)⟩
   ·unfold numT;rw [if_pos ⟨hk,hb'⟩,if_pos hm,if_pos hin];rfl
   ·unfold numT;rw [if_pos ⟨hk,hb'⟩,if_pos hm,if_neg hin];rfl
  ·refine⟨inB (numB (tokS s q.i)) lo hi,fun w' hb=>zgw _ _ _ _,iteI (fun hin => ?_) (fun hin=>⟨_,_,_,_,fun w' hb=>zgm s ⟨(tokS s q.i).t,q.a,q.e⟩ (tokS s p.i).a 4, ?_⟩)⟩
   ·unfold numT;rw [if_pos ⟨hk,hb'⟩,if_neg hm,if_pos hin];rfl
   ·unfold numT;rw [if_pos ⟨hk,hb'⟩,if_neg hm,if_neg hin];rfl
 have hnd:Nd [45]:=znb (by decide);unfold numS;refine zsf _ _ _ _ _ s w _ ⟨_,((tokS s p.i).a:Nat),_,_,_,_,fun w' hb=>zyl hl hi',isR s p [45],fun w' hb=>ris hl hi' (by decide) hnd,iteI (fun h => ?_) (fun h => ?_)⟩
 ·rw [if_pos h];exact⟨_,_,_,_,fun w' hb=>zii hl hi' (by decide) hnd,_,_,_,_,_,_,fun w' hb=>zyl hl (zbn hi'),iteI (fun hk=>by rw [h];exact T1 true _ hk) (fun hk=>T3 _ _ (fun hh=>hk hh.1))⟩
 ·rw [if_neg h];exact⟨_,_,_,_,_,_,fun w' hb=>zyl hl hi',iteI (fun hk=>by have h':=Bool.eq_false_iff.2 h;rw [h'];exact T1 false _ hk) (fun hk=>T3 _ _ (fun hh=>hk hh.1))⟩
def cmpS(s:List UInt8)(p:Sx):Int:=if p.e=0 then (match cmpI s p.i 0 cmpsB with | some c=>(c:Nat) | none => -1)else -1
theorem zdo{w:World}{s:List UInt8}{p:Sx}(hl:s.length < 4611686018427387904)(hi:p.i≤s.length):Calls Tryz.prog 167 #[stV s p] w (Vc.Ret (.int .i64 (cmpS s p)) w):=by
 have I:∀ {w':World} {x:List UInt8},x ≠ []→Nd x→Calls Tryz.prog 122 #[stV s p,.string ⟨x.toArray⟩] w' (Vc.Ret (.bool (isR s p x)) w'):=fun h0 hx=>ris hl hi h0 hx;by_cases he:p.e=0
 ·have R:∀ x,isR s p x=isT s p.i x:=fun x=>by unfold isR;rw [decide_eq_true he];rfl
  unfold cmpS;rw [if_pos he];refine zzb _ _ _ s w _ ⟨_,fun w' hb=>I (by decide) (znb (by decide)),iteI (fun h => ?_) (fun h0=>⟨_,fun w' hb=>I (by decide) (znb (by decide)),iteI (fun h => ?_) (fun h1=>⟨_,fun w' hb=>I (by decide) (znb (by decide)),iteI (fun h => ?_) (fun h2=>⟨_,fun w' hb=>I (by decide) (znb (by decide)),iteI (fun h => ?_) (fun h3=>⟨_,fun w' hb=>I (by decide) (znb (by decide)),iteI (fun h => ?_) (fun h4=>⟨_,fun w' hb=>I (by decide) (znb (by decide)),iteI (fun h => ?_) (fun h5 => ?_)⟩)⟩)⟩)⟩)⟩)⟩
  all_goals (rw [R]at *;simp [cmpsB,cmpI, *])
 ·have R:∀ x,¬ isR s p x=true:=fun x h=>by unfold isR at h;rw [decide_eq_false he]at h;cases h
  unfold cmpS;rw [if_neg he];exact zzb _ _ _ s w _ ⟨_,fun w' hb=>I (by decide) (znb (by decide)),iteI (fun h=>absurd h (R _)) (fun h0=>⟨_,fun w' hb=>I (by decide) (znb (by decide)),iteI (fun h=>absurd h (R _)) (fun h1=>⟨_,fun w' hb=>I (by decide) (znb (by decide)),iteI (fun h=>absurd h (R _)) (fun h2=>⟨_,fun w' hb=>I (by decide) (znb (by decide)),iteI (fun h=>absurd h (R _)) (fun h3=>⟨_,fun w' hb=>I (by decide) (znb (by decide)),iteI (fun h=>absurd h (R _)) (fun h4=>⟨_,fun w' hb=>I (by decide) (znb (by decide)),iteI (fun h=>absurd h (R _)) (fun h5=>rfl)⟩)⟩)⟩)⟩)⟩)⟩
end Go.Proofs.YtdjgnbkclcjiiaaGreatDoor
end
