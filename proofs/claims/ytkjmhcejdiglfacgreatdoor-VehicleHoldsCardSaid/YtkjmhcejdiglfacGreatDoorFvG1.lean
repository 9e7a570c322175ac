import Derived.Test.YtkjmhcejdiglfacGreatDoorG0
set_option linter.unusedVariables false
set_option maxRecDepth 100000
namespace Go.Proofs.YtkjmhcejdiglfacGreatDoor
open Go Go.RowKit
theorem zbp(x0:Int)(w:World)(v:Value)(h :
 (.bool (decide (x0 ≥ (-9223372036854775807))):Value)=v):Calls Tryz.prog 49 #[.int .i64 x0] w (Vc.Ret v w) :=
 Vc.zb base [] [] 200 Tryz.func49 (b:=(Tryz.f49.body).getD .skip) (by kernel_rfl) [.cv (.one (.int .i64 (.var 0)))] ⟨1,0,0,0,0,0,0⟩ [] (Vc.envOf [x0] [] [] []) (by kernel_rfl) Vc.zc (by kernel_rfl) (by kernel_rfl) h
theorem zcp(x0 x1:Int)(w:World)(v:Value)(h :
 ∃ (b0:Bool),(Vq w 49 #[.int .i64 x0] (.bool b0)) ∧
 ((b0=true)→(
 ∃ (b1:Bool),(Vq w 49 #[.int .i64 x1] (.bool b1)) ∧
 ((b1=true)→(
 ((x1 < x0)→(
 (.int .i64 2:Value)=v))∧(¬ (x1 < x0)→(
 (.int .i64 0:Value)=v))))∧(¬ (b1=true)→(
 (.int .i64 2:Value)=v))))∧(¬ (b0=true)→(
 (.int .i64 2:Value)=v))):Calls Tryz.prog 25 #[.agg #[.int .i64 x0,.int .i64 x1]] w (Vc.Ret v w) :=
 Vc.zb base [] [] 200 Tryz.func25 (b:=(Tryz.f25.body).getD .skip) (by kernel_rfl) [.cv (.agg [.int .i64 (.var 0),.int .i64 (.var 1)])] ⟨2,0,0,0,0,0,0⟩ [] (Vc.envOf [x0,x1] [] [] []) (by kernel_rfl) Vc.zc (by kernel_rfl) (by kernel_rfl) h
theorem zaj(p0:Nat × Nat)(w:World)(v:Value)(h :
 ∃ (x0:Int),w.cell? ⟨p0.1,p0.2 + (Int.toNat 0) * 2 + 0,none⟩=some (.int .i64 x0) ∧
 ∃ (x1:Int),w.cell? ⟨p0.1,p0.2 + (Int.toNat 0) * 2 + 1,none⟩=some (.int .i64 x1) ∧
 ∃ (x2:Int),(Vq w 25 #[.agg #[.int .i64 x0,.int .i64 x1]] (.int .i64 x2)) ∧
 ((x2=0)→(
 ∃ (x3:Int),w.cell? ⟨p0.1,p0.2 + (Int.toNat 1) * 2 + 0,none⟩=some (.int .i64 x3) ∧
 ∃ (x4:Int),w.cell? ⟨p0.1,p0.2 + (Int.toNat 1) * 2 + 1,none⟩=some (.int .i64 x4) ∧
 ∃ (x5:Int),(Vq w 25 #[.agg #[.int .i64 x3,.int .i64 x4]] (.int .i64 x5)) ∧
 ((x5=0)→(
 (.int .i64 0:Value)=v))∧(¬ (x5=0)→(
 (.int .i64 x5:Value)=v))))∧(¬ (x2=0)→(
 (.int .i64 x2:Value)=v))):Calls Tryz.prog 29 #[.slice (some ⟨p0.1,p0.2,none⟩) 2 2] w (Vc.Ret v w) :=
 Vc.zb base [] [] 200 Tryz.func29 (b:=(Tryz.f29.body).getD .skip) (by kernel_rfl) [.cv (.one (.xsl 0 (.lit (0)) 2 (.lit (2)) (.lit (2))))] ⟨0,0,0,1,0,0,0⟩ [] (Vc.envOf [] [] [] [p0]) (by kernel_rfl) Vc.zc (by kernel_rfl) (by kernel_rfl) h
theorem zan(x0 x1 x2 x3:Int)(w:World)(v:Value)(h :
 ∃ (x4:Int),(∀ (β:Nat→Nat) (w':World),Below w.heap.size w w'→((w.heap.size≤β 2∧w'.heap[β 2]? = some (.cells #[.int .i64 x0,.int .i64 x1,.int .i64 x2,.int .i64 x3] 25))∧True)→Calls Tryz.prog 29 #[.slice (some ⟨β 2,0,none⟩) 2 2] w' (Vc.Ret (.int .i64 x4) w')) ∧
 ((x4=0)→(
 ((x2≤x0)→(
 (.bool (decide (x1≤x3)):Value)=v))∧(¬ (x2≤x0)→(
 (.bool false:Value)=v))))∧(¬ (x4=0)→(
 (.bool false:Value)=v))):Calls Tryz.prog 13 #[.agg #[.int .i64 x0,.int .i64 x1],.agg #[.int .i64 x2,.int .i64 x3]] w (Vc.Ret v w) :=
 Vc.zb base [] [] 200 Tryz.func13 (b:=(Tryz.f13.body).getD .skip) (by kernel_rfl) [.cv (.agg [.int .i64 (.var 0),.int .i64 (.var 1)]),.cv (.agg [.int .i64 (.var 2),.int .i64 (.var 3)])] ⟨4,0,0,0,0,0,0⟩ [] (Vc.envOf [x0,x1,x2,x3] [] [] []) (by kernel_rfl) Vc.zc (by kernel_rfl) (by kernel_rfl) h
theorem zor(x0:Int)(w:World)(v:Value)(h :
 ((x0 < 0)→(
 ∀ x1:Int,x1=IntKind.u64.wrap (x0) →
 ∀ x2:Int,x2=IntKind.u64.wrap (0 - x1) →
 (.int .u64 x2:Value)=v))∧(¬ (x0 < 0)→(
 ∀ x1:Int,x1=IntKind.u64.wrap (x0) →
 (.int .u64 x1:Value)=v))):Calls Tryz.prog 53 #[.int .i64 x0] w (Vc.Ret v w) :=
 Vc.zb base [] [] 200 Tryz.func53 (b:=(Tryz.f53.body).getD .skip) (by kernel_rfl) [.cv (.one (.int .i64 (.var 0)))] ⟨1,0,0,0,0,0,0⟩ [] (Vc.envOf [x0] [] [] []) (by kernel_rfl) Vc.zc (by kernel_rfl) (by kernel_rfl) h
theorem zxv(x0:Int)(w:World)(v:Value)(h :
 ∃ (x1:Int),(Vq w 53 #[.int .i64 x0] (.int .u64 x1)) ∧
 (.agg #[.bool (decide (x0 < 0)),.int .u64 0,.int .u64 x1]:Value)=v):Calls Tryz.prog 31 #[.int .i64 x0] w (Vc.Ret v w) :=
 Vc.zb base [] [] 200 Tryz.func31 (b:=(Tryz.f31.body).getD .skip) (by kernel_rfl) [.cv (.one (.int .i64 (.var 0)))] ⟨1,0,0,0,0,0,0⟩ [] (Vc.envOf [x0] [] [] []) (by kernel_rfl) Vc.zc (by kernel_rfl) (by kernel_rfl) h
theorem zrh(x0 x1:Int)(w:World)(v:Value)(h :
 ∀ x2:Int,x2=bits .and .u64 x0 4294967295 →
 ∀ x3:Int,x3=x0 / 4294967296 →
 ∀ x4:Int,x4=bits .and .u64 x1 4294967295 →
 ∀ x5:Int,x5=x1 / 4294967296 →
 ∀ x6:Int,x6=IntKind.u64.wrap (x2 * x4) →
 ∀ x7:Int,x7=IntKind.u64.wrap (x3 * x4) →
 ∀ x8:Int,x8=x6 / 4294967296 →
 ∀ x9:Int,x9=IntKind.u64.wrap (x7 + x8) →
 ∀ x10:Int,x10=bits .and .u64 x9 4294967295 →
 ∀ x11:Int,x11=x9 / 4294967296 →
 ∀ x12:Int,x12=IntKind.u64.wrap (x2 * x5) →
 ∀ x13:Int,x13=IntKind.u64.wrap (x10 + x12) →
 ∀ x14:Int,x14=IntKind.u64.wrap (x3 * x5) →
 ∀ x15:Int,x15=IntKind.u64.wrap (x14 + x11) →
 ∀ x16:Int,x16=x13 / 4294967296 →
 ∀ x17:Int,x17=IntKind.u64.wrap (x15 + x16) →
 ∀ x18:Int,x18=IntKind.u64.wrap (x0 * x1) →
 (.tuple #[.int .u64 x17,.int .u64 x18]:Value)=v):Calls Tryz.prog 52 #[.int .u64 x0,.int .u64 x1] w (Vc.Ret v w) :=
 Vc.zb base [] [] 200 Tryz.func52 (b:=(Tryz.f52.body).getD .skip) (by kernel_rfl) [.cv (.one (.int .u64 (.var 0))),.cv (.one (.int .u64 (.var 1)))] ⟨2,0,0,0,0,0,0⟩ [] (Vc.envOf [x0,x1] [] [] []) (by kernel_rfl) Vc.zc (by kernel_rfl) (by kernel_rfl) h
theorem zdp(x0 x1:Int)(w:World)(v:Value)(h :
 ∃ (x2:Int),(Vq w 53 #[.int .i64 x0] (.int .u64 x2)) ∧
 ∃ (x3:Int),(Vq w 53 #[.int .i64 x1] (.int .u64 x3)) ∧
 ∃ (x4:Int),∃ (x5:Int),(Vq w 52 #[.int .u64 x2,.int .u64 x3] (.tuple #[.int .u64 x4,.int .u64 x5])) ∧
 (.agg #[.bool (!((decide (x0 < 0)) == (decide (x1 < 0)))),.int .u64 x4,.int .u64 x5]:Value)=v):Calls Tryz.prog 28 #[.int .i64 x0,.int .i64 x1] w (Vc.Ret v w) :=
 Vc.zb base [] [] 200 Tryz.func28 (b:=(Tryz.f28.body).getD .skip) (by kernel_rfl) [.cv (.one (.int .i64 (.var 0))),.cv (.one (.int .i64 (.var 1)))] ⟨2,0,0,0,0,0,0⟩ [] (Vc.envOf [x0,x1] [] [] []) (by kernel_rfl) Vc.zc (by kernel_rfl) (by kernel_rfl) h
theorem zng(x0 x1:Int)(b0:Bool)(w:World)(v:Value)(h :
 ∀ x2:Int,x2=IntKind.u64.wrap (x0 * 4294967296) →
 ∀ x3:Int,x3=x1 / 4294967296 →
 ∀ x4:Int,x4=bits .or .u64 x2 x3 →
 ∀ x5:Int,x5=IntKind.u64.wrap (x1 * 4294967296) →
 (.agg #[.bool b0,.int .u64 x4,.int .u64 x5]:Value)=v):Calls Tryz.prog 57 #[.agg #[.bool b0,.int .u64 x0,.int .u64 x1],.int .u64 32] w (Vc.Ret v w) :=
 Vc.zb base [] [] 200 Tryz.func57 (b:=(Tryz.f57.body).getD .skip) (by kernel_rfl) [.cv (.agg [.bool (.var 0),.int .u64 (.var 0),.int .u64 (.var 1)]),.cv (.one (.int .u64 (.lit (32))))] ⟨2,1,0,0,0,0,0⟩ [] (Vc.envOf [x0,x1] [b0] [] []) (by kernel_rfl) Vc.zc (by kernel_rfl) (by kernel_rfl) h
theorem zsh(x0 x1:Int)(b0:Bool)(w:World)(v:Value)(h :
 ((x0=0)→(
 (.bool (x1 == 0):Value)=v))∧(¬ (x0=0)→(
 (.bool false:Value)=v))):Calls Tryz.prog 55 #[.agg #[.bool b0,.int .u64 x0,.int .u64 x1]] w (Vc.Ret v w) :=
 Vc.zb base [] [] 200 Tryz.func55 (b:=(Tryz.f55.body).getD .skip) (by kernel_rfl) [.cv (.agg [.bool (.var 0),.int .u64 (.var 0),.int .u64 (.var 1)])] ⟨2,1,0,0,0,0,0⟩ [] (Vc.envOf [x0,x1] [b0] [] []) (by kernel_rfl) Vc.zc (by kernel_rfl) (by kernel_rfl) h
theorem zog(x0 x1:Int)(b0:Bool)(w:World)(v:Value)(h :
 ((b0=true)→(
 ∃ (b1:Bool),(Vq w 55 #[.agg #[.bool b0,.int .u64 x0,.int .u64 x1]] (.bool b1)) ∧
 (.bool (!b1):Value)=v))∧(¬ (b0=true)→(
 (.bool false:Value)=v))):Calls Tryz.prog 99 #[.agg #[.bool b0,.int .u64 x0,.int .u64 x1]] w (Vc.Ret v w) :=
 Vc.zb base [] [] 200 Tryz.func99 (b:=(Tryz.f99.body).getD .skip) (by kernel_rfl) [.cv (.agg [.bool (.var 0),.int .u64 (.var 0),.int .u64 (.var 1)])] ⟨2,1,0,0,0,0,0⟩ [] (Vc.envOf [x0,x1] [b0] [] []) (by kernel_rfl) Vc.zc (by kernel_rfl) (by kernel_rfl) h
theorem zpr(x0 x1 x2 x3:Int)(b0 b1:Bool)(w:World)(v:Value)(h :
 ∃ (b2:Bool),(Vq w 99 #[.agg #[.bool b0,.int .u64 x0,.int .u64 x1]] (.bool b2)) ∧
 ∃ (b3:Bool),(Vq w 99 #[.agg #[.bool b1,.int .u64 x2,.int .u64 x3]] (.bool b3)) ∧
 ((((b2=true)↔(b3=true)))→(
 ∃ (b4:Bool),(Vq w 99 #[.agg #[.bool b0,.int .u64 x0,.int .u64 x1]] (.bool b4)) ∧
 ((b4=true)→(
 ((x2 < x0)→(
 (.bool true:Value)=v))∧(¬ (x2 < x0)→(
 ((x2=x0)→(
 (.bool (decide (x3 < x1)):Value)=v))∧(¬ (x2=x0)→(
 (.bool false:Value)=v))))))∧(¬ (b4=true)→(
 ((x0 < x2)→(
 (.bool true:Value)=v))∧(¬ (x0 < x2)→(
 ((x0=x2)→(
 (.bool (decide (x1 < x3)):Value)=v))∧(¬ (x0=x2)→(
 (.bool false:Value)=v))))))))∧(¬ (((b2=true)↔(b3=true)))→(
 ∃ (b4:Bool),(Vq w 99 #[.agg #[.bool b0,.int .u64 x0,.int .u64 x1]] (.bool b4)) ∧
 (.bool b4:Value)=v))):Calls Tryz.prog 51 #[.agg #[.bool b0,.int .u64 x0,.int .u64 x1],.agg #[.bool b1,.int .u64 x2,.int .u64 x3]] w (Vc.Ret v w) :=
 Vc.zb base [] [] 200 Tryz.func51 (b:=(Tryz.f51.body).getD .skip) (by kernel_rfl) [.cv (.agg [.bool (.var 0),.int .u64 (.var 0),.int .u64 (.var 1)]),.cv (.agg [.bool (.var 1),.int .u64 (.var 2),.int .u64 (.var 3)])] ⟨4,2,0,0,0,0,0⟩ [] (Vc.envOf [x0,x1,x2,x3] [b0,b1] [] []) (by kernel_rfl) Vc.zc (by kernel_rfl) (by kernel_rfl) h
theorem zqr(x0 x1 x2 x3:Int)(b0 b1:Bool)(w:World)(v:Value)(h :
 ((((b0=true)↔(b1=true)))→(
 ∃ (x4:Int),∃ (x5:Int),(true=true∧∀ w':World,(callFunc 101 #[.int .u64 x1,.int .u64 x3,.int .u64 0]).run Tryz.prog w'=.ok (.value (.tuple #[.int .u64 x4,.int .u64 x5])) w') ∧
 ∃ (x6:Int),∃ (x7:Int),(true=true∧∀ w':World,(callFunc 101 #[.int .u64 x0,.int .u64 x2,.int .u64 x5]).run Tryz.prog w'=.ok (.value (.tuple #[.int .u64 x6,.int .u64 x7])) w') ∧
 (.agg #[.bool b0,.int .u64 x6,.int .u64 x4]:Value)=v))∧(¬ (((b0=true)↔(b1=true)))→(
 ((x0 < x2)→(
 ∃ (x4:Int),∃ (x5:Int),(true=true∧∀ w':World,(callFunc 100 #[.int .u64 x3,.int .u64 x1,.int .u64 0]).run Tryz.prog w'=.ok (.value (.tuple #[.int .u64 x4,.int .u64 x5])) w') ∧
 ∃ (x6:Int),∃ (x7:Int),(true=true∧∀ w':World,(callFunc 100 #[.int .u64 x2,.int .u64 x0,.int .u64 x5]).run Tryz.prog w'=.ok (.value (.tuple #[.int .u64 x6,.int .u64 x7])) w') ∧
 (.agg #[.bool b1,.int .u64 x6,.int .u64 x4]:Value)=v))∧(¬ (x0 < x2)→(
 ((x0=x2)→(
 ((x1 < x3)→(
 ∃ (x4:Int),∃ (x5:Int),(true=true∧∀ w':World,(callFunc 100 #[.int .u64 x3,.int .u64 x1,.int .u64 0]).run Tryz.prog w'=.ok (.value (.tuple #[.int .u64 x4,.int .u64 x5])) w') ∧
 ∃ (x6:Int),∃ (x7:Int),(true=true∧∀ w':World,(callFunc 100 #[.int .u64 x2,.int .u64 x0,.int .u64 x5]).run Tryz.prog w'=.ok (.value (.tuple #[.int .u64 x6,.int .u64 x7])) w') ∧
 (.agg #[.bool b1,.int .u64 x6,.int .u64 x4]:Value)=v))∧(¬ (x1 < x3)→(
 ∃ (x4:Int),∃ (x5:Int),(true=true∧∀ w':World,(callFunc 100 #[.int .u64 x1,.int .u64 x3,.int .u64 0]).run Tryz.prog w'=.ok (.value (.tuple #[.int .u64 x4,.int .u64 x5])) w') ∧
 ∃ (x6:Int),∃ (x7:Int),(true=true∧∀ w':World,(callFunc 100 #[.int .u64 x0,.int .u64 x2,.int .u64 x5]).run Tryz.prog w'=.ok (.value (.tuple #[.int .u64 x6,.int .u64 x7])) w') ∧
 (.agg #[.bool b0,.int .u64 x6,.int .u64 x4]:Value)=v))))∧(¬ (x0=x2)→(
 ∃ (x4:Int),∃ (x5:Int),(true=true∧∀ w':World,(callFunc 100 #[.int .u64 x1,.int .u64 x3,.int .u64 0]).run Tryz.prog w'=.ok (.value (.tuple #[.int .u64 x4,.int .u64 x5])) w') ∧
 ∃ (x6:Int),∃ (x7:Int),(true=true∧∀ w':World,(callFunc 100 #[.int .u64 x0,.int .u64 x2,.int .u64 x5]).run Tryz.prog w'=.ok (.value (.tuple #[.int .u64 x6,.int .u64 x7])) w') ∧
 (.agg #[.bool b0,.int .u64 x6,.int .u64 x4]:Value)=v))))))):Calls Tryz.prog 56 #[.agg #[.bool b0,.int .u64 x0,.int .u64 x1],.agg #[.bool b1,.int .u64 x2,.int .u64 x3]] w (Vc.Ret v w) :=
 Vc.zb base [] [] 200 Tryz.func56 (b:=(Tryz.f56.body).getD .skip) (by kernel_rfl) [.cv (.agg [.bool (.var 0),.int .u64 (.var 0),.int .u64 (.var 1)]),.cv (.agg [.bool (.var 1),.int .u64 (.var 2),.int .u64 (.var 3)])] ⟨4,2,0,0,0,0,0⟩ [] (Vc.envOf [x0,x1,x2,x3] [b0,b1] [] []) (by kernel_rfl) Vc.zc (by kernel_rfl) (by kernel_rfl) h
theorem zth(x0 x1 x2:Int)(w:World)(v:Value)(h :
 ((x2=0)→(
 False ))∧(¬ (x2=0)→(
 ((x2≤x0)→(
 False ))∧(¬ (x2≤x0)→(
 ((x0=0)→(
 (x2≠0) ∧
 ∀ x3:Int,x3=IntKind.u64.wrap (Int.tdiv x1 x2) →
 (x2≠0) ∧
 ∀ x4:Int,x4=Int.tmod x1 x2 →
 (.tuple #[.int .u64 x3,.int .u64 x4]:Value)=v))∧(¬ (x0=0)→(
 ∃ (x3:Int),(Vq w 77 #[.int .u64 x2] (.int .i64 x3)) ∧
 ∀ x4:Int,x4=IntKind.u64.wrap (x3) →
 (0≤x4) ∧
 ∀ x5:Int,x5=IntKind.u64.wrap (x2 * 2 ^ (Nat.min (Int.toNat x4) 64)) →
 ∀ x6:Int,x6=x5 / 4294967296 →
 ∀ x7:Int,x7=bits .and .u64 x5 4294967295 →
 (0≤x4) ∧
 ∀ x8:Int,x8=IntKind.u64.wrap (x0 * 2 ^ (Nat.min (Int.toNat x4) 64)) →
 ∀ x9:Int,x9=IntKind.u64.wrap (64 - x4) →
 (0≤x9) ∧
 ∀ x10:Int,x10=Int.fdiv x1 (2 ^ (Nat.min (Int.toNat x9) 64)) →
 ∀ x11:Int,x11=bits .or .u64 x8 x10 →
 (0≤x4) ∧
 ∀ x12:Int,x12=IntKind.u64.wrap (x1 * 2 ^ (Nat.min (Int.toNat x4) 64)) →
 ∀ x13:Int,x13=x12 / 4294967296 →
 ∀ x14:Int,x14=bits .and .u64 x12 4294967295 →
 (x6≠0) ∧
 ∀ x15:Int,x15=IntKind.u64.wrap (Int.tdiv x11 x6) →
 ∀ x16:Int,x16=IntKind.u64.wrap (x15 * x6) →
 ∀ x17:Int,x17=IntKind.u64.wrap (x11 - x16) →
 ∃ (Ix18:List Vc.Vl→Prop) (mx18:List Vc.Vl→Nat),Ix18 [.i x15,.i x17]∧∀ (x18:Int) (x19:Int),Ix18 [.i x18,.i x19]→(
 ((4294967296≤x18)→(
 ∀ x20:Int,x20=IntKind.u64.wrap (x18 - 1) →
 ∀ x21:Int,x21=IntKind.u64.wrap (x19 + x6) →
 ((4294967296≤x21)→(
 ∀ x22:Int,x22=IntKind.u64.wrap (x11 * 4294967296) →
 ∀ x23:Int,x23=IntKind.u64.wrap (x22 + x13) →
 ∀ x24:Int,x24=IntKind.u64.wrap (x20 * x5) →
 ∀ x25:Int,x25=IntKind.u64.wrap (x23 - x24) →
 (x6≠0) ∧
 ∀ x26:Int,x26=IntKind.u64.wrap (Int.tdiv x25 x6) →
 ∀ x27:Int,x27=IntKind.u64.wrap (x26 * x6) →
 ∀ x28:Int,x28=IntKind.u64.wrap (x25 - x27) →
 ∃ (Ix29:List Vc.Vl→Prop) (mx29:List Vc.Vl→Nat),Ix29 [.i x26,.i x28]∧∀ (x29:Int) (x30:Int),Ix29 [.i x29,.i x30]→(
 ((4294967296≤x29)→(
 ∀ x31:Int,x31=IntKind.u64.wrap (x29 - 1) →
 ∀ x32:Int,x32=IntKind.u64.wrap (x30 + x6) →
 ((4294967296≤x32)→(
 ∀ x33:Int,x33=IntKind.u64.wrap (x20 * 4294967296) →
 ∀ x34:Int,x34=IntKind.u64.wrap (x33 + x31) →
 ∀ x35:Int,x35=IntKind.u64.wrap (x25 * 4294967296) →
 ∀ x36:Int,x36=IntKind.u64.wrap (x35 + x14) →
 ∀ x37:Int,x37=IntKind.u64.wrap (x31 * x5) →
 ∀ x38:Int,x38=IntKind.u64.wrap (x36 - x37) →
 (0≤x4) ∧
 ∀ x39:Int,x39=Int.fdiv x38 (2 ^ (Nat.min (Int.toNat x4) 64)) →
 (.tuple #[.int .u64 x34,.int .u64 x39]:Value)=v))∧(¬ (4294967296≤x32)→(
 Ix29 [.i x31,.i x32]∧mx29 [.i x31,.i x32] < mx29 [.i x29,.i x30]))))∧(¬ (4294967296≤x29)→(
 ∀ x31:Int,x31=IntKind.u64.wrap (x29 * x7) →
 ∀ x32:Int,x32=IntKind.u64.wrap (4294967296 * x30) →
 ∀ x33:Int,x33=IntKind.u64.wrap (x32 + x14) →
 ((x33 < x31)→(
 ∀ x34:Int,x34=IntKind.u64.wrap (x29 - 1) →
 ∀ x35:Int,x35=IntKind.u64.wrap (x30 + x6) →
 ((4294967296≤x35)→(
 ∀ x36:Int,x36=IntKind.u64.wrap (x20 * 4294967296) →
 ∀ x37:Int,x37=IntKind.u64.wrap (x36 + x34) →
 ∀ x38:Int,x38=IntKind.u64.wrap (x25 * 4294967296) →
 ∀ x39:Int,x39=IntKind.u64.wrap (x38 + x14) →
 ∀ x40:Int,x40=IntKind.u64.wrap (x34 * x5) →
 ∀ x41:Int,x41=IntKind.u64.wrap (x39 - x40) →
 (0≤x4) ∧
 ∀ x42:Int,x42=Int.fdiv x41 (2 ^ (Nat.min (Int.toNat x4) 64)) →
 (.tuple #[.int .u64 x37,.int .u64 x42]:Value)=v))∧(¬ (4294967296≤x35)→(
 Ix29 [.i x34,.i x35]∧mx29 [.i x34,.i x35] < mx29 [.i x29,.i x30]))))∧(¬ (x33 < x31)→(
 ∀ x34:Int,x34=IntKind.u64.wrap (x20 * 4294967296) →
 ∀ x35:Int,x35=IntKind.u64.wrap (x34 + x29) →
 ∀ x36:Int,x36=IntKind.u64.wrap (x25 * 4294967296) →
 ∀ x37:Int,x37=IntKind.u64.wrap (x36 + x14) →
 ∀ x38:Int,x38=IntKind.u64.wrap (x29 * x5) →
 ∀ x39:Int,x39=IntKind.u64.wrap (x37 - x38) →
 (0≤x4) ∧
 ∀ x40:Int,x40=Int.fdiv x39 (2 ^ (Nat.min (Int.toNat x4) 64)) →
 (.tuple #[.int .u64 x35,.int .u64 x40]:Value)=v)))))))∧(¬ (4294967296≤x21)→(
 Ix18 [.i x20,.i x21]∧mx18 [.i x20,.i x21] < mx18 [.i x18,.i x19]))))∧(¬ (4294967296≤x18)→(
 ∀ x20:Int,x20=IntKind.u64.wrap (x18 * x7) →
 ∀ x21:Int,x21=IntKind.u64.wrap (4294967296 * x19) →
 ∀ x22:Int,x22=IntKind.u64.wrap (x21 + x13) →
 ((x22 < x20)→(
 ∀ x23:Int,x23=IntKind.u64.wrap (x18 - 1) →
 ∀ x24:Int,x24=IntKind.u64.wrap (x19 + x6) →
 ((4294967296≤x24)→(
 ∀ x25:Int,x25=IntKind.u64.wrap (x11 * 4294967296) →
 ∀ x26:Int,x26=IntKind.u64.wrap (x25 + x13) →
 ∀ x27:Int,x27=IntKind.u64.wrap (x23 * x5) →
 ∀ x28:Int,x28=IntKind.u64.wrap (x26 - x27) →
 (x6≠0) ∧
 ∀ x29:Int,x29=IntKind.u64.wrap (Int.tdiv x28 x6) →
 ∀ x30:Int,x30=IntKind.u64.wrap (x29 * x6) →
 ∀ x31:Int,x31=IntKind.u64.wrap (x28 - x30) →
 ∃ (Ix32:List Vc.Vl→Prop) (mx32:List Vc.Vl→Nat),Ix32 [.i x29,.i x31]∧∀ (x32:Int) (x33:Int),Ix32 [.i x32,.i x33]→(
 ((4294967296≤x32)→(
 ∀ x34:Int,x34=IntKind.u64.wrap (x32 - 1) →
 ∀ x35:Int,x35=IntKind.u64.wrap (x33 + x6) →
 ((4294967296≤x35)→(
 ∀ x36:Int,x36=IntKind.u64.wrap (x23 * 4294967296) →
 ∀ x37:Int,x37=IntKind.u64.wrap (x36 + x34) →
 ∀ x38:Int,x38=IntKind.u64.wrap (x28 * 4294967296) →
 ∀ x39:Int,x39=IntKind.u64.wrap (x38 + x14) →
 ∀ x40:Int,x40=IntKind.u64.wrap (x34 * x5) →
 ∀ x41:Int,x41=IntKind.u64.wrap (x39 - x40) →
 (0≤x4) ∧
 ∀ x42:Int,x42=Int.fdiv x41 (2 ^ (Nat.min (Int.toNat x4) 64)) →
 (.tuple #[.int .u64 x37,.int .u64 x42]:Value)=v))∧(¬ (4294967296≤x35)→(
 Ix32 [.i x34,.i x35]∧mx32 [.i x34,.i x35] < mx32 [.i x32,.i x33]))))∧(¬ (4294967296≤x32)→(
 ∀ x34:Int,x34=IntKind.u64.wrap (x32 * x7) →
 ∀ x35:Int,x35=IntKind.u64.wrap (4294967296 * x33) →
 ∀ x36:Int,x36=IntKind.u64.wrap (x35 + x14) →
 ((x36 < x34)→(
 ∀ x37:Int,x37=IntKind.u64.wrap (x32 - 1) →
 ∀ x38:Int,x38=IntKind.u64.wrap (x33 + x6) →
 ((4294967296≤x38)→(
 ∀ x39:Int,x39=IntKind.u64.wrap (x23 * 4294967296) →
 ∀ x40:Int,x40=IntKind.u64.wrap (x39 + x37) →
 ∀ x41:Int,x41=IntKind.u64.wrap (x28 * 4294967296) →
 ∀ x42:Int,x42=IntKind.u64.wrap (x41 + x14) →
 ∀ x43:Int,x43=IntKind.u64.wrap (x37 * x5) →
 ∀ x44:Int,x44=IntKind.u64.wrap (x42 - x43) →
 (0≤x4) ∧
 ∀ x45:Int,x45=Int.fdiv x44 (2 ^ (Nat.min (Int.toNat x4) 64)) →
 (.tuple #[.int .u64 x40,.int .u64 x45]:Value)=v))∧(¬ (4294967296≤x38)→(
 Ix32 [.i x37,.i x38]∧mx32 [.i x37,.i x38] < mx32 [.i x32,.i x33]))))∧(¬ (x36 < x34)→(
 ∀ x37:Int,x37=IntKind.u64.wrap (x23 * 4294967296) →
 ∀ x38:Int,x38=IntKind.u64.wrap (x37 + x32) →
 ∀ x39:Int,x39=IntKind.u64.wrap (x28 * 4294967296) →
 ∀ x40:Int,x40=IntKind.u64.wrap (x39 + x14) →
 ∀ x41:Int,x41=IntKind.u64.wrap (x32 * x5) →
 ∀ x42:Int,x42=IntKind.u64.wrap (x40 - x41) →
 (0≤x4) ∧
 ∀ x43:Int,x43=Int.fdiv x42 (2 ^ (Nat.min (Int.toNat x4) 64)) →
 (.tuple #[.int .u64 x38,.int .u64 x43]:Value)=v)))))))∧(¬ (4294967296≤x24)→(
 Ix18 [.i x23,.i x24]∧mx18 [.i x23,.i x24] < mx18 [.i x18,.i x19]))))∧(¬ (x22 < x20)→(
 ∀ x23:Int,x23=IntKind.u64.wrap (x11 * 4294967296) →
 ∀ x24:Int,x24=IntKind.u64.wrap (x23 + x13) →
 ∀ x25:Int,x25=IntKind.u64.wrap (x18 * x5) →
 ∀ x26:Int,x26=IntKind.u64.wrap (x24 - x25) →
 (x6≠0) ∧
 ∀ x27:Int,x27=IntKind.u64.wrap (Int.tdiv x26 x6) →
 ∀ x28:Int,x28=IntKind.u64.wrap (x27 * x6) →
 ∀ x29:Int,x29=IntKind.u64.wrap (x26 - x28) →
 ∃ (Ix30:List Vc.Vl→Prop) (mx30:List Vc.Vl→Nat),Ix30 [.i x27,.i x29]∧∀ (x30:Int) (x31:Int),Ix30 [.i x30,.i x31]→(
 ((4294967296≤x30)→(
 ∀ x32:Int,x32=IntKind.u64.wrap (x30 - 1) →
 ∀ x33:Int,x33=IntKind.u64.wrap (x31 + x6) →
 ((4294967296≤x33)→(
 ∀ x34:Int,x34=IntKind.u64.wrap (x18 * 4294967296) →
 ∀ x35:Int,x35=IntKind.u64.wrap (x34 + x32) →
 ∀ x36:Int,x36=IntKind.u64.wrap (x26 * 4294967296) →
 ∀ x37:Int,x37=IntKind.u64.wrap (x36 + x14) →
 ∀ x38:Int,x38=IntKind.u64.wrap (x32 * x5) →
 ∀ x39:Int,x39=IntKind.u64.wrap (x37 - x38) →
 (0≤x4) ∧
 ∀ x40:Int,x40=Int.fdiv x39 (2 ^ (Nat.min (Int.toNat x4) 64)) →
 (.tuple #[.int .u64 x35,.int .u64 x40]:Value)=v))∧(¬ (4294967296≤x33)→(
 Ix30 [.i x32,.i x33]∧mx30 [.i x32,.i x33] < mx30 [.i x30,.i x31]))))∧(¬ (4294967296≤x30)→(
 ∀ x32:Int,x32=IntKind.u64.wrap (x30 * x7) →
 ∀ x33:Int,x33=IntKind.u64.wrap (4294967296 * x31) →
 ∀ x34:Int,x34=IntKind.u64.wrap (x33 + x14) →
 ((x34 < x32)→(
 ∀ x35:Int,x35=IntKind.u64.wrap (x30 - 1) →
 ∀ x36:Int,x36=IntKind.u64.wrap (x31 + x6) →
 ((4294967296≤x36)→(
 ∀ x37:Int,x37=IntKind.u64.wrap (x18 * 4294967296) →
 ∀ x38:Int,x38=IntKind.u64.wrap (x37 + x35) →
 ∀ x39:Int,x39=IntKind.u64.wrap (x26 * 4294967296) →
 ∀ x40:Int,x40=IntKind.u64.wrap (x39 + x14) →
 ∀ x41:Int,x41=IntKind.u64.wrap (x35 * x5) →
 ∀ x42:Int,x42=IntKind.u64.wrap (x40 - x41) →
 (0≤x4) ∧
 ∀ x43:Int,x43=Int.fdiv x42 (2 ^ (Nat.min (Int.toNat x4) 64)) →
 (.tuple #[.int .u64 x38,.int .u64 x43]:Value)=v))∧(¬ (4294967296≤x36)→(
 Ix30 [.i x35,.i x36]∧mx30 [.i x35,.i x36] < mx30 [.i x30,.i x31]))))∧(¬ (x34 < x32)→(
 ∀ x35:Int,x35=IntKind.u64.wrap (x18 * 4294967296) →
 ∀ x36:Int,x36=IntKind.u64.wrap (x35 + x30) →
 ∀ x37:Int,x37=IntKind.u64.wrap (x26 * 4294967296) →
 ∀ x38:Int,x38=IntKind.u64.wrap (x37 + x14) →
 ∀ x39:Int,x39=IntKind.u64.wrap (x30 * x5) →
 ∀ x40:Int,x40=IntKind.u64.wrap (x38 - x39) →
 (0≤x4) ∧
 ∀ x41:Int,x41=Int.fdiv x40 (2 ^ (Nat.min (Int.toNat x4) 64)) →
 (.tuple #[.int .u64 x36,.int .u64 x41]:Value)=v))))))))))))))))):Calls Tryz.prog 40 #[.int .u64 x0,.int .u64 x1,.int .u64 x2] w (Vc.Ret v w) :=
 Vc.zb base [(12000000000017,.inv [] [15,16] [67,68,69,70,71,72,73,74,75,76,77,78,79,80,81,82,83,84,85]),(12000000000024,.inv [] [18,16] [102,103,104,105,106,107,108,109,110,111,112,113,114,115,116,117,118,119,120])] [] 200 Tryz.func40 (b:=(Tryz.f40.body).getD .skip) (by kernel_rfl) [.cv (.one (.int .u64 (.var 0))),.cv (.one (.int .u64 (.var 1))),.cv (.one (.int .u64 (.var 2)))] ⟨3,0,0,0,0,0,0⟩ [] (Vc.envOf [x0,x1,x2] [] [] []) (by kernel_rfl) Vc.zc (by kernel_rfl) (by kernel_rfl) h
theorem zbn(x0 x1 x2 x3:Int)(b0 b1:Bool)(w:World)(v:Value)(h :
 ((x2=0)→(
 (x3≠0) ∧
 ∀ x4:Int,x4=IntKind.u64.wrap (Int.tdiv x0 x3) →
 (x3≠0) ∧
 ∀ x5:Int,x5=Int.tmod x0 x3 →
 ∃ (x6:Int),∃ (x7:Int),(Vq w 40 #[.int .u64 x5,.int .u64 x1,.int .u64 x3] (.tuple #[.int .u64 x6,.int .u64 x7])) ∧
 ∃ (b2:Bool),(Vq w 55 #[.agg #[.bool false,.int .u64 0,.int .u64 x7]] (.bool b2)) ∧
 ((b2=true)→(
 ((b0=true)→(
 (.tuple #[.agg #[.bool true,.int .u64 x4,.int .u64 x6],.agg #[.bool true,.int .u64 x4,.int .u64 x6]]:Value)=v))∧(¬ (b0=true)→(
 (.tuple #[.agg #[.bool false,.int .u64 x4,.int .u64 x6],.agg #[.bool false,.int .u64 x4,.int .u64 x6]]:Value)=v))))∧(¬ (b2=true)→(
 ∃ (b3:Bool),∃ (x8:Int),∃ (x9:Int),(Vq w 56 #[.agg #[.bool false,.int .u64 x4,.int .u64 x6],.agg #[.bool false,.int .u64 0,.int .u64 1]] (.agg #[.bool b3,.int .u64 x8,.int .u64 x9])) ∧
 ((b0=true)→(
 (.tuple #[.agg #[.bool true,.int .u64 x8,.int .u64 x9],.agg #[.bool true,.int .u64 x4,.int .u64 x6]]:Value)=v))∧(¬ (b0=true)→(
 (.tuple #[.agg #[.bool false,.int .u64 x4,.int .u64 x6],.agg #[.bool b3,.int .u64 x8,.int .u64 x9]]:Value)=v))))))∧(¬ (x2=0)→(
 ∃ (b2:Bool),∃ (x4:Int),∃ (x5:Int),∃ (b3:Bool),∃ (x6:Int),∃ (x7:Int),(Vq w 54 #[.agg #[.bool b0,.int .u64 x0,.int .u64 x1],.agg #[.bool b1,.int .u64 x2,.int .u64 x3]] (.tuple #[.agg #[.bool b2,.int .u64 x4,.int .u64 x5],.agg #[.bool b3,.int .u64 x6,.int .u64 x7]])) ∧
 ∃ (b4:Bool),(Vq w 55 #[.agg #[.bool b3,.int .u64 x6,.int .u64 x7]] (.bool b4)) ∧
 ((b4=true)→(
 ((b0=true)→(
 (.tuple #[.agg #[.bool true,.int .u64 x4,.int .u64 x5],.agg #[.bool true,.int .u64 x4,.int .u64 x5]]:Value)=v))∧(¬ (b0=true)→(
 (.tuple #[.agg #[.bool b2,.int .u64 x4,.int .u64 x5],.agg #[.bool b2,.int .u64 x4,.int .u64 x5]]:Value)=v))))∧(¬ (b4=true)→(
 ∃ (b5:Bool),∃ (x8:Int),∃ (x9:Int),(Vq w 56 #[.agg #[.bool false,.int .u64 x4,.int .u64 x5],.agg #[.bool false,.int .u64 0,.int .u64 1]] (.agg #[.bool b5,.int .u64 x8,.int .u64 x9])) ∧
 ((b0=true)→(
 (.tuple #[.agg #[.bool true,.int .u64 x8,.int .u64 x9],.agg #[.bool true,.int .u64 x4,.int .u64 x5]]:Value)=v))∧(¬ (b0=true)→(
 (.tuple #[.agg #[.bool b2,.int .u64 x4,.int .u64 x5],.agg #[.bool b5,.int .u64 x8,.int .u64 x9]]:Value)=v))))))):Calls Tryz.prog 32 #[.agg #[.bool b0,.int .u64 x0,.int .u64 x1],.agg #[.bool b1,.int .u64 x2,.int .u64 x3]] w (Vc.Ret v w) :=
 Vc.zb base [] [] 200 Tryz.func32 (b:=(Tryz.f32.body).getD .skip) (by kernel_rfl) [.cv (.agg [.bool (.var 0),.int .u64 (.var 0),.int .u64 (.var 1)]),.cv (.agg [.bool (.var 1),.int .u64 (.var 2),.int .u64 (.var 3)])] ⟨4,2,0,0,0,0,0⟩ [] (Vc.envOf [x0,x1,x2,x3] [b0,b1] [] []) (by kernel_rfl) Vc.zc (by kernel_rfl) (by kernel_rfl) h
theorem zbj(x0 x1:Int)(b0:Bool)(w:World)(v:Value)(h :
 ((0 < x0)→(
 (.tuple #[.int .i64 0,.bool false]:Value)=v))∧(¬ (0 < x0)→(
 ((9223372036854775807 < x1)→(
 (.tuple #[.int .i64 0,.bool false]:Value)=v))∧(¬ (9223372036854775807 < x1)→(
 ((b0=true)→(
 ∀ x2:Int,x2=IntKind.i64.wrap (x1) →
 ∀ x3:Int,x3=IntKind.i64.wrap (0 - x2) →
 (.tuple #[.int .i64 x3,.bool true]:Value)=v))∧(¬ (b0=true)→(
 ∀ x2:Int,x2=IntKind.i64.wrap (x1) →
 (.tuple #[.int .i64 x2,.bool true]:Value)=v))))))):Calls Tryz.prog 50 #[.agg #[.bool b0,.int .u64 x0,.int .u64 x1]] w (Vc.Ret v w) :=
 Vc.zb base [] [] 200 Tryz.func50 (b:=(Tryz.f50.body).getD .skip) (by kernel_rfl) [.cv (.agg [.bool (.var 0),.int .u64 (.var 0),.int .u64 (.var 1)])] ⟨2,1,0,0,0,0,0⟩ [] (Vc.envOf [x0,x1] [b0] [] []) (by kernel_rfl) Vc.zc (by kernel_rfl) (by kernel_rfl) h
theorem zdt(x0 x1 x2 x3:Int)(b0 b1:Bool)(w:World)(v:Value)(h :
 ∃ (x4:Int),∃ (b2:Bool),(Vq w 50 #[.agg #[.bool b0,.int .u64 x0,.int .u64 x1]] (.tuple #[.int .i64 x4,.bool b2])) ∧
 ∃ (x5:Int),∃ (b3:Bool),(Vq w 50 #[.agg #[.bool b1,.int .u64 x2,.int .u64 x3]] (.tuple #[.int .i64 x5,.bool b3])) ∧
 ((b2=true)→(
 ((b3=true)→(
 (.tuple #[.agg #[.int .i64 x4,.int .i64 x5],.int .i64 0]:Value)=v))∧(¬ (b3=true)→(
 (.tuple #[.agg #[.int .i64 0,.int .i64 0],.int .i64 4]:Value)=v))))∧(¬ (b2=true)→(
 (.tuple #[.agg #[.int .i64 0,.int .i64 0],.int .i64 4]:Value)=v))):Calls Tryz.prog 26 #[.agg #[.bool b0,.int .u64 x0,.int .u64 x1],.agg #[.bool b1,.int .u64 x2,.int .u64 x3]] w (Vc.Ret v w) :=
 Vc.zb base [] [] 200 Tryz.func26 (b:=(Tryz.f26.body).getD .skip) (by kernel_rfl) [.cv (.agg [.bool (.var 0),.int .u64 (.var 0),.int .u64 (.var 1)]),.cv (.agg [.bool (.var 1),.int .u64 (.var 2),.int .u64 (.var 3)])] ⟨4,2,0,0,0,0,0⟩ [] (Vc.envOf [x0,x1,x2,x3] [b0,b1] [] []) (by kernel_rfl) Vc.zc (by kernel_rfl) (by kernel_rfl) h
theorem zep(x0 x1:Int)(w:World)(v:Value)(h :
 ∃ (b0:Bool),∃ (x2:Int),∃ (x3:Int),(Vq w 31 #[.int .i64 x0] (.agg #[.bool b0,.int .u64 x2,.int .u64 x3])) ∧
 ∃ (b1:Bool),∃ (x4:Int),∃ (x5:Int),(Vq w 57 #[.agg #[.bool b0,.int .u64 x2,.int .u64 x3],.int .u64 32] (.agg #[.bool b1,.int .u64 x4,.int .u64 x5])) ∧
 ∃ (b2:Bool),∃ (x6:Int),∃ (x7:Int),(Vq w 31 #[.int .i64 x1] (.agg #[.bool b2,.int .u64 x6,.int .u64 x7])) ∧
 ∃ (b3:Bool),∃ (x8:Int),∃ (x9:Int),∃ (b4:Bool),∃ (x10:Int),∃ (x11:Int),(Vq w 32 #[.agg #[.bool (!(b1 == b2)),.int .u64 x4,.int .u64 x5],.agg #[.bool false,.int .u64 x6,.int .u64 x7]] (.tuple #[.agg #[.bool b3,.int .u64 x8,.int .u64 x9],.agg #[.bool b4,.int .u64 x10,.int .u64 x11]])) ∧
 (.tuple #[.agg #[.bool b3,.int .u64 x8,.int .u64 x9],.agg #[.bool b4,.int .u64 x10,.int .u64 x11]]:Value)=v):Calls Tryz.prog 33 #[.int .i64 x0,.int .i64 x1] w (Vc.Ret v w) :=
 Vc.zb base [] [] 200 Tryz.func33 (b:=(Tryz.f33.body).getD .skip) (by kernel_rfl) [.cv (.one (.int .i64 (.var 0))),.cv (.one (.int .i64 (.var 1)))] ⟨2,0,0,0,0,0,0⟩ [] (Vc.envOf [x0,x1] [] [] []) (by kernel_rfl) Vc.zc (by kernel_rfl) (by kernel_rfl) h
theorem zcn(p0:Nat × Nat)(w:World)(v:Value)(h :
 ∃ (b0:Bool),w.cell? ⟨p0.1,p0.2 + (Int.toNat 0) * 3 + 0,none⟩=some (.bool b0) ∧
 ∃ (x0:Int),w.cell? ⟨p0.1,p0.2 + (Int.toNat 0) * 3 + 1,none⟩=some (.int .u64 x0) ∧
 ∃ (x1:Int),w.cell? ⟨p0.1,p0.2 + (Int.toNat 0) * 3 + 2,none⟩=some (.int .u64 x1) ∧
 ∃ (b1:Bool),w.cell? ⟨p0.1,p0.2 + (Int.toNat 0) * 3 + 0,none⟩=some (.bool b1) ∧
 ∃ (x2:Int),w.cell? ⟨p0.1,p0.2 + (Int.toNat 0) * 3 + 1,none⟩=some (.int .u64 x2) ∧
 ∃ (x3:Int),w.cell? ⟨p0.1,p0.2 + (Int.toNat 0) * 3 + 2,none⟩=some (.int .u64 x3) ∧
 ∃ (b2:Bool),w.cell? ⟨p0.1,p0.2 + (Int.toNat 1) * 3 + 0,none⟩=some (.bool b2) ∧
 ∃ (x4:Int),w.cell? ⟨p0.1,p0.2 + (Int.toNat 1) * 3 + 1,none⟩=some (.int .u64 x4) ∧
 ∃ (x5:Int),w.cell? ⟨p0.1,p0.2 + (Int.toNat 1) * 3 + 2,none⟩=some (.int .u64 x5) ∧
 ∃ (b3:Bool),(Vq w 51 #[.agg #[.bool b2,.int .u64 x4,.int .u64 x5],.agg #[.bool b0,.int .u64 x0,.int .u64 x1]] (.bool b3)) ∧
 ((b3=true)→(
 ∃ (b4:Bool),(Vq w 51 #[.agg #[.bool b1,.int .u64 x2,.int .u64 x3],.agg #[.bool b2,.int .u64 x4,.int .u64 x5]] (.bool b4)) ∧
 ((b4=true)→(
 (.tuple #[.agg #[.bool b2,.int .u64 x4,.int .u64 x5],.agg #[.bool b2,.int .u64 x4,.int .u64 x5]]:Value)=v))∧(¬ (b4=true)→(
 (.tuple #[.agg #[.bool b2,.int .u64 x4,.int .u64 x5],.agg #[.bool b1,.int .u64 x2,.int .u64 x3]]:Value)=v))))∧(¬ (b3=true)→(
 ∃ (b4:Bool),(Vq w 51 #[.agg #[.bool b1,.int .u64 x2,.int .u64 x3],.agg #[.bool b2,.int .u64 x4,.int .u64 x5]] (.bool b4)) ∧
 ((b4=true)→(
 (.tuple #[.agg #[.bool b0,.int .u64 x0,.int .u64 x1],.agg #[.bool b2,.int .u64 x4,.int .u64 x5]]:Value)=v))∧(¬ (b4=true)→(
 (.tuple #[.agg #[.bool b0,.int .u64 x0,.int .u64 x1],.agg #[.bool b1,.int .u64 x2,.int .u64 x3]]:Value)=v))))):Calls Tryz.prog 27 #[.slice (some ⟨p0.1,p0.2,none⟩) 2 2] w (Vc.Ret v w) :=
 Vc.zb base [] [] 200 Tryz.func27 (b:=(Tryz.f27.body).getD .skip) (by kernel_rfl) [.cv (.one (.xsl 0 (.lit (0)) 3 (.lit (2)) (.lit (2))))] ⟨0,0,0,1,0,0,0⟩ [] (Vc.envOf [] [] [] [p0]) (by kernel_rfl) Vc.zc (by kernel_rfl) (by kernel_rfl) h
abbrev Vj_span_hull_4_T5(w:World)(b5:Bool)(x6:Int)(x7:Int)(b8:Bool)(x8:Int)(x9:Int)(v:Value):Prop :=
 ∃ (b10:Bool),(Vq w 51 #[.agg #[.bool b5,.int .u64 x6,.int .u64 x7],.agg #[.bool b8,.int .u64 x8,.int .u64 x9]] (.bool b10)) ∧
 ((b10=true)→(
 (.tuple #[.agg #[.bool b8,.int .u64 x8,.int .u64 x9],.agg #[.bool b8,.int .u64 x8,.int .u64 x9]]:Value)=v))∧(¬ (b10=true)→(
 (.tuple #[.agg #[.bool b8,.int .u64 x8,.int .u64 x9],.agg #[.bool b5,.int .u64 x6,.int .u64 x7]]:Value)=v))
abbrev Vj_span_hull_4_T4(w:World)(p0:Nat × Nat)(b2:Bool)(x4:Int)(x5:Int)(v:Value):Prop :=
 ∃ (b8:Bool),w.cell? ⟨p0.1,p0.2 + (Int.toNat 3) * 3 + 0,none⟩=some (.bool b8) ∧
 ∃ (x8:Int),w.cell? ⟨p0.1,p0.2 + (Int.toNat 3) * 3 + 1,none⟩=some (.int .u64 x8) ∧
 ∃ (x9:Int),w.cell? ⟨p0.1,p0.2 + (Int.toNat 3) * 3 + 2,none⟩=some (.int .u64 x9) ∧
 ∃ (b9:Bool),(Vq w 51 #[.agg #[.bool b8,.int .u64 x8,.int .u64 x9],.agg #[.bool b2,.int .u64 x4,.int .u64 x5]] (.bool b9)) ∧
 ((b9=true)→( Vj_span_hull_4_T5 w b2 x4 x5 b8 x8 x9 v))∧(¬ (b9=true)→(
 ∃ (b10:Bool),(Vq w 51 #[.agg #[.bool b2,.int .u64 x4,.int .u64 x5],.agg #[.bool b8,.int .u64 x8,.int .u64 x9]] (.bool b10)) ∧
 ((b10=true)→(
 (.tuple #[.agg #[.bool b2,.int .u64 x4,.int .u64 x5],.agg #[.bool b8,.int .u64 x8,.int .u64 x9]]:Value)=v))∧(¬ (b10=true)→(
 (.tuple #[.agg #[.bool b2,.int .u64 x4,.int .u64 x5],.agg #[.bool b2,.int .u64 x4,.int .u64 x5]]:Value)=v))))
abbrev Vj_span_hull_4_T3(w:World)(p0:Nat × Nat)(b2:Bool)(x4:Int)(x5:Int)(b5:Bool)(x6:Int)(x7:Int)(v:Value):Prop :=
 ∃ (b8:Bool),w.cell? ⟨p0.1,p0.2 + (Int.toNat 3) * 3 + 0,none⟩=some (.bool b8) ∧
 ∃ (x8:Int),w.cell? ⟨p0.1,p0.2 + (Int.toNat 3) * 3 + 1,none⟩=some (.int .u64 x8) ∧
 ∃ (x9:Int),w.cell? ⟨p0.1,p0.2 + (Int.toNat 3) * 3 + 2,none⟩=some (.int .u64 x9) ∧
 ∃ (b9:Bool),(Vq w 51 #[.agg #[.bool b8,.int .u64 x8,.int .u64 x9],.agg #[.bool b2,.int .u64 x4,.int .u64 x5]] (.bool b9)) ∧
 ((b9=true)→( Vj_span_hull_4_T5 w b5 x6 x7 b8 x8 x9 v))∧(¬ (b9=true)→(
 ∃ (b10:Bool),(Vq w 51 #[.agg #[.bool b5,.int .u64 x6,.int .u64 x7],.agg #[.bool b8,.int .u64 x8,.int .u64 x9]] (.bool b10)) ∧
 ((b10=true)→(
 (.tuple #[.agg #[.bool b2,.int .u64 x4,.int .u64 x5],.agg #[.bool b8,.int .u64 x8,.int .u64 x9]]:Value)=v))∧(¬ (b10=true)→(
 (.tuple #[.agg #[.bool b2,.int .u64 x4,.int .u64 x5],.agg #[.bool b5,.int .u64 x6,.int .u64 x7]]:Value)=v))))
abbrev Vj_span_hull_4_T2(w:World)(b2:Bool)(x4:Int)(x5:Int)(b5:Bool)(x6:Int)(x7:Int)(p0:Nat × Nat)(v:Value):Prop :=
 ∃ (b7:Bool),(Vq w 51 #[.agg #[.bool b2,.int .u64 x4,.int .u64 x5],.agg #[.bool b5,.int .u64 x6,.int .u64 x7]] (.bool b7)) ∧
 ((b7=true)→( Vj_span_hull_4_T4 w p0 b5 x6 x7 v))∧(¬ (b7=true)→( Vj_span_hull_4_T3 w p0 b5 x6 x7 b2 x4 x5 v))
abbrev Vj_span_hull_4_T1(w:World)(p0:Nat × Nat)(b2:Bool)(x4:Int)(x5:Int)(b1:Bool)(x2:Int)(x3:Int)(v:Value):Prop :=
 ∃ (b5:Bool),w.cell? ⟨p0.1,p0.2 + (Int.toNat 2) * 3 + 0,none⟩=some (.bool b5) ∧
 ∃ (x6:Int),w.cell? ⟨p0.1,p0.2 + (Int.toNat 2) * 3 + 1,none⟩=some (.int .u64 x6) ∧
 ∃ (x7:Int),w.cell? ⟨p0.1,p0.2 + (Int.toNat 2) * 3 + 2,none⟩=some (.int .u64 x7) ∧
 ∃ (b6:Bool),(Vq w 51 #[.agg #[.bool b5,.int .u64 x6,.int .u64 x7],.agg #[.bool b2,.int .u64 x4,.int .u64 x5]] (.bool b6)) ∧
 ((b6=true)→( Vj_span_hull_4_T2 w b1 x2 x3 b5 x6 x7 p0 v))∧(¬ (b6=true)→(
 ∃ (b7:Bool),(Vq w 51 #[.agg #[.bool b1,.int .u64 x2,.int .u64 x3],.agg #[.bool b5,.int .u64 x6,.int .u64 x7]] (.bool b7)) ∧
 ((b7=true)→( Vj_span_hull_4_T3 w p0 b2 x4 x5 b5 x6 x7 v))∧(¬ (b7=true)→( Vj_span_hull_4_T3 w p0 b2 x4 x5 b1 x2 x3 v))))
theorem zdn(p0:Nat × Nat)(w:World)(v:Value)(h :
 ∃ (b0:Bool),w.cell? ⟨p0.1,p0.2 + (Int.toNat 0) * 3 + 0,none⟩=some (.bool b0) ∧
 ∃ (x0:Int),w.cell? ⟨p0.1,p0.2 + (Int.toNat 0) * 3 + 1,none⟩=some (.int .u64 x0) ∧
 ∃ (x1:Int),w.cell? ⟨p0.1,p0.2 + (Int.toNat 0) * 3 + 2,none⟩=some (.int .u64 x1) ∧
 ∃ (b1:Bool),w.cell? ⟨p0.1,p0.2 + (Int.toNat 0) * 3 + 0,none⟩=some (.bool b1) ∧
 ∃ (x2:Int),w.cell? ⟨p0.1,p0.2 + (Int.toNat 0) * 3 + 1,none⟩=some (.int .u64 x2) ∧
 ∃ (x3:Int),w.cell? ⟨p0.1,p0.2 + (Int.toNat 0) * 3 + 2,none⟩=some (.int .u64 x3) ∧
 ∃ (b2:Bool),w.cell? ⟨p0.1,p0.2 + (Int.toNat 1) * 3 + 0,none⟩=some (.bool b2) ∧
 ∃ (x4:Int),w.cell? ⟨p0.1,p0.2 + (Int.toNat 1) * 3 + 1,none⟩=some (.int .u64 x4) ∧
 ∃ (x5:Int),w.cell? ⟨p0.1,p0.2 + (Int.toNat 1) * 3 + 2,none⟩=some (.int .u64 x5) ∧
 ∃ (b3:Bool),(Vq w 51 #[.agg #[.bool b2,.int .u64 x4,.int .u64 x5],.agg #[.bool b0,.int .u64 x0,.int .u64 x1]] (.bool b3)) ∧
 ((b3=true)→(
 ∃ (b4:Bool),(Vq w 51 #[.agg #[.bool b1,.int .u64 x2,.int .u64 x3],.agg #[.bool b2,.int .u64 x4,.int .u64 x5]] (.bool b4)) ∧
 ((b4=true)→(
 ∃ (b5:Bool),w.cell? ⟨p0.1,p0.2 + (Int.toNat 2) * 3 + 0,none⟩=some (.bool b5) ∧
 ∃ (x6:Int),w.cell? ⟨p0.1,p0.2 + (Int.toNat 2) * 3 + 1,none⟩=some (.int .u64 x6) ∧
 ∃ (x7:Int),w.cell? ⟨p0.1,p0.2 + (Int.toNat 2) * 3 + 2,none⟩=some (.int .u64 x7) ∧
 ∃ (b6:Bool),(Vq w 51 #[.agg #[.bool b5,.int .u64 x6,.int .u64 x7],.agg #[.bool b2,.int .u64 x4,.int .u64 x5]] (.bool b6)) ∧
 ((b6=true)→( Vj_span_hull_4_T2 w b2 x4 x5 b5 x6 x7 p0 v))∧(¬ (b6=true)→(
 ∃ (b7:Bool),(Vq w 51 #[.agg #[.bool b2,.int .u64 x4,.int .u64 x5],.agg #[.bool b5,.int .u64 x6,.int .u64 x7]] (.bool b7)) ∧
 ((b7=true)→( Vj_span_hull_4_T3 w p0 b2 x4 x5 b5 x6 x7 v))∧(¬ (b7=true)→( Vj_span_hull_4_T4 w p0 b2 x4 x5 v))))))∧(¬ (b4=true)→( Vj_span_hull_4_T1 w p0 b2 x4 x5 b1 x2 x3 v))))∧(¬ (b3=true)→(
 ∃ (b4:Bool),(Vq w 51 #[.agg #[.bool b1,.int .u64 x2,.int .u64 x3],.agg #[.bool b2,.int .u64 x4,.int .u64 x5]] (.bool b4)) ∧
 ((b4=true)→( Vj_span_hull_4_T1 w p0 b0 x0 x1 b2 x4 x5 v))∧(¬ (b4=true)→( Vj_span_hull_4_T1 w p0 b0 x0 x1 b1 x2 x3 v))))):Calls Tryz.prog 27 #[.slice (some ⟨p0.1,p0.2,none⟩) 4 4] w (Vc.Ret v w) :=
 Vc.zb base [] [] 200 Tryz.func27 (b:=(Tryz.f27.body).getD .skip) (by kernel_rfl) [.cv (.one (.xsl 0 (.lit (0)) 3 (.lit (4)) (.lit (4))))] ⟨0,0,0,1,0,0,0⟩ [] (Vc.envOf [] [] [] [p0]) (by kernel_rfl) Vc.zc (by kernel_rfl) (by kernel_rfl) h
abbrev Vj_span_hull_n_T3(b2:Bool)(x9:Int)(x10:Int)(b3:Bool)(x11:Int)(x12:Int)(v:Value):Prop :=
 (.tuple #[.agg #[.bool b2,.int .u64 x9,.int .u64 x10],.agg #[.bool b3,.int .u64 x11,.int .u64 x12]]:Value)=v
abbrev Vj_span_hull_n_T2(w:World)(b3:Bool)(x11:Int)(x12:Int)(b4:Bool)(x14:Int)(x15:Int)(x8:Int)(Ix8:List Vc.Vl→Prop)(mx8:List Vc.Vl→Nat)(b2:Bool)(x9:Int)(x10:Int):Prop :=
 ∃ (b6:Bool),(Vq w 51 #[.agg #[.bool b3,.int .u64 x11,.int .u64 x12],.agg #[.bool b4,.int .u64 x14,.int .u64 x15]] (.bool b6)) ∧
 ((b6=true)→(
 ∀ x16:Int,x16=IntKind.i64.wrap (x8 + 1) →
 Ix8 [.i x16,.b b4,.i x14,.i x15,.b b4,.i x14,.i x15]∧mx8 [.i x16,.b b4,.i x14,.i x15,.b b4,.i x14,.i x15] < mx8 [.i x8,.b b2,.i x9,.i x10,.b b3,.i x11,.i x12]))∧(¬ (b6=true)→(
 ∀ x16:Int,x16=IntKind.i64.wrap (x8 + 1) →
 Ix8 [.i x16,.b b4,.i x14,.i x15,.b b3,.i x11,.i x12]∧mx8 [.i x16,.b b4,.i x14,.i x15,.b b3,.i x11,.i x12] < mx8 [.i x8,.b b2,.i x9,.i x10,.b b3,.i x11,.i x12]))
abbrev Vj_span_hull_n_T1(w:World)(b3:Bool)(x11:Int)(x12:Int)(b4:Bool)(x14:Int)(x15:Int)(x8:Int)(Ix8:List Vc.Vl→Prop)(b2:Bool)(x9:Int)(x10:Int)(mx8:List Vc.Vl→Nat):Prop :=
 ∃ (b6:Bool),(Vq w 51 #[.agg #[.bool b3,.int .u64 x11,.int .u64 x12],.agg #[.bool b4,.int .u64 x14,.int .u64 x15]] (.bool b6)) ∧
 ((b6=true)→(
 ∀ x16:Int,x16=IntKind.i64.wrap (x8 + 1) →
 Ix8 [.i x16,.b b2,.i x9,.i x10,.b b4,.i x14,.i x15]∧mx8 [.i x16,.b b2,.i x9,.i x10,.b b4,.i x14,.i x15] < mx8 [.i x8,.b b2,.i x9,.i x10,.b b3,.i x11,.i x12]))∧(¬ (b6=true)→(
 ∀ x16:Int,x16=IntKind.i64.wrap (x8 + 1) →
 Ix8 [.i x16,.b b2,.i x9,.i x10,.b b3,.i x11,.i x12]∧mx8 [.i x16,.b b2,.i x9,.i x10,.b b3,.i x11,.i x12] < mx8 [.i x8,.b b2,.i x9,.i x10,.b b3,.i x11,.i x12]))
theorem zen(p0:Nat × Nat)(x0 x1:Int)(w:World)(v:Value)(h :
 (0 < x0) ∧
 ∃ (b0:Bool),w.cell? ⟨p0.1,p0.2 + (Int.toNat 0) * 3 + 0,none⟩=some (.bool b0) ∧
 ∃ (x2:Int),w.cell? ⟨p0.1,p0.2 + (Int.toNat 0) * 3 + 1,none⟩=some (.int .u64 x2) ∧
 ∃ (x3:Int),w.cell? ⟨p0.1,p0.2 + (Int.toNat 0) * 3 + 2,none⟩=some (.int .u64 x3) ∧
 (0 < x0) ∧
 ∃ (b1:Bool),w.cell? ⟨p0.1,p0.2 + (Int.toNat 0) * 3 + 0,none⟩=some (.bool b1) ∧
 ∃ (x4:Int),w.cell? ⟨p0.1,p0.2 + (Int.toNat 0) * 3 + 1,none⟩=some (.int .u64 x4) ∧
 ∃ (x5:Int),w.cell? ⟨p0.1,p0.2 + (Int.toNat 0) * 3 + 2,none⟩=some (.int .u64 x5) ∧
 (0≤x0) ∧
 (x0≤x1) ∧
 (1≤x0) ∧
 (x0≤x1) ∧
 ∀ x6:Int,x6=x0 - 1 →
 ∀ x7:Int,x7=x1 - 1 →
 ((1 < x1)→(
 (0≤x6) ∧
 ∃ (Ix8:List Vc.Vl→Prop) (mx8:List Vc.Vl→Nat),Ix8 [.i 0,.b b0,.i x2,.i x3,.b b1,.i x4,.i x5]∧∀ (x8:Int) (b2:Bool) (x9:Int) (x10:Int) (b3:Bool) (x11:Int) (x12:Int),Ix8 [.i x8,.b b2,.i x9,.i x10,.b b3,.i x11,.i x12]→(
 ((x8 < x6)→(
 (0≤x8) ∧
 (x8 < x6) ∧
 ∀ x13:Int,x13=1 + x8 →
 ∃ (b4:Bool),w.cell? ⟨p0.1,p0.2 + (Int.toNat x13) * 3 + 0,none⟩=some (.bool b4) ∧
 ∃ (x14:Int),w.cell? ⟨p0.1,p0.2 + (Int.toNat x13) * 3 + 1,none⟩=some (.int .u64 x14) ∧
 ∃ (x15:Int),w.cell? ⟨p0.1,p0.2 + (Int.toNat x13) * 3 + 2,none⟩=some (.int .u64 x15) ∧
 ∃ (b5:Bool),(Vq w 51 #[.agg #[.bool b4,.int .u64 x14,.int .u64 x15],.agg #[.bool b2,.int .u64 x9,.int .u64 x10]] (.bool b5)) ∧
 ((b5=true)→( Vj_span_hull_n_T2 w b3 x11 x12 b4 x14 x15 x8 Ix8 mx8 b2 x9 x10))∧(¬ (b5=true)→( Vj_span_hull_n_T1 w b3 x11 x12 b4 x14 x15 x8 Ix8 b2 x9 x10 mx8))))∧(¬ (x8 < x6)→( Vj_span_hull_n_T3 b2 x9 x10 b3 x11 x12 v)))))∧(¬ (1 < x1)→(
 (0≤x6) ∧
 ∃ (Ix8:List Vc.Vl→Prop) (mx8:List Vc.Vl→Nat),Ix8 [.i 0,.b b0,.i x2,.i x3,.b b1,.i x4,.i x5]∧∀ (x8:Int) (b2:Bool) (x9:Int) (x10:Int) (b3:Bool) (x11:Int) (x12:Int),Ix8 [.i x8,.b b2,.i x9,.i x10,.b b3,.i x11,.i x12]→(
 ((x8 < x6)→(
 (0≤x8) ∧
 (x8 < x6) ∧
 ∃ (b4:Bool),w.cell? ⟨p0.1,p0.2 + (Int.toNat x8) * 3 + 0,none⟩=some (.bool b4) ∧
 ∃ (x13:Int),w.cell? ⟨p0.1,p0.2 + (Int.toNat x8) * 3 + 1,none⟩=some (.int .u64 x13) ∧
 ∃ (x14:Int),w.cell? ⟨p0.1,p0.2 + (Int.toNat x8) * 3 + 2,none⟩=some (.int .u64 x14) ∧
 ∃ (b5:Bool),(Vq w 51 #[.agg #[.bool b4,.int .u64 x13,.int .u64 x14],.agg #[.bool b2,.int .u64 x9,.int .u64 x10]] (.bool b5)) ∧
 ((b5=true)→( Vj_span_hull_n_T2 w b3 x11 x12 b4 x13 x14 x8 Ix8 mx8 b2 x9 x10))∧(¬ (b5=true)→( Vj_span_hull_n_T1 w b3 x11 x12 b4 x13 x14 x8 Ix8 b2 x9 x10 mx8))))∧(¬ (x8 < x6)→( Vj_span_hull_n_T3 b2 x9 x10 b3 x11 x12 v)))))):Calls Tryz.prog 27 #[.slice (some ⟨p0.1,p0.2,none⟩) (Int.toNat x0) (Int.toNat x1)] w (Vc.Ret v w) :=
 Vc.zb base [(1000000000003,.inv [(2,0),(2,1),(2,2),(3,0),(3,1),(3,2)] [15] [16,17,18,5,19,20,21,22,23,24,25,26,27])] [] 200 Tryz.func27 (b:=(Tryz.f27.body).getD .skip) (by kernel_rfl) [.cv (.one (.xsl 0 (.lit (0)) 3 (.var 0) (.var 1)))] ⟨2,0,0,1,0,0,0⟩ [] (Vc.envOf [x0,x1] [] [] [p0]) (by kernel_rfl) Vc.zc (by kernel_rfl) (by kernel_rfl) h
theorem zfp(x0 x1 x2:Int)(w:World)(v:Value)(h :
 ∃ (x3:Int),(Vq w 25 #[.agg #[.int .i64 x0,.int .i64 x1]] (.int .i64 x3)) ∧
 ((x3=0)→(
 ∃ (b0:Bool),∃ (x4:Int),∃ (x5:Int),(Vq w 28 #[.int .i64 x0,.int .i64 x2] (.agg #[.bool b0,.int .u64 x4,.int .u64 x5])) ∧
 ∃ (b1:Bool),∃ (x6:Int),∃ (x7:Int),(Vq w 28 #[.int .i64 x1,.int .i64 x2] (.agg #[.bool b1,.int .u64 x6,.int .u64 x7])) ∧
 ∃ (b2:Bool),∃ (x8:Int),∃ (x9:Int),∃ (b3:Bool),∃ (x10:Int),∃ (x11:Int),(∀ (β:Nat→Nat) (w':World),Below w.heap.size w w'→((w.heap.size≤β 2∧w'.heap[β 2]? = some (.cells #[.bool b0,.int .u64 x4,.int .u64 x5,.bool b1,.int .u64 x6,.int .u64 x7] 65))∧True)→Calls Tryz.prog 27 #[.slice (some ⟨β 2,0,none⟩) 2 2] w' (Vc.Ret (.tuple #[.agg #[.bool b2,.int .u64 x8,.int .u64 x9],.agg #[.bool b3,.int .u64 x10,.int .u64 x11]]) w')) ∧
 ∃ (x12:Int),∃ (x13:Int),∃ (x14:Int),(Vq w 26 #[.agg #[.bool b2,.int .u64 x8,.int .u64 x9],.agg #[.bool b3,.int .u64 x10,.int .u64 x11]] (.tuple #[.agg #[.int .i64 x12,.int .i64 x13],.int .i64 x14])) ∧
 (.tuple #[.agg #[.int .i64 x12,.int .i64 x13],.int .i64 x14]:Value)=v))∧(¬ (x3=0)→(
 (.tuple #[.agg #[.int .i64 0,.int .i64 0],.int .i64 x3]:Value)=v))):Calls Tryz.prog 10 #[.agg #[.int .i64 x0,.int .i64 x1],.int .i64 x2] w (Vc.Ret v w) :=
 Vc.zb base [] [] 200 Tryz.func10 (b:=(Tryz.f10.body).getD .skip) (by kernel_rfl) [.cv (.agg [.int .i64 (.var 0),.int .i64 (.var 1)]),.cv (.one (.int .i64 (.var 2)))] ⟨3,0,0,0,0,0,0⟩ [] (Vc.envOf [x0,x1,x2] [] [] []) (by kernel_rfl) Vc.zc (by kernel_rfl) (by kernel_rfl) h
theorem zgp(x0 x1:Int)(w:World)(v:Value)(h :
 ∃ (b0:Bool),∃ (x2:Int),∃ (x3:Int),(Vq w 28 #[.int .i64 x0,.int .i64 x1] (.agg #[.bool b0,.int .u64 x2,.int .u64 x3])) ∧
 (.agg #[.bool b0,.int .u64 x2,.int .u64 x3]:Value)=v):Calls Tryz.prog 30 #[.int .i64 x0,.int .i64 x1] w (Vc.Ret v w) :=
 Vc.zb base [] [] 200 Tryz.func30 (b:=(Tryz.f30.body).getD .skip) (by kernel_rfl) [.cv (.one (.int .i64 (.var 0))),.cv (.one (.int .i64 (.var 1)))] ⟨2,0,0,0,0,0,0⟩ [] (Vc.envOf [x0,x1] [] [] []) (by kernel_rfl) Vc.zc (by kernel_rfl) (by kernel_rfl) h
theorem zet(x0 x1 x2 x3:Int)(w:World)(v:Value)(h :
 ∃ (x4:Int),(∀ (β:Nat→Nat) (w':World),Below w.heap.size w w'→((w.heap.size≤β 3∧w'.heap[β 3]? = some (.cells #[.int .i64 x0,.int .i64 x1,.int .i64 x2,.int .i64 x3] 25))∧True)→Calls Tryz.prog 29 #[.slice (some ⟨β 3,0,none⟩) 2 2] w' (Vc.Ret (.int .i64 x4) w')) ∧
 ((x4=0)→(
 ∃ (b0:Bool),∃ (x5:Int),∃ (x6:Int),(Vq w 30 #[.int .i64 x0,.int .i64 x2] (.agg #[.bool b0,.int .u64 x5,.int .u64 x6])) ∧
 ∃ (b1:Bool),∃ (x7:Int),∃ (x8:Int),(Vq w 30 #[.int .i64 x0,.int .i64 x3] (.agg #[.bool b1,.int .u64 x7,.int .u64 x8])) ∧
 ∃ (b2:Bool),∃ (x9:Int),∃ (x10:Int),(Vq w 30 #[.int .i64 x1,.int .i64 x2] (.agg #[.bool b2,.int .u64 x9,.int .u64 x10])) ∧
 ∃ (b3:Bool),∃ (x11:Int),∃ (x12:Int),(Vq w 30 #[.int .i64 x1,.int .i64 x3] (.agg #[.bool b3,.int .u64 x11,.int .u64 x12])) ∧
 ∃ (b4:Bool),∃ (x13:Int),∃ (x14:Int),∃ (b5:Bool),∃ (x15:Int),∃ (x16:Int),(∀ (β:Nat→Nat) (w':World),Below w.heap.size w w'→((w.heap.size≤β 4∧w'.heap[β 4]? = some (.cells #[.bool b0,.int .u64 x5,.int .u64 x6,.bool b1,.int .u64 x7,.int .u64 x8,.bool b2,.int .u64 x9,.int .u64 x10,.bool b3,.int .u64 x11,.int .u64 x12] 65))∧True)→Calls Tryz.prog 27 #[.slice (some ⟨β 4,0,none⟩) 4 4] w' (Vc.Ret (.tuple #[.agg #[.bool b4,.int .u64 x13,.int .u64 x14],.agg #[.bool b5,.int .u64 x15,.int .u64 x16]]) w')) ∧
 ∃ (b6:Bool),∃ (x17:Int),∃ (x18:Int),(Vq w 31 #[.int .i64 4294967296] (.agg #[.bool b6,.int .u64 x17,.int .u64 x18])) ∧
 ∃ (b7:Bool),∃ (x19:Int),∃ (x20:Int),∃ (b8:Bool),∃ (x21:Int),∃ (x22:Int),(Vq w 32 #[.agg #[.bool b4,.int .u64 x13,.int .u64 x14],.agg #[.bool b6,.int .u64 x17,.int .u64 x18]] (.tuple #[.agg #[.bool b7,.int .u64 x19,.int .u64 x20],.agg #[.bool b8,.int .u64 x21,.int .u64 x22]])) ∧
 ∃ (b9:Bool),∃ (x23:Int),∃ (x24:Int),∃ (b10:Bool),∃ (x25:Int),∃ (x26:Int),(Vq w 32 #[.agg #[.bool b5,.int .u64 x15,.int .u64 x16],.agg #[.bool b6,.int .u64 x17,.int .u64 x18]] (.tuple #[.agg #[.bool b9,.int .u64 x23,.int .u64 x24],.agg #[.bool b10,.int .u64 x25,.int .u64 x26]])) ∧
 ∃ (x27:Int),∃ (x28:Int),∃ (x29:Int),(Vq w 26 #[.agg #[.bool b7,.int .u64 x19,.int .u64 x20],.agg #[.bool b10,.int .u64 x25,.int .u64 x26]] (.tuple #[.agg #[.int .i64 x27,.int .i64 x28],.int .i64 x29])) ∧
 (.tuple #[.agg #[.int .i64 x27,.int .i64 x28],.int .i64 x29]:Value)=v))∧(¬ (x4=0)→(
 (.tuple #[.agg #[.int .i64 0,.int .i64 0],.int .i64 x4]:Value)=v))):Calls Tryz.prog 11 #[.agg #[.int .i64 x0,.int .i64 x1],.agg #[.int .i64 x2,.int .i64 x3]] w (Vc.Ret v w) :=
 Vc.zb base [] [] 200 Tryz.func11 (b:=(Tryz.f11.body).getD .skip) (by kernel_rfl) [.cv (.agg [.int .i64 (.var 0),.int .i64 (.var 1)]),.cv (.agg [.int .i64 (.var 2),.int .i64 (.var 3)])] ⟨4,0,0,0,0,0,0⟩ [] (Vc.envOf [x0,x1,x2,x3] [] [] []) (by kernel_rfl) Vc.zc (by kernel_rfl) (by kernel_rfl) h
abbrev Vj_span_Div_T1(w:World)(x0:Int)(x2:Int)(x3:Int)(x1:Int)(v:Value):Prop :=
 ∃ (b0:Bool),∃ (x5:Int),∃ (x6:Int),∃ (b1:Bool),∃ (x7:Int),∃ (x8:Int),(Vq w 33 #[.int .i64 x0,.int .i64 x2] (.tuple #[.agg #[.bool b0,.int .u64 x5,.int .u64 x6],.agg #[.bool b1,.int .u64 x7,.int .u64 x8]])) ∧
 ∃ (b2:Bool),∃ (x9:Int),∃ (x10:Int),∃ (b3:Bool),∃ (x11:Int),∃ (x12:Int),(Vq w 33 #[.int .i64 x0,.int .i64 x3] (.tuple #[.agg #[.bool b2,.int .u64 x9,.int .u64 x10],.agg #[.bool b3,.int .u64 x11,.int .u64 x12]])) ∧
 ∃ (b4:Bool),∃ (x13:Int),∃ (x14:Int),∃ (b5:Bool),∃ (x15:Int),∃ (x16:Int),(Vq w 33 #[.int .i64 x1,.int .i64 x2] (.tuple #[.agg #[.bool b4,.int .u64 x13,.int .u64 x14],.agg #[.bool b5,.int .u64 x15,.int .u64 x16]])) ∧
 ∃ (b6:Bool),∃ (x17:Int),∃ (x18:Int),∃ (b7:Bool),∃ (x19:Int),∃ (x20:Int),(Vq w 33 #[.int .i64 x1,.int .i64 x3] (.tuple #[.agg #[.bool b6,.int .u64 x17,.int .u64 x18],.agg #[.bool b7,.int .u64 x19,.int .u64 x20]])) ∧
 ∃ (b8:Bool),∃ (x21:Int),∃ (x22:Int),∃ (b9:Bool),∃ (x23:Int),∃ (x24:Int),(∀ (β:Nat→Nat) (w':World),Below w.heap.size w w'→(Vc.RowOk w.heap.size (β 46) (β 47) (β 48) (β 49) (([.bool b0,.int .u64 x5,.int .u64 x6,.bool b2,.int .u64 x9,.int .u64 x10,.bool b4,.int .u64 x13,.int .u64 x14,.bool b6,.int .u64 x17,.int .u64 x18]:List Value)) 3 65 w'∧True)→Calls Tryz.prog 27 #[Vc.ownV (β 46) (β 47) (β 48) (β 49)] w' (Vc.Ret (.tuple #[.agg #[.bool b8,.int .u64 x21,.int .u64 x22],.agg #[.bool b9,.int .u64 x23,.int .u64 x24]]) w')) ∧
 ∃ (b10:Bool),∃ (x25:Int),∃ (x26:Int),∃ (b11:Bool),∃ (x27:Int),∃ (x28:Int),(∀ (β:Nat→Nat) (w':World),Below w.heap.size w w'→(Vc.RowOk w.heap.size (β 51) (β 52) (β 53) (β 54) (([.bool b1,.int .u64 x7,.int .u64 x8,.bool b3,.int .u64 x11,.int .u64 x12,.bool b5,.int .u64 x15,.int .u64 x16,.bool b7,.int .u64 x19,.int .u64 x20]:List Value)) 3 65 w'∧True)→Calls Tryz.prog 27 #[Vc.ownV (β 51) (β 52) (β 53) (β 54)] w' (Vc.Ret (.tuple #[.agg #[.bool b10,.int .u64 x25,.int .u64 x26],.agg #[.bool b11,.int .u64 x27,.int .u64 x28]]) w')) ∧
 ∃ (x29:Int),∃ (x30:Int),∃ (x31:Int),(Vq w 26 #[.agg #[.bool b8,.int .u64 x21,.int .u64 x22],.agg #[.bool b11,.int .u64 x27,.int .u64 x28]] (.tuple #[.agg #[.int .i64 x29,.int .i64 x30],.int .i64 x31])) ∧
 (.tuple #[.agg #[.int .i64 x29,.int .i64 x30],.int .i64 x31]:Value)=v
theorem zft(x0 x1 x2 x3:Int)(w:World)(v:Value)(h :
 ∃ (x4:Int),(∀ (β:Nat→Nat) (w':World),Below w.heap.size w w'→((w.heap.size≤β 3∧w'.heap[β 3]? = some (.cells #[.int .i64 x0,.int .i64 x1,.int .i64 x2,.int .i64 x3] 25))∧True)→Calls Tryz.prog 29 #[.slice (some ⟨β 3,0,none⟩) 2 2] w' (Vc.Ret (.int .i64 x4) w')) ∧
 ((x4=0)→(
 ((x2≤0)→(
 ((0≤x3)→(
 (.tuple #[.agg #[.int .i64 0,.int .i64 0],.int .i64 10]:Value)=v))∧(¬ (0≤x3)→( Vj_span_Div_T1 w x0 x2 x3 x1 v))))∧(¬ (x2≤0)→( Vj_span_Div_T1 w x0 x2 x3 x1 v))))∧(¬ (x4=0)→(
 (.tuple #[.agg #[.int .i64 0,.int .i64 0],.int .i64 x4]:Value)=v))):Calls Tryz.prog 12 #[.agg #[.int .i64 x0,.int .i64 x1],.agg #[.int .i64 x2,.int .i64 x3]] w (Vc.Ret v w) :=
 Vc.zb base [] [] 200 Tryz.func12 (b:=(Tryz.f12.body).getD .skip) (by kernel_rfl) [.cv (.agg [.int .i64 (.var 0),.int .i64 (.var 1)]),.cv (.agg [.int .i64 (.var 2),.int .i64 (.var 3)])] ⟨4,0,0,0,0,0,0⟩ [] (Vc.envOf [x0,x1,x2,x3] [] [] []) (by kernel_rfl) Vc.zc (by kernel_rfl) (by kernel_rfl) h
end Go.Proofs.YtkjmhcejdiglfacGreatDoor
