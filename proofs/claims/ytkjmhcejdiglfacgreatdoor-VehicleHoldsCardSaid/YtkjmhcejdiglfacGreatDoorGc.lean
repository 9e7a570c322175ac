import Derived.Test.YtkjmhcejdiglfacGreatDoorG0
set_option linter.unusedVariables false
set_option maxRecDepth 100000
namespace Go.Proofs.YtkjmhcejdiglfacGreatDoor
open Go Go.RowKit
theorem zej(w:World)(v:Value)(h :
 (true=true∧∀ w':World,(callFunc 158 #[.string ⟨(([49,46,53]:List UInt8)).toArray⟩,.int .u8 46]).run Tryz.prog w'=.ok (.value (.int .i64 1)) w') ∧
 (.tuple #[.string ⟨(([49]:List UInt8)).toArray⟩,.string ⟨(([53]:List UInt8)).toArray⟩,.bool true]:Value)=v):Calls Tryz.prog 106 #[.string ⟨(([49,46,53]:List UInt8)).toArray⟩,.string ⟨(([46]:List UInt8)).toArray⟩] w (Vc.Ret v w) :=
 Vc.zb (ze [128,140,153] (by kernel_rfl)) [(300000000000000158,.inv [] [1] []),(300000000000000152,.inv [] [2] [])] [] 200 Tryz.func106 (b:=(Tryz.f106.body).getD .skip) (by kernel_rfl) [.cv (.one (.str [49,46,53])),.cv (.one (.str [46]))] ⟨0,0,0,0,0,0,0⟩ [] (Vc.envOf [] [] [] []) (by kernel_rfl) Vc.zc (by kernel_rfl) (by kernel_rfl) h
theorem zfj(w:World)(v:Value)(h :
 (true=true∧∀ w':World,(callFunc 158 #[.string ⟨(([50]:List UInt8)).toArray⟩,.int .u8 46]).run Tryz.prog w'=.ok (.value (.int .i64 (-1))) w') ∧
 (.tuple #[.string ⟨(([50]:List UInt8)).toArray⟩,.string ⟨(([]:List UInt8)).toArray⟩,.bool false]:Value)=v):Calls Tryz.prog 106 #[.string ⟨(([50]:List UInt8)).toArray⟩,.string ⟨(([46]:List UInt8)).toArray⟩] w (Vc.Ret v w) :=
 Vc.zb (ze [128,140,153] (by kernel_rfl)) [(300000000000000158,.inv [] [1] []),(300000000000000152,.inv [] [2] [])] [] 200 Tryz.func106 (b:=(Tryz.f106.body).getD .skip) (by kernel_rfl) [.cv (.one (.str [50])),.cv (.one (.str [46]))] ⟨0,0,0,0,0,0,0⟩ [] (Vc.envOf [] [] [] []) (by kernel_rfl) Vc.zc (by kernel_rfl) (by kernel_rfl) h
theorem zgj(w:World)(v:Value)(h :
 (true=true∧∀ w':World,(callFunc 158 #[.string ⟨(([51]:List UInt8)).toArray⟩,.int .u8 46]).run Tryz.prog w'=.ok (.value (.int .i64 (-1))) w') ∧
 (.tuple #[.string ⟨(([51]:List UInt8)).toArray⟩,.string ⟨(([]:List UInt8)).toArray⟩,.bool false]:Value)=v):Calls Tryz.prog 106 #[.string ⟨(([51]:List UInt8)).toArray⟩,.string ⟨(([46]:List UInt8)).toArray⟩] w (Vc.Ret v w) :=
 Vc.zb (ze [128,140,153] (by kernel_rfl)) [(300000000000000158,.inv [] [1] []),(300000000000000152,.inv [] [2] [])] [] 200 Tryz.func106 (b:=(Tryz.f106.body).getD .skip) (by kernel_rfl) [.cv (.one (.str [51])),.cv (.one (.str [46]))] ⟨0,0,0,0,0,0,0⟩ [] (Vc.envOf [] [] [] []) (by kernel_rfl) Vc.zc (by kernel_rfl) (by kernel_rfl) h
theorem zhj(w:World)(v:Value)(h :
 (true=true∧∀ w':World,(callFunc 158 #[.string ⟨(([49,48]:List UInt8)).toArray⟩,.int .u8 46]).run Tryz.prog w'=.ok (.value (.int .i64 (-1))) w') ∧
 (.tuple #[.string ⟨(([49,48]:List UInt8)).toArray⟩,.string ⟨(([]:List UInt8)).toArray⟩,.bool false]:Value)=v):Calls Tryz.prog 106 #[.string ⟨(([49,48]:List UInt8)).toArray⟩,.string ⟨(([46]:List UInt8)).toArray⟩] w (Vc.Ret v w) :=
 Vc.zb (ze [128,140,153] (by kernel_rfl)) [(300000000000000158,.inv [] [1] []),(300000000000000152,.inv [] [2] [])] [] 200 Tryz.func106 (b:=(Tryz.f106.body).getD .skip) (by kernel_rfl) [.cv (.one (.str [49,48])),.cv (.one (.str [46]))] ⟨0,0,0,0,0,0,0⟩ [] (Vc.envOf [] [] [] []) (by kernel_rfl) Vc.zc (by kernel_rfl) (by kernel_rfl) h
theorem zij(w:World)(v:Value)(h :
 (true=true∧∀ w':World,(callFunc 158 #[.string ⟨(([50,48,48,48]:List UInt8)).toArray⟩,.int .u8 46]).run Tryz.prog w'=.ok (.value (.int .i64 (-1))) w') ∧
 (.tuple #[.string ⟨(([50,48,48,48]:List UInt8)).toArray⟩,.string ⟨(([]:List UInt8)).toArray⟩,.bool false]:Value)=v):Calls Tryz.prog 106 #[.string ⟨(([50,48,48,48]:List UInt8)).toArray⟩,.string ⟨(([46]:List UInt8)).toArray⟩] w (Vc.Ret v w) :=
 Vc.zb (ze [128,140,153] (by kernel_rfl)) [(300000000000000158,.inv [] [1] []),(300000000000000152,.inv [] [2] [])] [] 200 Tryz.func106 (b:=(Tryz.f106.body).getD .skip) (by kernel_rfl) [.cv (.one (.str [50,48,48,48])),.cv (.one (.str [46]))] ⟨0,0,0,0,0,0,0⟩ [] (Vc.envOf [] [] [] []) (by kernel_rfl) Vc.zc (by kernel_rfl) (by kernel_rfl) h
theorem zjj(w:World)(v:Value)(h :
 (true=true∧∀ w':World,(callFunc 158 #[.string ⟨(([49]:List UInt8)).toArray⟩,.int .u8 46]).run Tryz.prog w'=.ok (.value (.int .i64 (-1))) w') ∧
 (.tuple #[.string ⟨(([49]:List UInt8)).toArray⟩,.string ⟨(([]:List UInt8)).toArray⟩,.bool false]:Value)=v):Calls Tryz.prog 106 #[.string ⟨(([49]:List UInt8)).toArray⟩,.string ⟨(([46]:List UInt8)).toArray⟩] w (Vc.Ret v w) :=
 Vc.zb (ze [128,140,153] (by kernel_rfl)) [(300000000000000158,.inv [] [1] []),(300000000000000152,.inv [] [2] [])] [] 200 Tryz.func106 (b:=(Tryz.f106.body).getD .skip) (by kernel_rfl) [.cv (.one (.str [49])),.cv (.one (.str [46]))] ⟨0,0,0,0,0,0,0⟩ [] (Vc.envOf [] [] [] []) (by kernel_rfl) Vc.zc (by kernel_rfl) (by kernel_rfl) h
theorem zkj(w:World)(v:Value)(h :
 (true=true∧∀ w':World,(callFunc 158 #[.string ⟨(([48,46,53]:List UInt8)).toArray⟩,.int .u8 46]).run Tryz.prog w'=.ok (.value (.int .i64 1)) w') ∧
 (.tuple #[.string ⟨(([48]:List UInt8)).toArray⟩,.string ⟨(([53]:List UInt8)).toArray⟩,.bool true]:Value)=v):Calls Tryz.prog 106 #[.string ⟨(([48,46,53]:List UInt8)).toArray⟩,.string ⟨(([46]:List UInt8)).toArray⟩] w (Vc.Ret v w) :=
 Vc.zb (ze [128,140,153] (by kernel_rfl)) [(300000000000000158,.inv [] [1] []),(300000000000000152,.inv [] [2] [])] [] 200 Tryz.func106 (b:=(Tryz.f106.body).getD .skip) (by kernel_rfl) [.cv (.one (.str [48,46,53])),.cv (.one (.str [46]))] ⟨0,0,0,0,0,0,0⟩ [] (Vc.envOf [] [] [] []) (by kernel_rfl) Vc.zc (by kernel_rfl) (by kernel_rfl) h
theorem zlj(w:World)(v:Value)(h :
 (true=true∧∀ w':World,(callFunc 158 #[.string ⟨(([48]:List UInt8)).toArray⟩,.int .u8 46]).run Tryz.prog w'=.ok (.value (.int .i64 (-1))) w') ∧
 (.tuple #[.string ⟨(([48]:List UInt8)).toArray⟩,.string ⟨(([]:List UInt8)).toArray⟩,.bool false]:Value)=v):Calls Tryz.prog 106 #[.string ⟨(([48]:List UInt8)).toArray⟩,.string ⟨(([46]:List UInt8)).toArray⟩] w (Vc.Ret v w) :=
 Vc.zb (ze [128,140,153] (by kernel_rfl)) [(300000000000000158,.inv [] [1] []),(300000000000000152,.inv [] [2] [])] [] 200 Tryz.func106 (b:=(Tryz.f106.body).getD .skip) (by kernel_rfl) [.cv (.one (.str [48])),.cv (.one (.str [46]))] ⟨0,0,0,0,0,0,0⟩ [] (Vc.envOf [] [] [] []) (by kernel_rfl) Vc.zc (by kernel_rfl) (by kernel_rfl) h
theorem zmj(w:World)(v:Value)(h :
 (true=true∧∀ w':World,(callFunc 158 #[.string ⟨(([53,48]:List UInt8)).toArray⟩,.int .u8 46]).run Tryz.prog w'=.ok (.value (.int .i64 (-1))) w') ∧
 (.tuple #[.string ⟨(([53,48]:List UInt8)).toArray⟩,.string ⟨(([]:List UInt8)).toArray⟩,.bool false]:Value)=v):Calls Tryz.prog 106 #[.string ⟨(([53,48]:List UInt8)).toArray⟩,.string ⟨(([46]:List UInt8)).toArray⟩] w (Vc.Ret v w) :=
 Vc.zb (ze [128,140,153] (by kernel_rfl)) [(300000000000000158,.inv [] [1] []),(300000000000000152,.inv [] [2] [])] [] 200 Tryz.func106 (b:=(Tryz.f106.body).getD .skip) (by kernel_rfl) [.cv (.one (.str [53,48])),.cv (.one (.str [46]))] ⟨0,0,0,0,0,0,0⟩ [] (Vc.envOf [] [] [] []) (by kernel_rfl) Vc.zc (by kernel_rfl) (by kernel_rfl) h
theorem znj(w:World)(v:Value)(h :
 (true=true∧∀ w':World,(callFunc 158 #[.string ⟨(([51,53]:List UInt8)).toArray⟩,.int .u8 46]).run Tryz.prog w'=.ok (.value (.int .i64 (-1))) w') ∧
 (.tuple #[.string ⟨(([51,53]:List UInt8)).toArray⟩,.string ⟨(([]:List UInt8)).toArray⟩,.bool false]:Value)=v):Calls Tryz.prog 106 #[.string ⟨(([51,53]:List UInt8)).toArray⟩,.string ⟨(([46]:List UInt8)).toArray⟩] w (Vc.Ret v w) :=
 Vc.zb (ze [128,140,153] (by kernel_rfl)) [(300000000000000158,.inv [] [1] []),(300000000000000152,.inv [] [2] [])] [] 200 Tryz.func106 (b:=(Tryz.f106.body).getD .skip) (by kernel_rfl) [.cv (.one (.str [51,53])),.cv (.one (.str [46]))] ⟨0,0,0,0,0,0,0⟩ [] (Vc.envOf [] [] [] []) (by kernel_rfl) Vc.zc (by kernel_rfl) (by kernel_rfl) h
theorem zwh(x0 x1 x2:Int)(w:World)(v:Value)(h :
 (((-9)≤x0)→(
 ((x0≤9)→(
 (((-9)≤x1)→(
 ((x1≤9)→(
 (((-9)≤x2)→(
 ((x2≤9)→(
 (.tuple #[.agg #[.int .i64 3,.int .i64 2,.int .i64 x0,.int .i64 x1,.int .i64 x2],.int .i64 0]:Value)=v))∧(¬ (x2≤9)→(
 (.tuple #[.agg #[.int .i64 0,.int .i64 0,.int .i64 0,.int .i64 0,.int .i64 0],.int .i64 4]:Value)=v))))∧(¬ ((-9)≤x2)→(
 (.tuple #[.agg #[.int .i64 0,.int .i64 0,.int .i64 0,.int .i64 0,.int .i64 0],.int .i64 4]:Value)=v))))∧(¬ (x1≤9)→(
 (.tuple #[.agg #[.int .i64 0,.int .i64 0,.int .i64 0,.int .i64 0,.int .i64 0],.int .i64 4]:Value)=v))))∧(¬ ((-9)≤x1)→(
 (.tuple #[.agg #[.int .i64 0,.int .i64 0,.int .i64 0,.int .i64 0,.int .i64 0],.int .i64 4]:Value)=v))))∧(¬ (x0≤9)→(
 (.tuple #[.agg #[.int .i64 0,.int .i64 0,.int .i64 0,.int .i64 0,.int .i64 0],.int .i64 4]:Value)=v))))∧(¬ ((-9)≤x0)→(
 (.tuple #[.agg #[.int .i64 0,.int .i64 0,.int .i64 0,.int .i64 0,.int .i64 0],.int .i64 4]:Value)=v))):Calls Tryz.prog 107 #[.int .i64 15,.int .i64 10,.agg #[.int .i64 x0,.int .i64 x1,.int .i64 x2]] w (Vc.Ret v w) :=
 Vc.zb (ze [76,39,45,23] (by kernel_rfl)) [] [] 200 Tryz.func107 (b:=(Tryz.f107.body).getD .skip) (by kernel_rfl) [.cv (.one (.int .i64 (.lit (15)))),.cv (.one (.int .i64 (.lit (10)))),.cv (.agg [.int .i64 (.var 0),.int .i64 (.var 1),.int .i64 (.var 2)])] ⟨3,0,0,0,0,0,0⟩ [] (Vc.envOf [x0,x1,x2] [] [] []) (by kernel_rfl) Vc.zc (by kernel_rfl) (by kernel_rfl) h
theorem zxh(x0 x1 x2:Int)(w:World)(v:Value)(h :
 (((-9)≤x0)→(
 ((x0≤9)→(
 (((-9)≤x1)→(
 ((x1≤9)→(
 (((-9)≤x2)→(
 ((x2≤9)→(
 (.tuple #[.agg #[.int .i64 2,.int .i64 1,.int .i64 x0,.int .i64 x1,.int .i64 x2],.int .i64 0]:Value)=v))∧(¬ (x2≤9)→(
 (.tuple #[.agg #[.int .i64 0,.int .i64 0,.int .i64 0,.int .i64 0,.int .i64 0],.int .i64 4]:Value)=v))))∧(¬ ((-9)≤x2)→(
 (.tuple #[.agg #[.int .i64 0,.int .i64 0,.int .i64 0,.int .i64 0,.int .i64 0],.int .i64 4]:Value)=v))))∧(¬ (x1≤9)→(
 (.tuple #[.agg #[.int .i64 0,.int .i64 0,.int .i64 0,.int .i64 0,.int .i64 0],.int .i64 4]:Value)=v))))∧(¬ ((-9)≤x1)→(
 (.tuple #[.agg #[.int .i64 0,.int .i64 0,.int .i64 0,.int .i64 0,.int .i64 0],.int .i64 4]:Value)=v))))∧(¬ (x0≤9)→(
 (.tuple #[.agg #[.int .i64 0,.int .i64 0,.int .i64 0,.int .i64 0,.int .i64 0],.int .i64 4]:Value)=v))))∧(¬ ((-9)≤x0)→(
 (.tuple #[.agg #[.int .i64 0,.int .i64 0,.int .i64 0,.int .i64 0,.int .i64 0],.int .i64 4]:Value)=v))):Calls Tryz.prog 107 #[.int .i64 2,.int .i64 1,.agg #[.int .i64 x0,.int .i64 x1,.int .i64 x2]] w (Vc.Ret v w) :=
 Vc.zb (ze [76,39,45,23] (by kernel_rfl)) [] [] 200 Tryz.func107 (b:=(Tryz.f107.body).getD .skip) (by kernel_rfl) [.cv (.one (.int .i64 (.lit (2)))),.cv (.one (.int .i64 (.lit (1)))),.cv (.agg [.int .i64 (.var 0),.int .i64 (.var 1),.int .i64 (.var 2)])] ⟨3,0,0,0,0,0,0⟩ [] (Vc.envOf [x0,x1,x2] [] [] []) (by kernel_rfl) Vc.zc (by kernel_rfl) (by kernel_rfl) h
theorem zyh(x0 x1 x2:Int)(w:World)(v:Value)(h :
 (((-9)≤x0)→(
 ((x0≤9)→(
 (((-9)≤x1)→(
 ((x1≤9)→(
 (((-9)≤x2)→(
 ((x2≤9)→(
 (.tuple #[.agg #[.int .i64 3,.int .i64 1,.int .i64 x0,.int .i64 x1,.int .i64 x2],.int .i64 0]:Value)=v))∧(¬ (x2≤9)→(
 (.tuple #[.agg #[.int .i64 0,.int .i64 0,.int .i64 0,.int .i64 0,.int .i64 0],.int .i64 4]:Value)=v))))∧(¬ ((-9)≤x2)→(
 (.tuple #[.agg #[.int .i64 0,.int .i64 0,.int .i64 0,.int .i64 0,.int .i64 0],.int .i64 4]:Value)=v))))∧(¬ (x1≤9)→(
 (.tuple #[.agg #[.int .i64 0,.int .i64 0,.int .i64 0,.int .i64 0,.int .i64 0],.int .i64 4]:Value)=v))))∧(¬ ((-9)≤x1)→(
 (.tuple #[.agg #[.int .i64 0,.int .i64 0,.int .i64 0,.int .i64 0,.int .i64 0],.int .i64 4]:Value)=v))))∧(¬ (x0≤9)→(
 (.tuple #[.agg #[.int .i64 0,.int .i64 0,.int .i64 0,.int .i64 0,.int .i64 0],.int .i64 4]:Value)=v))))∧(¬ ((-9)≤x0)→(
 (.tuple #[.agg #[.int .i64 0,.int .i64 0,.int .i64 0,.int .i64 0,.int .i64 0],.int .i64 4]:Value)=v))):Calls Tryz.prog 107 #[.int .i64 3,.int .i64 1,.agg #[.int .i64 x0,.int .i64 x1,.int .i64 x2]] w (Vc.Ret v w) :=
 Vc.zb (ze [76,39,45,23] (by kernel_rfl)) [] [] 200 Tryz.func107 (b:=(Tryz.f107.body).getD .skip) (by kernel_rfl) [.cv (.one (.int .i64 (.lit (3)))),.cv (.one (.int .i64 (.lit (1)))),.cv (.agg [.int .i64 (.var 0),.int .i64 (.var 1),.int .i64 (.var 2)])] ⟨3,0,0,0,0,0,0⟩ [] (Vc.envOf [x0,x1,x2] [] [] []) (by kernel_rfl) Vc.zc (by kernel_rfl) (by kernel_rfl) h
theorem zzh(x0 x1 x2:Int)(w:World)(v:Value)(h :
 (((-9)≤x0)→(
 ((x0≤9)→(
 (((-9)≤x1)→(
 ((x1≤9)→(
 (((-9)≤x2)→(
 ((x2≤9)→(
 (.tuple #[.agg #[.int .i64 10,.int .i64 1,.int .i64 x0,.int .i64 x1,.int .i64 x2],.int .i64 0]:Value)=v))∧(¬ (x2≤9)→(
 (.tuple #[.agg #[.int .i64 0,.int .i64 0,.int .i64 0,.int .i64 0,.int .i64 0],.int .i64 4]:Value)=v))))∧(¬ ((-9)≤x2)→(
 (.tuple #[.agg #[.int .i64 0,.int .i64 0,.int .i64 0,.int .i64 0,.int .i64 0],.int .i64 4]:Value)=v))))∧(¬ (x1≤9)→(
 (.tuple #[.agg #[.int .i64 0,.int .i64 0,.int .i64 0,.int .i64 0,.int .i64 0],.int .i64 4]:Value)=v))))∧(¬ ((-9)≤x1)→(
 (.tuple #[.agg #[.int .i64 0,.int .i64 0,.int .i64 0,.int .i64 0,.int .i64 0],.int .i64 4]:Value)=v))))∧(¬ (x0≤9)→(
 (.tuple #[.agg #[.int .i64 0,.int .i64 0,.int .i64 0,.int .i64 0,.int .i64 0],.int .i64 4]:Value)=v))))∧(¬ ((-9)≤x0)→(
 (.tuple #[.agg #[.int .i64 0,.int .i64 0,.int .i64 0,.int .i64 0,.int .i64 0],.int .i64 4]:Value)=v))):Calls Tryz.prog 107 #[.int .i64 10,.int .i64 1,.agg #[.int .i64 x0,.int .i64 x1,.int .i64 x2]] w (Vc.Ret v w) :=
 Vc.zb (ze [76,39,45,23] (by kernel_rfl)) [] [] 200 Tryz.func107 (b:=(Tryz.f107.body).getD .skip) (by kernel_rfl) [.cv (.one (.int .i64 (.lit (10)))),.cv (.one (.int .i64 (.lit (1)))),.cv (.agg [.int .i64 (.var 0),.int .i64 (.var 1),.int .i64 (.var 2)])] ⟨3,0,0,0,0,0,0⟩ [] (Vc.envOf [x0,x1,x2] [] [] []) (by kernel_rfl) Vc.zc (by kernel_rfl) (by kernel_rfl) h
theorem zai(x0 x1 x2:Int)(w:World)(v:Value)(h :
 (((-9)≤x0)→(
 ((x0≤9)→(
 (((-9)≤x1)→(
 ((x1≤9)→(
 (((-9)≤x2)→(
 ((x2≤9)→(
 (.tuple #[.agg #[.int .i64 2000,.int .i64 1,.int .i64 x0,.int .i64 x1,.int .i64 x2],.int .i64 0]:Value)=v))∧(¬ (x2≤9)→(
 (.tuple #[.agg #[.int .i64 0,.int .i64 0,.int .i64 0,.int .i64 0,.int .i64 0],.int .i64 4]:Value)=v))))∧(¬ ((-9)≤x2)→(
 (.tuple #[.agg #[.int .i64 0,.int .i64 0,.int .i64 0,.int .i64 0,.int .i64 0],.int .i64 4]:Value)=v))))∧(¬ (x1≤9)→(
 (.tuple #[.agg #[.int .i64 0,.int .i64 0,.int .i64 0,.int .i64 0,.int .i64 0],.int .i64 4]:Value)=v))))∧(¬ ((-9)≤x1)→(
 (.tuple #[.agg #[.int .i64 0,.int .i64 0,.int .i64 0,.int .i64 0,.int .i64 0],.int .i64 4]:Value)=v))))∧(¬ (x0≤9)→(
 (.tuple #[.agg #[.int .i64 0,.int .i64 0,.int .i64 0,.int .i64 0,.int .i64 0],.int .i64 4]:Value)=v))))∧(¬ ((-9)≤x0)→(
 (.tuple #[.agg #[.int .i64 0,.int .i64 0,.int .i64 0,.int .i64 0,.int .i64 0],.int .i64 4]:Value)=v))):Calls Tryz.prog 107 #[.int .i64 2000,.int .i64 1,.agg #[.int .i64 x0,.int .i64 x1,.int .i64 x2]] w (Vc.Ret v w) :=
 Vc.zb (ze [76,39,45,23] (by kernel_rfl)) [] [] 200 Tryz.func107 (b:=(Tryz.f107.body).getD .skip) (by kernel_rfl) [.cv (.one (.int .i64 (.lit (2000)))),.cv (.one (.int .i64 (.lit (1)))),.cv (.agg [.int .i64 (.var 0),.int .i64 (.var 1),.int .i64 (.var 2)])] ⟨3,0,0,0,0,0,0⟩ [] (Vc.envOf [x0,x1,x2] [] [] []) (by kernel_rfl) Vc.zc (by kernel_rfl) (by kernel_rfl) h
theorem zbi(x0 x1 x2:Int)(w:World)(v:Value)(h :
 (((-9)≤x0)→(
 ((x0≤9)→(
 (((-9)≤x1)→(
 ((x1≤9)→(
 (((-9)≤x2)→(
 ((x2≤9)→(
 (.tuple #[.agg #[.int .i64 1,.int .i64 1,.int .i64 x0,.int .i64 x1,.int .i64 x2],.int .i64 0]:Value)=v))∧(¬ (x2≤9)→(
 (.tuple #[.agg #[.int .i64 0,.int .i64 0,.int .i64 0,.int .i64 0,.int .i64 0],.int .i64 4]:Value)=v))))∧(¬ ((-9)≤x2)→(
 (.tuple #[.agg #[.int .i64 0,.int .i64 0,.int .i64 0,.int .i64 0,.int .i64 0],.int .i64 4]:Value)=v))))∧(¬ (x1≤9)→(
 (.tuple #[.agg #[.int .i64 0,.int .i64 0,.int .i64 0,.int .i64 0,.int .i64 0],.int .i64 4]:Value)=v))))∧(¬ ((-9)≤x1)→(
 (.tuple #[.agg #[.int .i64 0,.int .i64 0,.int .i64 0,.int .i64 0,.int .i64 0],.int .i64 4]:Value)=v))))∧(¬ (x0≤9)→(
 (.tuple #[.agg #[.int .i64 0,.int .i64 0,.int .i64 0,.int .i64 0,.int .i64 0],.int .i64 4]:Value)=v))))∧(¬ ((-9)≤x0)→(
 (.tuple #[.agg #[.int .i64 0,.int .i64 0,.int .i64 0,.int .i64 0,.int .i64 0],.int .i64 4]:Value)=v))):Calls Tryz.prog 107 #[.int .i64 1,.int .i64 1,.agg #[.int .i64 x0,.int .i64 x1,.int .i64 x2]] w (Vc.Ret v w) :=
 Vc.zb (ze [76,39,45,23] (by kernel_rfl)) [] [] 200 Tryz.func107 (b:=(Tryz.f107.body).getD .skip) (by kernel_rfl) [.cv (.one (.int .i64 (.lit (1)))),.cv (.one (.int .i64 (.lit (1)))),.cv (.agg [.int .i64 (.var 0),.int .i64 (.var 1),.int .i64 (.var 2)])] ⟨3,0,0,0,0,0,0⟩ [] (Vc.envOf [x0,x1,x2] [] [] []) (by kernel_rfl) Vc.zc (by kernel_rfl) (by kernel_rfl) h
theorem zci(x0 x1 x2:Int)(w:World)(v:Value)(h :
 (((-9)≤x0)→(
 ((x0≤9)→(
 (((-9)≤x1)→(
 ((x1≤9)→(
 (((-9)≤x2)→(
 ((x2≤9)→(
 (.tuple #[.agg #[.int .i64 1,.int .i64 2,.int .i64 x0,.int .i64 x1,.int .i64 x2],.int .i64 0]:Value)=v))∧(¬ (x2≤9)→(
 (.tuple #[.agg #[.int .i64 0,.int .i64 0,.int .i64 0,.int .i64 0,.int .i64 0],.int .i64 4]:Value)=v))))∧(¬ ((-9)≤x2)→(
 (.tuple #[.agg #[.int .i64 0,.int .i64 0,.int .i64 0,.int .i64 0,.int .i64 0],.int .i64 4]:Value)=v))))∧(¬ (x1≤9)→(
 (.tuple #[.agg #[.int .i64 0,.int .i64 0,.int .i64 0,.int .i64 0,.int .i64 0],.int .i64 4]:Value)=v))))∧(¬ ((-9)≤x1)→(
 (.tuple #[.agg #[.int .i64 0,.int .i64 0,.int .i64 0,.int .i64 0,.int .i64 0],.int .i64 4]:Value)=v))))∧(¬ (x0≤9)→(
 (.tuple #[.agg #[.int .i64 0,.int .i64 0,.int .i64 0,.int .i64 0,.int .i64 0],.int .i64 4]:Value)=v))))∧(¬ ((-9)≤x0)→(
 (.tuple #[.agg #[.int .i64 0,.int .i64 0,.int .i64 0,.int .i64 0,.int .i64 0],.int .i64 4]:Value)=v))):Calls Tryz.prog 107 #[.int .i64 5,.int .i64 10,.agg #[.int .i64 x0,.int .i64 x1,.int .i64 x2]] w (Vc.Ret v w) :=
 Vc.zb (ze [76,39,45,23] (by kernel_rfl)) [] [] 200 Tryz.func107 (b:=(Tryz.f107.body).getD .skip) (by kernel_rfl) [.cv (.one (.int .i64 (.lit (5)))),.cv (.one (.int .i64 (.lit (10)))),.cv (.agg [.int .i64 (.var 0),.int .i64 (.var 1),.int .i64 (.var 2)])] ⟨3,0,0,0,0,0,0⟩ [] (Vc.envOf [x0,x1,x2] [] [] []) (by kernel_rfl) Vc.zc (by kernel_rfl) (by kernel_rfl) h
theorem zdi(x0 x1 x2:Int)(w:World)(v:Value)(h :
 (((-9)≤x0)→(
 ((x0≤9)→(
 (((-9)≤x1)→(
 ((x1≤9)→(
 (((-9)≤x2)→(
 ((x2≤9)→(
 (.tuple #[.agg #[.int .i64 0,.int .i64 1,.int .i64 x0,.int .i64 x1,.int .i64 x2],.int .i64 0]:Value)=v))∧(¬ (x2≤9)→(
 (.tuple #[.agg #[.int .i64 0,.int .i64 0,.int .i64 0,.int .i64 0,.int .i64 0],.int .i64 4]:Value)=v))))∧(¬ ((-9)≤x2)→(
 (.tuple #[.agg #[.int .i64 0,.int .i64 0,.int .i64 0,.int .i64 0,.int .i64 0],.int .i64 4]:Value)=v))))∧(¬ (x1≤9)→(
 (.tuple #[.agg #[.int .i64 0,.int .i64 0,.int .i64 0,.int .i64 0,.int .i64 0],.int .i64 4]:Value)=v))))∧(¬ ((-9)≤x1)→(
 (.tuple #[.agg #[.int .i64 0,.int .i64 0,.int .i64 0,.int .i64 0,.int .i64 0],.int .i64 4]:Value)=v))))∧(¬ (x0≤9)→(
 (.tuple #[.agg #[.int .i64 0,.int .i64 0,.int .i64 0,.int .i64 0,.int .i64 0],.int .i64 4]:Value)=v))))∧(¬ ((-9)≤x0)→(
 (.tuple #[.agg #[.int .i64 0,.int .i64 0,.int .i64 0,.int .i64 0,.int .i64 0],.int .i64 4]:Value)=v))):Calls Tryz.prog 107 #[.int .i64 0,.int .i64 1,.agg #[.int .i64 x0,.int .i64 x1,.int .i64 x2]] w (Vc.Ret v w) :=
 Vc.zb (ze [76,39,45,23] (by kernel_rfl)) [] [] 200 Tryz.func107 (b:=(Tryz.f107.body).getD .skip) (by kernel_rfl) [.cv (.one (.int .i64 (.lit (0)))),.cv (.one (.int .i64 (.lit (1)))),.cv (.agg [.int .i64 (.var 0),.int .i64 (.var 1),.int .i64 (.var 2)])] ⟨3,0,0,0,0,0,0⟩ [] (Vc.envOf [x0,x1,x2] [] [] []) (by kernel_rfl) Vc.zc (by kernel_rfl) (by kernel_rfl) h
theorem zei(x0 x1 x2:Int)(w:World)(v:Value)(h :
 (((-9)≤x0)→(
 ((x0≤9)→(
 (((-9)≤x1)→(
 ((x1≤9)→(
 (((-9)≤x2)→(
 ((x2≤9)→(
 (.tuple #[.agg #[.int .i64 50,.int .i64 1,.int .i64 x0,.int .i64 x1,.int .i64 x2],.int .i64 0]:Value)=v))∧(¬ (x2≤9)→(
 (.tuple #[.agg #[.int .i64 0,.int .i64 0,.int .i64 0,.int .i64 0,.int .i64 0],.int .i64 4]:Value)=v))))∧(¬ ((-9)≤x2)→(
 (.tuple #[.agg #[.int .i64 0,.int .i64 0,.int .i64 0,.int .i64 0,.int .i64 0],.int .i64 4]:Value)=v))))∧(¬ (x1≤9)→(
 (.tuple #[.agg #[.int .i64 0,.int .i64 0,.int .i64 0,.int .i64 0,.int .i64 0],.int .i64 4]:Value)=v))))∧(¬ ((-9)≤x1)→(
 (.tuple #[.agg #[.int .i64 0,.int .i64 0,.int .i64 0,.int .i64 0,.int .i64 0],.int .i64 4]:Value)=v))))∧(¬ (x0≤9)→(
 (.tuple #[.agg #[.int .i64 0,.int .i64 0,.int .i64 0,.int .i64 0,.int .i64 0],.int .i64 4]:Value)=v))))∧(¬ ((-9)≤x0)→(
 (.tuple #[.agg #[.int .i64 0,.int .i64 0,.int .i64 0,.int .i64 0,.int .i64 0],.int .i64 4]:Value)=v))):Calls Tryz.prog 107 #[.int .i64 50,.int .i64 1,.agg #[.int .i64 x0,.int .i64 x1,.int .i64 x2]] w (Vc.Ret v w) :=
 Vc.zb (ze [76,39,45,23] (by kernel_rfl)) [] [] 200 Tryz.func107 (b:=(Tryz.f107.body).getD .skip) (by kernel_rfl) [.cv (.one (.int .i64 (.lit (50)))),.cv (.one (.int .i64 (.lit (1)))),.cv (.agg [.int .i64 (.var 0),.int .i64 (.var 1),.int .i64 (.var 2)])] ⟨3,0,0,0,0,0,0⟩ [] (Vc.envOf [x0,x1,x2] [] [] []) (by kernel_rfl) Vc.zc (by kernel_rfl) (by kernel_rfl) h
theorem zfi(x0 x1 x2:Int)(w:World)(v:Value)(h :
 (((-9)≤x0)→(
 ((x0≤9)→(
 (((-9)≤x1)→(
 ((x1≤9)→(
 (((-9)≤x2)→(
 ((x2≤9)→(
 (.tuple #[.agg #[.int .i64 35,.int .i64 1,.int .i64 x0,.int .i64 x1,.int .i64 x2],.int .i64 0]:Value)=v))∧(¬ (x2≤9)→(
 (.tuple #[.agg #[.int .i64 0,.int .i64 0,.int .i64 0,.int .i64 0,.int .i64 0],.int .i64 4]:Value)=v))))∧(¬ ((-9)≤x2)→(
 (.tuple #[.agg #[.int .i64 0,.int .i64 0,.int .i64 0,.int .i64 0,.int .i64 0],.int .i64 4]:Value)=v))))∧(¬ (x1≤9)→(
 (.tuple #[.agg #[.int .i64 0,.int .i64 0,.int .i64 0,.int .i64 0,.int .i64 0],.int .i64 4]:Value)=v))))∧(¬ ((-9)≤x1)→(
 (.tuple #[.agg #[.int .i64 0,.int .i64 0,.int .i64 0,.int .i64 0,.int .i64 0],.int .i64 4]:Value)=v))))∧(¬ (x0≤9)→(
 (.tuple #[.agg #[.int .i64 0,.int .i64 0,.int .i64 0,.int .i64 0,.int .i64 0],.int .i64 4]:Value)=v))))∧(¬ ((-9)≤x0)→(
 (.tuple #[.agg #[.int .i64 0,.int .i64 0,.int .i64 0,.int .i64 0,.int .i64 0],.int .i64 4]:Value)=v))):Calls Tryz.prog 107 #[.int .i64 35,.int .i64 1,.agg #[.int .i64 x0,.int .i64 x1,.int .i64 x2]] w (Vc.Ret v w) :=
 Vc.zb (ze [76,39,45,23] (by kernel_rfl)) [] [] 200 Tryz.func107 (b:=(Tryz.f107.body).getD .skip) (by kernel_rfl) [.cv (.one (.int .i64 (.lit (35)))),.cv (.one (.int .i64 (.lit (1)))),.cv (.agg [.int .i64 (.var 0),.int .i64 (.var 1),.int .i64 (.var 2)])] ⟨3,0,0,0,0,0,0⟩ [] (Vc.envOf [x0,x1,x2] [] [] []) (by kernel_rfl) Vc.zc (by kernel_rfl) (by kernel_rfl) h
theorem vc_vehicle_flow(x0 x1 x2 x3 x4 x5 x6 x7 x8 x9:Int)(s0:List UInt8)(w:World)(v:Value)(h :
 (.agg #[.int .i64 x3,.int .i64 x4]:Value)=v):Calls Tryz.prog 21 #[.agg #[.string ⟨s0.toArray⟩,.int .i64 x0,.int .i64 x1,.int .i64 x2,.int .i64 x3,.int .i64 x4,.int .i64 x5,.int .i64 x6,.int .i64 x7,.int .i64 x8,.int .i64 x9]] w (Vc.Ret v w) :=
 Vc.zb base [] [] 200 Tryz.func21 (b:=(Tryz.f21.body).getD .skip) (by kernel_rfl) [.cv (.agg [.sv 0,.int .i64 (.var 0),.int .i64 (.var 1),.int .i64 (.var 2),.int .i64 (.var 3),.int .i64 (.var 4),.int .i64 (.var 5),.int .i64 (.var 6),.int .i64 (.var 7),.int .i64 (.var 8),.int .i64 (.var 9)])] ⟨10,0,0,0,0,1,0⟩ [] (Vc.envOf [x0,x1,x2,x3,x4,x5,x6,x7,x8,x9] [] [] [] [s0]) (by kernel_rfl) Vc.zc (by kernel_rfl) (by kernel_rfl) h
theorem zyd(w:World)(v:Value)(h :
 Vg_12 w ∧
 Vg_13 w ∧
 Vg_13 w ∧
 Vg_13 w ∧
 Vg_13 w ∧
 Vg_13 w ∧
 Vg_13 w ∧
 Vg_13 w ∧
 Vg_13 w ∧
 Vg_13 w ∧
 Vg_13 w ∧
 Vg_13 w ∧
 Vg_13 w ∧
 Vg_13 w ∧
 Vg_13 w ∧
 Vg_13 w ∧
 Vg_13 w ∧
 Vg_13 w ∧
 Vg_13 w ∧
 Vg_13 w ∧
 Vg_13 w ∧
 Vg_13 w ∧
 Vg_13 w ∧
 Vg_13 w ∧
 Vg_13 w ∧
 Vg_13 w ∧
 Vg_13 w ∧
 Vg_13 w ∧
 Vg_13 w ∧
 Vg_13 w ∧
 Vg_13 w ∧
 Vg_13 w ∧
 Vg_13 w ∧
 Vg_13 w ∧
 Vg_13 w ∧
 Vg_13 w ∧
 Vg_13 w ∧
 Vg_13 w ∧
 Vg_13 w ∧
 Vg_13 w ∧
 Vg_13 w ∧
 Vg_13 w ∧
 Vg_13 w ∧
 Vg_13 w ∧
 Vg_13 w ∧
 Vg_13 w ∧
 Vg_13 w ∧
 Vg_13 w ∧
 Vg_13 w ∧
 Vg_13 w ∧
 Vg_13 w ∧
 Vg_13 w ∧
 Vg_13 w ∧
 Vg_13 w ∧
 Vg_13 w ∧
 Vg_13 w ∧
 Vg_13 w ∧
 Vg_13 w ∧
 Vg_13 w ∧
 Vg_13 w ∧
 Vg_13 w ∧
 Vg_13 w ∧
 Vg_13 w ∧
 Vg_13 w ∧
 Vg_13 w ∧
 Vg_13 w ∧
 Vg_13 w ∧
 Vg_13 w ∧
 Vg_13 w ∧
 Vg_13 w ∧
 Vg_13 w ∧
 Vg_13 w ∧
 Vg_13 w ∧
 Vg_13 w ∧
 Vg_13 w ∧
 Vg_13 w ∧
 Vg_13 w ∧
 Vg_13 w ∧
 Vg_13 w ∧
 Vg_13 w ∧
 Vg_13 w ∧
 Vg_13 w ∧
 Vg_13 w ∧
 Vg_13 w ∧
 Vg_13 w ∧
 Vg_13 w ∧
 Vg_13 w ∧
 Vg_13 w ∧
 Vg_13 w ∧
 Vg_13 w ∧
 Vg_13 w ∧
 Vg_13 w ∧
 Vg_13 w ∧
 Vg_13 w ∧
 Vg_13 w ∧
 Vg_13 w ∧
 Vg_13 w ∧
 Vg_13 w ∧
 Vg_13 w ∧
 Vg_13 w ∧
 Vg_13 w ∧
 Vg_13 w ∧
 Vg_13 w ∧
 Vg_13 w ∧
 Vg_13 w ∧
 Vg_13 w ∧
 Vg_13 w ∧
 Vg_13 w ∧
 Vg_13 w ∧
 Vg_13 w ∧
 Vg_13 w ∧
 Vg_13 w ∧
 Vg_13 w ∧
 Vg_13 w ∧
 Vg_13 w ∧
 Vg_13 w ∧
 Vg_13 w ∧
 Vg_13 w ∧
 Vg_13 w ∧
 Vg_13 w ∧
 Vg_13 w ∧
 Vg_13 w ∧
 Vg_13 w ∧
 Vg_13 w ∧
 Vg_13 w ∧
 Vg_13 w ∧
 Vg_13 w ∧
 Vg_13 w ∧
 Vg_13 w ∧
 Vg_13 w ∧
 Vg_13 w ∧
 Vg_13 w ∧
 Vg_13 w ∧
 Vg_13 w ∧
 Vg_13 w ∧
 Vg_13 w ∧
 Vg_13 w ∧
 Vg_13 w ∧
 Vg_13 w ∧
 Vg_13 w ∧
 Vg_13 w ∧
 Vg_13 w ∧
 Vg_13 w ∧
 Vg_13 w ∧
 Vg_13 w ∧
 Vg_13 w ∧
 Vg_13 w ∧
 Vg_13 w ∧
 Vg_13 w ∧
 Vg_13 w ∧
 Vg_13 w ∧
 Vg_13 w ∧
 Vg_13 w ∧
 Vg_13 w ∧
 Vg_13 w ∧
 Vg_13 w ∧
 Vg_13 w ∧
 Vg_13 w ∧
 Vg_13 w ∧
 Vg_13 w ∧
 Vg_13 w ∧
 Vg_13 w ∧
 Vg_13 w ∧
 Vg_13 w ∧
 Vg_13 w ∧
 Vg_13 w ∧
 Vg_13 w ∧
 Vg_13 w ∧
 Vg_13 w ∧
 Vg_13 w ∧
 Vg_13 w ∧
 Vg_13 w ∧
 Vg_13 w ∧
 Vg_13 w ∧
 Vg_13 w ∧
 Vg_13 w ∧
 Vg_13 w ∧
 Vg_13 w ∧
 Vg_13 w ∧
 Vg_13 w ∧
 Vg_13 w ∧
 Vg_13 w ∧
 Vg_13 w ∧
 Vg_13 w ∧
 Vg_13 w ∧
 Vg_13 w ∧
 Vg_13 w ∧
 Vg_13 w ∧
 Vg_13 w ∧
 Vg_13 w ∧
 Vg_13 w ∧
 Vg_13 w ∧
 Vg_13 w ∧
 Vg_13 w ∧
 Vg_13 w ∧
 Vg_13 w ∧
 Vg_13 w ∧
 Vg_13 w ∧
 Vg_13 w ∧
 Vg_13 w ∧
 Vg_13 w ∧
 Vg_13 w ∧
 Vg_13 w ∧
 Vg_13 w ∧
 Vg_13 w ∧
 Vg_13 w ∧
 Vg_13 w ∧
 Vg_13 w ∧
 Vg_13 w ∧
 Vg_13 w ∧
 Vg_13 w ∧
 Vg_13 w ∧
 Vg_13 w ∧
 Vg_13 w ∧
 Vg_13 w ∧
 Vg_13 w ∧
 Vg_13 w ∧
 Vg_13 w ∧
 Vg_13 w ∧
 Vg_13 w ∧
 Vg_13 w ∧
 Vg_13 w ∧
 Vg_13 w ∧
 Vg_13 w ∧
 Vg_13 w ∧
 Vg_13 w ∧
 Vg_13 w ∧
 Vg_13 w ∧
 Vg_13 w ∧
 (.bool false:Value)=v):Calls Tryz.prog 114 #[.string ⟨(([111,110,101]:List UInt8)).toArray⟩] w (Vc.Ret v w) :=
 Vc.zb (ze [46,66,86,93,115,119,129,130,131,143] (by kernel_rfl)) [] globs 200 Tryz.func114 (b:=(Tryz.f114.body).getD .skip) (by kernel_rfl) [.cv (.one (.str [111,110,101]))] ⟨0,0,0,2,0,0,0⟩ [.glo 0 12,.glo 1 13] (Vc.envOf [] [] [] [(12,0),(13,0)]) (by kernel_rfl) (Vc.zl (by kernel_rfl) rfl (Vc.zl (by kernel_rfl) rfl Vc.zc)) (by kernel_rfl) (by kernel_rfl) h
theorem zmd(w:World)(v:Value)(h :
 Vg_12 w ∧
 Vg_13 w ∧
 Vg_13 w ∧
 Vg_13 w ∧
 Vg_13 w ∧
 Vg_13 w ∧
 Vg_13 w ∧
 Vg_13 w ∧
 Vg_13 w ∧
 Vg_13 w ∧
 Vg_13 w ∧
 Vg_13 w ∧
 Vg_13 w ∧
 Vg_13 w ∧
 Vg_13 w ∧
 Vg_13 w ∧
 Vg_13 w ∧
 Vg_13 w ∧
 Vg_13 w ∧
 Vg_13 w ∧
 Vg_13 w ∧
 Vg_13 w ∧
 Vg_13 w ∧
 Vg_13 w ∧
 Vg_13 w ∧
 Vg_13 w ∧
 Vg_13 w ∧
 Vg_13 w ∧
 Vg_13 w ∧
 Vg_13 w ∧
 Vg_13 w ∧
 Vg_13 w ∧
 Vg_13 w ∧
 Vg_13 w ∧
 Vg_13 w ∧
 Vg_13 w ∧
 Vg_13 w ∧
 Vg_13 w ∧
 Vg_13 w ∧
 Vg_13 w ∧
 Vg_13 w ∧
 Vg_13 w ∧
 Vg_13 w ∧
 Vg_13 w ∧
 Vg_13 w ∧
 Vg_13 w ∧
 Vg_13 w ∧
 Vg_13 w ∧
 Vg_13 w ∧
 Vg_13 w ∧
 Vg_13 w ∧
 Vg_13 w ∧
 Vg_13 w ∧
 Vg_13 w ∧
 Vg_13 w ∧
 Vg_13 w ∧
 Vg_13 w ∧
 Vg_13 w ∧
 Vg_13 w ∧
 Vg_13 w ∧
 Vg_13 w ∧
 Vg_13 w ∧
 Vg_13 w ∧
 Vg_13 w ∧
 Vg_13 w ∧
 Vg_13 w ∧
 Vg_13 w ∧
 Vg_13 w ∧
 Vg_13 w ∧
 Vg_13 w ∧
 Vg_13 w ∧
 Vg_13 w ∧
 Vg_13 w ∧
 Vg_13 w ∧
 Vg_13 w ∧
 Vg_13 w ∧
 Vg_13 w ∧
 Vg_13 w ∧
 Vg_13 w ∧
 Vg_13 w ∧
 Vg_13 w ∧
 Vg_13 w ∧
 Vg_13 w ∧
 Vg_13 w ∧
 Vg_13 w ∧
 Vg_13 w ∧
 Vg_13 w ∧
 Vg_13 w ∧
 Vg_13 w ∧
 Vg_13 w ∧
 Vg_13 w ∧
 Vg_13 w ∧
 Vg_13 w ∧
 Vg_13 w ∧
 Vg_13 w ∧
 Vg_13 w ∧
 Vg_13 w ∧
 Vg_13 w ∧
 Vg_13 w ∧
 Vg_13 w ∧
 Vg_13 w ∧
 Vg_13 w ∧
 Vg_13 w ∧
 Vg_13 w ∧
 Vg_13 w ∧
 Vg_13 w ∧
 Vg_13 w ∧
 Vg_13 w ∧
 Vg_13 w ∧
 Vg_13 w ∧
 Vg_13 w ∧
 Vg_13 w ∧
 Vg_13 w ∧
 Vg_13 w ∧
 Vg_13 w ∧
 Vg_13 w ∧
 Vg_13 w ∧
 Vg_13 w ∧
 Vg_13 w ∧
 Vg_13 w ∧
 Vg_13 w ∧
 Vg_13 w ∧
 Vg_13 w ∧
 Vg_13 w ∧
 Vg_13 w ∧
 Vg_13 w ∧
 Vg_13 w ∧
 Vg_13 w ∧
 Vg_13 w ∧
 Vg_13 w ∧
 Vg_13 w ∧
 Vg_13 w ∧
 Vg_13 w ∧
 Vg_13 w ∧
 Vg_13 w ∧
 Vg_13 w ∧
 Vg_13 w ∧
 Vg_13 w ∧
 Vg_13 w ∧
 Vg_13 w ∧
 Vg_13 w ∧
 Vg_13 w ∧
 Vg_13 w ∧
 Vg_13 w ∧
 Vg_13 w ∧
 Vg_13 w ∧
 Vg_13 w ∧
 Vg_13 w ∧
 Vg_13 w ∧
 Vg_13 w ∧
 Vg_13 w ∧
 Vg_13 w ∧
 Vg_13 w ∧
 Vg_13 w ∧
 Vg_13 w ∧
 Vg_13 w ∧
 Vg_13 w ∧
 Vg_13 w ∧
 Vg_13 w ∧
 Vg_13 w ∧
 Vg_13 w ∧
 Vg_13 w ∧
 Vg_13 w ∧
 Vg_13 w ∧
 Vg_13 w ∧
 Vg_13 w ∧
 Vg_13 w ∧
 Vg_13 w ∧
 Vg_13 w ∧
 Vg_13 w ∧
 Vg_13 w ∧
 Vg_13 w ∧
 Vg_13 w ∧
 Vg_13 w ∧
 Vg_13 w ∧
 Vg_13 w ∧
 Vg_13 w ∧
 Vg_13 w ∧
 Vg_13 w ∧
 Vg_13 w ∧
 Vg_13 w ∧
 Vg_13 w ∧
 Vg_13 w ∧
 Vg_13 w ∧
 Vg_13 w ∧
 Vg_13 w ∧
 Vg_13 w ∧
 Vg_13 w ∧
 Vg_13 w ∧
 Vg_13 w ∧
 Vg_13 w ∧
 Vg_13 w ∧
 Vg_13 w ∧
 Vg_13 w ∧
 Vg_13 w ∧
 Vg_13 w ∧
 Vg_13 w ∧
 Vg_13 w ∧
 Vg_13 w ∧
 Vg_13 w ∧
 Vg_13 w ∧
 Vg_13 w ∧
 Vg_13 w ∧
 Vg_13 w ∧
 Vg_13 w ∧
 Vg_13 w ∧
 Vg_13 w ∧
 Vg_13 w ∧
 Vg_13 w ∧
 Vg_13 w ∧
 Vg_13 w ∧
 Vg_13 w ∧
 Vg_13 w ∧
 Vg_13 w ∧
 Vg_13 w ∧
 Vg_13 w ∧
 Vg_13 w ∧
 Vg_13 w ∧
 Vg_13 w ∧
 Vg_13 w ∧
 Vg_13 w ∧
 Vg_13 w ∧
 Vg_13 w ∧
 Vg_13 w ∧
 Vg_13 w ∧
 Vg_13 w ∧
 Vg_13 w ∧
 Vg_13 w ∧
 Vg_13 w ∧
 (.bool false:Value)=v):Calls Tryz.prog 114 #[.string ⟨(([116,97,110,107]:List UInt8)).toArray⟩] w (Vc.Ret v w) :=
 Vc.zb (ze [46,66,86,93,115,119,129,130,131,143] (by kernel_rfl)) [] globs 200 Tryz.func114 (b:=(Tryz.f114.body).getD .skip) (by kernel_rfl) [.cv (.one (.str [116,97,110,107]))] ⟨0,0,0,2,0,0,0⟩ [.glo 0 12,.glo 1 13] (Vc.envOf [] [] [] [(12,0),(13,0)]) (by kernel_rfl) (Vc.zl (by kernel_rfl) rfl (Vc.zl (by kernel_rfl) rfl Vc.zc)) (by kernel_rfl) (by kernel_rfl) h
theorem zzd(w:World)(v:Value)(h :
 Vg_12 w ∧
 Vg_13 w ∧
 Vg_13 w ∧
 Vg_13 w ∧
 Vg_13 w ∧
 Vg_13 w ∧
 Vg_13 w ∧
 Vg_13 w ∧
 Vg_13 w ∧
 Vg_13 w ∧
 Vg_13 w ∧
 Vg_13 w ∧
 Vg_13 w ∧
 Vg_13 w ∧
 Vg_13 w ∧
 Vg_13 w ∧
 Vg_13 w ∧
 Vg_13 w ∧
 Vg_13 w ∧
 Vg_13 w ∧
 Vg_13 w ∧
 Vg_13 w ∧
 Vg_13 w ∧
 Vg_13 w ∧
 Vg_13 w ∧
 Vg_13 w ∧
 Vg_13 w ∧
 Vg_13 w ∧
 Vg_13 w ∧
 Vg_13 w ∧
 Vg_13 w ∧
 Vg_13 w ∧
 Vg_13 w ∧
 Vg_13 w ∧
 Vg_13 w ∧
 Vg_13 w ∧
 Vg_13 w ∧
 Vg_13 w ∧
 Vg_13 w ∧
 Vg_13 w ∧
 Vg_13 w ∧
 Vg_13 w ∧
 Vg_13 w ∧
 Vg_13 w ∧
 Vg_13 w ∧
 Vg_13 w ∧
 Vg_13 w ∧
 Vg_13 w ∧
 Vg_13 w ∧
 Vg_13 w ∧
 Vg_13 w ∧
 Vg_13 w ∧
 Vg_13 w ∧
 Vg_13 w ∧
 Vg_13 w ∧
 Vg_13 w ∧
 Vg_13 w ∧
 Vg_13 w ∧
 Vg_13 w ∧
 Vg_13 w ∧
 Vg_13 w ∧
 Vg_13 w ∧
 Vg_13 w ∧
 Vg_13 w ∧
 Vg_13 w ∧
 Vg_13 w ∧
 Vg_13 w ∧
 Vg_13 w ∧
 Vg_13 w ∧
 Vg_13 w ∧
 Vg_13 w ∧
 Vg_13 w ∧
 Vg_13 w ∧
 Vg_13 w ∧
 Vg_13 w ∧
 Vg_13 w ∧
 Vg_13 w ∧
 Vg_13 w ∧
 Vg_13 w ∧
 Vg_13 w ∧
 Vg_13 w ∧
 Vg_13 w ∧
 Vg_13 w ∧
 Vg_13 w ∧
 Vg_13 w ∧
 Vg_13 w ∧
 Vg_13 w ∧
 Vg_13 w ∧
 Vg_13 w ∧
 Vg_13 w ∧
 Vg_13 w ∧
 Vg_13 w ∧
 Vg_13 w ∧
 Vg_13 w ∧
 Vg_13 w ∧
 Vg_13 w ∧
 Vg_13 w ∧
 Vg_13 w ∧
 Vg_13 w ∧
 Vg_13 w ∧
 Vg_13 w ∧
 Vg_13 w ∧
 Vg_13 w ∧
 Vg_13 w ∧
 Vg_13 w ∧
 Vg_13 w ∧
 Vg_13 w ∧
 Vg_13 w ∧
 Vg_13 w ∧
 Vg_13 w ∧
 Vg_13 w ∧
 Vg_13 w ∧
 Vg_13 w ∧
 Vg_13 w ∧
 Vg_13 w ∧
 Vg_13 w ∧
 Vg_13 w ∧
 Vg_13 w ∧
 Vg_13 w ∧
 Vg_13 w ∧
 Vg_13 w ∧
 Vg_13 w ∧
 Vg_13 w ∧
 Vg_13 w ∧
 Vg_13 w ∧
 Vg_13 w ∧
 Vg_13 w ∧
 Vg_13 w ∧
 Vg_13 w ∧
 Vg_13 w ∧
 Vg_13 w ∧
 Vg_13 w ∧
 Vg_13 w ∧
 Vg_13 w ∧
 Vg_13 w ∧
 Vg_13 w ∧
 Vg_13 w ∧
 Vg_13 w ∧
 Vg_13 w ∧
 Vg_13 w ∧
 Vg_13 w ∧
 Vg_13 w ∧
 Vg_13 w ∧
 Vg_13 w ∧
 Vg_13 w ∧
 Vg_13 w ∧
 Vg_13 w ∧
 Vg_13 w ∧
 Vg_13 w ∧
 Vg_13 w ∧
 Vg_13 w ∧
 Vg_13 w ∧
 Vg_13 w ∧
 Vg_13 w ∧
 Vg_13 w ∧
 Vg_13 w ∧
 Vg_13 w ∧
 Vg_13 w ∧
 Vg_13 w ∧
 Vg_13 w ∧
 Vg_13 w ∧
 Vg_13 w ∧
 Vg_13 w ∧
 Vg_13 w ∧
 Vg_13 w ∧
 Vg_13 w ∧
 Vg_13 w ∧
 Vg_13 w ∧
 Vg_13 w ∧
 Vg_13 w ∧
 Vg_13 w ∧
 Vg_13 w ∧
 Vg_13 w ∧
 Vg_13 w ∧
 Vg_13 w ∧
 Vg_13 w ∧
 Vg_13 w ∧
 Vg_13 w ∧
 Vg_13 w ∧
 Vg_13 w ∧
 Vg_13 w ∧
 Vg_13 w ∧
 Vg_13 w ∧
 Vg_13 w ∧
 Vg_13 w ∧
 Vg_13 w ∧
 Vg_13 w ∧
 Vg_13 w ∧
 Vg_13 w ∧
 Vg_13 w ∧
 Vg_13 w ∧
 Vg_13 w ∧
 Vg_13 w ∧
 Vg_13 w ∧
 Vg_13 w ∧
 Vg_13 w ∧
 Vg_13 w ∧
 Vg_13 w ∧
 Vg_13 w ∧
 Vg_13 w ∧
 Vg_13 w ∧
 Vg_13 w ∧
 Vg_13 w ∧
 Vg_13 w ∧
 Vg_13 w ∧
 Vg_13 w ∧
 Vg_13 w ∧
 Vg_13 w ∧
 Vg_13 w ∧
 Vg_13 w ∧
 Vg_13 w ∧
 Vg_13 w ∧
 Vg_13 w ∧
 Vg_13 w ∧
 Vg_13 w ∧
 Vg_13 w ∧
 Vg_13 w ∧
 Vg_13 w ∧
 Vg_13 w ∧
 Vg_13 w ∧
 Vg_13 w ∧
 Vg_13 w ∧
 Vg_13 w ∧
 Vg_13 w ∧
 Vg_13 w ∧
 Vg_13 w ∧
 Vg_13 w ∧
 Vg_13 w ∧
 Vg_13 w ∧
 (.bool false:Value)=v):Calls Tryz.prog 114 #[.string ⟨(([108,111,119]:List UInt8)).toArray⟩] w (Vc.Ret v w) :=
 Vc.zb (ze [46,66,86,93,115,119,129,130,131,143] (by kernel_rfl)) [] globs 200 Tryz.func114 (b:=(Tryz.f114.body).getD .skip) (by kernel_rfl) [.cv (.one (.str [108,111,119]))] ⟨0,0,0,2,0,0,0⟩ [.glo 0 12,.glo 1 13] (Vc.envOf [] [] [] [(12,0),(13,0)]) (by kernel_rfl) (Vc.zl (by kernel_rfl) rfl (Vc.zl (by kernel_rfl) rfl Vc.zc)) (by kernel_rfl) (by kernel_rfl) h
theorem zoe(w:World)(v:Value)(h :
 Vg_12 w ∧
 Vg_13 w ∧
 Vg_13 w ∧
 Vg_13 w ∧
 Vg_13 w ∧
 Vg_13 w ∧
 Vg_13 w ∧
 Vg_13 w ∧
 Vg_13 w ∧
 Vg_13 w ∧
 Vg_13 w ∧
 Vg_13 w ∧
 Vg_13 w ∧
 Vg_13 w ∧
 Vg_13 w ∧
 Vg_13 w ∧
 Vg_13 w ∧
 Vg_13 w ∧
 Vg_13 w ∧
 Vg_13 w ∧
 Vg_13 w ∧
 Vg_13 w ∧
 Vg_13 w ∧
 Vg_13 w ∧
 Vg_13 w ∧
 Vg_13 w ∧
 Vg_13 w ∧
 Vg_13 w ∧
 Vg_13 w ∧
 Vg_13 w ∧
 Vg_13 w ∧
 Vg_13 w ∧
 Vg_13 w ∧
 Vg_13 w ∧
 Vg_13 w ∧
 Vg_13 w ∧
 Vg_13 w ∧
 Vg_13 w ∧
 Vg_13 w ∧
 Vg_13 w ∧
 Vg_13 w ∧
 Vg_13 w ∧
 Vg_13 w ∧
 Vg_13 w ∧
 Vg_13 w ∧
 Vg_13 w ∧
 Vg_13 w ∧
 Vg_13 w ∧
 Vg_13 w ∧
 Vg_13 w ∧
 Vg_13 w ∧
 Vg_13 w ∧
 Vg_13 w ∧
 Vg_13 w ∧
 Vg_13 w ∧
 Vg_13 w ∧
 Vg_13 w ∧
 Vg_13 w ∧
 Vg_13 w ∧
 Vg_13 w ∧
 Vg_13 w ∧
 Vg_13 w ∧
 Vg_13 w ∧
 Vg_13 w ∧
 Vg_13 w ∧
 Vg_13 w ∧
 Vg_13 w ∧
 Vg_13 w ∧
 Vg_13 w ∧
 Vg_13 w ∧
 Vg_13 w ∧
 Vg_13 w ∧
 Vg_13 w ∧
 Vg_13 w ∧
 Vg_13 w ∧
 Vg_13 w ∧
 Vg_13 w ∧
 Vg_13 w ∧
 Vg_13 w ∧
 Vg_13 w ∧
 Vg_13 w ∧
 Vg_13 w ∧
 Vg_13 w ∧
 Vg_13 w ∧
 Vg_13 w ∧
 Vg_13 w ∧
 Vg_13 w ∧
 Vg_13 w ∧
 Vg_13 w ∧
 Vg_13 w ∧
 Vg_13 w ∧
 Vg_13 w ∧
 Vg_13 w ∧
 Vg_13 w ∧
 Vg_13 w ∧
 Vg_13 w ∧
 Vg_13 w ∧
 Vg_13 w ∧
 Vg_13 w ∧
 Vg_13 w ∧
 Vg_13 w ∧
 Vg_13 w ∧
 Vg_13 w ∧
 Vg_13 w ∧
 Vg_13 w ∧
 Vg_13 w ∧
 Vg_13 w ∧
 Vg_13 w ∧
 Vg_13 w ∧
 Vg_13 w ∧
 Vg_13 w ∧
 Vg_13 w ∧
 Vg_13 w ∧
 Vg_13 w ∧
 Vg_13 w ∧
 Vg_13 w ∧
 Vg_13 w ∧
 Vg_13 w ∧
 Vg_13 w ∧
 Vg_13 w ∧
 Vg_13 w ∧
 Vg_13 w ∧
 Vg_13 w ∧
 Vg_13 w ∧
 Vg_13 w ∧
 Vg_13 w ∧
 Vg_13 w ∧
 Vg_13 w ∧
 Vg_13 w ∧
 Vg_13 w ∧
 Vg_13 w ∧
 Vg_13 w ∧
 Vg_13 w ∧
 Vg_13 w ∧
 Vg_13 w ∧
 Vg_13 w ∧
 Vg_13 w ∧
 Vg_13 w ∧
 Vg_13 w ∧
 Vg_13 w ∧
 Vg_13 w ∧
 Vg_13 w ∧
 Vg_13 w ∧
 Vg_13 w ∧
 Vg_13 w ∧
 Vg_13 w ∧
 Vg_13 w ∧
 Vg_13 w ∧
 Vg_13 w ∧
 Vg_13 w ∧
 Vg_13 w ∧
 Vg_13 w ∧
 Vg_13 w ∧
 Vg_13 w ∧
 Vg_13 w ∧
 Vg_13 w ∧
 Vg_13 w ∧
 Vg_13 w ∧
 Vg_13 w ∧
 Vg_13 w ∧
 Vg_13 w ∧
 Vg_13 w ∧
 Vg_13 w ∧
 Vg_13 w ∧
 Vg_13 w ∧
 Vg_13 w ∧
 Vg_13 w ∧
 Vg_13 w ∧
 Vg_13 w ∧
 Vg_13 w ∧
 Vg_13 w ∧
 Vg_13 w ∧
 Vg_13 w ∧
 Vg_13 w ∧
 Vg_13 w ∧
 Vg_13 w ∧
 Vg_13 w ∧
 Vg_13 w ∧
 Vg_13 w ∧
 Vg_13 w ∧
 Vg_13 w ∧
 Vg_13 w ∧
 Vg_13 w ∧
 Vg_13 w ∧
 Vg_13 w ∧
 Vg_13 w ∧
 Vg_13 w ∧
 Vg_13 w ∧
 Vg_13 w ∧
 Vg_13 w ∧
 Vg_13 w ∧
 Vg_13 w ∧
 Vg_13 w ∧
 Vg_13 w ∧
 Vg_13 w ∧
 Vg_13 w ∧
 Vg_13 w ∧
 Vg_13 w ∧
 Vg_13 w ∧
 Vg_13 w ∧
 Vg_13 w ∧
 Vg_13 w ∧
 Vg_13 w ∧
 Vg_13 w ∧
 Vg_13 w ∧
 Vg_13 w ∧
 Vg_13 w ∧
 Vg_13 w ∧
 Vg_13 w ∧
 Vg_13 w ∧
 Vg_13 w ∧
 Vg_13 w ∧
 Vg_13 w ∧
 Vg_13 w ∧
 Vg_13 w ∧
 Vg_13 w ∧
 Vg_13 w ∧
 Vg_13 w ∧
 Vg_13 w ∧
 Vg_13 w ∧
 Vg_13 w ∧
 Vg_13 w ∧
 Vg_13 w ∧
 Vg_13 w ∧
 Vg_13 w ∧
 Vg_13 w ∧
 Vg_13 w ∧
 Vg_13 w ∧
 Vg_13 w ∧
 (.bool false:Value)=v):Calls Tryz.prog 114 #[.string ⟨(([101]:List UInt8)).toArray⟩] w (Vc.Ret v w) :=
 Vc.zb (ze [46,66,86,93,115,119,129,130,131,143] (by kernel_rfl)) [] globs 200 Tryz.func114 (b:=(Tryz.f114.body).getD .skip) (by kernel_rfl) [.cv (.one (.str [101]))] ⟨0,0,0,2,0,0,0⟩ [.glo 0 12,.glo 1 13] (Vc.envOf [] [] [] [(12,0),(13,0)]) (by kernel_rfl) (Vc.zl (by kernel_rfl) rfl (Vc.zl (by kernel_rfl) rfl Vc.zc)) (by kernel_rfl) (by kernel_rfl) h
end Go.Proofs.YtkjmhcejdiglfacGreatDoor
