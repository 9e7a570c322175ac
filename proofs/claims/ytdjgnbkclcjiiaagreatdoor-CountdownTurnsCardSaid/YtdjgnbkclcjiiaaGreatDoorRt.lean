import Derived.Test.YtdjgnbkclcjiiaaGreatDoorRc
import Derived.Test.YtdjgnbkclcjiiaaGreatDoorWq
import Derived.Test.YtdjgnbkclcjiiaaGreatDoorM5
import Derived.Test.YtdjgnbkclcjiiaaGreatDoorM6
set_option linter.unusedVariables false
set_option linter.unusedSimpArgs false
set_option maxRecDepth 100000
namespace Go.Proofs.YtdjgnbkclcjiiaaGreatDoor
open Go Go.RowKit Go.Proofs Wk
theorem zvz(t:TypeId)(ht:t≠176)(v:Value)(w:World):(Instr.typeAssert (.iface t v) 98 176 true).run Tryz.prog w=.ok (.tuple #[.agg #[.nilIface],.bool false]) w:=by
 have hz:=(Vc.zp (P:=Tryz.prog) (t:=176) (z := .agg [.nili]) (by kernel_rfl) (Vc.envOf [] [] [] [] []) (fun _=>0) w ⟨0,0,0,0,0,0,0⟩).1;simp [Instr.typeAssert,run_underlying (show Tryz.prog.underlying 176=_ from Tryz.underlying176),ht,hz,Vc.CV.den,Vc.SV.den,Vc.At.den]
theorem zwz(t:TypeId)(ht:t≠180)(v:Value)(w:World):(Instr.typeAssert (.iface t v) 98 180 true).run Tryz.prog w=.ok (.tuple #[.agg #[.nilIface,.nilIface],.bool false]) w:=by
 have hz:=(Vc.zp (P:=Tryz.prog) (t:=180) (z := .agg [.nili,.nili]) (by kernel_rfl) (Vc.envOf [] [] [] [] []) (fun _=>0) w ⟨0,0,0,0,0,0,0⟩).1;simp [Instr.typeAssert,run_underlying (show Tryz.prog.underlying 180=_ from Tryz.underlying180),ht,hz,Vc.CV.den,Vc.SV.den,Vc.At.den]
theorem zgba(t:TypeId)(ht:t≠181)(v:Value)(w:World):(Instr.typeAssert (.iface t v) 98 181 true).run Tryz.prog w=.ok (.tuple #[.agg #[.nilIface,.nilIface],.bool false]) w:=by
 have hz:=(Vc.zp (P:=Tryz.prog) (t:=181) (z := .agg [.nili,.nili]) (by kernel_rfl) (Vc.envOf [] [] [] [] []) (fun _=>0) w ⟨0,0,0,0,0,0,0⟩).1;simp [Instr.typeAssert,run_underlying (show Tryz.prog.underlying 181=_ from Tryz.underlying181),ht,hz,Vc.CV.den,Vc.SV.den,Vc.At.den]
theorem zty(v:Value)(w:World):(Instr.typeAssert (.iface 183 v) 98 183 true).run Tryz.prog w=.ok (.tuple #[v,.bool true]) w:=by
 simp [Instr.typeAssert,run_underlying (show Tryz.prog.underlying 183=_ from Tryz.underlying183)]
end Go.Proofs.YtdjgnbkclcjiiaaGreatDoor
