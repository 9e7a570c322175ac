import Derived.Test.YtdjgnbkclcjiiaaGreatDoorRc
import Derived.Test.YtdjgnbkclcjiiaaGreatDoorWq
import Derived.Test.YtdjgnbkclcjiiaaGreatDoorM5
import Derived.Test.YtdjgnbkclcjiiaaGreatDoorM6
set_option linter.unusedVariables false
set_option linter.unusedSimpArgs false
set_option maxRecDepth 100000
namespace Go.Proofs.YtdjgnbkclcjiiaaGreatDoor
open Go Go.RowKit Go.Proofs Wk
theorem ztx(t:TypeId)(ht:t≠176)(v:Value)(w:World):(Instr.typeAssert (.iface t v) 98 176 true).run Tryz.prog w=.ok (.tuple #[.agg #[.nilIface],.bool false]) w:=by
 have hz:=(Vc.zm (P:=Tryz.prog) (t:=176) (z := .agg [.nili]) (by kernel_rfl) (Vc.envOf [] [] [] [] []) (fun _=>0) w ⟨0,0,0,0,0,0,0⟩).1;simp [Instr.typeAssert,run_underlying (show Tryz.prog.underlying 176=_ from Tryz.underlying176),ht,hz,Vc.CV.den,Vc.SV.den,Vc.At.den]
theorem zux(t:TypeId)(ht:t≠180)(v:Value)(w:World):(Instr.typeAssert (.iface t v) 98 180 true).run Tryz.prog w=.ok (.tuple #[.agg #[.nilIface,.nilIface],.bool false]) w:=by
 have hz:=(Vc.zm (P:=Tryz.prog) (t:=180) (z := .agg [.nili,.nili]) (by kernel_rfl) (Vc.envOf [] [] [] [] []) (fun _=>0) w ⟨0,0,0,0,0,0,0⟩).1;simp [Instr.typeAssert,run_underlying (show Tryz.prog.underlying 180=_ from Tryz.underlying180),ht,hz,Vc.CV.den,Vc.SV.den,Vc.At.den]
theorem zcz(t:TypeId)(ht:t≠181)(v:Value)(w:World):(Instr.typeAssert (.iface t v) 98 181 true).run Tryz.prog w=.ok (.tuple #[.agg #[.nilIface,.nilIface],.bool false]) w:=by
 have hz:=(Vc.zm (P:=Tryz.prog) (t:=181) (z := .agg [.nili,.nili]) (by kernel_rfl) (Vc.envOf [] [] [] [] []) (fun _=>0) w ⟨0,0,0,0,0,0,0⟩).1;simp [Instr.typeAssert,run_underlying (show Tryz.prog.underlying 181=_ from Tryz.underlying181),ht,hz,Vc.CV.den,Vc.SV.den,Vc.At.den]
theorem zrw(v:Value)(w:World):(Instr.typeAssert (.iface 183 v) 98 183 true).run Tryz.prog w=.ok (.tuple #[v,.bool true]) w:=by
 simp [Instr.typeAssert,run_underlying (show Tryz.prog.underlying 183=_ from Tryz.underlying183)]
set_option maxHeartbeats 4000000 in
theorem zvx{w:World}{op ask wi cm n a b1 b2:Int}{s:ByteArray}{sa:Option Addr}{sl sc:Nat}{p:Value}
  (hq:∀ w',Below w.heap.size w w'→Calls Tryz.prog 132 #[.agg #[.int .i64 op,.int .i64 ask,.string s,.int .i64 wi,.int .i64 cm,.int .i64 n,.slice sa sl sc],p] w' (Vc.Ret (.agg #[.int .i64 b1,.int .i64 b2]) w'))
  (ha:∀ w',Below w.heap.size w w'→Calls Tryz.prog 128 #[.agg #[.int .i64 b1,.int .i64 b2],.int .i64 cm,.int .i64 n] w' (Vc.Ret (.int .i64 a) w')) :
  Calls Tryz.prog 68 #[.iface 183 (.agg #[.int .i64 op,.int .i64 ask,.string s,.int .i64 wi,.int .i64 cm,.int .i64 n,.slice sa sl sc]),.func (.func 132) #[] #[p]] w (Vc.Ret (.int .i64 a) w):=by
 have K:=Kn.start w;have n1:=ztx 183 (by decide);have n2:=zux 183 (by decide);have n3:=zcz 183 (by decide)
 go_enter Tryz.func68,Tryz.ntmps68
 go_wp2_with (first | simp only [n1] | simp only [n2] | simp only [n3] | simp only [zrw])
 refine znp 11 (by repeat (first | exact K | apply Kn.push | apply Kn.drew)) (by kernel_rfl) (by kernel_rfl) ?_;clear K;intro W KB hG;simp only [OpenedG,World.size_alloc,World.size_drew,World.size_setCell]at hG;simp only [List.take_succ_cons,List.take_zero,List.drop_succ_cons,List.drop_zero]
 repeat (quiet_step (first | (go_at_call 132;exact zsx (hq _ (KB.grown ⟨_,rfl⟩).below)) | (go_at_call 128;exact zsx (ha _ (KB.grown ⟨_,rfl⟩).below))))
 refine wpQuiet_nil ?_;clear KB hG;intro wN K hO;simp only [Opened,World.size_alloc,World.size_drew,World.size_setCell]at hO
 go_wp2
 go_ret
 exact⟨rfl,by have B:=K.below;go_grown⟩
end Go.Proofs.YtdjgnbkclcjiiaaGreatDoor
