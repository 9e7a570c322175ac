import Derived.Test.YtdjgnbkclcjiiaaGreatDoorGm
import Derived.Lib.AppendIntMem
set_option linter.unusedVariables false
set_option linter.unusedSimpArgs false
namespace Go.Proofs.YtdjgnbkclcjiiaaGreatDoor
open Go Go.RowKit Go.ChangeShapes Go.WideShapes Go.ChangeAt Go.Joins
set_option maxRecDepth 100000 in
theorem zxea {W : World} (hL : laidMetH Tryz.prog Rows.countdownLeadsRow.laid W) : Lib.TabIs Tryz.prog W "internal/strconv.uint64pow10" .u64 Lib.pow10Tab := by
  have hr : Lib.VarReads Tryz.prog W "internal/strconv.uint64pow10" (Lib.tabData .u64 Lib.pow10Tab) := Lib.laidMet.reads (laidMetH_iff.1 hL).1 (List.mem_filter.2 ⟨List.mem_of_getElem? (i := 2) rfl, rfl⟩);obtain⟨g',t',cs,fuel,p,hg',ht',hvar,hd⟩:=hr;have hg : Tryz.prog.globalNamed "internal/strconv.uint64pow10" = some 4 := by kernel_rfl
  obtain rfl:=Option.some.inj (hg.symm.trans hg');have hty:(Tryz.prog.globals[4]?).map (·.type)=some 258:=by kernel_rfl
  obtain rfl:=Option.some.inj (hty.symm.trans ht');unfold Lib.TabIs;rw [hvar,← Lib.cells_of_tab (k := .u64) (zs:=Lib.pow10Tab) Tryz.underlying258 Tryz.underlying247 (by kernel_rfl) (by kernel_rfl) hd]
end Go.Proofs.YtdjgnbkclcjiiaaGreatDoor
