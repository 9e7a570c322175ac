import Derived.Test.YtdjgnbkclcjiiaaGreatDoorSa
set_option linter.unusedVariables false
set_option linter.unusedSimpArgs false
set_option maxRecDepth 4000
namespace Go.Proofs.YtdjgnbkclcjiiaaGreatDoor
open Go Go.RowKit Go.Proofs Wk
open Vc (SlAt OV iteI Vl zrc zf)
theorem zzm(s:Sn):∀ v∈snc s,v.oneCell'=true:=fun v hv=>by
 simp only [snc,List.mem_cons,List.not_mem_nil,or_false]at hv;rcases hv with rfl | rfl | rfl <;> rfl
section
variable {out:List Sn} {l0:List OV} {init:Bool} {fresh now:Int} {w:World} {QM:World→Value→Prop} (hb:∀ s∈out,0≤s.t∧s.t≤1073741824) (hw:0≤now∧now≤1073741824) (hf:0≤fresh∧fresh≤1000) (hn:out.length≤4000) (hne:init=true→out ≠ [])
 (hQ:∀ b c n a w' r,Below w.heap.size w w'→Vc.RowOk w.heap.size b c n a (out.flatMap snc) 3 61 w'→r=(init && gapsB fresh out && decide (now - endT out≤fresh))→QM w' (.tuple #[Vc.ownV b c n a,.bool r]))
include hb hw hf hn hne hQ
end
end Go.Proofs.YtdjgnbkclcjiiaaGreatDoor
