import Derived.Test.YtdjgnbkclcjiiaaGreatDoorOl
import Derived.Test.YtdjgnbkclcjiiaaGreatDoorRv
set_option linter.unusedVariables false
set_option linter.unusedSimpArgs false
set_option maxRecDepth 4000
namespace Go.Proofs.YtdjgnbkclcjiiaaGreatDoor
open Go Go.RowKit Go.ChangeShapes Go.WideShapes Go.ChangeAt Go.Joins Vc
def inc1(n:Int):List Value := [.int .i64 n]
theorem zin(n:Int):(inc1 n).length=1:=rfl
section
variable {H:Type} {enk:TypeId × Value→H} {w:World} {base:Nat} {sp:Nat→Bool} {held:Bool}
theorem zfv{fuel:Nat}{cs:List Value}{x:DataW H × List MemPlace}(h:DataW.trod enk Tryz.prog w base sp held fuel 3 cs=some x):∃ z:Int,cs=inc1 z∧(-9223372036854775808≤z∧z≤9223372036854775807):=by
 obtain⟨a,q,_,wa⟩:=DataW.trod_int Tryz.underlying3 h;exact⟨a,q,by simp [Lit.wf,IntKind.min,IntKind.max,IntKind.signed,IntKind.bits]at wa;omega⟩
theorem zgv{P:Program}(hsp:∀ b,sp b=true)(hP:P=Tryz.prog){r:Reach}{b0:Nat}{v:Value}{d:DataW H}{ps:List MemPlace}(hval:Value.okWide P w r b0 23 v)(hd:DataW.Trod enk P w base sp held 23 v d ps)(hw:Wt P 23 d) :
  ∃ l:List Int,SlAt w v 1 (l.flatMap inc1)∧(∀ z∈l,-9223372036854775808≤z∧z≤9223372036854775807)∧l.length < 4611686018427387904:=by
 have hu:P.underlying 23=some (.slice 3):=by rw [hP];kernel_rfl
 have hc:P.cellsOf 3=1:=by rw [hP];kernel_rfl
 have hb:0 < P.bytesOf 3:=by rw [hP];exact of_decide_eq_true (by kernel_rfl)
 have hE:∀ fuel cs x,DataW.trod enk P w base sp held fuel 3 cs=some x→Wt P 3 x.1→∃ z:Int,cs=inc1 z∧(-9223372036854775808≤z∧z≤9223372036854775807):=fun fuel cs x h hw=>by rw [hP]at h;exact zfv h
 clear hP;obtain⟨a',len',cap',rfl⟩:=okWide_slice hu hval;obtain⟨fuel,hf⟩:=hd;obtain⟨l,h1,h2,h3⟩:=zqx hsp hu hc (by omega) zin (fun n cs x _=>hE n cs x) hf hw hb;exact⟨l,h1,h2,zhn h3⟩
end
end Go.Proofs.YtdjgnbkclcjiiaaGreatDoor
