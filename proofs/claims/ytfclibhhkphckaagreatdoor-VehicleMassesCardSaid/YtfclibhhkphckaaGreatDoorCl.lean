import Derived.Test.YtfclibhhkphckaaGreatDoorProg
import Derived.Shelf.RegionOpenPlain
import Derived.WalkKit
import Derived.Deep.LoopGhost
import Derived.Lib.Walk
import Derived.Lib.SliceRun
import Derived.Lib.LazyBuf
import Derived.Below
set_option linter.unusedVariables false
set_option linter.unusedSimpArgs false
set_option linter.unusedSimpArgs false
namespace Go.Proofs.YtfclibhhkphckaaGreatDoor
open Go Go.RowKit Go.Proofs Go.Shelf Go.Lib
theorem zxea:Tryz.prog.underlying 22=some (.slice 40):=by kernel_rfl
theorem ztha:(Tryz.prog.info? 40).map (fun i=>(i.zero,i.size,i.bytes))=some (some (.agg #[.string ⟨#[]⟩,.int .i64 0,.int .i64 0,.int .i64 0,.int .i64 0,.slice none 0 0]),6,72):=by kernel_rfl
set_option maxHeartbeats 2000000 in
set_option maxRecDepth 100000 in
theorem zyea(d:Addr)(n c:Nat)(cs:List Value)(w:World)(hl:cs.length=n * 6)(hbig:n * 72≤140737488355328)(h1:∀ u∈cs,u.oneCell'=true)(hc:∀ j u,cs[j]? = some u→w.cell? (d.add j)=some u) :
  Calls Tryz.prog 24 #[.slice (some d) n c] w fun e w'=>∃ v',e=.returned v'∧w'.ownsRow w.heap.size 40 6 v' n cs∧v' ≠ .slice none 0 0∧Below w.heap.size w w':=by
 have mixed:Tryz.prog.follows Departure.mixedOrders=true:=by kernel_rfl
 obtain⟨i0,hi,hi2⟩:=Option.map_eq_some_iff.1 ztha;have hz0:i0.zero=some (.agg #[.string ⟨#[]⟩,.int .i64 0,.int .i64 0,.int .i64 0,.int .i64 0,.slice none 0 0]):=by injection hi2
 have hz1:i0.size=6:=by injection hi2 with _ h;injection h
 have hz2:i0.bytes=72:=by injection hi2 with _ h;injection h
 have q:∀ (w:World) (a:Option Addr) (n c n' c':Nat),(binOp .eql 22 (.slice a n c) (.slice none n' c')).run Tryz.prog w=.ok (.bool a.isNone) w:=fun w a n c n' c'=>Lib.run_eql_slice_nil w _ _ a n c n' c' zxea;have u22:∀ w,Sem.run Tryz.prog (underlying 22) w=.ok (TypeDesc.slice 40) w:=run_underlying zxea;have A:Aside (∀ j u,cs[j]? = some u→w.cell? (d.add j)=some u):=hc;clear hc
 go_enter Tryz.func24,Tryz.ntmps24
 go_wp2_with (at_builtin;refine wpList_append_own _ rfl _ _ 22 rfl w.heap.size 40 i0 (.agg #[.string ⟨#[]⟩,.int .i64 0,.int .i64 0,.int .i64 0,.int .i64 0,.slice none 0 0]) 6 72 zxea hi hz0 hz1 hz2 rfl (by decide) _ _ _ rfl (World.ownsRow_made w #[] 0 (Nat.le_refl _) (Nat.zero_le _) rfl) d n c cs rfl ?qc1 ?qc2 ?qc3 ?qc4 ?qc5 ?qc6 ?_)
 case qc1=>exact hl
 case qc2 =>
  intro j u hj;exact Lib.cell?_alloc_some _ (A.out j u hj)
 case qc3=>exact h1
 case qc4=>unfold maxLen;omega
 case qc5=>omega
 case qc6=>simp
 intro v' w1 hown hgrow hnil
 go_wp2
 go_ret
 refine⟨v',rfl,by simpa using hown, ?_, ?_⟩
 ·exact hnil
 ·exact ((Below.refl _ w).alloc (Nat.le_refl _) _).grown hgrow (by simp) (by intro k hk;simp [Value.ownBlock]at hk;omega)
theorem zlca:Tryz.prog.underlying 38=some (.slice 42):=by kernel_rfl
theorem zuha:(Tryz.prog.info? 42).map (fun i=>(i.zero,i.size,i.bytes))=some (some (.agg #[.string ⟨#[]⟩,.int .i64 0,.int .i64 0,.int .i64 0,.int .i64 0,.int .i64 0,.int .i64 0,.int .i64 0,.int .i64 0,.int .i64 0,.int .i64 0]),11,96):=by kernel_rfl
set_option maxHeartbeats 2000000 in
set_option maxRecDepth 100000 in
theorem zzea(d:Addr)(n c:Nat)(cs:List Value)(w:World)(hl:cs.length=n * 11)(hbig:n * 96≤140737488355328)(h1:∀ u∈cs,u.oneCell'=true)(hc:∀ j u,cs[j]? = some u→w.cell? (d.add j)=some u) :
  Calls Tryz.prog 25 #[.slice (some d) n c] w fun e w'=>∃ v',e=.returned v'∧w'.ownsRow w.heap.size 42 11 v' n cs∧v' ≠ .slice none 0 0∧Below w.heap.size w w':=by
 have mixed:Tryz.prog.follows Departure.mixedOrders=true:=by kernel_rfl
 obtain⟨i0,hi,hi2⟩:=Option.map_eq_some_iff.1 zuha;have hz0:i0.zero=some (.agg #[.string ⟨#[]⟩,.int .i64 0,.int .i64 0,.int .i64 0,.int .i64 0,.int .i64 0,.int .i64 0,.int .i64 0,.int .i64 0,.int .i64 0,.int .i64 0]):=by injection hi2
 have hz1:i0.size=11:=by injection hi2 with _ h;injection h
 have hz2:i0.bytes=96:=by injection hi2 with _ h;injection h
 have q:∀ (w:World) (a:Option Addr) (n c n' c':Nat),(binOp .eql 38 (.slice a n c) (.slice none n' c')).run Tryz.prog w=.ok (.bool a.isNone) w:=fun w a n c n' c'=>Lib.run_eql_slice_nil w _ _ a n c n' c' zlca;have u22:∀ w,Sem.run Tryz.prog (underlying 38) w=.ok (TypeDesc.slice 42) w:=run_underlying zlca;have A:Aside (∀ j u,cs[j]? = some u→w.cell? (d.add j)=some u):=hc;clear hc
 go_enter Tryz.func25,Tryz.ntmps25
 go_wp2_with (at_builtin;refine wpList_append_own _ rfl _ _ 38 rfl w.heap.size 42 i0 (.agg #[.string ⟨#[]⟩,.int .i64 0,.int .i64 0,.int .i64 0,.int .i64 0,.int .i64 0,.int .i64 0,.int .i64 0,.int .i64 0,.int .i64 0,.int .i64 0]) 11 96 zlca hi hz0 hz1 hz2 rfl (by decide) _ _ _ rfl (World.ownsRow_made w #[] 0 (Nat.le_refl _) (Nat.zero_le _) rfl) d n c cs rfl ?qc1 ?qc2 ?qc3 ?qc4 ?qc5 ?qc6 ?_)
 case qc1=>exact hl
 case qc2 =>
  intro j u hj;exact Lib.cell?_alloc_some _ (A.out j u hj)
 case qc3=>exact h1
 case qc4=>unfold maxLen;omega
 case qc5=>omega
 case qc6=>simp
 intro v' w1 hown hgrow hnil
 go_wp2
 go_ret
 refine⟨v',rfl,by simpa using hown, ?_, ?_⟩
 ·exact hnil
 ·exact ((Below.refl _ w).alloc (Nat.le_refl _) _).grown hgrow (by simp) (by intro k hk;simp [Value.ownBlock]at hk;omega)
set_option maxHeartbeats 1000000 in
theorem zlu(n c:Nat)(w:World):Calls Tryz.prog 25 #[.slice none n c] w fun e w'=>e=.returned (.slice none 0 0)∧w'=w:=by
 have mixed:Tryz.prog.follows Departure.mixedOrders=true:=by kernel_rfl
 have q:∀ (w:World) (a:Option Addr) (n c n' c':Nat),(binOp .eql 38 (.slice a n c) (.slice none n' c')).run Tryz.prog w=.ok (.bool a.isNone) w:=fun w a n c n' c'=>Lib.run_eql_slice_nil w _ _ a n c n' c' zlca
 go_enter Tryz.func25,Tryz.ntmps25
 go_wp2
 go_ret
 exact⟨rfl,rfl⟩
theorem zafa:Tryz.prog.underlying 26=some (.slice 60):=by kernel_rfl
theorem zvha:(Tryz.prog.info? 60).map (fun i=>(i.zero,i.size,i.bytes))=some (some (.agg #[.int .i64 0,.int .i64 0,.int .i64 0]),3,24):=by kernel_rfl
set_option maxHeartbeats 2000000 in
set_option maxRecDepth 100000 in
theorem zbfa(d:Addr)(n c:Nat)(cs:List Value)(w:World)(hl:cs.length=n * 3)(hbig:n * 24≤140737488355328)(h1:∀ u∈cs,u.oneCell'=true)(hc:∀ j u,cs[j]? = some u→w.cell? (d.add j)=some u) :
  Calls Tryz.prog 23 #[.slice (some d) n c] w fun e w'=>∃ v',e=.returned v'∧w'.ownsRow w.heap.size 60 3 v' n cs∧v' ≠ .slice none 0 0∧Below w.heap.size w w':=by
 have mixed:Tryz.prog.follows Departure.mixedOrders=true:=by kernel_rfl
 obtain⟨i0,hi,hi2⟩:=Option.map_eq_some_iff.1 zvha;have hz0:i0.zero=some (.agg #[.int .i64 0,.int .i64 0,.int .i64 0]):=by injection hi2
 have hz1:i0.size=3:=by injection hi2 with _ h;injection h
 have hz2:i0.bytes=24:=by injection hi2 with _ h;injection h
 have q:∀ (w:World) (a:Option Addr) (n c n' c':Nat),(binOp .eql 26 (.slice a n c) (.slice none n' c')).run Tryz.prog w=.ok (.bool a.isNone) w:=fun w a n c n' c'=>Lib.run_eql_slice_nil w _ _ a n c n' c' zafa;have u22:∀ w,Sem.run Tryz.prog (underlying 26) w=.ok (TypeDesc.slice 60) w:=run_underlying zafa;have A:Aside (∀ j u,cs[j]? = some u→w.cell? (d.add j)=some u):=hc;clear hc
 go_enter Tryz.func23,Tryz.ntmps23
 go_wp2_with (at_builtin;refine wpList_append_own _ rfl _ _ 26 rfl w.heap.size 60 i0 (.agg #[.int .i64 0,.int .i64 0,.int .i64 0]) 3 24 zafa hi hz0 hz1 hz2 rfl (by decide) _ _ _ rfl (World.ownsRow_made w #[] 0 (Nat.le_refl _) (Nat.zero_le _) rfl) d n c cs rfl ?qc1 ?qc2 ?qc3 ?qc4 ?qc5 ?qc6 ?_)
 case qc1=>exact hl
 case qc2 =>
  intro j u hj;exact Lib.cell?_alloc_some _ (A.out j u hj)
 case qc3=>exact h1
 case qc4=>unfold maxLen;omega
 case qc5=>omega
 case qc6=>simp
 intro v' w1 hown hgrow hnil
 go_wp2
 go_ret
 refine⟨v',rfl,by simpa using hown, ?_, ?_⟩
 ·exact hnil
 ·exact ((Below.refl _ w).alloc (Nat.le_refl _) _).grown hgrow (by simp) (by intro k hk;simp [Value.ownBlock]at hk;omega)
end Go.Proofs.YtfclibhhkphckaaGreatDoor
