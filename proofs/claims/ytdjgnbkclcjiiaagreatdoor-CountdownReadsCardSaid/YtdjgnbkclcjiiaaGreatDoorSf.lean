import Derived.Test.YtdjgnbkclcjiiaaGreatDoorProg
import Derived.Shelf.Spec.SlicesInsertGrow
import Derived.Lib.AppendZerosOnto
import Derived.Laws.CopyRow
import Derived.Below
import Derived.Test.YtdjgnbkclcjiiaaGreatDoorSe
import Derived.Test.YtdjgnbkclcjiiaaGreatDoorSn
import Derived.Maps.AppendAt
section
set_option linter.unusedVariables false
set_option linter.unusedSimpArgs false
set_option linter.unusedSimpArgs false
namespace Go.Proofs.YtdjgnbkclcjiiaaGreatDoor
open Go Go.RowKit Go.Proofs Go.Shelf Go.Lib
theorem zlq:Tryz.prog.underlying 52=some (.slice 61):=by kernel_rfl
theorem zny:(Tryz.prog.info? 61).map (·.zero)=some (some (.agg #[.string ⟨#[]⟩,.int .i64 0,.int .i64 0])):=by kernel_rfl
theorem zxr:(Tryz.prog.info? 61).map (fun i=>(i.size,i.bytes))=some (3,32):=by kernel_rfl
theorem zli(w:World)(ty:TypeId)(g o dLen dCap:Nat)(a:Addr)(sLen sCap n:Nat)(cur:Array Value)(t:TypeId)(cs:List Value)
  (hg:w.heap[g]? = some (.cells cur t (0,0))) (hm:Nat.min sLen dLen=n) (hn:cs.length=n * 3)
  (hsrc:∀ j v,cs[j]? = some v→w.cell? (a.add j)=some v) (hfit:o + cs.length≤cur.size) (h1:∀ v∈cs,v.oneCell'=true) :
  (Builtin.copy_ #[52,52] ty #[.slice (some ⟨g,o,none⟩) dLen dCap,.slice (some a) sLen sCap]).run Tryz.prog w =
   .ok (goInt n) (w.setRow g (cur.toList.take o++cs++cur.toList.drop (o + cs.length)).toArray):=by
 have hl:=run_loadCells_list (P:=Tryz.prog) w a cs hsrc;have hst:=run_storeCells_at Tryz.prog g o t cs 0 cur w hg (by simpa using hfit) h1;obtain⟨i,hi,hi2⟩:=Option.map_eq_some_iff.1 zxr;have hs:i.size=3:=by injection hi2
 simp [Builtin.copy_,run_underlying zlq,Builtin.lenOf,Builtin.firstCells,sizeOf,typeInfo,hi,hs,hm,← hn,hl,hst]
theorem cellsAt{w:World}{b:Nat}{cur:Array Value}{t:TypeId}{fr:Nat × Nat}(h:w.heap[b]? = some (.cells cur t fr))(o:Nat)(cs:List Value)(n:Nat)(hc:(cur.toList.drop o).take n=cs):∀ j v,cs[j]? = some v→w.cell? ((⟨b,o,none⟩:Addr).add j)=some v:=by
 intro j v hj;have hadd:(⟨b,o,none⟩:Addr).add j=⟨b,o + j,none⟩:=by unfold Addr.add;split <;> simp_all
 rw [hadd];subst hc;rw [List.getElem?_take]at hj;split at hj
 ·rw [List.getElem?_drop]at hj;simp only [World.cell?,h];simpa using hj
 ·cases hj
set_option maxHeartbeats 4000000 in
set_option maxRecDepth 100000 in
theorem zmq(b c vb:Nat)(cur:Array Value)(xs vs:List Value)(w:World)(hc2:2≤c)(hcm:c≤maxLen)(hx:w.heap[b]? = some (.cells cur 61 (0,0)))(hcs:cur.size=c * 3)(hxs:cur.toList.take 3=xs)
  (hv:w.heap[vb]? = some (.cells vs.toArray 61 (0,0))) (hvl:vs.length=3) (hne:vb≠b) (h1x:∀ v∈xs,v.oneCell'=true) (h1v:∀ v∈vs,v.oneCell'=true) :
  Calls Tryz.prog 154 #[.slice (some ⟨b,0,none⟩) 1 c,.int .i64 0,.slice (some ⟨vb,0,none⟩) 1 1] w fun e w' =>
   e=.returned (.slice (some ⟨b,0,none⟩) 2 c)∧w'=w.drew.setRow b (vs++xs++cur.toList.drop 6).toArray:=by
 have hcz:c≤9223372036854775807:=by unfold maxLen at hcm;omega
 have hxl:xs.length=3:=by rw [← hxs,List.length_take,Array.length_toList,hcs];omega
 have mixed:Tryz.prog.follows Departure.mixedOrders=true:=by kernel_rfl
 have u52:=run_underlying (P:=Tryz.prog) zlq;have u3:Tryz.prog.underlying 3=some (.int .i64):=by kernel_rfl
 have ub:Tryz.prog.underlying 4=some .bool:=by kernel_rfl
 have w1:IntKind.i64.wrap 1=1:=by decide
 have hn1:¬ (c=1):=by omega
 have hn0:¬ (c=0):=by omega
 have hgt:¬ ((c:Int) < 2):=by omega
 have hov:∀ lb cb,(callFunc 168 #[.slice (some ⟨vb,0,none⟩) 1 1,.slice (some ⟨b,3,none⟩) lb cb]).run Tryz.prog w=.ok (.value (.bool false)) w:=fun lb cb=>by
  rw [run_callFunc_extern Tryz.func168 (by kernel_rfl) (by kernel_rfl) (by kernel_rfl) (e:=Extern.SlicesOverlaps.overlaps #[52,52] #[4]) (by kernel_rfl),
   Lib.run_overlaps_apart w 52 4 61 zlq 3 (fun w=>by
    obtain⟨i,hi,hi2⟩:=Option.map_eq_some_iff.1 zxr;have hs:i.size=3:=by injection hi2
    simp [sizeOf,typeInfo,hi,hs]) ⟨vb,0,none⟩ ⟨b,3,none⟩ 1 1 lb cb hne 61 61 3 (c * 3) (by simp [World.shape?,hv,hvl]) (by simp [World.shape?,hx,hcs]) (by omega) (by simp [World.frozen?,hv]) (by simp [World.frozen?,hv])]
  rfl
 have hcp1:∀ ty dc sc,(Builtin.copy_ #[52,52] ty #[.slice (some ⟨b,3,none⟩) 1 dc,.slice (some ⟨b,0,none⟩) 2 sc]).run Tryz.prog w.drew=.ok (goInt 1) (w.drew.setRow b (cur.toList.take 3++xs++cur.toList.drop (3 + xs.length)).toArray):=fun ty dc sc =>
  zli w.drew ty b 3 1 dc ⟨b,0,none⟩ 2 sc 1 cur _ xs hx rfl hxl (cellsAt (w:=w.drew) hx 0 xs 3 hxs) (by rw [hxl,hcs];omega) h1x
 obtain⟨W1,hW1⟩:∃ W1,W1=w.drew.setRow b (cur.toList.take 3++xs++cur.toList.drop (3 + xs.length)).toArray:=⟨_,rfl⟩
 have hW1b:W1.heap[b]? = some (.cells (cur.toList.take 3++xs++cur.toList.drop (3 + xs.length)).toArray 61 (0,0)):=by
  rw [hW1];exact setRow_heap w.drew b cur _ _ _ hx
 have hW1v:W1.heap[vb]? = some (.cells vs.toArray 61 (0,0)):=by
  rw [hW1,setRow_other w.drew b vb _ hne];exact hv
 have hcp2:∀ ty dc,(Builtin.copy_ #[52,52] ty #[.slice (some ⟨b,0,none⟩) 2 dc,.slice (some ⟨vb,0,none⟩) 1 1]).run Tryz.prog W1=.ok (goInt 1) (w.drew.setRow b (vs++xs++cur.toList.drop 6).toArray):=fun ty dc=>by
  rw [zli W1 ty b 0 2 dc ⟨vb,0,none⟩ 1 1 1 _ _ vs hW1b rfl hvl (cellsAt hW1v 0 vs 3 (by simp [← hvl])) (by simp [hvl,hxl];omega) h1v];rw [hW1,setRow_setRow]
  have e:(cur.toList.take 3++xs++cur.toList.drop (3 + xs.length)).toArray.toList.drop (0 + vs.length)=xs++cur.toList.drop 6:=by
   rw [hxl,hvl];have h3:(cur.toList.take 3).length=3:=by rw [hxs,hxl]
   show (cur.toList.take 3++xs++cur.toList.drop 6).drop 3=_;rw [List.append_assoc,List.drop_append_of_le_length (by omega),List.drop_of_length_le (by omega)];rfl
  rw [e];simp
 rw [← hW1]at hcp1;clear hW1 hW1b hW1v hx hxs hcs hv;obtain⟨F,hF⟩:∃ F,F=w.drew.setRow b (vs++xs++cur.toList.drop 6).toArray:=⟨_,rfl⟩;rw [← hF]at hcp2 ⊢;clear hF
 go_enter Tryz.func154,Tryz.ntmps154
 go_wp2_with (simp only [hov])
 go_region_law_o (refine step_copy_runI rfl _ _ 52 52 rfl _ _ (by simp [Act.eval,Act.put]) (by simp [Act.eval,Act.put]) (hcp1 _ _ _) ?_)
 go_wp2_with (at_builtin;refine wpList_copy_runI _ rfl _ _ 52 52 rfl _ _ rfl rfl (hcp2 _ _) ?_)
 go_ret
 exact⟨rfl,rfl⟩
theorem zuf(z:Value)(hz:z.cells.size=3)(n:Nat):(Builtin.zeroCells z.cells n).size=n * 3:=by simp [Builtin.zeroCells,hz]
set_option maxHeartbeats 4000000 in
set_option maxRecDepth 100000 in
theorem zyr(b vb:Nat)(cur:Array Value)(xs vs:List Value)(w:World)(hx:w.heap[b]? = some (.cells cur 61 (0,0)))(hcs:cur.size=3)(hxs:cur.toList=xs)
    (hv:w.heap[vb]? = some (.cells vs.toArray 61 (0,0))) (hvl:vs.length=3) (h1x:∀ v∈xs,v.oneCell'=true) (h1v:∀ v∈vs,v.oneCell'=true) :
    Calls Tryz.prog 154 #[.slice (some ⟨b,0,none⟩) 1 1,.int .i64 0,.slice (some ⟨vb,0,none⟩) 1 1] w fun e w' =>
      ∃ (G:Nat) (cur':List Value),2≤G∧G≤maxLen∧cur'.length=G * 3∧cur'.take 6=vs++xs∧e=.returned (.slice (some ⟨w.heap.size,0,none⟩) 2 G) ∧
        w'.heap[w.heap.size]? = some (.cells cur'.toArray 61 (0,0))∧w'.os=w.os∧w'.tape=w.tape∧w'.output=w.output∧w'.heap.size=w.heap.size + 1∧∀ x,x < w.heap.size→w'.heap[x]? = w.heap[x]? := by
  have hbw:b < w.heap.size:=by
    rcases Nat.lt_or_ge b w.heap.size with h | h
    · exact h
    · rw [Array.getElem?_eq_none h]at hx;cases hx
  have hvw:vb < w.heap.size:=by
    rcases Nat.lt_or_ge vb w.heap.size with h | h
    · exact h
    · rw [Array.getElem?_eq_none h]at hv;cases hv
  have hxl:xs.length=3:=by rw [← hxs,Array.length_toList,hcs]
  obtain⟨i0,hi0,hi2⟩:=Option.map_eq_some_iff.1 zxr;have hzs:i0.size=3:=by injection hi2
  have hzb:i0.bytes=32:=by injection hi2
  have hz0:i0.zero=some (.agg #[.string ⟨#[]⟩,.int .i64 0,.int .i64 0]):=by
    have:=zny
    rw [hi0]at this;simpa using this
  have mixed:Tryz.prog.follows Departure.mixedOrders=true:=by kernel_rfl
  have u52:=run_underlying (P:=Tryz.prog) zlq;have u3:Tryz.prog.underlying 3=some (.int .i64):=by kernel_rfl
  have ub:Tryz.prog.underlying 4=some .bool:=by kernel_rfl
  have w1:IntKind.i64.wrap 1=1:=by decide
  have w2:IntKind.i64.wrap 2=2:=by decide
  have w0:IntKind.i64.wrap 0=0:=by decide
  obtain⟨G,hG⟩:∃ G,G=grownCap w 2 1 61:=⟨_,rfl⟩;have hG2:2≤G:=by rw [hG];exact grownCap_ge w _ _ _
  have hGm:G≤maxLen:=by rw [hG];exact grownCap_le_maxLen w 2 1 _ (by decide)
  obtain⟨ROW,hROW⟩:∃ ROW:Array Value,ROW=Builtin.zeroCells (Value.agg #[.string ⟨#[]⟩,.int .i64 0,.int .i64 0]).cells 2++Builtin.zeroCells (Value.agg #[.string ⟨#[]⟩,.int .i64 0,.int .i64 0]).cells (G - 2):=⟨_,rfl⟩
  have hRl:ROW.size=G * 3:=by
    rw [hROW,Array.size_append,zuf _ rfl,zuf _ rfl];omega
  have hold:(Builtin.firstCells i0.size 0 (.slice (some ⟨b,0,none⟩) 0 1)).run Tryz.prog w.drew=.ok ([]:List Value).toArray w.drew :=
    run_firstCells_some w.drew i0.size 0 ⟨b,0,none⟩ 0 1 [] (by simp) (fun j v hj=>by simp at hj)
  have hrz:∀ ty,(Builtin.append_ #[52,3] ty #[.slice (some ⟨b,0,none⟩) 0 1,.int .i64 2]).run Tryz.prog w =
      .ok (.slice (some ⟨w.heap.size,0,none⟩) 2 G) (w.drew.alloc (.cells ROW 61)):=fun ty=>by
    have h:=Lib.run_append_grow_zeros w 52 3 ty 61 i0 _ .i64 .i64 zlq u3 hi0 hz0 (some ⟨b,0,none⟩) 0 1 [] hold 2 (by omega) (by omega) (by omega) (by decide) (by rw [hzb];omega) (by rw [hzb];decide);rw [hG,hROW,hG];simpa using h
  obtain⟨W1,hW1⟩:∃ W1,W1=w.drew.alloc (.cells ROW 61):=⟨_,rfl⟩;have h1h:W1.heap=w.heap.push (.cells ROW 61 (0,0)):=by rw [hW1];rfl
  have h1N:W1.heap[w.heap.size]? = some (.cells ROW 61 (0,0)):=by rw [h1h,Array.getElem?_push_size]
  have h1o:∀ x,x < w.heap.size→W1.heap[x]? = w.heap[x]? := fun x hx=>by rw [h1h,Array.getElem?_push,if_neg (Nat.ne_of_lt hx)]
  have hcp1:∀ ty dc,(Builtin.copy_ #[52,52] ty #[.slice (some ⟨w.heap.size,0,none⟩) 2 dc,.slice (some ⟨vb,0,none⟩) 1 1]).run Tryz.prog W1=.ok (goInt 1) (W1.setRow w.heap.size (ROW.toList.take 0++vs++ROW.toList.drop (0 + vs.length)).toArray):=fun ty dc =>
    zli W1 ty w.heap.size 0 2 dc ⟨vb,0,none⟩ 1 1 1 ROW _ vs h1N rfl hvl (cellsAt (w:=W1) ((h1o vb hvw).trans hv) 0 vs 3 (by simp [← hvl])) (by omega) h1v
  obtain⟨W2,hW2⟩:∃ W2,W2=W1.setRow w.heap.size (ROW.toList.take 0++vs++ROW.toList.drop (0 + vs.length)).toArray:=⟨_,rfl⟩;rw [← hW2]at hcp1;have h2N:W2.heap[w.heap.size]? = some (.cells (ROW.toList.take 0++vs++ROW.toList.drop (0 + vs.length)).toArray 61 (0,0)):=by rw [hW2];exact setRow_heap W1 _ ROW _ _ _ h1N
  have h2o:∀ x,x < w.heap.size→W2.heap[x]? = w.heap[x]? := fun x hx=>by rw [hW2,setRow_other W1 _ x _ (Nat.ne_of_lt hx)];exact h1o x hx
  have hcp2:∀ ty dc,(Builtin.copy_ #[52,52] ty #[.slice (some ⟨w.heap.size,3,none⟩) 1 dc,.slice (some ⟨b,0,none⟩) 1 1]).run Tryz.prog W2.drew=.ok (goInt 1) (W2.drew.setRow w.heap.size ((ROW.toList.take 0++vs++ROW.toList.drop (0 + vs.length)).toArray.toList.take 3++xs++(ROW.toList.take 0++vs++ROW.toList.drop (0 + vs.length)).toArray.toList.drop (3 + xs.length)).toArray):=fun ty dc =>
    zli W2.drew ty w.heap.size 3 1 dc ⟨b,0,none⟩ 1 1 1 _ _ xs h2N rfl hxl (cellsAt (w:=W2.drew) ((h2o b hbw).trans hx) 0 xs 3 (by rw [List.drop_zero,hxs,← hxl,List.take_length])) (by simp [hvl,hRl];omega) h1x
  obtain⟨W3,hW3⟩:∃ W3,W3=W2.drew.setRow w.heap.size ((ROW.toList.take 0++vs++ROW.toList.drop (0 + vs.length)).toArray.toList.take 3++xs++(ROW.toList.take 0++vs++ROW.toList.drop (0 + vs.length)).toArray.toList.drop (3 + xs.length)).toArray:=⟨_,rfl⟩;rw [← hW3]at hcp2
  have h3N:W3.heap[w.heap.size]? = some (.cells (vs++xs++ROW.toList.drop 6).toArray 61 (0,0)):=by
    rw [hW3,setRow_heap W2.drew _ _ _ _ _ h2N];have e1:(ROW.toList.take 0++vs++ROW.toList.drop (0 + vs.length)).toArray.toList=vs++ROW.toList.drop 3:=by simp [hvl]
    rw [e1,List.take_append_of_le_length (by omega),List.take_of_length_le (by omega),hxl,List.drop_append,List.drop_of_length_le (by omega),hvl,List.drop_drop];simp
  have h3o:∀ x,x < w.heap.size→W3.heap[x]? = w.heap[x]? := fun x hx=>by rw [hW3,setRow_other W2.drew _ x _ (Nat.ne_of_lt hx)];exact h2o x hx
  have h3s:W3.heap.size=w.heap.size + 1:=by
    have e1:W3.heap.size=W1.heap.size:=by rw [hW3,hW2];simp [World.setRow]
    rw [e1,h1h,Array.size_push]
  have h3t:W3.os=w.os∧W3.tape=w.tape∧W3.output=w.output:=by rw [hW3,hW2,hW1];exact⟨rfl,rfl,rfl⟩
  rw [← hW1]at hrz
  have fin:∃ cur':List Value,cur'.length=G * 3∧cur'.take 6=vs++xs∧W3.heap[w.heap.size]? = some (.cells cur'.toArray 61 (0,0)) :=
    ⟨vs++xs++ROW.toList.drop 6,by simp [hvl,hxl,hRl];omega,by rw [List.take_append_of_le_length (by simp [hvl,hxl]),List.take_of_length_le (by simp [hvl,hxl])],h3N⟩
  obtain⟨cur',f1,f2,f3⟩:=fin;have hGi:¬ (G=1):=by omega
  have hG0:¬ (G=0):=by omega
  have hG63:G≤9223372036854775807:=by unfold maxLen at hGm;omega
  clear h1h hW1 hW2 hW3 hROW hG hold h1N h1o h2N h2o hx hv hxs hcs h3N
  have main:Calls Tryz.prog 154 #[.slice (some ⟨b,0,none⟩) 1 1,.int .i64 0,.slice (some ⟨vb,0,none⟩) 1 1] w fun e w'=>e=.returned (.slice (some ⟨w.heap.size,0,none⟩) 2 G)∧w'=W3:=by
    clear f1 f2 f3 h3o h3s h3t
    go_enter Tryz.func154,Tryz.ntmps154
    go_wp2_with (first
      | (at_builtin;refine Lib.wpList_append_run _ rfl _ _ _ _ rfl _ _ rfl rfl _ _ (hrz _) ?_)
      | (at_builtin;refine wpList_copy_runI _ rfl _ _ 52 52 rfl _ _ rfl rfl (hcp1 _ _) ?_))
    go_region_law_o (refine step_copy_runI rfl _ _ 52 52 rfl _ _ (by simp [Act.eval,Act.put]) (by simp [Act.eval,Act.put]) (hcp2 _ _) ?_)
    go_wp2
    go_ret
    exact⟨rfl,rfl⟩
  refine main.mono ?_;rintro e w' ⟨rfl,rfl⟩;exact⟨G,cur',hG2,hGm,f1,f2,rfl,f3,h3t.1,h3t.2.1,h3t.2.2,h3s,h3o⟩
end Go.Proofs.YtdjgnbkclcjiiaaGreatDoor
end
section
set_option linter.unusedVariables false
set_option linter.unusedSimpArgs false
set_option maxRecDepth 4000
namespace Go.Proofs.YtdjgnbkclcjiiaaGreatDoor
open Go Go.RowKit Go.Proofs Wk
open Vc (SlAt OV iteI Vl zfb zh)
attribute [local irreducible] Go.Calls
attribute [local irreducible] wpQuiet
theorem zr{w:World}{p:Nat × Array Value × TypeId}(h:w.heap[p.1]? = some (.cells p.2.1 p.2.2)):p.1 < w.heap.size:=heap_lt h
structure Hd(p:Prop):Prop where
 out:p
end Go.Proofs.YtdjgnbkclcjiiaaGreatDoor
end
