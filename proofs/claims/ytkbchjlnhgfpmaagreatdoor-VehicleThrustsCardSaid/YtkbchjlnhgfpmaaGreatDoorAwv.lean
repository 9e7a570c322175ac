import Derived.Test.YtkbchjlnhgfpmaaGreatDoorGx
import Derived.Test.YtkbchjlnhgfpmaaGreatDoorGc
import Derived.Test.YtkbchjlnhgfpmaaGreatDoorVal
import Derived.Test.YtkbchjlnhgfpmaaGreatDoorFvA
import Derived.Lib.Bytealg
set_option linter.unusedVariables false
set_option linter.unusedSimpArgs false
namespace Go.Proofs.YtkbchjlnhgfpmaaGreatDoor
open Go Go.RowKit
theorem vS(l:List UInt8)(w:World):(callFunc 217 #[.string ⟨l.toArray⟩,.int .u8 46]).run Tryz.prog w=.ok (.value (.int .i64 (Lib.indexByte l 46))) w:=by
 rw [run_callFunc_extern Tryz.func217 (by kernel_rfl) (by kernel_rfl) (by kernel_rfl) (e:=Extern.BytealgIndexByte.indexByte) (by kernel_rfl),Lib.run_indexByteString];rfl
theorem kG{w w':World}{g:Nat}{cs:Array Value}(h:∃ty mk,w.heap[g]? = some (.cells cs ty mk))(hb:Below w.heap.size w w'):∃ty mk,w'.heap[g]? = some (.cells cs ty mk):=by
 obtain⟨ty,mk,h⟩:=h;have h4:g<w.heap.size:=(Array.getElem?_eq_some_iff.1 h).1;exact⟨ty,mk,by rw [hb.block g h4];exact h⟩
theorem Pz{w w':World}(h:lQ w)(hb:Below w.heap.size w w'):Calls Tryz.prog 79 #[.string ⟨(([49,46,53]:List UInt8)).toArray⟩] w' (Vc.aI (.tuple #[.agg #[.int .i64 3,.int .i64 2,.int .i64 0,.int .i64 0,.int .i64 0],.int .i64 0]) w') :=
 xO [49,46,53] [49] [53] true w' _ 0 (λw2=>Z4 w2 _ ⟨⟨rfl,λw3=>vS [49,46,53] w3⟩,rfl⟩) (by decide) (by decide) (kG h hb)
  (λw2=>zvk 0 0 0 w2 _ (by simp)) ⟨_,_,_,_,_,rfl⟩
theorem PB{w w':World}(h:lQ w)(hb:Below w.heap.size w w'):Calls Tryz.prog 79 #[.string ⟨(([50]:List UInt8)).toArray⟩] w' (Vc.aI (.tuple #[.agg #[.int .i64 2,.int .i64 1,.int .i64 0,.int .i64 0,.int .i64 0],.int .i64 0]) w') :=
 xO [50] [50] [] false w' _ 0 (λw2=>Z5 w2 _ ⟨⟨rfl,λw3=>vS [50] w3⟩,rfl⟩) (by decide) (by decide) (kG h hb)
  (λw2=>zwk 0 0 0 w2 _ (by simp)) ⟨_,_,_,_,_,rfl⟩
theorem PC{w w':World}(h:lQ w)(hb:Below w.heap.size w w'):Calls Tryz.prog 79 #[.string ⟨(([51]:List UInt8)).toArray⟩] w' (Vc.aI (.tuple #[.agg #[.int .i64 3,.int .i64 1,.int .i64 0,.int .i64 0,.int .i64 0],.int .i64 0]) w') :=
 xO [51] [51] [] false w' _ 0 (λw2=>Z6 w2 _ ⟨⟨rfl,λw3=>vS [51] w3⟩,rfl⟩) (by decide) (by decide) (kG h hb)
  (λw2=>zxk 0 0 0 w2 _ (by simp)) ⟨_,_,_,_,_,rfl⟩
theorem PD{w w':World}(h:lQ w)(hb:Below w.heap.size w w'):Calls Tryz.prog 79 #[.string ⟨(([49,48]:List UInt8)).toArray⟩] w' (Vc.aI (.tuple #[.agg #[.int .i64 10,.int .i64 1,.int .i64 0,.int .i64 0,.int .i64 0],.int .i64 0]) w') :=
 xO [49,48] [49,48] [] false w' _ 0 (λw2=>Z7 w2 _ ⟨⟨rfl,λw3=>vS [49,48] w3⟩,rfl⟩) (by decide) (by decide) (kG h hb)
  (λw2=>zyk 0 0 0 w2 _ (by simp)) ⟨_,_,_,_,_,rfl⟩
theorem PE{w w':World}(h:lQ w)(hb:Below w.heap.size w w'):Calls Tryz.prog 79 #[.string ⟨(([50,48,48,48]:List UInt8)).toArray⟩] w' (Vc.aI (.tuple #[.agg #[.int .i64 2000,.int .i64 1,.int .i64 0,.int .i64 0,.int .i64 0],.int .i64 0]) w') :=
 xO [50,48,48,48] [50,48,48,48] [] false w' _ 0 (λw2=>Z8 w2 _ ⟨⟨rfl,λw3=>vS [50,48,48,48] w3⟩,rfl⟩) (by decide) (by decide) (kG h hb)
  (λw2=>zzk 0 0 0 w2 _ (by simp)) ⟨_,_,_,_,_,rfl⟩
theorem PF{w w':World}(h:lQ w)(hb:Below w.heap.size w w'):Calls Tryz.prog 79 #[.string ⟨(([49]:List UInt8)).toArray⟩] w' (Vc.aI (.tuple #[.agg #[.int .i64 1,.int .i64 1,.int .i64 0,.int .i64 0,.int .i64 0],.int .i64 0]) w') :=
 xO [49] [49] [] false w' _ 0 (λw2=>Z9 w2 _ ⟨⟨rfl,λw3=>vS [49] w3⟩,rfl⟩) (by decide) (by decide) (kG h hb)
  (λw2=>zal 0 0 0 w2 _ (by simp)) ⟨_,_,_,_,_,rfl⟩
theorem PG{w w':World}(h:lQ w)(hb:Below w.heap.size w w'):Calls Tryz.prog 79 #[.string ⟨(([48,46,53]:List UInt8)).toArray⟩] w' (Vc.aI (.tuple #[.agg #[.int .i64 1,.int .i64 2,.int .i64 0,.int .i64 0,.int .i64 0],.int .i64 0]) w') :=
 xO [48,46,53] [48] [53] true w' _ 0 (λw2=>Z_ w2 _ ⟨⟨rfl,λw3=>vS [48,46,53] w3⟩,rfl⟩) (by decide) (by decide) (kG h hb)
  (λw2=>zbl 0 0 0 w2 _ (by simp)) ⟨_,_,_,_,_,rfl⟩
theorem PH{w w':World}(h:lQ w)(hb:Below w.heap.size w w'):Calls Tryz.prog 79 #[.string ⟨(([48]:List UInt8)).toArray⟩] w' (Vc.aI (.tuple #[.agg #[.int .i64 0,.int .i64 1,.int .i64 0,.int .i64 0,.int .i64 0],.int .i64 0]) w') :=
 xO [48] [48] [] false w' _ 0 (λw2=>zlm w2 _ ⟨⟨rfl,λw3=>vS [48] w3⟩,rfl⟩) (by decide) (by decide) (kG h hb)
  (λw2=>zcl 0 0 0 w2 _ (by simp)) ⟨_,_,_,_,_,rfl⟩
theorem PI{w w':World}(h:lQ w)(hb:Below w.heap.size w w'):Calls Tryz.prog 79 #[.string ⟨(([53,48]:List UInt8)).toArray⟩] w' (Vc.aI (.tuple #[.agg #[.int .i64 50,.int .i64 1,.int .i64 0,.int .i64 0,.int .i64 0],.int .i64 0]) w') :=
 xO [53,48] [53,48] [] false w' _ 0 (λw2=>zmm w2 _ ⟨⟨rfl,λw3=>vS [53,48] w3⟩,rfl⟩) (by decide) (by decide) (kG h hb)
  (λw2=>zdl 0 0 0 w2 _ (by simp)) ⟨_,_,_,_,_,rfl⟩
theorem PJ{w w':World}(h:lQ w)(hb:Below w.heap.size w w'):Calls Tryz.prog 79 #[.string ⟨(([51,53]:List UInt8)).toArray⟩] w' (Vc.aI (.tuple #[.agg #[.int .i64 35,.int .i64 1,.int .i64 0,.int .i64 0,.int .i64 0],.int .i64 0]) w') :=
 xO [51,53] [51,53] [] false w' _ 0 (λw2=>znm w2 _ ⟨⟨rfl,λw3=>vS [51,53] w3⟩,rfl⟩) (by decide) (by decide) (kG h hb)
  (λw2=>zel 0 0 0 w2 _ (by simp)) ⟨_,_,_,_,_,rfl⟩
set_option maxHeartbeats 4000000 in
set_option maxRecDepth 100000 in
theorem PK(w:World)(h0:bO w)(qL:I w):Calls Tryz.prog 148 #[.string ⟨(([111,110,101]:List UInt8)).toArray⟩] w (Vc.aI (.bool false) w):=by
 refine zue w _ ?_
 repeat first
  |exact rfl
  |refine⟨h0, ?_⟩
  |refine⟨qL, ?_⟩
  |intro _ _
set_option maxHeartbeats 4000000 in
set_option maxRecDepth 100000 in
theorem PL(w:World)(h0:bO w)(qL:I w):Calls Tryz.prog 148 #[.string ⟨(([116,97,110,107]:List UInt8)).toArray⟩] w (Vc.aI (.bool false) w):=by
 refine zie w _ ?_
 repeat first
  |exact rfl
  |refine⟨h0, ?_⟩
  |refine⟨qL, ?_⟩
  |intro _ _
set_option maxHeartbeats 4000000 in
set_option maxRecDepth 100000 in
theorem PM(w:World)(h0:bO w)(qL:I w):Calls Tryz.prog 148 #[.string ⟨(([108,111,119]:List UInt8)).toArray⟩] w (Vc.aI (.bool false) w):=by
 refine zve w _ ?_
 repeat first
  |exact rfl
  |refine⟨h0, ?_⟩
  |refine⟨qL, ?_⟩
  |intro _ _
set_option maxHeartbeats 4000000 in
set_option maxRecDepth 100000 in
theorem PN(w:World)(h0:bO w)(qL:I w):Calls Tryz.prog 148 #[.string ⟨(([101]:List UInt8)).toArray⟩] w (Vc.aI (.bool false) w):=by
 refine zqf w _ ?_
 repeat first
  |exact rfl
  |refine⟨h0, ?_⟩
  |refine⟨qL, ?_⟩
  |intro _ _
structure oN(w:World):Prop where
 g0:bO w
 g3:af w
 g4:lQ w
 g5:zQ w
 g6:Gt w
 g7:Gu w
 g8:CS w
 g9:CT w
 g10:CU w
 g11:A' w
 g12:Ba w
 g14:I w
 g15:xC w
theorem oN.eK{w w':World}(h:oN w)(hb:Below w.heap.size w w'):oN w':=⟨kG h.g0 hb,kG h.g3 hb,kG h.g4 hb,kG h.g5 hb,kG h.g6 hb,kG h.g7 hb,kG h.g8 hb,kG h.g9 hb,kG h.g10 hb,kG h.g11 hb,kG h.g12 hb,kG h.g14 hb,kG h.g15 hb⟩
set_option maxHeartbeats 4000000 in
set_option maxRecDepth 100000 in
theorem PO(w:World)(hG:oN w):Calls Tryz.prog 5 #[] w (Vc.aI (.bool true) w):=by
 obtain⟨h0,h3,h4,h5,h6,h7,h8,h9,C5,Ve,xJ,qL,GM⟩:=hG;refine Z3 w _ ?_
 have hdiv:∀w':World,Calls Tryz.prog 27 #[.agg #[.int .i64 42949672960,.int .i64 51539607552],.agg #[.int .i64 8589934592,.int .i64 17179869184]] w' (Vc.aI (.tuple #[.agg #[.int .i64 10737418240,.int .i64 25769803776],.int .i64 0]) w'):=λw' =>
  Vc.aI.mono (G7 42949672960 51539607552 8589934592 17179869184 w' ⟨by decide,by decide⟩ ⟨by decide,by decide⟩ ⟨by decide,by decide⟩ ⟨by decide,by decide⟩) (by kernel_rfl)
 have r1:=λ(w':World) (hb:Below w.heap.size w w')=>PK w' (kG h0 hb) (kG qL hb);have r2:=λ(w':World) (hb:Below w.heap.size w w')=>PL w' (kG h0 hb) (kG qL hb);have r3:=λ(w':World) (hb:Below w.heap.size w w')=>PM w' (kG h0 hb) (kG qL hb);have r4:=λ(w':World) (hb:Below w.heap.size w w')=>PN w' (kG h0 hb) (kG qL hb);have v0:=λ(w':World) (hb:Below w.heap.size w w')=>Pz h4 hb;have v1:=λ(w':World) (hb:Below w.heap.size w w')=>PB h4 hb;have v2:=λ(w':World) (hb:Below w.heap.size w w')=>PC h4 hb;have v3:=λ(w':World) (hb:Below w.heap.size w w')=>PD h4 hb;have v4:=λ(w':World) (hb:Below w.heap.size w w')=>PE h4 hb;have v5:=λ(w':World) (hb:Below w.heap.size w w')=>PF h4 hb;have v6:=λ(w':World) (hb:Below w.heap.size w w')=>PG h4 hb;have v7:=λ(w':World) (hb:Below w.heap.size w w')=>PH h4 hb;have v8:=λ(w':World) (hb:Below w.heap.size w w')=>PI h4 hb;have v9:=λ(w':World) (hb:Below w.heap.size w w')=>PJ h4 hb
 repeat first
  |with_reducible refine⟨h0, ?_⟩
  |with_reducible refine⟨h3, ?_⟩
  |with_reducible refine⟨h4, ?_⟩
  |with_reducible refine⟨h5, ?_⟩
  |with_reducible refine⟨h6, ?_⟩
  |with_reducible refine⟨h7, ?_⟩
  |with_reducible refine⟨h8, ?_⟩
  |with_reducible refine⟨h9, ?_⟩
  |with_reducible refine⟨C5, ?_⟩
  |with_reducible refine⟨Ve, ?_⟩
  |with_reducible refine⟨xJ, ?_⟩
  |with_reducible refine⟨qL, ?_⟩
  |with_reducible refine⟨GM, ?_⟩
  |with_reducible refine⟨r1, ?_⟩
  |with_reducible refine⟨r2, ?_⟩
  |with_reducible refine⟨r3, ?_⟩
  |with_reducible refine⟨r4, ?_⟩
  |with_reducible refine⟨v0, ?_⟩
  |with_reducible refine⟨v1, ?_⟩
  |with_reducible refine⟨v2, ?_⟩
  |with_reducible refine⟨v3, ?_⟩
  |with_reducible refine⟨v4, ?_⟩
  |with_reducible refine⟨v5, ?_⟩
  |with_reducible refine⟨v6, ?_⟩
  |with_reducible refine⟨v7, ?_⟩
  |with_reducible refine⟨v8, ?_⟩
  |with_reducible refine⟨v9, ?_⟩
  |intro _ _
  |refine⟨λw' _=>hdiv w', ?_⟩
  |refine⟨λw' _=>fY _ _ _ _ _ _ _ _ _ _ _ w' _ rfl, ?_⟩
  |exact rfl
end Go.Proofs.YtkbchjlnhgfpmaaGreatDoor
