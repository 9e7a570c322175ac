import Derived.Test.YtkjmhcejdiglfacGreatDoorGx
import Derived.Test.YtkjmhcejdiglfacGreatDoorGc
import Derived.Test.YtkjmhcejdiglfacGreatDoorVal
import Derived.Test.YtkjmhcejdiglfacGreatDoorFvA
import Derived.Lib.Bytealg
set_option linter.unusedVariables false
set_option linter.unusedSimpArgs false
namespace Go.Proofs.YtkjmhcejdiglfacGreatDoor
open Go Go.RowKit
theorem zhc(l:List UInt8)(w:World):(callFunc 158 #[.string ⟨l.toArray⟩,.int .u8 46]).run Tryz.prog w=.ok (.value (.int .i64 (Lib.indexByte l 46))) w:=by
 rw [run_callFunc_extern Tryz.func158 (by kernel_rfl) (by kernel_rfl) (by kernel_rfl) (e:=Extern.BytealgIndexByte.indexByte) (by kernel_rfl),Lib.run_indexByteString];rfl
theorem zu{w w':World}{g:Nat}{cs:Array Value}(h:∃ ty mk,w.heap[g]? = some (.cells cs ty mk))(hb:Below w.heap.size w w'):∃ ty mk,w'.heap[g]? = some (.cells cs ty mk):=by
 obtain⟨ty,mk,h⟩:=h;have h4:g < w.heap.size:=(Array.getElem?_eq_some_iff.1 h).1;exact⟨ty,mk,by rw [hb.block g h4];exact h⟩
theorem zwfa{w w':World}(h:Vg_3 w)(hb:Below w.heap.size w w'):Calls Tryz.prog 65 #[.string ⟨(([49,46,53]:List UInt8)).toArray⟩] w' (Vc.Ret (.tuple #[.agg #[.int .i64 3,.int .i64 2,.int .i64 0,.int .i64 0,.int .i64 0],.int .i64 0]) w') :=
 zma [49,46,53] [49] [53] true w' _ 0 (fun w2=>zej w2 _ ⟨⟨rfl,fun w3=>zhc [49,46,53] w3⟩,rfl⟩) (by decide) (by decide) (zu h hb)
  (fun w2=>zwh 0 0 0 w2 _ (by simp)) ⟨_,_,_,_,_,rfl⟩
theorem zxfa{w w':World}(h:Vg_3 w)(hb:Below w.heap.size w w'):Calls Tryz.prog 65 #[.string ⟨(([50]:List UInt8)).toArray⟩] w' (Vc.Ret (.tuple #[.agg #[.int .i64 2,.int .i64 1,.int .i64 0,.int .i64 0,.int .i64 0],.int .i64 0]) w') :=
 zma [50] [50] [] false w' _ 0 (fun w2=>zfj w2 _ ⟨⟨rfl,fun w3=>zhc [50] w3⟩,rfl⟩) (by decide) (by decide) (zu h hb)
  (fun w2=>zxh 0 0 0 w2 _ (by simp)) ⟨_,_,_,_,_,rfl⟩
theorem zyfa{w w':World}(h:Vg_3 w)(hb:Below w.heap.size w w'):Calls Tryz.prog 65 #[.string ⟨(([51]:List UInt8)).toArray⟩] w' (Vc.Ret (.tuple #[.agg #[.int .i64 3,.int .i64 1,.int .i64 0,.int .i64 0,.int .i64 0],.int .i64 0]) w') :=
 zma [51] [51] [] false w' _ 0 (fun w2=>zgj w2 _ ⟨⟨rfl,fun w3=>zhc [51] w3⟩,rfl⟩) (by decide) (by decide) (zu h hb)
  (fun w2=>zyh 0 0 0 w2 _ (by simp)) ⟨_,_,_,_,_,rfl⟩
theorem zzfa{w w':World}(h:Vg_3 w)(hb:Below w.heap.size w w'):Calls Tryz.prog 65 #[.string ⟨(([49,48]:List UInt8)).toArray⟩] w' (Vc.Ret (.tuple #[.agg #[.int .i64 10,.int .i64 1,.int .i64 0,.int .i64 0,.int .i64 0],.int .i64 0]) w') :=
 zma [49,48] [49,48] [] false w' _ 0 (fun w2=>zhj w2 _ ⟨⟨rfl,fun w3=>zhc [49,48] w3⟩,rfl⟩) (by decide) (by decide) (zu h hb)
  (fun w2=>zzh 0 0 0 w2 _ (by simp)) ⟨_,_,_,_,_,rfl⟩
theorem zaga{w w':World}(h:Vg_3 w)(hb:Below w.heap.size w w'):Calls Tryz.prog 65 #[.string ⟨(([50,48,48,48]:List UInt8)).toArray⟩] w' (Vc.Ret (.tuple #[.agg #[.int .i64 2000,.int .i64 1,.int .i64 0,.int .i64 0,.int .i64 0],.int .i64 0]) w') :=
 zma [50,48,48,48] [50,48,48,48] [] false w' _ 0 (fun w2=>zij w2 _ ⟨⟨rfl,fun w3=>zhc [50,48,48,48] w3⟩,rfl⟩) (by decide) (by decide) (zu h hb)
  (fun w2=>zai 0 0 0 w2 _ (by simp)) ⟨_,_,_,_,_,rfl⟩
theorem zbga{w w':World}(h:Vg_3 w)(hb:Below w.heap.size w w'):Calls Tryz.prog 65 #[.string ⟨(([49]:List UInt8)).toArray⟩] w' (Vc.Ret (.tuple #[.agg #[.int .i64 1,.int .i64 1,.int .i64 0,.int .i64 0,.int .i64 0],.int .i64 0]) w') :=
 zma [49] [49] [] false w' _ 0 (fun w2=>zjj w2 _ ⟨⟨rfl,fun w3=>zhc [49] w3⟩,rfl⟩) (by decide) (by decide) (zu h hb)
  (fun w2=>zbi 0 0 0 w2 _ (by simp)) ⟨_,_,_,_,_,rfl⟩
theorem zcga{w w':World}(h:Vg_3 w)(hb:Below w.heap.size w w'):Calls Tryz.prog 65 #[.string ⟨(([48,46,53]:List UInt8)).toArray⟩] w' (Vc.Ret (.tuple #[.agg #[.int .i64 1,.int .i64 2,.int .i64 0,.int .i64 0,.int .i64 0],.int .i64 0]) w') :=
 zma [48,46,53] [48] [53] true w' _ 0 (fun w2=>zkj w2 _ ⟨⟨rfl,fun w3=>zhc [48,46,53] w3⟩,rfl⟩) (by decide) (by decide) (zu h hb)
  (fun w2=>zci 0 0 0 w2 _ (by simp)) ⟨_,_,_,_,_,rfl⟩
theorem zdga{w w':World}(h:Vg_3 w)(hb:Below w.heap.size w w'):Calls Tryz.prog 65 #[.string ⟨(([48]:List UInt8)).toArray⟩] w' (Vc.Ret (.tuple #[.agg #[.int .i64 0,.int .i64 1,.int .i64 0,.int .i64 0,.int .i64 0],.int .i64 0]) w') :=
 zma [48] [48] [] false w' _ 0 (fun w2=>zlj w2 _ ⟨⟨rfl,fun w3=>zhc [48] w3⟩,rfl⟩) (by decide) (by decide) (zu h hb)
  (fun w2=>zdi 0 0 0 w2 _ (by simp)) ⟨_,_,_,_,_,rfl⟩
theorem zega{w w':World}(h:Vg_3 w)(hb:Below w.heap.size w w'):Calls Tryz.prog 65 #[.string ⟨(([53,48]:List UInt8)).toArray⟩] w' (Vc.Ret (.tuple #[.agg #[.int .i64 50,.int .i64 1,.int .i64 0,.int .i64 0,.int .i64 0],.int .i64 0]) w') :=
 zma [53,48] [53,48] [] false w' _ 0 (fun w2=>zmj w2 _ ⟨⟨rfl,fun w3=>zhc [53,48] w3⟩,rfl⟩) (by decide) (by decide) (zu h hb)
  (fun w2=>zei 0 0 0 w2 _ (by simp)) ⟨_,_,_,_,_,rfl⟩
theorem zfga{w w':World}(h:Vg_3 w)(hb:Below w.heap.size w w'):Calls Tryz.prog 65 #[.string ⟨(([51,53]:List UInt8)).toArray⟩] w' (Vc.Ret (.tuple #[.agg #[.int .i64 35,.int .i64 1,.int .i64 0,.int .i64 0,.int .i64 0],.int .i64 0]) w') :=
 zma [51,53] [51,53] [] false w' _ 0 (fun w2=>znj w2 _ ⟨⟨rfl,fun w3=>zhc [51,53] w3⟩,rfl⟩) (by decide) (by decide) (zu h hb)
  (fun w2=>zfi 0 0 0 w2 _ (by simp)) ⟨_,_,_,_,_,rfl⟩
set_option maxHeartbeats 4000000 in
set_option maxRecDepth 100000 in
theorem zeda(w:World)(h0:Vg_12 w)(h14:Vg_13 w):Calls Tryz.prog 114 #[.string ⟨(([111,110,101]:List UInt8)).toArray⟩] w (Vc.Ret (.bool false) w):=by
 refine zyd w _ ?_
 repeat first
  | exact rfl
  | refine⟨h0, ?_⟩
  | refine⟨h14, ?_⟩
  | intro _ _
set_option maxHeartbeats 4000000 in
set_option maxRecDepth 100000 in
theorem znaa(w:World)(h0:Vg_12 w)(h14:Vg_13 w):Calls Tryz.prog 114 #[.string ⟨(([116,97,110,107]:List UInt8)).toArray⟩] w (Vc.Ret (.bool false) w):=by
 refine zmd w _ ?_
 repeat first
  | exact rfl
  | refine⟨h0, ?_⟩
  | refine⟨h14, ?_⟩
  | intro _ _
set_option maxHeartbeats 4000000 in
set_option maxRecDepth 100000 in
theorem zfda(w:World)(h0:Vg_12 w)(h14:Vg_13 w):Calls Tryz.prog 114 #[.string ⟨(([108,111,119]:List UInt8)).toArray⟩] w (Vc.Ret (.bool false) w):=by
 refine zzd w _ ?_
 repeat first
  | exact rfl
  | refine⟨h0, ?_⟩
  | refine⟨h14, ?_⟩
  | intro _ _
set_option maxHeartbeats 4000000 in
set_option maxRecDepth 100000 in
theorem zgga(w:World)(h0:Vg_12 w)(h14:Vg_13 w):Calls Tryz.prog 114 #[.string ⟨(([101]:List UInt8)).toArray⟩] w (Vc.Ret (.bool false) w):=by
 refine zoe w _ ?_
 repeat first
  | exact rfl
  | refine⟨h0, ?_⟩
  | refine⟨h14, ?_⟩
  | intro _ _
structure VGs(w:World):Prop where
 g0:Vg_12 w
 g3:Vg_0 w
 g4:Vg_3 w
 g5:Vg_4 w
 g6:Vg_5 w
 g7:Vg_6 w
 g8:Vg_7 w
 g9:Vg_8 w
 g10:Vg_9 w
 g11:Vg_10 w
 g12:Vg_11 w
 g14:Vg_13 w
 g15:Vg_14 w
theorem VGs.keep{w w':World}(h:VGs w)(hb:Below w.heap.size w w'):VGs w':=⟨zu h.g0 hb,zu h.g3 hb,zu h.g4 hb,zu h.g5 hb,zu h.g6 hb,zu h.g7 hb,zu h.g8 hb,zu h.g9 hb,zu h.g10 hb,zu h.g11 hb,zu h.g12 hb,zu h.g14 hb,zu h.g15 hb⟩
set_option maxHeartbeats 4000000 in
set_option maxRecDepth 100000 in
theorem zdy(w:World)(hG:VGs w):Calls Tryz.prog 5 #[] w (Vc.Ret (.bool true) w):=by
 obtain⟨h0,h3,h4,h5,h6,h7,h8,h9,h10,h11,h12,h14,h15⟩:=hG;refine zwf w _ ?_
 have hdiv:∀ w':World,Calls Tryz.prog 12 #[.agg #[.int .i64 42949672960,.int .i64 51539607552],.agg #[.int .i64 8589934592,.int .i64 17179869184]] w' (Vc.Ret (.tuple #[.agg #[.int .i64 10737418240,.int .i64 25769803776],.int .i64 0]) w'):=fun w' =>
  Vc.Ret.mono (znp 42949672960 51539607552 8589934592 17179869184 w' ⟨by decide,by decide⟩ ⟨by decide,by decide⟩ ⟨by decide,by decide⟩ ⟨by decide,by decide⟩) (by kernel_rfl)
 have r1:=fun (w':World) (hb:Below w.heap.size w w')=>zeda w' (zu h0 hb) (zu h14 hb);have r2:=fun (w':World) (hb:Below w.heap.size w w')=>znaa w' (zu h0 hb) (zu h14 hb);have r3:=fun (w':World) (hb:Below w.heap.size w w')=>zfda w' (zu h0 hb) (zu h14 hb);have r4:=fun (w':World) (hb:Below w.heap.size w w')=>zgga w' (zu h0 hb) (zu h14 hb);have v0:=fun (w':World) (hb:Below w.heap.size w w')=>zwfa h4 hb;have v1:=fun (w':World) (hb:Below w.heap.size w w')=>zxfa h4 hb;have v2:=fun (w':World) (hb:Below w.heap.size w w')=>zyfa h4 hb;have v3:=fun (w':World) (hb:Below w.heap.size w w')=>zzfa h4 hb;have v4:=fun (w':World) (hb:Below w.heap.size w w')=>zaga h4 hb;have v5:=fun (w':World) (hb:Below w.heap.size w w')=>zbga h4 hb;have v6:=fun (w':World) (hb:Below w.heap.size w w')=>zcga h4 hb;have v7:=fun (w':World) (hb:Below w.heap.size w w')=>zdga h4 hb;have v8:=fun (w':World) (hb:Below w.heap.size w w')=>zega h4 hb;have v9:=fun (w':World) (hb:Below w.heap.size w w')=>zfga h4 hb
 repeat first
  | with_reducible refine⟨h0, ?_⟩
  | with_reducible refine⟨h3, ?_⟩
  | with_reducible refine⟨h4, ?_⟩
  | with_reducible refine⟨h5, ?_⟩
  | with_reducible refine⟨h6, ?_⟩
  | with_reducible refine⟨h7, ?_⟩
  | with_reducible refine⟨h8, ?_⟩
  | with_reducible refine⟨h9, ?_⟩
  | with_reducible refine⟨h10, ?_⟩
  | with_reducible refine⟨h11, ?_⟩
  | with_reducible refine⟨h12, ?_⟩
  | with_reducible refine⟨h14, ?_⟩
  | with_reducible refine⟨h15, ?_⟩
  | with_reducible refine⟨r1, ?_⟩
  | with_reducible refine⟨r2, ?_⟩
  | with_reducible refine⟨r3, ?_⟩
  | with_reducible refine⟨r4, ?_⟩
  | with_reducible refine⟨v0, ?_⟩
  | with_reducible refine⟨v1, ?_⟩
  | with_reducible refine⟨v2, ?_⟩
  | with_reducible refine⟨v3, ?_⟩
  | with_reducible refine⟨v4, ?_⟩
  | with_reducible refine⟨v5, ?_⟩
  | with_reducible refine⟨v6, ?_⟩
  | with_reducible refine⟨v7, ?_⟩
  | with_reducible refine⟨v8, ?_⟩
  | with_reducible refine⟨v9, ?_⟩
  | intro _ _
  | refine⟨fun w' _=>hdiv w', ?_⟩
  | refine⟨fun w' _=>vc_vehicle_flow _ _ _ _ _ _ _ _ _ _ _ w' _ rfl, ?_⟩
  | exact rfl
end Go.Proofs.YtkjmhcejdiglfacGreatDoor
