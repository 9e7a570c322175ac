import Derived.Test.YtogfcodccbcncaaGreatDoorGx
import Derived.Test.YtogfcodccbcncaaGreatDoorGc
import Derived.Test.YtogfcodccbcncaaGreatDoorVal
import Derived.Test.YtogfcodccbcncaaGreatDoorFvA
import Derived.Lib.Bytealg
set_option linter.unusedVariables false
set_option linter.unusedSimpArgs false
namespace Go.Proofs.YtogfcodccbcncaaGreatDoor
open Go Go.RowKit
theorem zfc(l:List UInt8)(w:World):(callFunc 285 #[.string ⟨l.toArray⟩,.int .u8 46]).run Tryz.prog w=.ok (.value (.int .i64 (Lib.indexByte l 46))) w:=by
 rw [run_callFunc_extern Tryz.func285 (by kernel_rfl) (by kernel_rfl) (by kernel_rfl) (e:=Extern.BytealgIndexByte.indexByte) (by kernel_rfl),Lib.run_indexByteString]
 rfl
theorem zp{w w':World}{g:Nat}{cs:Array Value}(h:∃ ty mk,w.heap[g]? = some (.cells cs ty mk))(hb:Below w.heap.size w w'):∃ ty mk,w'.heap[g]? = some (.cells cs ty mk):=by
 obtain⟨ty,mk,h⟩:=h
 have h4:g < w.heap.size:=(Array.getElem?_eq_some_iff.1 h).1
 exact⟨ty,mk,by rw [hb.block g h4];exact h⟩
theorem zxea{w w':World}(h:Vg_4 w)(hb:Below w.heap.size w w'):Calls Tryz.prog 150 #[.string ⟨(([49,46,53]:List UInt8)).toArray⟩] w' (Vc.Ret (.tuple #[.agg #[.int .i64 3,.int .i64 2,.int .i64 0,.int .i64 0,.int .i64 0],.int .i64 0]) w') :=
 zia [49,46,53] [49] [53] true w' _ 0 (fun w2=>zui w2 _ ⟨⟨rfl,fun w3=>zfc [49,46,53] w3⟩,rfl⟩) (by decide) (by decide) (zp h hb)
  (fun w2=>zch 0 0 0 w2 _ (by simp)) ⟨_,_,_,_,_,rfl⟩
theorem zyea{w w':World}(h:Vg_4 w)(hb:Below w.heap.size w w'):Calls Tryz.prog 150 #[.string ⟨(([50]:List UInt8)).toArray⟩] w' (Vc.Ret (.tuple #[.agg #[.int .i64 2,.int .i64 1,.int .i64 0,.int .i64 0,.int .i64 0],.int .i64 0]) w') :=
 zia [50] [50] [] false w' _ 0 (fun w2=>zvi w2 _ ⟨⟨rfl,fun w3=>zfc [50] w3⟩,rfl⟩) (by decide) (by decide) (zp h hb)
  (fun w2=>zdh 0 0 0 w2 _ (by simp)) ⟨_,_,_,_,_,rfl⟩
theorem zzea{w w':World}(h:Vg_4 w)(hb:Below w.heap.size w w'):Calls Tryz.prog 150 #[.string ⟨(([51]:List UInt8)).toArray⟩] w' (Vc.Ret (.tuple #[.agg #[.int .i64 3,.int .i64 1,.int .i64 0,.int .i64 0,.int .i64 0],.int .i64 0]) w') :=
 zia [51] [51] [] false w' _ 0 (fun w2=>zwi w2 _ ⟨⟨rfl,fun w3=>zfc [51] w3⟩,rfl⟩) (by decide) (by decide) (zp h hb)
  (fun w2=>zeh 0 0 0 w2 _ (by simp)) ⟨_,_,_,_,_,rfl⟩
theorem zafa{w w':World}(h:Vg_4 w)(hb:Below w.heap.size w w'):Calls Tryz.prog 150 #[.string ⟨(([49,48]:List UInt8)).toArray⟩] w' (Vc.Ret (.tuple #[.agg #[.int .i64 10,.int .i64 1,.int .i64 0,.int .i64 0,.int .i64 0],.int .i64 0]) w') :=
 zia [49,48] [49,48] [] false w' _ 0 (fun w2=>zxi w2 _ ⟨⟨rfl,fun w3=>zfc [49,48] w3⟩,rfl⟩) (by decide) (by decide) (zp h hb)
  (fun w2=>zfh 0 0 0 w2 _ (by simp)) ⟨_,_,_,_,_,rfl⟩
theorem zbfa{w w':World}(h:Vg_4 w)(hb:Below w.heap.size w w'):Calls Tryz.prog 150 #[.string ⟨(([50,48,48,48]:List UInt8)).toArray⟩] w' (Vc.Ret (.tuple #[.agg #[.int .i64 2000,.int .i64 1,.int .i64 0,.int .i64 0,.int .i64 0],.int .i64 0]) w') :=
 zia [50,48,48,48] [50,48,48,48] [] false w' _ 0 (fun w2=>zyi w2 _ ⟨⟨rfl,fun w3=>zfc [50,48,48,48] w3⟩,rfl⟩) (by decide) (by decide) (zp h hb)
  (fun w2=>zgh 0 0 0 w2 _ (by simp)) ⟨_,_,_,_,_,rfl⟩
theorem zcfa{w w':World}(h:Vg_4 w)(hb:Below w.heap.size w w'):Calls Tryz.prog 150 #[.string ⟨(([49]:List UInt8)).toArray⟩] w' (Vc.Ret (.tuple #[.agg #[.int .i64 1,.int .i64 1,.int .i64 0,.int .i64 0,.int .i64 0],.int .i64 0]) w') :=
 zia [49] [49] [] false w' _ 0 (fun w2=>zzi w2 _ ⟨⟨rfl,fun w3=>zfc [49] w3⟩,rfl⟩) (by decide) (by decide) (zp h hb)
  (fun w2=>zhh 0 0 0 w2 _ (by simp)) ⟨_,_,_,_,_,rfl⟩
theorem zdfa{w w':World}(h:Vg_4 w)(hb:Below w.heap.size w w'):Calls Tryz.prog 150 #[.string ⟨(([48,46,53]:List UInt8)).toArray⟩] w' (Vc.Ret (.tuple #[.agg #[.int .i64 1,.int .i64 2,.int .i64 0,.int .i64 0,.int .i64 0],.int .i64 0]) w') :=
 zia [48,46,53] [48] [53] true w' _ 0 (fun w2=>zaj w2 _ ⟨⟨rfl,fun w3=>zfc [48,46,53] w3⟩,rfl⟩) (by decide) (by decide) (zp h hb)
  (fun w2=>zih 0 0 0 w2 _ (by simp)) ⟨_,_,_,_,_,rfl⟩
theorem zefa{w w':World}(h:Vg_4 w)(hb:Below w.heap.size w w'):Calls Tryz.prog 150 #[.string ⟨(([48]:List UInt8)).toArray⟩] w' (Vc.Ret (.tuple #[.agg #[.int .i64 0,.int .i64 1,.int .i64 0,.int .i64 0,.int .i64 0],.int .i64 0]) w') :=
 zia [48] [48] [] false w' _ 0 (fun w2=>zbj w2 _ ⟨⟨rfl,fun w3=>zfc [48] w3⟩,rfl⟩) (by decide) (by decide) (zp h hb)
  (fun w2=>zjh 0 0 0 w2 _ (by simp)) ⟨_,_,_,_,_,rfl⟩
theorem zffa{w w':World}(h:Vg_4 w)(hb:Below w.heap.size w w'):Calls Tryz.prog 150 #[.string ⟨(([53,48]:List UInt8)).toArray⟩] w' (Vc.Ret (.tuple #[.agg #[.int .i64 50,.int .i64 1,.int .i64 0,.int .i64 0,.int .i64 0],.int .i64 0]) w') :=
 zia [53,48] [53,48] [] false w' _ 0 (fun w2=>zcj w2 _ ⟨⟨rfl,fun w3=>zfc [53,48] w3⟩,rfl⟩) (by decide) (by decide) (zp h hb)
  (fun w2=>zkh 0 0 0 w2 _ (by simp)) ⟨_,_,_,_,_,rfl⟩
theorem zgfa{w w':World}(h:Vg_4 w)(hb:Below w.heap.size w w'):Calls Tryz.prog 150 #[.string ⟨(([51,53]:List UInt8)).toArray⟩] w' (Vc.Ret (.tuple #[.agg #[.int .i64 35,.int .i64 1,.int .i64 0,.int .i64 0,.int .i64 0],.int .i64 0]) w') :=
 zia [51,53] [51,53] [] false w' _ 0 (fun w2=>zdj w2 _ ⟨⟨rfl,fun w3=>zfc [51,53] w3⟩,rfl⟩) (by decide) (by decide) (zp h hb)
  (fun w2=>zlh 0 0 0 w2 _ (by simp)) ⟨_,_,_,_,_,rfl⟩
set_option maxHeartbeats 4000000 in
set_option maxRecDepth 100000 in
theorem zuba(w:World)(h0:Vg_0 w)(h14:Vg_14 w):Calls Tryz.prog 183 #[.string ⟨(([111,110,101]:List UInt8)).toArray⟩] w (Vc.Ret (.bool false) w):=by
 refine zmd w _ ?_
 repeat first
  | exact rfl
  | refine⟨h0, ?_⟩
  | refine⟨h14, ?_⟩
  | intro _ _
set_option maxHeartbeats 4000000 in
set_option maxRecDepth 100000 in
theorem zbz(w:World)(h0:Vg_0 w)(h14:Vg_14 w):Calls Tryz.prog 183 #[.string ⟨(([116,97,110,107]:List UInt8)).toArray⟩] w (Vc.Ret (.bool false) w):=by
 refine zfd w _ ?_
 repeat first
  | exact rfl
  | refine⟨h0, ?_⟩
  | refine⟨h14, ?_⟩
  | intro _ _
set_option maxHeartbeats 4000000 in
set_option maxRecDepth 100000 in
theorem zvba(w:World)(h0:Vg_0 w)(h14:Vg_14 w):Calls Tryz.prog 183 #[.string ⟨(([108,111,119]:List UInt8)).toArray⟩] w (Vc.Ret (.bool false) w):=by
 refine znd w _ ?_
 repeat first
  | exact rfl
  | refine⟨h0, ?_⟩
  | refine⟨h14, ?_⟩
  | intro _ _
set_option maxHeartbeats 4000000 in
set_option maxRecDepth 100000 in
theorem zhfa(w:World)(h0:Vg_0 w)(h14:Vg_14 w):Calls Tryz.prog 183 #[.string ⟨(([101]:List UInt8)).toArray⟩] w (Vc.Ret (.bool false) w):=by
 refine zje w _ ?_
 repeat first
  | exact rfl
  | refine⟨h0, ?_⟩
  | refine⟨h14, ?_⟩
  | intro _ _
structure VGs(w:World):Prop where
 g0:Vg_0 w
 g3:Vg_3 w
 g4:Vg_4 w
 g5:Vg_5 w
 g6:Vg_6 w
 g7:Vg_7 w
 g8:Vg_8 w
 g9:Vg_9 w
 g10:Vg_10 w
 g11:Vg_11 w
 g12:Vg_12 w
 g14:Vg_14 w
 g15:Vg_15 w
theorem VGs.keep{w w':World}(h:VGs w)(hb:Below w.heap.size w w'):VGs w':=⟨zp h.g0 hb,zp h.g3 hb,zp h.g4 hb,zp h.g5 hb,zp h.g6 hb,zp h.g7 hb,zp h.g8 hb,zp h.g9 hb,zp h.g10 hb,zp h.g11 hb,zp h.g12 hb,zp h.g14 hb,zp h.g15 hb⟩
set_option maxHeartbeats 4000000 in
set_option maxRecDepth 100000 in
theorem ztp(w:World)(hG:VGs w):Calls Tryz.prog 19 #[] w (Vc.Ret (.bool true) w):=by
 obtain⟨h0,h3,h4,h5,h6,h7,h8,h9,h10,h11,h12,h14,h15⟩:=hG
 refine zag w _ ?_
 have hdiv:∀ w':World,Calls Tryz.prog 55 #[.agg #[.int .i64 42949672960,.int .i64 51539607552],.agg #[.int .i64 8589934592,.int .i64 17179869184]] w' (Vc.Ret (.tuple #[.agg #[.int .i64 10737418240,.int .i64 25769803776],.int .i64 0]) w'):=fun w' =>
  Vc.Ret.mono (zhz 42949672960 51539607552 8589934592 17179869184 w' ⟨by decide,by decide⟩ ⟨by decide,by decide⟩ ⟨by decide,by decide⟩ ⟨by decide,by decide⟩) (by kernel_rfl)
 have r1:=fun (w':World) (hb:Below w.heap.size w w')=>zuba w' (zp h0 hb) (zp h14 hb)
 have r2:=fun (w':World) (hb:Below w.heap.size w w')=>zbz w' (zp h0 hb) (zp h14 hb)
 have r3:=fun (w':World) (hb:Below w.heap.size w w')=>zvba w' (zp h0 hb) (zp h14 hb)
 have r4:=fun (w':World) (hb:Below w.heap.size w w')=>zhfa w' (zp h0 hb) (zp h14 hb)
 have v0:=fun (w':World) (hb:Below w.heap.size w w')=>zxea h4 hb
 have v1:=fun (w':World) (hb:Below w.heap.size w w')=>zyea h4 hb
 have v2:=fun (w':World) (hb:Below w.heap.size w w')=>zzea h4 hb
 have v3:=fun (w':World) (hb:Below w.heap.size w w')=>zafa h4 hb
 have v4:=fun (w':World) (hb:Below w.heap.size w w')=>zbfa h4 hb
 have v5:=fun (w':World) (hb:Below w.heap.size w w')=>zcfa h4 hb
 have v6:=fun (w':World) (hb:Below w.heap.size w w')=>zdfa h4 hb
 have v7:=fun (w':World) (hb:Below w.heap.size w w')=>zefa h4 hb
 have v8:=fun (w':World) (hb:Below w.heap.size w w')=>zffa h4 hb
 have v9:=fun (w':World) (hb:Below w.heap.size w w')=>zgfa h4 hb
 repeat first
  | with_reducible refine⟨h0, ?_⟩
  | with_reducible refine⟨h3, ?_⟩
  | with_reducible refine⟨h4, ?_⟩
  | with_reducible refine⟨h5, ?_⟩
  | with_reducible refine⟨h6, ?_⟩
  | with_reducible refine⟨h7, ?_⟩
  | with_reducible refine⟨h8, ?_⟩
  | with_reducible refine⟨h9, ?_⟩
  | with_reducible refine⟨h10, ?_⟩
  | with_reducible refine⟨h11, ?_⟩
  | with_reducible refine⟨h12, ?_⟩
  | with_reducible refine⟨h14, ?_⟩
  | with_reducible refine⟨h15, ?_⟩
  | with_reducible refine⟨r1, ?_⟩
  | with_reducible refine⟨r2, ?_⟩
  | with_reducible refine⟨r3, ?_⟩
  | with_reducible refine⟨r4, ?_⟩
  | with_reducible refine⟨v0, ?_⟩
  | with_reducible refine⟨v1, ?_⟩
  | with_reducible refine⟨v2, ?_⟩
  | with_reducible refine⟨v3, ?_⟩
  | with_reducible refine⟨v4, ?_⟩
  | with_reducible refine⟨v5, ?_⟩
  | with_reducible refine⟨v6, ?_⟩
  | with_reducible refine⟨v7, ?_⟩
  | with_reducible refine⟨v8, ?_⟩
  | with_reducible refine⟨v9, ?_⟩
  | intro _ _
  | refine⟨fun w' _=>hdiv w', ?_⟩
  | refine⟨fun w' _=>zuk _ _ _ _ _ _ _ _ _ _ _ w' _ rfl, ?_⟩
  | exact rfl
end Go.Proofs.YtogfcodccbcncaaGreatDoor
