/- The closed run of layer 2's examples: awake() is true. -/
import Derived.Test.YtogfcodccbcncaaGreatDoorGx
import Derived.Test.YtogfcodccbcncaaGreatDoorGc
import Derived.Test.YtogfcodccbcncaaGreatDoorVal
import Derived.Test.YtogfcodccbcncaaGreatDoorFvA
import Derived.Lib.Bytealg
set_option linter.unusedVariables false
set_option linter.unusedSimpArgs false
namespace Go.Proofs.YtogfcodccbcncaaGreatDoor
open Go Go.RowKit
theorem run_idx (l : List UInt8) (w : World) : (callFunc 285 #[.string ⟨l.toArray⟩, .int .u8 46]).run Tryz.prog w = .ok (.value (.int .i64 (Lib.indexByte l 46))) w := by
  rw [run_callFunc_extern Tryz.func285 (by kernel_rfl) (by kernel_rfl) (by kernel_rfl) (e := Extern.BytealgIndexByte.indexByte) (by kernel_rfl), Lib.run_indexByteString]
  rfl
theorem keep_g {w w' : World} {g : Nat} {cs : Array Value} (h : ∃ ty mk, w.heap[g]? = some (.cells cs ty mk)) (hb : Below w.heap.size w w') : ∃ ty mk, w'.heap[g]? = some (.cells cs ty mk) := by
  obtain ⟨ty, mk, h⟩ := h
  have h4 : g < w.heap.size := (Array.getElem?_eq_some_iff.1 h).1
  exact ⟨ty, mk, by rw [hb.block g h4]; exact h⟩
theorem val_0 {w w' : World} (h : Vg_4 w) (hb : Below w.heap.size w w') : Calls Tryz.prog 150 #[.string ⟨(([49, 46, 53] : List UInt8)).toArray⟩] w' (Vc.Ret (.tuple #[.agg #[.int .i64 3, .int .i64 2, .int .i64 0, .int .i64 0, .int .i64 0], .int .i64 0]) w') :=
  value_walk [49, 46, 53] [49] [53] true w' _ 0 (fun w2 => vc_strings_Cut__0 w2 _ ⟨⟨rfl, fun w3 => run_idx [49, 46, 53] w3⟩, rfl⟩) (by decide) (by decide) (keep_g h hb)
    (fun w2 => vc_vehicle_made__0 0 0 0 w2 _ (by simp)) ⟨_, _, _, _, _, rfl⟩
theorem val_1 {w w' : World} (h : Vg_4 w) (hb : Below w.heap.size w w') : Calls Tryz.prog 150 #[.string ⟨(([50] : List UInt8)).toArray⟩] w' (Vc.Ret (.tuple #[.agg #[.int .i64 2, .int .i64 1, .int .i64 0, .int .i64 0, .int .i64 0], .int .i64 0]) w') :=
  value_walk [50] [50] [] false w' _ 0 (fun w2 => vc_strings_Cut__1 w2 _ ⟨⟨rfl, fun w3 => run_idx [50] w3⟩, rfl⟩) (by decide) (by decide) (keep_g h hb)
    (fun w2 => vc_vehicle_made__1 0 0 0 w2 _ (by simp)) ⟨_, _, _, _, _, rfl⟩
theorem val_2 {w w' : World} (h : Vg_4 w) (hb : Below w.heap.size w w') : Calls Tryz.prog 150 #[.string ⟨(([51] : List UInt8)).toArray⟩] w' (Vc.Ret (.tuple #[.agg #[.int .i64 3, .int .i64 1, .int .i64 0, .int .i64 0, .int .i64 0], .int .i64 0]) w') :=
  value_walk [51] [51] [] false w' _ 0 (fun w2 => vc_strings_Cut__2 w2 _ ⟨⟨rfl, fun w3 => run_idx [51] w3⟩, rfl⟩) (by decide) (by decide) (keep_g h hb)
    (fun w2 => vc_vehicle_made__2 0 0 0 w2 _ (by simp)) ⟨_, _, _, _, _, rfl⟩
theorem val_3 {w w' : World} (h : Vg_4 w) (hb : Below w.heap.size w w') : Calls Tryz.prog 150 #[.string ⟨(([49, 48] : List UInt8)).toArray⟩] w' (Vc.Ret (.tuple #[.agg #[.int .i64 10, .int .i64 1, .int .i64 0, .int .i64 0, .int .i64 0], .int .i64 0]) w') :=
  value_walk [49, 48] [49, 48] [] false w' _ 0 (fun w2 => vc_strings_Cut__3 w2 _ ⟨⟨rfl, fun w3 => run_idx [49, 48] w3⟩, rfl⟩) (by decide) (by decide) (keep_g h hb)
    (fun w2 => vc_vehicle_made__3 0 0 0 w2 _ (by simp)) ⟨_, _, _, _, _, rfl⟩
theorem val_4 {w w' : World} (h : Vg_4 w) (hb : Below w.heap.size w w') : Calls Tryz.prog 150 #[.string ⟨(([50, 48, 48, 48] : List UInt8)).toArray⟩] w' (Vc.Ret (.tuple #[.agg #[.int .i64 2000, .int .i64 1, .int .i64 0, .int .i64 0, .int .i64 0], .int .i64 0]) w') :=
  value_walk [50, 48, 48, 48] [50, 48, 48, 48] [] false w' _ 0 (fun w2 => vc_strings_Cut__4 w2 _ ⟨⟨rfl, fun w3 => run_idx [50, 48, 48, 48] w3⟩, rfl⟩) (by decide) (by decide) (keep_g h hb)
    (fun w2 => vc_vehicle_made__4 0 0 0 w2 _ (by simp)) ⟨_, _, _, _, _, rfl⟩
theorem val_5 {w w' : World} (h : Vg_4 w) (hb : Below w.heap.size w w') : Calls Tryz.prog 150 #[.string ⟨(([49] : List UInt8)).toArray⟩] w' (Vc.Ret (.tuple #[.agg #[.int .i64 1, .int .i64 1, .int .i64 0, .int .i64 0, .int .i64 0], .int .i64 0]) w') :=
  value_walk [49] [49] [] false w' _ 0 (fun w2 => vc_strings_Cut__5 w2 _ ⟨⟨rfl, fun w3 => run_idx [49] w3⟩, rfl⟩) (by decide) (by decide) (keep_g h hb)
    (fun w2 => vc_vehicle_made__5 0 0 0 w2 _ (by simp)) ⟨_, _, _, _, _, rfl⟩
theorem val_6 {w w' : World} (h : Vg_4 w) (hb : Below w.heap.size w w') : Calls Tryz.prog 150 #[.string ⟨(([48, 46, 53] : List UInt8)).toArray⟩] w' (Vc.Ret (.tuple #[.agg #[.int .i64 1, .int .i64 2, .int .i64 0, .int .i64 0, .int .i64 0], .int .i64 0]) w') :=
  value_walk [48, 46, 53] [48] [53] true w' _ 0 (fun w2 => vc_strings_Cut__6 w2 _ ⟨⟨rfl, fun w3 => run_idx [48, 46, 53] w3⟩, rfl⟩) (by decide) (by decide) (keep_g h hb)
    (fun w2 => vc_vehicle_made__6 0 0 0 w2 _ (by simp)) ⟨_, _, _, _, _, rfl⟩
theorem val_7 {w w' : World} (h : Vg_4 w) (hb : Below w.heap.size w w') : Calls Tryz.prog 150 #[.string ⟨(([48] : List UInt8)).toArray⟩] w' (Vc.Ret (.tuple #[.agg #[.int .i64 0, .int .i64 1, .int .i64 0, .int .i64 0, .int .i64 0], .int .i64 0]) w') :=
  value_walk [48] [48] [] false w' _ 0 (fun w2 => vc_strings_Cut__7 w2 _ ⟨⟨rfl, fun w3 => run_idx [48] w3⟩, rfl⟩) (by decide) (by decide) (keep_g h hb)
    (fun w2 => vc_vehicle_made__7 0 0 0 w2 _ (by simp)) ⟨_, _, _, _, _, rfl⟩
theorem val_8 {w w' : World} (h : Vg_4 w) (hb : Below w.heap.size w w') : Calls Tryz.prog 150 #[.string ⟨(([53, 48] : List UInt8)).toArray⟩] w' (Vc.Ret (.tuple #[.agg #[.int .i64 50, .int .i64 1, .int .i64 0, .int .i64 0, .int .i64 0], .int .i64 0]) w') :=
  value_walk [53, 48] [53, 48] [] false w' _ 0 (fun w2 => vc_strings_Cut__8 w2 _ ⟨⟨rfl, fun w3 => run_idx [53, 48] w3⟩, rfl⟩) (by decide) (by decide) (keep_g h hb)
    (fun w2 => vc_vehicle_made__8 0 0 0 w2 _ (by simp)) ⟨_, _, _, _, _, rfl⟩
theorem val_9 {w w' : World} (h : Vg_4 w) (hb : Below w.heap.size w w') : Calls Tryz.prog 150 #[.string ⟨(([51, 53] : List UInt8)).toArray⟩] w' (Vc.Ret (.tuple #[.agg #[.int .i64 35, .int .i64 1, .int .i64 0, .int .i64 0, .int .i64 0], .int .i64 0]) w') :=
  value_walk [51, 53] [51, 53] [] false w' _ 0 (fun w2 => vc_strings_Cut__9 w2 _ ⟨⟨rfl, fun w3 => run_idx [51, 53] w3⟩, rfl⟩) (by decide) (by decide) (keep_g h hb)
    (fun w2 => vc_vehicle_made__9 0 0 0 w2 _ (by simp)) ⟨_, _, _, _, _, rfl⟩
set_option maxHeartbeats 4000000 in
set_option maxRecDepth 100000 in
theorem res_one (w : World) (h0 : Vg_0 w) (h14 : Vg_14 w) : Calls Tryz.prog 183 #[.string ⟨(([111, 110, 101] : List UInt8)).toArray⟩] w (Vc.Ret (.bool false) w) := by
  refine vc_vehicle_reserved__one w _ ?_
  repeat first
    | exact rfl
    | refine ⟨h0, ?_⟩
    | refine ⟨h14, ?_⟩
    | intro _ _
set_option maxHeartbeats 4000000 in
set_option maxRecDepth 100000 in
theorem res_tank (w : World) (h0 : Vg_0 w) (h14 : Vg_14 w) : Calls Tryz.prog 183 #[.string ⟨(([116, 97, 110, 107] : List UInt8)).toArray⟩] w (Vc.Ret (.bool false) w) := by
  refine vc_vehicle_reserved__tank w _ ?_
  repeat first
    | exact rfl
    | refine ⟨h0, ?_⟩
    | refine ⟨h14, ?_⟩
    | intro _ _
set_option maxHeartbeats 4000000 in
set_option maxRecDepth 100000 in
theorem res_low (w : World) (h0 : Vg_0 w) (h14 : Vg_14 w) : Calls Tryz.prog 183 #[.string ⟨(([108, 111, 119] : List UInt8)).toArray⟩] w (Vc.Ret (.bool false) w) := by
  refine vc_vehicle_reserved__low w _ ?_
  repeat first
    | exact rfl
    | refine ⟨h0, ?_⟩
    | refine ⟨h14, ?_⟩
    | intro _ _
set_option maxHeartbeats 4000000 in
set_option maxRecDepth 100000 in
theorem res_e (w : World) (h0 : Vg_0 w) (h14 : Vg_14 w) : Calls Tryz.prog 183 #[.string ⟨(([101] : List UInt8)).toArray⟩] w (Vc.Ret (.bool false) w) := by
  refine vc_vehicle_reserved__e w _ ?_
  repeat first
    | exact rfl
    | refine ⟨h0, ?_⟩
    | refine ⟨h14, ?_⟩
    | intro _ _
/-- The package's variables, as far as they are asked. -/
structure VGs (w : World) : Prop where
  g0 : Vg_0 w
  g3 : Vg_3 w
  g4 : Vg_4 w
  g5 : Vg_5 w
  g6 : Vg_6 w
  g7 : Vg_7 w
  g8 : Vg_8 w
  g9 : Vg_9 w
  g10 : Vg_10 w
  g11 : Vg_11 w
  g12 : Vg_12 w
  g14 : Vg_14 w
  g15 : Vg_15 w
theorem VGs.keep {w w' : World} (h : VGs w) (hb : Below w.heap.size w w') : VGs w' := ⟨keep_g h.g0 hb, keep_g h.g3 hb, keep_g h.g4 hb, keep_g h.g5 hb, keep_g h.g6 hb, keep_g h.g7 hb, keep_g h.g8 hb, keep_g h.g9 hb, keep_g h.g10 hb, keep_g h.g11 hb, keep_g h.g12 hb, keep_g h.g14 hb, keep_g h.g15 hb⟩
set_option maxHeartbeats 4000000 in
set_option maxRecDepth 100000 in
theorem awake_any (w : World) (hG : VGs w) : Calls Tryz.prog 19 #[] w (Vc.Ret (.bool true) w) := by
  obtain ⟨h0, h3, h4, h5, h6, h7, h8, h9, h10, h11, h12, h14, h15⟩ := hG
  refine vc_ullagelaw02_awake w _ ?_
  have hdiv : ∀ w' : World, Calls Tryz.prog 55 #[.agg #[.int .i64 42949672960, .int .i64 51539607552], .agg #[.int .i64 8589934592, .int .i64 17179869184]] w' (Vc.Ret (.tuple #[.agg #[.int .i64 10737418240, .int .i64 25769803776], .int .i64 0]) w') := fun w' =>
    Vc.Ret.mono (pdiv_any 42949672960 51539607552 8589934592 17179869184 w' ⟨by decide, by decide⟩ ⟨by decide, by decide⟩ ⟨by decide, by decide⟩ ⟨by decide, by decide⟩) (by kernel_rfl)
  have r1 := fun (w' : World) (hb : Below w.heap.size w w') => res_one w' (keep_g h0 hb) (keep_g h14 hb)
  have r2 := fun (w' : World) (hb : Below w.heap.size w w') => res_tank w' (keep_g h0 hb) (keep_g h14 hb)
  have r3 := fun (w' : World) (hb : Below w.heap.size w w') => res_low w' (keep_g h0 hb) (keep_g h14 hb)
  have r4 := fun (w' : World) (hb : Below w.heap.size w w') => res_e w' (keep_g h0 hb) (keep_g h14 hb)
  have v0 := fun (w' : World) (hb : Below w.heap.size w w') => val_0 h4 hb
  have v1 := fun (w' : World) (hb : Below w.heap.size w w') => val_1 h4 hb
  have v2 := fun (w' : World) (hb : Below w.heap.size w w') => val_2 h4 hb
  have v3 := fun (w' : World) (hb : Below w.heap.size w w') => val_3 h4 hb
  have v4 := fun (w' : World) (hb : Below w.heap.size w w') => val_4 h4 hb
  have v5 := fun (w' : World) (hb : Below w.heap.size w w') => val_5 h4 hb
  have v6 := fun (w' : World) (hb : Below w.heap.size w w') => val_6 h4 hb
  have v7 := fun (w' : World) (hb : Below w.heap.size w w') => val_7 h4 hb
  have v8 := fun (w' : World) (hb : Below w.heap.size w w') => val_8 h4 hb
  have v9 := fun (w' : World) (hb : Below w.heap.size w w') => val_9 h4 hb
  repeat first
    | with_reducible refine ⟨h0, ?_⟩
    | with_reducible refine ⟨h3, ?_⟩
    | with_reducible refine ⟨h4, ?_⟩
    | with_reducible refine ⟨h5, ?_⟩
    | with_reducible refine ⟨h6, ?_⟩
    | with_reducible refine ⟨h7, ?_⟩
    | with_reducible refine ⟨h8, ?_⟩
    | with_reducible refine ⟨h9, ?_⟩
    | with_reducible refine ⟨h10, ?_⟩
    | with_reducible refine ⟨h11, ?_⟩
    | with_reducible refine ⟨h12, ?_⟩
    | with_reducible refine ⟨h14, ?_⟩
    | with_reducible refine ⟨h15, ?_⟩
    | with_reducible refine ⟨r1, ?_⟩
    | with_reducible refine ⟨r2, ?_⟩
    | with_reducible refine ⟨r3, ?_⟩
    | with_reducible refine ⟨r4, ?_⟩
    | with_reducible refine ⟨v0, ?_⟩
    | with_reducible refine ⟨v1, ?_⟩
    | with_reducible refine ⟨v2, ?_⟩
    | with_reducible refine ⟨v3, ?_⟩
    | with_reducible refine ⟨v4, ?_⟩
    | with_reducible refine ⟨v5, ?_⟩
    | with_reducible refine ⟨v6, ?_⟩
    | with_reducible refine ⟨v7, ?_⟩
    | with_reducible refine ⟨v8, ?_⟩
    | with_reducible refine ⟨v9, ?_⟩
    | intro _ _
    | refine ⟨fun w' _ => hdiv w', ?_⟩
    | refine ⟨fun w' _ => vc_vehicle_flow _ _ _ _ _ _ _ _ _ _ _ w' _ rfl, ?_⟩
    | exact rfl
end Go.Proofs.YtogfcodccbcncaaGreatDoor
