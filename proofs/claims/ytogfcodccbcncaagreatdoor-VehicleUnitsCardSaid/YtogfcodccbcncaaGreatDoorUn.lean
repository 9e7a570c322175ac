/- VehicleUnits, walked: what it computes is true. -/
import Derived.Test.YtogfcodccbcncaaGreatDoorQp
import Derived.Test.YtogfcodccbcncaaGreatDoorAwv
set_option linter.unusedVariables false
set_option linter.unusedSimpArgs false
namespace Go.Proofs.YtogfcodccbcncaaGreatDoor
open Go Go.RowKit Vc
attribute [local irreducible] Go.Calls
def unitsL : List Vc.OV := [⟨.string ⟨([107, 109] : List UInt8).toArray⟩, rfl⟩, ⟨.int .i64 1, rfl⟩, ⟨.int .i64 1, rfl⟩, ⟨.int .i64 1, rfl⟩, ⟨.int .i64 0, rfl⟩, ⟨.int .i64 0, rfl⟩, ⟨.string ⟨([109] : List UInt8).toArray⟩, rfl⟩, ⟨.int .i64 1, rfl⟩, ⟨.int .i64 1000, rfl⟩, ⟨.int .i64 1, rfl⟩, ⟨.int .i64 0, rfl⟩, ⟨.int .i64 0, rfl⟩, ⟨.string ⟨([99, 109] : List UInt8).toArray⟩, rfl⟩, ⟨.int .i64 1, rfl⟩, ⟨.int .i64 100000, rfl⟩, ⟨.int .i64 1, rfl⟩, ⟨.int .i64 0, rfl⟩, ⟨.int .i64 0, rfl⟩, ⟨.string ⟨([115] : List UInt8).toArray⟩, rfl⟩, ⟨.int .i64 1, rfl⟩, ⟨.int .i64 1, rfl⟩, ⟨.int .i64 0, rfl⟩, ⟨.int .i64 1, rfl⟩, ⟨.int .i64 0, rfl⟩, ⟨.string ⟨([109, 115] : List UInt8).toArray⟩, rfl⟩, ⟨.int .i64 1, rfl⟩, ⟨.int .i64 1000, rfl⟩, ⟨.int .i64 0, rfl⟩, ⟨.int .i64 1, rfl⟩, ⟨.int .i64 0, rfl⟩, ⟨.string ⟨([109, 105, 110] : List UInt8).toArray⟩, rfl⟩, ⟨.int .i64 60, rfl⟩, ⟨.int .i64 1, rfl⟩, ⟨.int .i64 0, rfl⟩, ⟨.int .i64 1, rfl⟩, ⟨.int .i64 0, rfl⟩, ⟨.string ⟨([104] : List UInt8).toArray⟩, rfl⟩, ⟨.int .i64 3600, rfl⟩, ⟨.int .i64 1, rfl⟩, ⟨.int .i64 0, rfl⟩, ⟨.int .i64 1, rfl⟩, ⟨.int .i64 0, rfl⟩, ⟨.string ⟨([116] : List UInt8).toArray⟩, rfl⟩, ⟨.int .i64 1, rfl⟩, ⟨.int .i64 1, rfl⟩, ⟨.int .i64 0, rfl⟩, ⟨.int .i64 0, rfl⟩, ⟨.int .i64 1, rfl⟩, ⟨.string ⟨([107, 103] : List UInt8).toArray⟩, rfl⟩, ⟨.int .i64 1, rfl⟩, ⟨.int .i64 1000, rfl⟩, ⟨.int .i64 0, rfl⟩, ⟨.int .i64 0, rfl⟩, ⟨.int .i64 1, rfl⟩, ⟨.string ⟨([77, 78] : List UInt8).toArray⟩, rfl⟩, ⟨.int .i64 1, rfl⟩, ⟨.int .i64 1, rfl⟩, ⟨.int .i64 1, rfl⟩, ⟨.int .i64 (-2), rfl⟩, ⟨.int .i64 1, rfl⟩, ⟨.string ⟨([107, 78] : List UInt8).toArray⟩, rfl⟩, ⟨.int .i64 1, rfl⟩, ⟨.int .i64 1000, rfl⟩, ⟨.int .i64 1, rfl⟩, ⟨.int .i64 (-2), rfl⟩, ⟨.int .i64 1, rfl⟩, ⟨.string ⟨([78] : List UInt8).toArray⟩, rfl⟩, ⟨.int .i64 1, rfl⟩, ⟨.int .i64 1000000, rfl⟩, ⟨.int .i64 1, rfl⟩, ⟨.int .i64 (-2), rfl⟩, ⟨.int .i64 1, rfl⟩, ⟨.string ⟨([80, 97] : List UInt8).toArray⟩, rfl⟩, ⟨.int .i64 1, rfl⟩, ⟨.int .i64 1, rfl⟩, ⟨.int .i64 (-1), rfl⟩, ⟨.int .i64 (-2), rfl⟩, ⟨.int .i64 1, rfl⟩, ⟨.string ⟨([107, 80, 97] : List UInt8).toArray⟩, rfl⟩, ⟨.int .i64 1000, rfl⟩, ⟨.int .i64 1, rfl⟩, ⟨.int .i64 (-1), rfl⟩, ⟨.int .i64 (-2), rfl⟩, ⟨.int .i64 1, rfl⟩]
theorem units_at {w : World} (h : Vg_0 w) : Vc.SlAt w (.slice (some ⟨0, 0, none⟩) 14 14) 6 (unitsL.map (·.1)) := by
  obtain ⟨ty, mk, hh⟩ := h
  obtain ⟨c, hl, hh⟩ : ∃ c : Array Value, c.toList = unitsL.map (·.1) ∧ w.heap[0]? = some (.cells c ty mk) := ⟨_, rfl, hh⟩
  refine .inr (.inr ⟨0, 0, 14, 14, rfl, rfl, fun j u hj => ?_⟩)
  have hc : w.cell? ⟨0, 0 + j, none⟩ = (unitsL.map (·.1))[j]? := by
    rw [Nat.zero_add, ← hl, Array.getElem?_toList]
    unfold World.cell?
    simp [hh]
  rw [hc, hj]
theorem walk_vehicleUnits {w : World} (x0 x1 x2 x3 x4 x5 x6 x7 x8 x9 : Int) (hG : VGs w) : Calls Tryz.prog 9 #[QV x0 x1 x2 x3 x4, QV x5 x6 x7 x8 x9] w (Vc.Ret (.bool true) w) := by
  refine vc_ullagelaw02_VehicleUnits x0 x1 x2 x3 x4 x5 x6 x7 x8 x9 w _ ⟨unitsL, units_at hG.g0, ?_⟩
  rintro _ rfl
  refine ⟨by decide, ?_⟩
  rintro _ rfl
  refine iteI (fun _ => ?_) fun h => absurd rfl h
  iterate 14
    rintro _ rfl
    refine ⟨by decide, _, rfl, _, rfl, _, rfl, _, rfl, _, rfl, _, rfl, ?_⟩
    refine iteI (fun _ => ?_) fun h => absurd ⟨rfl, rfl, rfl, rfl, rfl, rfl⟩ h
  refine ⟨_, _, _, _, _, _, fun w' _ => pplus_any _ _ _ _ _ _ _ _ _ _ w', _, _, _, _, _, _, fun w' _ => rplus_any _ _ _ _ _ _ _ _ _ _ w', ?_⟩
  refine ⟨_, _, _, _, _, _, fun w' _ => pminus_any _ _ _ _ _ _ _ _ _ _ w', _, _, _, _, _, _, fun w' _ => rminus_any _ _ _ _ _ _ _ _ _ _ w', ?_⟩
  refine ⟨_, _, _, _, _, _, fun w' _ => ptimes_any _ _ _ _ _ _ _ _ _ _ w', _, _, _, _, _, _, fun w' _ => rtimes_any _ _ _ _ _ _ _ _ _ _ w', ?_⟩
  refine ⟨_, _, _, _, _, _, fun w' _ => pover_any _ _ _ _ _ _ _ _ _ _ w', _, _, _, _, _, _, fun w' _ => rover_any _ _ _ _ _ _ _ _ _ _ w', ?_⟩
  refine ⟨_, fun w' _ => pck_any _ _ _ _ _ w', _, fun w' _ => rck_any _ _ _ _ _ w', ?_⟩
  iterate 4 refine iteI (fun _ => ?_) fun h => absurd Iff.rfl h
  iterate 3
    iterate 4 refine iteI (fun _ => ?_) fun h => absurd ⟨rfl, rfl, rfl, rfl, rfl⟩ h
    iterate 4 refine iteI (fun _ => ?_) fun h => absurd rfl h
  iterate 4 refine iteI (fun _ => ?_) fun h => absurd ⟨rfl, rfl, rfl, rfl, rfl⟩ h
  refine iteI (fun _ => ?_) fun h => absurd rfl h
  refine ⟨true, fun w' hb => awake_any w' (hG.keep hb), ?_⟩
  repeat (refine iteI (fun _ => ?_) fun h => absurd rfl h)
  rfl
end Go.Proofs.YtogfcodccbcncaaGreatDoor
