/- VehicleShows: for every input the law returns true, and each argument reads afterwards as it read before. No condition. -/
import Derived.Test.YtogfcodccbcncaaGreatDoorSw
import Derived.Test.YtogfcodccbcncaaGreatDoorGl
import Derived.Test.YtogfcodccbcncaaGreatDoorJfS
import Derived.WalkKit
import Derived.ProofKit
import Derived.OpenShut
import Derived.Lib.SmallJoins
import Derived.LaidMore
import Derived.Stop.Joined
import Derived.SevenTiedAt
import Derived.Lay
import Derived.MakeChecks
import Derived.ChangeMaps5
import Derived.Test.YtogfcodccbcncaaGreatDoorCards
import Derived.Test.YtogfcodccbcncaaGreatDoorTie
set_option linter.unusedVariables false
set_option linter.unusedSimpArgs false
namespace Go.Proofs.YtogfcodccbcncaaGreatDoor.vehicleShows
open Go.ChangeShapes Go.WideShapes Go.ChangeAt Go.RowKit Go.Joins Ul
theorem own : ownKnob Tryz.prog.godebug = none := by kernel_rfl
theorem laidOut : laidOutB Tryz.prog = true := by kernel_rfl
set_option maxRecDepth 100000 in
theorem lifted (os : Os) (started : os.Started) (H : Type) (enc : TypeId × Value → H) :
    ReturnsInHanded {} Tryz.checked os 6 .any (fun w args => (Rows.vehicleShowsSpec.pre enc Tryz.prog Tryz.f6 [] false w args ∧ laidMetH Tryz.prog Rows.vehicleShowsRow.laid w) ∧ sizedMet enc Tryz.prog Tryz.f6 (OpenSpec.ofChange Rows.vehicleShowsSpec) false w args) (Rows.vehicleShowsSpec.post enc Tryz.prog Tryz.f6 false true false false) := by
  refine returnsInHanded_of_change_and (C := Tryz.checked) (X := fun w _ => laidMetH Tryz.prog Rows.vehicleShowsRow.laid w) (fun _ _ _ hh h => h.of_heap hh) own started (by kernel_rfl) Tryz.func6
    (ChangeSpec.witness_shaped (enc := enc) (C := Tryz.checked) (os := os) (X := fun w _ => laidMetH Tryz.prog Rows.vehicleShowsRow.laid w) false (World.laidAll Tryz.prog os Rows.vehicleShowsRow.laid) #[.agg #[.int .i64 0, .int .i64 0, .int .i64 0, .int .i64 0, .int .i64 0]] 8 (World.laidAll_os _ _ _) (World.shaped_of_ZipB (by kernel_rfl) (by kernel_rfl)) (by kernel_rfl) (by kernel_rfl) (by kernel_rfl) (by rw [MakeChecks.laidMetH_plain _ _ _ (by kernel_rfl)]; exact laidMet_laidAll _ (by kernel_rfl) (by kernel_rfl))) ?_
  intro W base args ds gs before hval0 hW _ _ hL _
  have hval : ∀ (j : Nat) t v, Tryz.f6.params[j]? = some t → args[j]? = some v → Value.okWide Tryz.prog W .any base t v := hval0
  have hW' := hW
  obtain ⟨p, q, hA0, hV, rfl, hfz, hnd⟩ := hW
  have hA : DataW.TrodAll enc Tryz.prog W 0 (fun _ => true) true Tryz.f6.params.toList args.toList ds p := hA0
  rw [Tryz.params6] at hA hval
  obtain ⟨v0, vs0, d0, ds0, p0, q0, hargs, rfl, rfl, h0, r0⟩ := trodAll_cons hA
  obtain ⟨rfl, rfl, rfl⟩ := trodAll_nil r0
  obtain rfl : args = #[v0] := by cases args; simp_all
  obtain ⟨rfl, rfl⟩ := trodVars_none hV
  have hlt := fun x hx => hW'.lt x hx
  have k0 := h0
  obtain ⟨qa0, qb0, qc0, qd0, qe0, rfl⟩ := open_q rfl (hval 0 23 v0 rfl rfl) h0
  clear hA0 hval0
  simp only [List.append_nil] at hW'
  refine (walk_vehicleShows (w := W) qa0 qb0 qc0 qd0 qe0 (vgs_of fun n d h => Lib.laidMet.reads (show laidMet Tryz.prog Rows.vehicleShowsRow.laid W from hL) h)).mono fun e W' ⟨he, hg⟩ => ?_
  subst he
  exact ⟨_, rfl, _, _, _, [], (p0 ++ []), [], hW', trodAll_cons_mk (shut_bool Tryz.underlying4 _) trodAll_mk0, trodAll_cons_mk (Below.trod laidOut (by kernel_rfl) (of_decide_eq_true (by kernel_rfl)) k0 hg (fun x hx => hlt x (by simp [hx]))) (trodAll_mk0), rfl, hg.frame _, fun h => by cases h⟩
theorem closed : joinedFacts Tryz.pinned.checked.prog 6 Tryz.f6 Rows.vehicleShowsSpec Rows.vehicleShowsRow = true := by
  unfold joinedFacts
  simp only [jf_laidOut, jf_mapsRowed, jf_inPlace, jf_unfollowed, jf_recurses, jf_named, jf_stops, jf_knobs, jf_heard, jf_enter, jf_lifted, jf_make, jf_plain, Bool.and_true, Bool.true_and]
  kernel_rfl
theorem over : Rows.vehicleShowsRow.holds Tryz.pinned (OpenSpec.ofChange Rows.vehicleShowsSpec) :=
  OpenClaim.holds_of_wide 6 Tryz.f6 rfl rfl rfl rfl rfl rfl rfl ⟨rfl, rfl, rfl, rfl, rfl⟩ rfl rfl rfl rfl rfl (by kernel_rfl) Tryz.func6 closed
    (of_decide_eq_true (by kernel_rfl)) (by unfold Func.isWrapper; first | (rw [if_pos (by decide +kernel)]; kernel_rfl) | (rw [if_neg (by decide +kernel)]; exact ⟨rfl, rfl⟩))
    (fun os started H enc _ => lifted os started H enc)
theorem pv_wf : Rows.vehicleShowsRow.wfByText (OpenSpec.ofChange Rows.vehicleShowsSpec) = true := by kernel_rfl
theorem pv_main : Tryz.pinned.checked.prog.mainIs = some (true, "c65ffc23198c055ae78195d9ca5a7ae9defd3fe2b68d7512f53cac2b6d831df7".toList) := by kernel_rfl
theorem pv_looks : true = Tryz.pinned.checked.prog.looks [] := by kernel_rfl
theorem pv_goes : false = Rows.vehicleShowsRow.goesBy Tryz.pinned.checked.prog := by kernel_rfl
theorem pv_funcNamed : Tryz.prog.funcNamed "ullage/ullagelaw02.VehicleShows" = some 6 := by kernel_rfl
theorem pv_stand : ([23].all fun u => !Tryz.prog.wantsStandIn u) = true := by kernel_rfl
/-- The statement. -/
theorem proved : Rows.VehicleShowsCardSaid :=
  Claim7.holds_tied_plain_at .later [] [.data, .data, .data, .data, .listed, .data, .widerDeep, .widerDeep, .data, .data, .data, .data, .data, .data, .data, .data, .data, .pinned] true (true, "c65ffc23198c055ae78195d9ca5a7ae9defd3fe2b68d7512f53cac2b6d831df7") true
    over (fun _ h => by cases h) pv_wf (fun _ h => by cases h) vehicleShows_row_tie rfl ⟨rfl, rfl⟩ pv_main rfl
    (fun f fn hf hfn => by
      obtain rfl : f = 6 := Option.some.inj (pv_funcNamed.symm.trans hf) |>.symm
      obtain rfl : fn = Tryz.f6 := (Option.some.inj (Tryz.func6.symm.trans hfn)).symm
      exact ⟨pv_looks, fun j t ht => by
        rw [Tryz.params6] at ht
        have hm : t ∈ [23] := by simpa using Array.mem_of_getElem? ht
        have hall := pv_stand
        exact (show Tryz.prog.wantsStandIn t = false by simpa using List.all_eq_true.1 hall t hm)⟩)
    pv_goes
#print axioms proved
end Go.Proofs.YtogfcodccbcncaaGreatDoor.vehicleShows
