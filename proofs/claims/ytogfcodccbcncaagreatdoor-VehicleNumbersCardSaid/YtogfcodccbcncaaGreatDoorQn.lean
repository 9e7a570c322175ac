/- VehicleNumbers, walked: what it computes is true. -/
import Derived.Test.YtogfcodccbcncaaGreatDoorQb
import Derived.Test.YtogfcodccbcncaaGreatDoorAwv
set_option linter.unusedVariables false
set_option linter.unusedSimpArgs false
namespace Go.Proofs.YtogfcodccbcncaaGreatDoor
open Go Go.RowKit Vc
attribute [local irreducible] Go.Calls
def uppR (n d k s t : Int) : Int × Int := if ckQ n d k s t = true then (IntKind.i64.wrap (0 - (lowR (-n) d k s t).1), (lowR (-n) d k s t).2) else (0, 2)
theorem pupp_any (n d k s t : Int) (w : World) : Calls Tryz.prog 22 #[QV n d k s t] w (Vc.Ret (NE (uppR n d k s t)) w) := by
  refine vc_vehicle_Upper n d k s t w _ ⟨_, fun w' _ => pck_any n d k s t w', ?_⟩
  refine iteI (fun hc => ?_) (fun hc => by unfold uppR; rw [if_neg hc])
  rintro x5 hx5
  have hb := (ck_bd hc).1
  rw [i64_id (by omega), Int.zero_sub] at hx5
  subst hx5
  refine ⟨_, _, fun w' _ => plow_any (-n) d k s t w', ?_⟩
  rintro x8 rfl
  unfold uppR; rw [if_pos hc]
theorem rupp_any (n d k s t : Int) (w : World) : Calls Tryz.prog 23 #[QV n d k s t] w (Vc.Ret (NE (uppR n d k s t)) w) := by
  refine vc_ullageref02_Upper n d k s t w _ ⟨_, fun w' _ => rck_any n d k s t w', ?_⟩
  refine iteI (fun hc => ?_) (fun hc => by unfold uppR; rw [if_neg hc])
  rintro x5 hx5
  have hb := (ck_bd hc).1
  rw [i64_id (by omega), Int.zero_sub] at hx5
  subst hx5
  refine ⟨_, _, fun w' _ => rlow_any (-n) d k s t w', ?_⟩
  rintro x8 rfl
  unfold uppR; rw [if_pos hc]
theorem ck_neg {n d k s t : Int} (h : ckQ n d k s t = true) : ckQ (-n) d k s t = true := by
  simp only [ckQ, Bool.and_eq_true, decide_eq_true_eq] at h ⊢
  obtain ⟨⟨⟨⟨⟨h1, h2⟩, h3⟩, h4⟩, h5⟩, h6⟩ := h
  exact ⟨⟨⟨⟨⟨by omega, by omega⟩, h3⟩, h4⟩, by simpa [Int.gcd] using h5⟩, h6⟩
theorem low_ok {n d k s t : Int} (h : (lowR n d k s t).2 = 0) : ckQ n d k s t = true ∧ (lowR n d k s t).1 = n * 4294967296 / d ∧ -9223372036854775807 ≤ n * 4294967296 / d ∧ n * 4294967296 / d ≤ 9223372036854775807 := by
  by_cases hc : ckQ n d k s t = true
  · by_cases hr : -9223372036854775807 ≤ n * 4294967296 / d ∧ n * 4294967296 / d ≤ 9223372036854775807
    · rw [low_yes hc hr.1 hr.2]; exact ⟨hc, rfl, hr⟩
    · rw [low_no hc hr] at h; cases h
  · rw [low_bad hc] at h; cases h
theorem dvd_pow {n d : Int} (hg : Int.gcd n d = 1) (h : d ∣ n * 4294967296) : d ∣ 4294967296 := by
  have h1 : d.natAbs ∣ n.natAbs * 4294967296 := by
    have := Int.natAbs_dvd_natAbs.2 h
    rwa [Int.natAbs_mul] at this
  have h2 : Nat.Coprime d.natAbs n.natAbs := by rw [Nat.coprime_comm]; exact hg
  have h3 : d.natAbs ∣ 4294967296 := h2.dvd_of_dvd_mul_left h1
  exact Int.natAbs_dvd_natAbs.1 h3
theorem walk_vehicleNumbers {w : World} (n d k s t : Int) (hG : VGs w) : Calls Tryz.prog 4 #[QV n d k s t] w (Vc.Ret (.bool true) w) := by
  refine vc_ullagelaw02_VehicleNumbers n d k s t w _ ⟨_, _, fun w' _ => plow_any n d k s t w', _, _, fun w' _ => rlow_any n d k s t w', _, _, fun w' _ => pupp_any n d k s t w', _, _, fun w' _ => rupp_any n d k s t w', ?_⟩
  have aw : ∃ b0 : Bool, (∀ w' : World, Below w.heap.size w w' → Calls Tryz.prog 19 #[] w' (Vc.Ret (.bool b0) w')) ∧ (.bool b0 : Value) = .bool true := ⟨true, fun w' hb => awake_any w' (hG.keep hb), rfl⟩
  refine iteI (fun _ => iteI (fun _ => iteI (fun _ => iteI (fun _ => ?_) fun h => absurd rfl h) fun h => absurd rfl h) fun h => absurd rfl h) fun h => absurd rfl h
  refine iteI (fun e1 => iteI (fun e2 => ?_) fun _ => aw) fun _ => aw
  obtain ⟨hc, l1, l2, l3⟩ := low_ok e1
  obtain ⟨hb, d1, d2, hg⟩ := ck_bd hc
  have hd0 : 0 < d := by omega
  have e2' : (lowR (-n) d k s t).2 = 0 := by unfold uppR at e2; rw [if_pos hc] at e2; exact e2
  obtain ⟨_, u1, u2, u3⟩ := low_ok e2'
  have hu : (uppR n d k s t).1 = -((-n) * 4294967296 / d) := by
    unfold uppR; rw [if_pos hc]
    show IntKind.i64.wrap (0 - (lowR (-n) d k s t).1) = _
    rw [u1, i64_id (by omega), Int.zero_sub]
  rw [l1, hu]
  clear l1 hu u1 e1 e2 e2'
  obtain ⟨F, hF⟩ : ∃ F, F = n * 4294967296 / d := ⟨_, rfl⟩
  obtain ⟨r, hr⟩ : ∃ r, r = n * 4294967296 % d := ⟨_, rfl⟩
  have h3 : d * F + r = n * 4294967296 := by rw [hF, hr]; exact Int.mul_ediv_add_emod _ _
  have r0 : 0 ≤ r := by rw [hr]; exact Int.emod_nonneg _ (by omega)
  have r1 : r < d := by rw [hr]; exact Int.emod_lt_of_pos _ hd0
  refine ⟨by omega, ?_⟩
  rintro x13 hx13
  rw [Int.tmod_eq_emod_of_nonneg (by omega)] at hx13
  rw [← hF] at l2 l3 ⊢
  have hn : (-n) * 4294967296 = -(n * 4294967296) := Int.neg_mul _ _
  have em : d * (-F) = -(d * F) := Int.mul_neg d F
  have em1 : d * (-(F + 1)) = -(d * F) - d := by rw [Int.mul_neg, Int.mul_add]; omega
  refine iteI (fun h13 => ?_) (fun h13 => ?_)
  · have hdv : d ∣ 4294967296 := Int.dvd_of_emod_eq_zero (by rw [← hx13]; exact h13)
    have hr2 : r = 0 := by rw [hr]; exact Int.emod_eq_zero_of_dvd (Int.dvd_trans hdv (Int.dvd_mul_left _ _))
    have hF2 : (-n) * 4294967296 / d = -F := fdiv_eq hd0 (by rw [em]; omega) (by rw [em]; omega)
    rw [hF2, Int.neg_neg]
    exact iteI (fun _ => iteI (fun _ => aw) fun h => absurd h13 h) fun h => absurd rfl h
  · have hr2 : r ≠ 0 := fun h => h13 (by
      rw [hx13]
      exact Int.emod_eq_zero_of_dvd (dvd_pow hg (Int.dvd_of_emod_eq_zero (by rw [← hr]; exact h))))
    have hF2 : (-n) * 4294967296 / d = -(F + 1) := fdiv_eq hd0 (by rw [em1]; omega) (by rw [em1]; omega)
    rw [hF2] at u2 u3 ⊢
    rw [Int.neg_neg]
    refine iteI (fun h => absurd h h13) fun _ => ?_
    rintro x14 hx14
    rw [i64_id (by omega)] at hx14
    exact iteI (fun _ => aw) fun h => absurd hx14.symm h
end Go.Proofs.YtogfcodccbcncaaGreatDoor
