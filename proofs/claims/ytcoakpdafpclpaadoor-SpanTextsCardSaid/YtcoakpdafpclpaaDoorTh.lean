/- The reference's Read, all together. -/
import Derived.Test.YtcoakpdafpclpaaDoorTi
set_option linter.unusedVariables false
set_option linter.unusedSimpArgs false
namespace Go.Proofs.YtcoakpdafpclpaaDoor
open Go Go.RowKit Go.Sort Go.Proofs Ul Vc
attribute [local irreducible] Go.Calls
set_option maxHeartbeats 1000000 in
/-- The reference's Read: what readV says. -/
theorem rread_c (s : List UInt8) (hs : s.length < 4611686018427387904) (w : World) : Calls Tryd.prog 6 #[.string ⟨s.toArray⟩] w (Vc.Ret (Vc.RV (readV s)) w) := by
  refine vc_ullageref01_Read s w _ ?_
  rintro _ rfl
  refine ⟨fun h0 => ?_, fun h0 => ?_⟩
  · unfold readV; rw [if_pos (by omega)]
  have hle : s.length ≤ 80 := by omega
  have hrv : readV s = if s.head? = some 45 then readT true s.tail else readT false s := if_neg (by omega)
  rintro _ rfl
  have go : ∀ (b : Bool) (t : List UInt8) (x3 : Int), t.length ≤ 80 → b = decide (x3 = 45) → Vc.RV (readT b t) = Vc.RV (readV s) → formOk t = true →
      Vj_ullageref01_Read_T1 x3 (formV t).2.2 ((formV t).2.1 : Int) w t (Vc.RV (readV s)) := by
    intro b t x3 ht hb hv hok
    obtain ⟨l1, l2⟩ := form_law t
    obtain ⟨m1, m2⟩ := l2 hok
    rw [m1, m2]
    refine ⟨fun h45 => ?_, fun h45 => ?_⟩
    · have hbt : b = true := by rw [hb]; exact decide_eq_true h45
      refine ⟨fun hs1 => t2r t ht x3 w _ hok ?_, fun hs1 => ?_⟩
      · rw [← hv, readT_end hok (fun _ => hs1), hb]
      · rw [← hv, hbt, readT_none (by simpa using hs1)]
    · have hbf : b = false := by rw [hb]; exact decide_eq_false h45
      refine t2r t ht x3 w _ hok ?_
      rw [← hv, readT_end hok (fun h => by rw [hbf] at h; cases h), hb]
  have no : ∀ (b : Bool) (t : List UInt8), Vc.RV (readT b t) = Vc.RV (readV s) → ¬ (formV t).1 = true → (.tuple #[.agg #[.int .i64 0, .int .i64 0], .int .i64 5] : Value) = Vc.RV (readV s) := by
    intro b t hv hf
    rw [(form_law t).1] at hf
    rw [← hv, readT_bad (by simpa using hf)]
  refine ⟨fun h1 => ?_, fun h1 => ?_⟩
  · rintro _ rfl
    refine ⟨h1, ?_⟩
    obtain ⟨c, r, rfl⟩ : ∃ c r, s = c :: r := by
      cases s with
      | nil => cases h1
      | cons c r => exact ⟨c, r, rfl⟩
    have hg : (c :: r).getD (Int.toNat 0) 0 = c := rfl
    rw [hg]
    rintro _ rfl
    refine ⟨fun h45 => ?_, fun h45 => ?_⟩
    · have hc : c = 45 := UInt8.toNat_inj.1 (by show _ = 45; omega)
      have hv : Vc.RV (readT true r) = Vc.RV (readV (c :: r)) := by rw [hrv, if_pos (by rw [hc]; rfl)]; rfl
      rintro _ rfl
      refine ⟨⟨by omega, by omega, by omega⟩, ?_⟩
      rintro _ rfl
      have e : List.take (Int.toNat (((c :: r).length : Nat) : Int) - Int.toNat 1) (List.drop (Int.toNat 1) (c :: r)) = r := by
        rw [Int.toNat_natCast]
        show List.take (r.length + 1 - 1) r = r
        rw [Nat.add_sub_cancel, List.take_length]
      rw [e]
      have hlr : r.length ≤ 80 := by simp at hle; omega
      refine ⟨_, _, _, fun w' _ => form_c r (by omega) w', fun hf => ?_, fun hf => no true r hv hf⟩
      exact go true r _ hlr (by rw [decide_eq_true h45]) hv (by rw [← (form_law r).1]; exact hf)
    · have hc : ¬ c = 45 := fun h => h45 (by rw [h]; rfl)
      have hv : Vc.RV (readT false (c :: r)) = Vc.RV (readV (c :: r)) := by rw [hrv, if_neg (by simpa using hc)]
      refine ⟨_, _, _, fun w' _ => form_c (c :: r) (by omega) w', fun hf => ?_, fun hf => no false _ hv hf⟩
      exact go false _ _ hle (by rw [decide_eq_false h45]) hv (by rw [← (form_law _).1]; exact hf)
  · have hnil : s = [] := List.eq_nil_of_length_eq_zero (by omega)
    subst hnil
    have hv : Vc.RV (readT false []) = Vc.RV (readV []) := by rw [hrv]; rfl
    refine ⟨_, _, _, fun w' _ => form_c [] (by decide) w', fun hf => ?_, fun hf => no false _ hv hf⟩
    rw [(form_law []).1] at hf
    exact absurd hf (by decide)
end Go.Proofs.YtcoakpdafpclpaaDoor
