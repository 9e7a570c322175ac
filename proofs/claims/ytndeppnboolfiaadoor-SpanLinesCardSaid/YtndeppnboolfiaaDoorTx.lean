/- The text of one number, walked. -/
import Derived.Test.YtndeppnboolfiaaDoorTy
import Derived.Test.YtndeppnboolfiaaDoorSh
set_option linter.unusedVariables false
set_option linter.unusedSimpArgs false
namespace Go.Proofs.YtndeppnboolfiaaDoor
open Go Go.RowKit Go.Proofs
set_option maxHeartbeats 1000000 in
set_option maxRecDepth 100000 in
theorem fmt_small (w : World) : Calls Tryd.prog 99 #[.int .u64 0, .int .i64 10] w fun e w' => e = .returned (.string ⟨#[48]⟩) ∧ w' = w := by
  go_enter Tryd.func99, Tryd.ntmps99
  have hd : Lib.decDigits 0 = [48] := by decide +kernel
  go_wp2_with (go_at_call 112; refine (Tryd.internal_strconv_small 0 (by decide) _).mono ?_)
  rw [hd]
  rintro e w1 ⟨rfl, rfl⟩
  go_wp2
  go_ret
  exact ⟨rfl, rfl⟩
set_option maxHeartbeats 1000000 in
set_option maxRecDepth 100000 in
theorem fmt_small2 (w : World) : Calls Tryd.prog 81 #[.int .u64 0, .int .i64 10] w fun e w' => e = .returned (.string ⟨#[48]⟩) ∧ w' = w := by
  go_enter Tryd.func81, Tryd.ntmps81
  go_wp2_with (go_at_call 99; refine (fmt_small _).mono ?_)
  rintro e w1 ⟨rfl, rfl⟩
  go_wp2
  go_ret
  exact ⟨rfl, rfl⟩
set_option maxHeartbeats 1000000 in
set_option maxRecDepth 100000 in
theorem valid_q (w : World) : Calls Tryd.prog 59 #[.int .i64 (-1073741824)] w fun e w' => e = .returned (.bool true) ∧ w' = w := by
  go_enter Tryd.func59, Tryd.ntmps59
  go_wp2
  go_ret
  exact ⟨rfl, rfl⟩
set_option maxHeartbeats 1000000 in
set_option maxRecDepth 100000 in
theorem size_q (w : World) : Calls Tryd.prog 78 #[.int .i64 (-1073741824)] w fun e w' => e = .returned (.int .u64 1073741824) ∧ w' = w := by
  go_enter Tryd.func78, Tryd.ntmps78
  go_wp2
  go_ret
  exact ⟨rfl, rfl⟩
set_option maxHeartbeats 4000000 in
set_option maxRecDepth 1000000 in
theorem text_quarter (w : World) : Calls Tryd.prog 44 #[.int .i64 (-1073741824)] w fun e w' => e = .returned (.string ⟨#[45, 48, 46, 50, 53]⟩) ∧ Below w.heap.size w w' := by
  go_enter Tryd.func44, Tryd.ntmps44
  go_wp2_with (first | (go_at_call 59; refine (valid_q _).mono ?_; rintro e wf ⟨rfl, ew⟩; obtain rfl := ew.symm) | (go_at_call 78; refine (size_q _).mono ?_; rintro e wf ⟨rfl, ew⟩; obtain rfl := ew.symm) | (go_at_call 79; refine (writeByte_k _ _ [] 45 _ (Lib.IsBuilderF.of (Lib.fresh_isBuilder 111 5 _)) (by decide) (by simp)).mono ?_))
  rintro e w1 ⟨rfl, h1, b1, k1⟩
  have s1 := b1.size
  simp only [World.size_alloc] at s1
  replace b1 := ((Below.refl w.heap.size w).alloc (Nat.le_refl _) _).trans b1
  go_wp2_with (first | (go_at_call 81; refine (fmt_small2 _).mono ?_; rintro e wf ⟨rfl, ew⟩; obtain rfl := ew.symm) | (go_at_call 80; refine (writeString_k _ _ _ _ _ (.inr h1) (by decide) (by omega)).mono ?_))
  rintro e w2 ⟨rfl, h2, b2, k2⟩
  have s2 := b2.size
  replace b2 := b1.trans b2
  go_wp2_with (go_at_call 79; refine (writeByte_k _ _ _ 46 _ (.inr h2) (by decide) (by omega)).mono ?_)
  rintro e w3 ⟨rfl, h3, b3, k3⟩
  have s3 := b3.size
  replace b3 := b2.trans b3
  go_wp2
  go_loopw [5] (fun i wr => Below w.heap.size w wr ∧ ((i = .int .u64 1073741824 ∧ IsB w.heap.size w.heap.size [.int .u8 45, .int .u8 48, .int .u8 46] wr) ∨ (i = .int .u64 2147483648 ∧ IsB w.heap.size w.heap.size [.int .u8 45, .int .u8 48, .int .u8 46, .int .u8 50] wr) ∨ (i = .int .u64 0 ∧ IsB w.heap.size w.heap.size [.int .u8 45, .int .u8 48, .int .u8 46, .int .u8 50, .int .u8 53] wr))) (fun i _ => if intOf i = 1073741824 then 2 else if intOf i = 2147483648 then 1 else 0)
  case atStart => exact ⟨b3, .inl ⟨rfl, .inr h3⟩⟩
  case round =>
    obtain ⟨br, hr⟩ := hrel
    have sr := br.size
    rcases hr with ⟨rfl, hr⟩ | ⟨rfl, hr⟩ | ⟨rfl, hr⟩
    · go_wp2_with (go_at_call 79; refine (writeByte_k _ _ _ 50 _ hr (by decide) (by omega)).mono ?_)
      rintro e w4 ⟨rfl, h4, b4, k4⟩
      go_wp2
      go_roundw
      case rel => exact ⟨br.trans b4, .inr (.inl ⟨rfl, .inr h4⟩)⟩
      case measure => decide
    · go_wp2_with (go_at_call 79; refine (writeByte_k _ _ _ 53 _ hr (by decide) (by omega)).mono ?_)
      rintro e w4 ⟨rfl, h4, b4, k4⟩
      go_wp2
      go_roundw
      case rel => exact ⟨br.trans b4, .inr (.inr ⟨rfl, .inr h4⟩)⟩
      case measure => decide
    · go_wp2_with (go_at_call 82; refine (Tryd.Builder_String_any_k w.heap.size w.heap.size [45, 48, 46, 50, 53] _ hr (by omega)).mono ?_)
      rintro e w4 ⟨rfl, h4, b4, k4⟩
      go_wp2
      go_ret
      exact ⟨rfl, br.trans b4⟩
end Go.Proofs.YtndeppnboolfiaaDoor
