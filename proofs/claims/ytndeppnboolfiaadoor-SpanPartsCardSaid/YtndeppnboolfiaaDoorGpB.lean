/- Contracts of the layer, as far as they are wanted (written by program out of the templates). -/
import Derived.Test.YtndeppnboolfiaaDoorGpA
import Derived.Test.YtndeppnboolfiaaDoorGpG3
import Derived.Test.YtndeppnboolfiaaDoorTx

set_option linter.unusedVariables false
set_option linter.unusedSimpArgs false
set_option maxRecDepth 100000
namespace Go.Proofs.YtndeppnboolfiaaDoor
open Go Go.RowKit Go.Proofs Vc Ul
theorem of_any (a b : Int) (x : Int) (y : Int) (hx : IntKind.i64.wrap (a * 4294967296) = x) (hy : IntKind.i64.wrap (b * 4294967296) = y) (w : World) : Calls Tryd.prog 47 #[.int .i64 a, .int .i64 b] w (Vc.Ret (Vc.S x y) w) := by
  refine vc_ullagelaw01_of a b w _ ?_
  rintro _ rfl _ rfl
  rw [hx, hy]
theorem text_q (w : World) : Calls Tryd.prog 44 #[.int .i64 (-1073741824)] w (Vc.Ret (.string ⟨([45, 48, 46, 50, 53] : List UInt8).toArray⟩) w) :=
  (text_quarter w).mono fun e w' h => h
theorem alive_any (w : World) : Calls Tryd.prog 11 #[] w (Vc.Ret (.bool true) w) := by
  refine vc_ullagelaw01_alive w _ ?_
  refine ⟨-17179869184, 34359738368, 0, fun w' hw => Ret.mono (pmul_any (-4294967296) 8589934592 12884901888 17179869184 w' (by unfold I64; decide) (by unfold I64; decide) (by unfold I64; decide) (by unfold I64; decide)) (by rw [show mul (-4294967296) 8589934592 12884901888 17179869184 = (-17179869184, 34359738368, 0) by decide +kernel]), ?_⟩
  refine ⟨1431655765, 1431655766, 0, fun w' hw => Ret.mono (pRatio_any 1 3 w' (by unfold I64; decide) (by unfold I64; decide)) (by rw [show ratio 1 3 = (1431655765, 1431655766, 0) by decide +kernel]), ?_⟩
  refine ⟨0, 8589934592, 0, fun w' hw => Ret.mono (pRoot_any (-38654705664) 17179869184 w' (by unfold I64; decide) (by unfold I64; decide)) (by rw [show root (-38654705664) 17179869184 = (0, 8589934592, 0) by decide +kernel]), ?_⟩
  refine iteI (fun _ => ?_) (fun h => absurd rfl h)
  refine ⟨-17179869184, 34359738368, fun w' hw => of_any (-4) 8 _ _ (by decide +kernel) (by decide +kernel) w', ?_⟩
  refine iteI (fun _ => ?_) (fun h => absurd ⟨rfl, rfl⟩ h)
  refine iteI (fun _ => ?_) (fun h => absurd rfl h)
  refine iteI (fun _ => ?_) (fun h => absurd ⟨rfl, rfl⟩ h)
  refine iteI (fun _ => ?_) (fun h => absurd rfl h)
  refine ⟨0, 8589934592, fun w' hw => of_any 0 2 _ _ (by decide +kernel) (by decide +kernel) w', ?_⟩
  refine iteI (fun _ => ?_) (fun h => absurd ⟨rfl, rfl⟩ h)
  exact ⟨_, fun w' hw => text_q w', rfl⟩
end Go.Proofs.YtndeppnboolfiaaDoor
set_option linter.unusedVariables false
set_option maxRecDepth 100000
namespace Go.Proofs.YtndeppnboolfiaaDoor
open Go Go.RowKit Go.Proofs Vc Ul
theorem wfI64 {n : Int} (h : (Lit.int .i64 n).wf = true) : I64 n := by
  simp [Lit.wf, IntKind.min, IntKind.max, IntKind.signed, IntKind.bits] at h; unfold I64; omega
theorem ok_3 {a b : Int} (h : ok a b = true) : -9223372036854775807 ≤ a ∧ -9223372036854775807 ≤ b ∧ a ≤ b := by
  unfold ok at h; simp at h; omega
theorem ok_of {a b : Int} (h1 : -9223372036854775807 ≤ a) (h2 : -9223372036854775807 ≤ b) (h3 : a ≤ b) : ok a b = true := by
  unfold ok; simp; omega
theorem within_ok {a b c d : Int} (h1 : ok a b = true) (h2 : ok c d = true) (h3 : c ≤ a) (h4 : b ≤ d) : within a b c d = true := by
  unfold within; simp [h1, h2, h3, h4]
theorem walk_spanParts {w : World} (a : Int) (ha : (Lit.int .i64 a).wf = true) (b : Int) (hb : (Lit.int .i64 b).wf = true) (c : Int) (hc : (Lit.int .i64 c).wf = true) (d : Int) (hd : (Lit.int .i64 d).wf = true) :
    Calls Tryd.prog 4 #[Vc.S a b, Vc.S c d] w (Vc.Ret (.bool true) w) := by
  replace ha := wfI64 ha; replace hb := wfI64 hb; replace hc := wfI64 hc; replace hd := wfI64 hd
  refine vc_ullagelaw01_SpanParts a b c d w _ ?_
  refine ⟨true, fun w' hw => alive_any w', _, fun w' hw => check_any a b w', ?_⟩
  refine iteI (fun h1 => ?_) (fun _ => rfl)
  refine ⟨_, fun w' hw => check_any c d w', ?_⟩
  refine iteI (fun h2 => ?_) (fun _ => rfl)
  refine iteI (fun _ => ?_) (fun h => absurd rfl h)
  have k1 := chk_ok h1; have k2 := chk_ok h2
  obtain ⟨a1, a2, a3⟩ := ok_3 k1
  obtain ⟨c1, c2, c3⟩ := ok_3 k2
  clear h1 h2
  have e1 : ok a ((a + b) / 2) = true := ok_of a1 (by omega) (by omega)
  have e2 : ok ((a + b) / 2) b = true := ok_of (by omega) a2 (by omega)
  have s1 : spl a b = ((a, (a + b) / 2, 0), ((a + b) / 2, b, 0), 0) := by unfold spl; rw [if_pos k1]
  have s2 : hull a ((a + b) / 2) ((a + b) / 2) b = (a, b, 0) := by
    unfold hull; rw [e1, e2]
    rw [if_pos (by rfl), Int.min_eq_left (by omega), Int.max_eq_right (by omega)]
  have s3 : mid a b = ((a + b) / 2, 0) := by unfold mid; rw [if_pos k1]
  have s4 : hull a b c d = (min a c, max b d, 0) := by unfold hull; rw [k1, k2, if_pos (by rfl)]
  have k3 : ok (min a c) (max b d) = true := ok_of (by omega) (by omega) (by omega)
  have w1 := within_ok k1 k3 (by omega) (by omega)
  have w2 := within_ok k2 k3 (by omega) (by omega)
  refine ⟨a, (a + b) / 2, (a + b) / 2, b, 0, fun w' hw => Ret.mono (psplit_any a b w' ha hb) (by rw [s1]), ?_⟩
  refine ⟨a, b, 0, fun w' hw => Ret.mono (phull_any a ((a + b) / 2) ((a + b) / 2) b w') (by rw [s2]), ?_⟩
  refine ⟨(a + b) / 2, 0, fun w' hw => Ret.mono (pmid_any a b w' ha hb) (by rw [s3]), ?_⟩
  refine ⟨min a c, max b d, 0, fun w' hw => Ret.mono (phull_any a b c d w') (by rw [s4]), ?_⟩
  by_cases hm : min b d < max a c
  · have s5 : meet a b c d = (0, 0, 7) := by unfold meet; rw [k1, k2, if_pos (by rfl), if_pos hm]
    have o1 : (order a b c d = -1 ∧ order c d a b = 1) ∨ (order a b c d = 1 ∧ order c d a b = -1) := by
      unfold order
      rw [k1, k2]
      by_cases hx : b < c
      · left; rw [if_pos (by rfl), if_pos hx, if_pos (by rfl), if_neg (by omega), if_pos hx]; exact ⟨rfl, rfl⟩
      · right; rw [if_pos (by rfl), if_neg hx, if_pos (by omega), if_pos (by rfl), if_pos (by omega)]; exact ⟨rfl, rfl⟩
    have o2 : order a b c d = IntKind.i64.wrap (0 - order c d a b) := by
      rcases o1 with ⟨h, h'⟩ | ⟨h, h'⟩ <;> rw [h, h'] <;> decide +kernel
    have o3 : (order a b c d != 0) = true := by
      rcases o1 with ⟨h, h'⟩ | ⟨h, h'⟩ <;> rw [h] <;> rfl
    refine ⟨0, 0, 7, fun w' hw => Ret.mono (pmeet_any a b c d w') (by rw [s5]), ?_⟩
    refine iteI (fun _ => ?_) (fun h => absurd rfl h)
    refine iteI (fun _ => ?_) (fun h => absurd rfl h)
    refine iteI (fun _ => ?_) (fun h => absurd rfl h)
    refine iteI (fun _ => ?_) (fun h => absurd ⟨rfl, rfl⟩ h)
    refine iteI (fun _ => ?_) (fun h => absurd rfl h)
    refine iteI (fun h => absurd h (by decide)) (fun _ => ?_)
    refine iteI (fun _ => ?_) (fun h => absurd rfl h)
    refine ⟨_, fun w' hw => order_any a b c d w', _, fun w' hw => order_any c d a b w', ?_⟩
    rintro _ rfl
    refine iteI (fun _ => ?_) (fun h => absurd o2 h)
    refine ⟨_, fun w' hw => order_any a b c d w', ?_⟩
    refine iteI (fun _ => ?_) (fun h => absurd rfl h)
    refine iteI (fun _ => ?_) (fun h => absurd rfl h)
    refine iteI (fun _ => ?_) (fun h => absurd rfl h)
    refine ⟨_, fun w' hw => within_any a b (min a c) (max b d) w', iteI (fun _ => ?_) (fun h => absurd w1 h)⟩
    refine ⟨_, fun w' hw => within_any c d (min a c) (max b d) w', iteI (fun _ => ?_) (fun h => absurd w2 h)⟩
    rw [o3]
  · have s5 : meet a b c d = (max a c, min b d, 0) := by unfold meet; rw [k1, k2, if_pos (by rfl), if_neg hm]
    have k4 : ok (max a c) (min b d) = true := ok_of (by omega) (by omega) (by omega)
    have w3 := within_ok k4 k1 (by omega) (by omega)
    have w4 := within_ok k4 k2 (by omega) (by omega)
    have o1 : order a b c d = 0 := by
      unfold order; rw [k1, k2, if_pos (by rfl), if_neg (by omega), if_neg (by omega)]
    have o2 : order c d a b = 0 := by
      unfold order; rw [k1, k2, if_pos (by rfl), if_neg (by omega), if_neg (by omega)]
    refine ⟨max a c, min b d, 0, fun w' hw => Ret.mono (pmeet_any a b c d w') (by rw [s5]), ?_⟩
    refine iteI (fun _ => ?_) (fun h => absurd rfl h)
    refine iteI (fun _ => ?_) (fun h => absurd rfl h)
    refine iteI (fun _ => ?_) (fun h => absurd rfl h)
    refine iteI (fun _ => ?_) (fun h => absurd ⟨rfl, rfl⟩ h)
    refine iteI (fun _ => ?_) (fun h => absurd rfl h)
    refine iteI (fun _ => ?_) (fun h => absurd rfl h)
    refine ⟨_, fun w' hw => within_any _ _ a b w', iteI (fun _ => ?_) (fun h => absurd w3 h)⟩
    refine ⟨_, fun w' hw => within_any _ _ c d w', iteI (fun _ => ?_) (fun h => absurd w4 h)⟩
    refine ⟨_, fun w' hw => order_any a b c d w', iteI (fun _ => ?_) (fun h => absurd o1 h)⟩
    refine ⟨_, fun w' hw => order_any c d a b w', ?_⟩
    refine iteI (fun h => absurd h (by decide)) (fun _ => ?_)
    refine iteI (fun _ => ?_) (fun h => absurd rfl h)
    refine iteI (fun _ => ?_) (fun h => absurd rfl h)
    refine iteI (fun _ => ?_) (fun h => absurd rfl h)
    refine ⟨_, fun w' hw => within_any a b (min a c) (max b d) w', iteI (fun _ => ?_) (fun h => absurd w1 h)⟩
    refine ⟨_, fun w' hw => within_any c d (min a c) (max b d) w', iteI (fun _ => ?_) (fun h => absurd w2 h)⟩
    exact iteI (fun _ => rfl) (fun h => absurd o2 h)
end Go.Proofs.YtndeppnboolfiaaDoor
