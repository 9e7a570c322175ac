/- SpanBack walked. -/
import Derived.Test.YtcoakpdafpclpaaDoorTn
import Derived.Test.YtcoakpdafpclpaaDoorIn
import Derived.Test.YtcoakpdafpclpaaDoorTbL
import Derived.Lib.LaidTab
import Derived.Lib.LaidU8
set_option linter.unusedVariables false
set_option linter.unusedSimpArgs false
set_option maxRecDepth 100000
namespace Go.Proofs.YtcoakpdafpclpaaDoor
open Go Go.RowKit Go.Proofs Vc Ul
attribute [local irreducible] Go.Calls
theorem wfI64t {n : Int} (h : (Lit.int .i64 n).wf = true) : I64 n := by simp [Lit.wf, IntKind.min, IntKind.max, IntKind.signed, IntKind.bits] at h; exact ⟨by omega, by omega⟩
theorem of_any (a b : Int) (x : Int) (y : Int) (hx : IntKind.i64.wrap (a * 4294967296) = x) (hy : IntKind.i64.wrap (b * 4294967296) = y) (w : World) : Calls Tryd.prog 39 #[.int .i64 a, .int .i64 b] w (Vc.Ret (Vc.S x y) w) := by
  refine vc_ullagelaw01_of a b w _ ?_
  rintro _ rfl _ rfl
  rw [hx, hy]
theorem quarter : textV (-1073741824) = ([45, 48, 46, 50, 53] : List UInt8) := by
  have e : textV (-1073741824) = [45] ++ Lib.decDigits 0 ++ 46 :: tailF 32 1073741824 := rfl
  rw [e, Lib.decDigits_one (by decide)]
  decide +kernel
theorem text_q (w : World) (htab : TabB w.heap.size w) : Calls Tryd.prog 7 #[.int .i64 (-1073741824)] w (Vc.Ret (.string ⟨([45, 48, 46, 50, 53] : List UInt8).toArray⟩) w) := by
  have := text_any (-1073741824) (by unfold I64; decide) w htab
  rwa [quarter] at this
theorem tab_on {w w' : World} (h : TabB w.heap.size w) (hb : Below w.heap.size w w') : TabB w'.heap.size w' := fun w2 hb2 => h w2 (hb.trans (hb2.mono hb.size))
theorem alive_tab (w : World) (htab : TabB w.heap.size w) : Calls Tryd.prog 10 #[] w (Vc.Ret (.bool true) w) := by
  refine vc_ullagelaw01_alive w _ ?_
  refine ⟨-17179869184, 34359738368, 0, fun w' hw => Ret.mono (pmul_any (-4294967296) 8589934592 12884901888 17179869184 w' (by unfold I64; decide) (by unfold I64; decide) (by unfold I64; decide) (by unfold I64; decide)) (by rw [show mul (-4294967296) 8589934592 12884901888 17179869184 = (-17179869184, 34359738368, 0) by decide +kernel]), ?_⟩
  refine ⟨1431655765, 1431655766, 0, fun w' hw => Ret.mono (pRatio_any 1 3 w' (by unfold I64; decide) (by unfold I64; decide)) (by rw [show ratio 1 3 = (1431655765, 1431655766, 0) by decide +kernel]), ?_⟩
  refine ⟨0, 8589934592, 0, fun w' hw => Ret.mono (pRoot_any (-38654705664) 17179869184 w' (by unfold I64; decide) (by unfold I64; decide)) (by rw [show root (-38654705664) 17179869184 = (0, 8589934592, 0) by decide +kernel]), ?_⟩
  refine iteI (fun _ => ?_) (fun h => absurd rfl h)
  refine ⟨-17179869184, 34359738368, fun w' hw => of_any (-4) 8 _ _ (by decide +kernel) (by decide +kernel) w', ?_⟩
  refine iteI (fun _ => ?_) (fun h => absurd ⟨rfl, rfl⟩ h)
  refine iteI (fun _ => ?_) (fun h => absurd rfl h)
  refine iteI (fun _ => ?_) (fun h => absurd ⟨rfl, rfl⟩ h)
  refine iteI (fun _ => ?_) (fun h => absurd rfl h)
  refine ⟨0, 8589934592, fun w' hw => of_any 0 2 _ _ (by decide +kernel) (by decide +kernel) w', ?_⟩
  refine iteI (fun _ => ?_) (fun h => absurd ⟨rfl, rfl⟩ h)
  exact ⟨_, fun w' hw => text_q w' (tab_on htab hw), rfl⟩
theorem fit_I (a b : Int) : I64 (fit a b).1 ∧ I64 (fit a b).2.1 := by
  unfold fit I64; split <;> dsimp only <;> omega
theorem zero_I (e : Int) : I64 ((0, 0, e) : Ul.R).1 ∧ I64 ((0, 0, e) : Ul.R).2.1 := by unfold I64; dsimp only; omega
theorem add_I (a b c d : Int) : I64 (add a b c d).1 ∧ I64 (add a b c d).2.1 := by
  unfold add; split
  · exact fit_I _ _
  · exact zero_I _
theorem sub_I (a b c d : Int) : I64 (sub a b c d).1 ∧ I64 (sub a b c d).2.1 := by
  unfold sub; split
  · exact add_I _ _ _ _
  · exact zero_I _
theorem div_I (a b c d : Int) : I64 (div a b c d).1 ∧ I64 (div a b c d).2.1 := by
  unfold div; split
  · split
    · exact zero_I _
    · exact fit_I _ _
  · exact zero_I _
theorem chk0 {a b : Int} (h : chk a b = 0) : ok a b = true := by
  unfold chk at h
  split at h
  · assumption
  · cases h
theorem fit_lo {a b : Int} (h : (fit a b).2.2 = 0) : -9223372036854775807 ≤ (fit a b).1 ∧ -9223372036854775807 ≤ (fit a b).2.1 := by
  obtain ⟨h1, h2, h3⟩ := fit_ok h
  rw [h1]; exact ⟨h2.1, h3.1⟩
theorem add_lo {a b c d : Int} (h : (add a b c d).2.2 = 0) : -9223372036854775807 ≤ (add a b c d).1 ∧ -9223372036854775807 ≤ (add a b c d).2.1 := by
  unfold add at h ⊢
  split at h
  · rename_i g; rw [if_pos g]; exact fit_lo h
  · cases h
theorem mul_lo {a b c d : Int} (h : (mul a b c d).2.2 = 0) : -9223372036854775807 ≤ (mul a b c d).1 ∧ -9223372036854775807 ≤ (mul a b c d).2.1 := by
  unfold mul at h ⊢
  split at h
  · rename_i g; rw [if_pos g]; exact fit_lo h
  · cases h
theorem in_back {a b : Int} {p : Int × Int} (hab : ok a b = true) (hlo : -9223372036854775807 ≤ p.1 ∧ -9223372036854775807 ≤ p.2) (ha : rin (a : Rat) p) (hb : rin (b : Rat) p) : within a b p.1 p.2 = true := by
  have h1 := Rat.intCast_le_intCast.1 ha.1
  have h2 := Rat.intCast_le_intCast.1 hb.2
  have h3 := rin_le ha
  unfold within
  rw [hab, ok_true.2 ⟨hlo.1, hlo.2, h3⟩, decide_eq_true h1, decide_eq_true h2]; rfl
theorem sum_back {a b c d : Int} (h1 : ok a b = true) (h2 : ok c d = true) (e1 : (sub a b c d).2.2 = 0) (e2 : (add (sub a b c d).1 (sub a b c d).2.1 c d).2.2 = 0) : within a b (add (sub a b c d).1 (sub a b c d).2.1 c d).1 (add (sub a b c d).1 (sub a b c d).2.1 c d).2.1 = true := by
  obtain ⟨a1, a2, a3⟩ := ok_true.1 h1
  obtain ⟨b1, b2, b3⟩ := ok_true.1 h2
  have hc : rin (c : Rat) (c, d) := rin_lo (p := (c, d)) b3
  have go : ∀ x : Int, rin (x : Rat) (a, b) → rin (x : Rat) (lohi (add (sub a b c d).1 (sub a b c d).2.1 c d)) := by
    intro x hx
    have s := sub_rin (a := (a, b)) (b := (c, d)) hx hc e1
    have t := add_rin (a := lohi (sub a b c d)) (b := (c, d)) s hc e2
    have e : (x : Rat) - c + c = x := by grind
    rwa [e] at t
  exact in_back (p := lohi _) h1 (add_lo e2) (go a (rin_lo (p := (a, b)) a3)) (go b (rin_hi (p := (a, b)) a3))
theorem prod_back {a b c d : Int} (h1 : ok a b = true) (h2 : ok c d = true) (e1 : (div a b c d).2.2 = 0) (e2 : (mul (div a b c d).1 (div a b c d).2.1 c d).2.2 = 0) : within a b (mul (div a b c d).1 (div a b c d).2.1 c d).1 (mul (div a b c d).1 (div a b c d).2.1 c d).2.1 = true := by
  obtain ⟨a1, a2, a3⟩ := ok_true.1 h1
  obtain ⟨b1, b2, b3⟩ := ok_true.1 h2
  have hc : rin (c : Rat) (c, d) := rin_lo (p := (c, d)) b3
  have go : ∀ x : Int, rin (x : Rat) (a, b) → rin (x : Rat) (lohi (mul (div a b c d).1 (div a b c d).2.1 c d)) := by
    intro x hx
    obtain ⟨hy, s⟩ := div_rin (a := (a, b)) (b := (c, d)) hx hc e1
    have t := mul_rin (a := lohi (div a b c d)) (b := (c, d)) s hc e2
    have e : (x : Rat) * 4294967296 / c * c / 4294967296 = x := by grind
    rwa [e] at t
  exact in_back (p := lohi _) h1 (mul_lo e2) (go a (rin_lo (p := (a, b)) a3)) (go b (rin_hi (p := (a, b)) a3))
theorem walk_back {w : World} (a b c d : Int) (ha : I64 a) (hb : I64 b) (hc : I64 c) (hd : I64 d) (htab : TabB w.heap.size w) : Calls Tryd.prog 4 #[Vc.S a b, Vc.S c d] w (Vc.Ret (.bool true) w) := by
  refine vc_ullagelaw01_SpanBack a b c d w _ ?_
  refine ⟨true, fun w' hw => alive_tab w' (tab_on htab hw), _, fun w' _ => check_any a b w', fun h1 => ?_, fun _ => rfl⟩
  refine ⟨_, fun w' _ => check_any c d w', fun h2 => ?_, fun _ => rfl⟩
  have k1 := chk0 h1; have k2 := chk0 h2
  obtain ⟨a1, a2, a3⟩ := ok_true.1 k1
  refine ⟨fun _ => ?_, fun h => (h rfl).elim⟩
  have hrt := read_text a a1 ha.2
  have hlt : (textV a).length < 4611686018427387904 := by
    have h1 := dec_len a.natAbs (by have := ha.2; omega)
    have h2 := tail_len 32 (a.natAbs % 4294967296)
    rw [show textV a = textN a.natAbs (decide (a < 0)) from if_pos a1]
    unfold textN
    split <;> split <;> simp <;> omega
  refine ⟨_, fun w' hw => text_any a ha w' (tab_on htab hw), a, a, 0, fun w' _ => Ret.as (read_c (textV a) hlt w') (by rw [hrt]), fun _ => ?_, fun h => (h rfl).elim⟩
  refine ⟨fun _ => ?_, fun h => (h rfl).elim⟩
  refine ⟨fun _ => ?_, fun h => (h rfl).elim⟩
  have fin : ∃ (x15 : Int), ∃ (x16 : Int), ∃ (x17 : Int), (∀ w' : World, Below w.heap.size w w' → Calls Tryd.prog 15 #[.agg #[.int .i64 a, .int .i64 b], .agg #[.int .i64 c, .int .i64 d]] w' (Vc.Ret (.tuple #[.agg #[.int .i64 x15, .int .i64 x16], .int .i64 x17]) w')) ∧
      ∃ (x18 : Int), ∃ (x19 : Int), ∃ (x20 : Int), (∀ w' : World, Below w.heap.size w w' → Calls Tryd.prog 16 #[.agg #[.int .i64 x15, .int .i64 x16], .agg #[.int .i64 c, .int .i64 d]] w' (Vc.Ret (.tuple #[.agg #[.int .i64 x18, .int .i64 x19], .int .i64 x20]) w')) ∧
      ((true = true) → (
      ((x17 = 0) → (
      ((x20 = 0) → (
      ∃ (b2 : Bool), (∀ w' : World, Below w.heap.size w w' → Calls Tryd.prog 14 #[.agg #[.int .i64 a, .int .i64 b], .agg #[.int .i64 x18, .int .i64 x19]] w' (Vc.Ret (.bool b2) w')) ∧
      (.bool b2 : Value) = .bool true)) ∧ (¬ (x20 = 0) → (
      (.bool true : Value) = .bool true)))) ∧ (¬ (x17 = 0) → (
      (.bool true : Value) = .bool true)))) ∧ (¬ (true = true) → (
      (.bool false : Value) = .bool true)) := by
    obtain ⟨q1, q2⟩ := div_I a b c d
    refine ⟨_, _, _, fun w' _ => pdiv_any a b c d w' ha hb hc hd, _, _, _, fun w' _ => pmul_any _ _ c d w' q1 q2 hc hd, fun _ => ?_, fun h => (h rfl).elim⟩
    refine ⟨fun e1 => ⟨fun e2 => ⟨_, fun w' _ => within_any _ _ _ _ w', ?_⟩, fun _ => rfl⟩, fun _ => rfl⟩
    rw [prod_back k1 k2 e1 e2]
  obtain ⟨s1, s2⟩ := sub_I a b c d
  refine ⟨_, _, _, fun w' _ => psub_any a b c d w' ha hb hc hd, _, _, _, fun w' _ => padd_any _ _ c d w' s1 s2 hc hd, fun e1 => ?_, fun _ => fin⟩
  refine ⟨fun e2 => ⟨_, fun w' _ => within_any _ _ _ _ w', fun _ => fin, fun h => (h (sum_back k1 k2 e1 e2)).elim⟩, fun _ => fin⟩
theorem walk_spanBack {w : World} (a : Int) (ha : (Lit.int .i64 a).wf = true) (b : Int) (hb : (Lit.int .i64 b).wf = true) (c : Int) (hc : (Lit.int .i64 c).wf = true) (d : Int) (hd : (Lit.int .i64 d).wf = true) (htab : TabB w.heap.size w) :
    Calls Tryd.prog 4 #[Vc.S a b, Vc.S c d] w (Vc.Ret (.bool true) w) :=
  walk_back a b c d (wfI64t ha) (wfI64t hb) (wfI64t hc) (wfI64t hd) htab
end Go.Proofs.YtcoakpdafpclpaaDoor
