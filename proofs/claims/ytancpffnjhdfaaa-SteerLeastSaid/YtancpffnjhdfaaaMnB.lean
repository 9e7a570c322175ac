/- Contracts of the layer, as far as they are wanted (written by program out of the templates). -/
import Derived.Test.YtancpffnjhdfaaaMnA
import Derived.Test.YtancpffnjhdfaaaMnG3
import Derived.WalkKit
import Derived.ProofKit
import Derived.OpenShut
import Derived.Lib.SmallJoins
import Derived.Deep.Strs
set_option linter.unusedVariables false
set_option linter.unusedSimpArgs false
namespace Go.Proofs.Ytancpffnjhdfaaa
open Go Go.RowKit Ul Vc
attribute [local irreducible] Go.Calls
theorem wrap_up (i : Nat) (h : i < 1000000) : IntKind.i64.wrap ((i : Int) + 1) = ((i + 1 : Nat) : Int) := by rw [Vc.i64_id (by omega)]; omega
/-- The k-th of a loop's variables counts up. -/
def upK (k : Nat) (n : Int) (l : List Vc.Vl) : Nat :=
  match l[k]? with
  | some (.i x) => (n - x).toNat
  | _ => 0
abbrev Sp := Int × Int
def spc (p : Sp) : List Value := [.int .i64 p.1, .int .i64 p.2]
theorem spc_len (p : Sp) : (spc p).length = 2 := rfl
/-- A list of places, at a slice. -/
def Sps (w : World) (v : Value) (l : List Sp) : Prop := SlAt w v 2 (l.flatMap spc)
/-- The place with a number, taken round. -/
def sp (l : List Sp) (i : Nat) : Sp := l.getD (i % l.length) (0, 0)
theorem sps_form {w : World} {v : Value} {l : List Sp} (h : Sps w v l) : ∃ (b0 : Bool) (p0 : Nat × Nat) (x1 : Int), v = (if b0 = true then .slice none 0 0 else .slice (some (Vc.qad p0 (Int.toNat (l.length : Int)) (Int.toNat x1))) (Int.toNat (l.length : Int)) (Int.toNat x1)) ∧ (b0 = true → l.length = 0) ∧
    (∀ (i : Nat) (p : Sp), l[i]? = some p → w.cell? ⟨p0.1, p0.2 + i * 2 + 0, none⟩ = some (.int .i64 p.1) ∧ w.cell? ⟨p0.1, p0.2 + i * 2 + 1, none⟩ = some (.int .i64 p.2)) := by
  obtain ⟨b0, p0, x1, h1, h2, h3⟩ := sl_form h (by decide) (flat_len spc_len l)
  refine ⟨b0, p0, x1, h1, h2, fun i p hp => ?_⟩
  simp only [Nat.add_assoc]
  exact ⟨h3 (i * 2 + 0) _ (flat_at spc_len hp (by decide)), h3 (i * 2 + 1) _ (flat_at spc_len hp (by decide))⟩
theorem sps_nb {b0 : Bool} {n : Nat} (h : b0 = true → n = 0) : (¬ (b0 = true)) ∨ ((n : Int) = 0) := by
  by_cases hb0 : b0 = true
  · right; have := h hb0; omega
  · left; exact hb0
theorem sps_nb0 {b0 : Bool} {n : Nat} (h : b0 = true → n = 0) (hn : 0 < n) : ¬ (b0 = true) := fun hb => by have := h hb; omega
theorem sps_below {v : Value} {l : List Sp} {w w' : World} (hb : Below w.heap.size w w') (h : Sps w v l) : Sps w' v l := sl_below hb h
end Go.Proofs.Ytancpffnjhdfaaa
set_option linter.unusedVariables false
set_option maxRecDepth 4000
namespace Go.Proofs.Ytancpffnjhdfaaa
open Go Go.RowKit Ul Vc
attribute [local irreducible] Go.Calls
theorem sl_heap {w : World} {k t n c : Nat} {L : List Value} {xs : Array Value} (h : w.heap[k]? = some (.cells xs t)) (hx : xs.toList = L) (hn : L.length = n * c) : SlAt w (.slice (some ⟨k, 0, none⟩) n n) c L := by
  refine .inr (.inr ⟨k, 0, _, _, rfl, hn, fun j u hj => ?_⟩)
  rw [Nat.zero_add, cell_of_heap h, ← Array.getElem?_toList, hx]
  exact hj
theorem own_sps {lo b code n base : Nat} {l : List Sp} {t : TypeId} {w : World} {xs : List Value} (h : RowOk lo b code n base xs 2 t w) (hx : xs = l.flatMap spc) : Sps w (ownV b code n base) l := by
  subst hx
  exact own_sl h
end Go.Proofs.Ytancpffnjhdfaaa
set_option linter.unusedVariables false
set_option maxRecDepth 4000
namespace Go.Proofs.Ytancpffnjhdfaaa
open Go Go.RowKit Ul Vc
attribute [local irreducible] Go.Calls
def SpI (p : Sp) : Prop := I64 p.1 ∧ I64 p.2
/-- The result of an operation that is done unless there was an error. -/
def cop (e : Int) (r : R) : R := if e = 0 then r else (0, 0, e)
/-- What a method does to a row of operations. -/
def Op (f : FuncId) (e : Int) (a b : Sp) (r : R) : Prop := ∀ (w : World) (xl : Nat), w.heap[xl]? = some (.cells #[.int .i64 e] 95) →
  Calls Try.prog f #[Vc.ptr xl 0, Vc.S a.1 a.2, Vc.S b.1 b.2] w (Vc.Eff (Vc.S r.1 r.2.1) xl #[.int .i64 r.2.2] 95 w)
theorem op_sub (e : Int) {a b : Sp} (ha : SpI a) (hb : SpI b) : Op 42 e a b (cop e (sub a.1 a.2 b.1 b.2)) := by
  intro w xl hx
  refine vc___steer_calc__sub e a.1 a.2 b.1 b.2 xl w _ _ hx ?_
  refine iteI (fun h => ⟨_, _, _, fun w' hw => psub_any _ _ _ _ w' ha.1 ha.2 hb.1 hb.2, ?_⟩) (fun h => ?_)
  · unfold cop; rw [if_pos h]
  · unfold cop; rw [if_neg h]
theorem op_mul (e : Int) {a b : Sp} (ha : SpI a) (hb : SpI b) : Op 43 e a b (cop e (mul a.1 a.2 b.1 b.2)) := by
  intro w xl hx
  refine vc___steer_calc__mul e a.1 a.2 b.1 b.2 xl w _ _ hx ?_
  refine iteI (fun h => ⟨_, _, _, fun w' hw => pmul_any _ _ _ _ w' ha.1 ha.2 hb.1 hb.2, ?_⟩) (fun h => ?_)
  · unfold cop; rw [if_pos h]
  · unfold cop; rw [if_neg h]
theorem op_div (e : Int) {a b : Sp} (ha : SpI a) (hb : SpI b) : Op 45 e a b (cop e (div a.1 a.2 b.1 b.2)) := by
  intro w xl hx
  refine vc___steer_calc__div e a.1 a.2 b.1 b.2 xl w _ _ hx ?_
  refine iteI (fun h => ⟨_, _, _, fun w' hw => pdiv_any _ _ _ _ w' ha.1 ha.2 hb.1 hb.2, ?_⟩) (fun h => ?_)
  · unfold cop; rw [if_pos h]
  · unfold cop; rw [if_neg h]
theorem svalid (n : Int) (w : World) : Calls Try.prog 19 #[.int .i64 n] w (Vc.Ret (.bool (decide (n ≥ -9223372036854775807))) w) := vc_steer_valid n w _ rfl
def okL (l : List Sp) : Bool := decide (∀ p ∈ l, ok p.1 p.2 = true)
theorem sall1 (p : Sp) (w : World) : Calls Try.prog 38 #[Vc.S p.1 p.2] w (Vc.Ret (.bool (!(ok p.1 p.2))) w) := by
  refine vc_steer_all_1 _ _ w _ ?_
  refine ⟨_, fun w' hw => check_any _ _ w', ?_⟩
  unfold chk
  cases ok p.1 p.2 <;> rfl
theorem sall {w : World} {v : Value} {l : List Sp} (h : Sps w v l) (hn : l.length < 1000000) : Calls Try.prog 29 #[v] w (Vc.Ret (.bool (okL l)) w) := by
  obtain ⟨b0, p0, x1, rfl, hb, hc⟩ := sps_form h
  refine vc_steer_all p0 (l.length : Int) x1 b0 w _ ?_
  refine ⟨by omega, sps_nb hb, ?_⟩
  refine ⟨fun y => ∃ i : Nat, i ≤ l.length ∧ (∀ p ∈ l.take i, ok p.1 p.2 = true) ∧ y = [.i 0, .i (i : Int)], upK 1 (l.length : Int), ⟨0, by omega, by simp, rfl⟩, ?_⟩
  rintro x2 x3 ⟨i, hi, ho, hy⟩
  simp only [List.cons.injEq, Vc.Vl.i.injEq, and_true] at hy
  obtain ⟨rfl, rfl⟩ := hy
  refine iteI (fun hlt => ?_) (fun hge => ?_)
  · have hq := List.getElem?_eq_getElem (show i < l.length by omega)
    generalize l[i] = p at hq
    obtain ⟨c0, c1⟩ := hc i p hq
    refine ⟨sps_nb0 hb (by omega), by omega, hlt, _, c0, _, c1, _, fun w' hw => sall1 p w', ?_⟩
    refine iteI (fun hf => ?_) (fun hf => ?_)
    · rw [decide_eq_true (show (i : Int) ≥ 0 by omega)]
      have : okL l = false := decide_eq_false fun hall => by
        have := hall p (List.mem_of_getElem? hq)
        rw [this] at hf
        cases hf
      rw [this]; rfl
    · rintro x6 e6
      rw [wrap_up i (by omega)] at e6
      subst e6
      refine ⟨⟨i + 1, by omega, fun q hq' => ?_, rfl⟩, by simp only [upK, List.getElem?_cons_succ, List.getElem?_cons_zero]; omega⟩
      have et : l.take (i + 1) = l.take i ++ [p] := by rw [List.take_add_one, hq]; rfl
      rw [et] at hq'
      rcases List.mem_append.1 hq' with h | h
      · exact ho q h
      · simp only [List.mem_cons, List.not_mem_nil, or_false] at h
        subst h
        cases hk : ok q.1 q.2
        · rw [hk] at hf; exact absurd rfl hf
        · rfl
  · obtain rfl : i = l.length := by omega
    rw [List.take_of_length_le (Nat.le_refl _)] at ho
    rw [show okL l = true from decide_eq_true ho]
end Go.Proofs.Ytancpffnjhdfaaa
set_option linter.unusedVariables false
set_option maxRecDepth 4000
namespace Go.Proofs.Ytancpffnjhdfaaa
open Go Go.RowKit Ul Vc
attribute [local irreducible] Go.Calls
abbrev V3 := Int × Int × Int
def v3c (v : V3) : List Value := [.int .i64 v.1, .int .i64 v.2.1, .int .i64 v.2.2]
theorem v3c_len (v : V3) : (v3c v).length = 3 := rfl
abbrev VV (v : V3) : Value := .agg #[.int .i64 v.1, .int .i64 v.2.1, .int .i64 v.2.2]
def V3s (w : World) (v : Value) (l : List V3) : Prop := SlAt w v 3 (l.flatMap v3c)
theorem v3_cells {w : World} {p0 : Nat × Nat} {l : List V3} (h3 : ∀ j u, (l.flatMap v3c)[j]? = some u → w.cell? ⟨p0.1, p0.2 + j, none⟩ = some u) : ∀ (i : Nat) (p : V3), l[i]? = some p → w.cell? ⟨p0.1, p0.2 + i * 3 + 0, none⟩ = some (.int .i64 p.1) ∧ w.cell? ⟨p0.1, p0.2 + i * 3 + 1, none⟩ = some (.int .i64 p.2.1) ∧ w.cell? ⟨p0.1, p0.2 + i * 3 + 2, none⟩ = some (.int .i64 p.2.2) := by
  intro i p hp
  simp only [Nat.add_assoc]
  exact ⟨h3 (i * 3 + 0) _ (flat_at v3c_len hp (by decide)), h3 (i * 3 + 1) _ (flat_at v3c_len hp (by decide)), h3 (i * 3 + 2) _ (flat_at v3c_len hp (by decide))⟩
theorem v3_form {w : World} {v : Value} {l : List V3} (h : V3s w v l) : ∃ (b0 : Bool) (p0 : Nat × Nat) (x1 : Int), v = (if b0 = true then .slice none 0 0 else .slice (some (Vc.qad p0 (Int.toNat (l.length : Int)) (Int.toNat x1))) (Int.toNat (l.length : Int)) (Int.toNat x1)) ∧ (b0 = true → l.length = 0) ∧
    (∀ (i : Nat) (p : V3), l[i]? = some p → w.cell? ⟨p0.1, p0.2 + i * 3 + 0, none⟩ = some (.int .i64 p.1) ∧ w.cell? ⟨p0.1, p0.2 + i * 3 + 1, none⟩ = some (.int .i64 p.2.1) ∧ w.cell? ⟨p0.1, p0.2 + i * 3 + 2, none⟩ = some (.int .i64 p.2.2)) := by
  obtain ⟨b0, p0, x1, h1, h2, h3⟩ := sl_form h (by decide) (flat_len v3c_len l)
  exact ⟨b0, p0, x1, h1, h2, v3_cells h3⟩
/-- A row of the call's own: its room is not less than its length. -/
theorem v3_row {lo b code n base : Nat} {l : List V3} {t : TypeId} {w : World} {xs : List Value} (h : RowOk lo b code n base xs 3 t w) (hx : xs = l.flatMap v3c) : ∃ (b0 : Bool) (p0 : Nat × Nat) (x1 : Int), ownV b code n base = (if b0 = true then .slice none 0 0 else .slice (some (Vc.qad p0 (Int.toNat (l.length : Int)) (Int.toNat x1))) (Int.toNat (l.length : Int)) (Int.toNat x1)) ∧ (b0 = true → l.length = 0) ∧
    (0 < l.length → (l.length : Int) ≤ x1) ∧
    (∀ (i : Nat) (p : V3), l[i]? = some p → w.cell? ⟨p0.1, p0.2 + i * 3 + 0, none⟩ = some (.int .i64 p.1) ∧ w.cell? ⟨p0.1, p0.2 + i * 3 + 1, none⟩ = some (.int .i64 p.2.1) ∧ w.cell? ⟨p0.1, p0.2 + i * 3 + 2, none⟩ = some (.int .i64 p.2.2)) := by
  subst hx
  by_cases h0 : l.length = 0
  · obtain ⟨b0, p0, x1, h1, h2, h3⟩ := v3_form (own_sl h : V3s w _ l)
    exact ⟨b0, p0, x1, h1, h2, fun h => by omega, h3⟩
  · obtain ⟨m, e1, e2, e3⟩ := row_at h (flat_len v3c_len l) (by omega)
    refine ⟨false, (b, 0), (m : Int), ?_, fun h => (by cases h), fun _ => by omega, v3_cells fun j u hj => by rw [Nat.zero_add]; exact e3 j u hj⟩
    rw [e1, if_neg (by decide), qad_plain (by omega)]
    rfl
def Bd (n x : Int) : Prop := -n ≤ x ∧ x ≤ n
theorem mul_bd {a b A B : Int} (ha : Bd A a) (hb : Bd B b) : Bd (A * B) (a * b) := by
  have hA : 0 ≤ A := by unfold Bd at ha; omega
  have hB : 0 ≤ B := by unfold Bd at hb; omega
  have h1 : (a.natAbs : Int) ≤ A := by unfold Bd at ha; omega
  have h2 : (b.natAbs : Int) ≤ B := by unfold Bd at hb; omega
  have h3 : ((a * b).natAbs : Int) ≤ A * B := by
    rw [Int.natAbs_mul]
    exact_mod_cast Int.mul_le_mul h1 h2 (by omega) hA
  unfold Bd; omega
def V3B (n : Int) (v : V3) : Prop := Bd n v.1 ∧ Bd n v.2.1 ∧ Bd n v.2.2
instance (n x : Int) : Decidable (Bd n x) := inferInstanceAs (Decidable (_ ∧ _))
instance (n : Int) (v : V3) : Decidable (V3B n v) := inferInstanceAs (Decidable (_ ∧ _ ∧ _))
def dot (a b : V3) : Int := a.1 * b.1 + a.2.1 * b.2.1 + a.2.2 * b.2.2
def crs (a b : V3) : V3 := (a.2.1 * b.2.2 - a.2.2 * b.2.1, a.2.2 * b.1 - a.1 * b.2.2, a.1 * b.2.1 - a.2.1 * b.1)
theorem pdot {a b : V3} {A B : Int} (ha : V3B A a) (hb : V3B B b) (h : A * B * 3 ≤ 9223372036854775807) (w : World) : Calls Try.prog 13 #[VV a, VV b] w (Vc.Ret (.int .i64 (dot a b)) w) := by
  have m1 := mul_bd ha.1 hb.1
  have m2 := mul_bd ha.2.1 hb.2.1
  have m3 := mul_bd ha.2.2 hb.2.2
  unfold Bd at m1 m2 m3
  refine vc__steer_vector__dot _ _ _ _ _ _ w _ ?_
  rintro _ rfl _ rfl _ rfl _ rfl _ rfl
  rw [Vc.i64_id (x := a.1 * b.1) (by omega), Vc.i64_id (x := a.2.1 * b.2.1) (by omega), Vc.i64_id (x := a.2.2 * b.2.2) (by omega), Vc.i64_id (x := a.1 * b.1 + a.2.1 * b.2.1) (by omega), Vc.i64_id (by omega)]
  rfl
theorem crs_bd {a b : V3} (ha : V3B 1048576 a) (hb : V3B 1048576 b) : V3B 2199023255552 (crs a b) := by
  have m1 := mul_bd ha.2.1 hb.2.2
  have m2 := mul_bd ha.2.2 hb.2.1
  have m3 := mul_bd ha.2.2 hb.1
  have m4 := mul_bd ha.1 hb.2.2
  have m5 := mul_bd ha.1 hb.2.1
  have m6 := mul_bd ha.2.1 hb.1
  unfold V3B crs Bd at *
  simp only
  omega
theorem pcrs {a b : V3} (ha : V3B 1048576 a) (hb : V3B 1048576 b) (w : World) : Calls Try.prog 32 #[VV a, VV b] w (Vc.Ret (VV (crs a b)) w) := by
  have m1 := mul_bd ha.2.1 hb.2.2
  have m2 := mul_bd ha.2.2 hb.2.1
  have m3 := mul_bd ha.2.2 hb.1
  have m4 := mul_bd ha.1 hb.2.2
  have m5 := mul_bd ha.1 hb.2.1
  have m6 := mul_bd ha.2.1 hb.1
  unfold Bd at *
  refine vc__steer_vector__cross _ _ _ _ _ _ w _ ?_
  rintro _ rfl _ rfl _ rfl _ rfl _ rfl _ rfl _ rfl _ rfl _ rfl
  rw [Vc.i64_id (x := a.2.1 * b.2.2) (by omega), Vc.i64_id (x := a.2.2 * b.2.1) (by omega), Vc.i64_id (x := a.2.2 * b.1) (by omega), Vc.i64_id (x := a.1 * b.2.2) (by omega), Vc.i64_id (x := a.1 * b.2.1) (by omega), Vc.i64_id (x := a.2.1 * b.1) (by omega), Vc.i64_id (by omega), Vc.i64_id (by omega), Vc.i64_id (by omega)]
  rfl
def ckV (l : List V3) (f : Int) : Int := if 12 < l.length then 3 else if ∀ v ∈ l, V3B 1048576 v then (if 0 ≤ f ∧ f < 2 ^ l.length then 0 else 2) else 2
theorem pow_le12 {n : Nat} (h : n ≤ 12) : (2 : Int) ^ n ≤ 4096 := by
  have : ∀ k : Nat, k ≤ 12 → (2 : Int) ^ k ≤ 4096 := by decide
  exact this n h
theorem pow_pos2 (n : Nat) : (0 : Int) < 2 ^ n := Int.pow_pos (by decide)
theorem pcheck {w : World} {v : Value} {l : List V3} (h : V3s w v l) (f : Int) (hf : I64 f) : Calls Try.prog 12 #[v, .int .i64 f] w (Vc.Ret (.int .i64 (ckV l f)) w) := by
  obtain ⟨b0, p0, x1, rfl, hb, hc⟩ := v3_form h
  have nb := sps_nb hb
  refine vc_steer_check p0 (l.length : Int) x1 f b0 w _ ?_
  refine ⟨by omega, nb, ?_⟩
  refine iteI (fun g => ?_) (fun g => ⟨by omega, nb, ?_⟩)
  · unfold ckV; rw [if_pos (by omega)]
  refine ⟨fun y => ∃ i : Nat, i ≤ l.length ∧ (∀ p ∈ l.take i, V3B 1048576 p) ∧ y = [.i 0, .i (i : Int)], upK 1 (l.length : Int), ⟨0, by omega, by simp, rfl⟩, ?_⟩
  rintro x3 x4 ⟨i, hi, ho, hy⟩
  simp only [List.cons.injEq, Vc.Vl.i.injEq, and_true] at hy
  obtain ⟨rfl, rfl⟩ := hy
  refine iteI (fun hlt => ?_) (fun hge => ?_)
  · have hq := List.getElem?_eq_getElem (show i < l.length by omega)
    generalize l[i] = p at hq
    obtain ⟨c0, c1, c2⟩ := hc i p hq
    have bad : ¬ V3B 1048576 p → (2 : Int) = ckV l f := fun hn => by
      unfold ckV
      rw [if_neg (by omega), if_neg fun hall => hn (hall p (List.mem_of_getElem? hq))]
    refine ⟨sps_nb0 hb (by omega), by omega, hlt, _, c0, _, c1, _, c2, ?_⟩
    refine iteI (fun k => ?_) (fun k1 => iteI (fun k => ?_) (fun k2 => iteI (fun k => ?_) (fun k3 => iteI (fun k => ?_) (fun k4 => iteI (fun k => ?_) (fun k5 => iteI (fun k => ?_) (fun k6 => ?_))))))
    · rw [← bad (by unfold V3B Bd; omega)]
    · rw [← bad (by unfold V3B Bd; omega)]
    · rw [← bad (by unfold V3B Bd; omega)]
    · rw [← bad (by unfold V3B Bd; omega)]
    · rw [← bad (by unfold V3B Bd; omega)]
    · rw [← bad (by unfold V3B Bd; omega)]
    rintro x8 e8
    rw [wrap_up i (by omega)] at e8
    subst e8
    refine ⟨⟨i + 1, by omega, fun q hq' => ?_, rfl⟩, by simp only [upK, List.getElem?_cons_succ, List.getElem?_cons_zero]; omega⟩
    have et : l.take (i + 1) = l.take i ++ [p] := by rw [List.take_add_one, hq]; rfl
    rw [et] at hq'
    rcases List.mem_append.1 hq' with h | h
    · exact ho q h
    · simp only [List.mem_cons, List.not_mem_nil, or_false] at h
      subst h
      unfold V3B Bd; omega
  · obtain rfl : i = l.length := by omega
    rw [List.take_of_length_le (Nat.le_refl _)] at ho
    have e : ckV l f = if 0 ≤ f ∧ f < 2 ^ l.length then 0 else 2 := by unfold ckV; rw [if_neg (by omega), if_pos ho]
    refine iteI (fun k => ?_) (fun k => ⟨by omega, nb, by omega, ?_⟩)
    · rw [e, if_neg (by omega)]
    rintro x5 e5
    have hp := pow_le12 (n := l.length) (by omega)
    have hp0 := pow_pos2 l.length
    rw [show Nat.min (Int.toNat (l.length : Int)) 64 = l.length from Nat.min_eq_left (by omega), Int.one_mul, Vc.i64_id (by omega)] at e5
    subst e5
    refine iteI (fun k2 => ?_) (fun k2 => ?_)
    · rw [e, if_neg (by omega)]
    · rw [e, if_pos (by omega)]
def abv (l : List V3) (n : V3) : Bool := decide (∃ v ∈ l, 0 < dot v n)
def blw (l : List V3) (n : V3) : Bool := decide (∃ v ∈ l, dot v n < 0)
theorem abv_snoc (l : List V3) (p n : V3) : abv (l ++ [p]) n = (abv l n || decide (0 < dot p n)) := by
  unfold abv
  rw [Bool.eq_iff_iff]
  simp [or_and_right, exists_or]
theorem blw_snoc (l : List V3) (p n : V3) : blw (l ++ [p]) n = (blw l n || decide (dot p n < 0)) := by
  unfold blw
  rw [Bool.eq_iff_iff]
  simp [or_and_right, exists_or]
theorem psides {w : World} {v : Value} {l : List V3} (h : V3s w v l) (n : V3) (hl : ∀ p ∈ l, V3B 1048576 p) (hn : V3B 2199023255552 n) (hlen : l.length ≤ 1000) : Calls Try.prog 33 #[v, VV n] w (Vc.Ret (.tuple #[.bool (abv l n), .bool (blw l n)]) w) := by
  obtain ⟨b0, p0, x1, rfl, hb, hc⟩ := v3_form h
  refine vc_steer_sides p0 (l.length : Int) x1 n.1 n.2.1 n.2.2 b0 w _ ?_
  refine ⟨by omega, sps_nb hb, ?_⟩
  refine ⟨fun y => ∃ i : Nat, i ≤ l.length ∧ y = [.b (abv (l.take i) n), .b (blw (l.take i) n), .i (i : Int)], upK 2 (l.length : Int), ⟨0, by omega, rfl⟩, ?_⟩
  rintro b1 b2 x5 ⟨i, hi, hy⟩
  simp only [List.cons.injEq, Vc.Vl.i.injEq, Vc.Vl.b.injEq, and_true] at hy
  obtain ⟨e1, e2, rfl⟩ := hy
  refine iteI (fun hlt => ?_) (fun hge => ?_)
  · have hq := List.getElem?_eq_getElem (show i < l.length by omega)
    have hm : l[i] ∈ l := List.getElem_mem (by omega)
    generalize l[i] = p at hq hm
    obtain ⟨c0, c1, c2⟩ := hc i p hq
    have et : l.take (i + 1) = l.take i ++ [p] := by rw [List.take_add_one, hq]; rfl
    have next : ∀ (x : Int) (c d : Bool), x = IntKind.i64.wrap ((i : Int) + 1) → c = (b1 || decide (0 < dot p n)) → d = (b2 || decide (dot p n < 0)) →
        (∃ i : Nat, i ≤ l.length ∧ [Vc.Vl.b c, .b d, .i x] = [.b (abv (l.take i) n), .b (blw (l.take i) n), .i (i : Int)]) ∧ upK 2 (l.length : Int) [.b c, .b d, .i x] < upK 2 (l.length : Int) [.b b1, .b b2, .i (i : Int)] := by
      rintro x c d ex rfl rfl
      rw [wrap_up i (by omega)] at ex
      subst ex
      refine ⟨⟨i + 1, by omega, ?_⟩, by simp only [upK, List.getElem?_cons_succ, List.getElem?_cons_zero]; omega⟩
      rw [et, abv_snoc, blw_snoc, ← e1, ← e2]
    refine ⟨sps_nb0 hb (by omega), by omega, hlt, _, c0, _, c1, _, c2, _, fun w' hw => pdot (a := p) (b := n) (hl p hm) hn (by omega) w', ?_⟩
    refine iteI (fun g1 => iteI (fun g2 => ?_) (fun g2 => ?_)) (fun g1 => iteI (fun g2 => ?_) (fun g2 => ?_))
    · rintro x10 e10; exact next _ _ _ e10 (by rw [g1]; rfl) (by rw [g2]; rfl)
    · rintro x10 e10; exact next _ _ _ e10 (by rw [g1]; rfl) (by simp [g2])
    · rintro x10 e10; exact next _ _ _ e10 (by simp [g1]) (by rw [g2]; rfl)
    · rintro x10 e10; exact next _ _ _ e10 (by simp [g1]) (by simp [g2])
  · obtain rfl : i = l.length := by omega
    rw [List.take_of_length_le (Nat.le_refl _)] at e1 e2
    rw [e1, e2]
/-- On both sides of each plane that two of the first ones make. -/
def at3 (l : List V3) (i : Nat) : V3 := l.getD i (0, 0, 0)
def pairOk (l : List V3) (i j : Nat) : Prop := crs (at3 l i) (at3 l j) ≠ (0, 0, 0) → abv l (crs (at3 l i) (at3 l j)) = true ∧ blw l (crs (at3 l i) (at3 l j)) = true
instance (l : List V3) (i j : Nat) : Decidable (pairOk l i j) := inferInstanceAs (Decidable (_ → _))
def Span3 (l : List V3) : Prop := (∀ i, i < l.length → ∀ j, j < i → pairOk l i j) ∧ ∃ i, i < l.length ∧ ∃ j, j < i ∧ crs (at3 l i) (at3 l j) ≠ (0, 0, 0)
def span3B (l : List V3) : Bool := decide (∀ i, i < l.length → ∀ j, j < i → pairOk l i j) && (List.range l.length).any fun i => (List.range i).any fun j => decide (crs (at3 l i) (at3 l j) ≠ (0, 0, 0))
theorem span3B_iff {l : List V3} : span3B l = true ↔ Span3 l := by
  unfold span3B Span3
  simp [List.any_eq_true]
theorem at3_eq {l : List V3} {i : Nat} {p : V3} (h : l[i]? = some p) : at3 l i = p := by
  unfold at3; rw [List.getD_eq_getElem?_getD, h]; rfl
theorem ne3 {v : V3} : v ≠ (0, 0, 0) ↔ ¬ (v.1 = 0 ∧ (v.2.1 = 0 ∧ v.2.2 = 0)) := by
  obtain ⟨a, b, c⟩ := v
  simp
theorem pspan3 {w : World} {v : Value} {l : List V3} {b0 : Bool} {p0 : Nat × Nat} {x1 : Int} (hv : v = (if b0 = true then .slice none 0 0 else .slice (some (Vc.qad p0 (Int.toNat (l.length : Int)) (Int.toNat x1))) (Int.toNat (l.length : Int)) (Int.toNat x1))) (hb : b0 = true → l.length = 0)
    (hcap : 0 < l.length → (l.length : Int) ≤ x1)
    (hc : ∀ (i : Nat) (p : V3), l[i]? = some p → w.cell? ⟨p0.1, p0.2 + i * 3 + 0, none⟩ = some (.int .i64 p.1) ∧ w.cell? ⟨p0.1, p0.2 + i * 3 + 1, none⟩ = some (.int .i64 p.2.1) ∧ w.cell? ⟨p0.1, p0.2 + i * 3 + 2, none⟩ = some (.int .i64 p.2.2))
    (h : V3s w v l) (hl : ∀ p ∈ l, V3B 1048576 p) (hlen : l.length ≤ 100) : Calls Try.prog 24 #[v] w (Vc.Ret (.bool (span3B l)) w) := by
  subst hv
  refine vc_steer_span3 p0 (l.length : Int) x1 b0 w _ ?_
  refine ⟨by omega, sps_nb hb, ?_⟩
  refine ⟨fun y => ∃ (i : Nat) (m : Int), i ≤ l.length ∧ (∀ k, k < i → ∀ j, j < k → pairOk l k j) ∧ (0 ≤ m ∧ m ≤ 100 * (i : Int)) ∧ (0 < m ↔ ∃ k, k < i ∧ ∃ j, j < k ∧ crs (at3 l k) (at3 l j) ≠ (0, 0, 0)) ∧ y = [.i m, .b false, .i (i : Int)], upK 2 (l.length : Int), ⟨0, 0, by omega, by omega, by omega, by simp, rfl⟩, ?_⟩
  rintro x2 b1 x3 ⟨i, m, hi, ho, hm, hmi, hy⟩
  simp only [List.cons.injEq, Vc.Vl.i.injEq, Vc.Vl.b.injEq, and_true] at hy
  obtain ⟨rfl, rfl, rfl⟩ := hy
  refine iteI (fun hlt => ?_) (fun hge => ?_)
  · have hq := List.getElem?_eq_getElem (show i < l.length by omega)
    have hmem : l[i] ∈ l := List.getElem_mem (by omega)
    generalize l[i] = p at hq hmem
    obtain ⟨c0, c1, c2⟩ := hc i p hq
    have hcp := hcap (by omega)
    refine ⟨sps_nb0 hb (by omega), by omega, hlt, _, c0, _, c1, _, c2, sps_nb0 hb (by omega), by omega, by omega, by omega, by omega, by omega, by omega, ?_⟩
    refine ⟨fun y => ∃ (j : Nat) (m : Int), j ≤ i ∧ (∀ k, k < j → pairOk l i k) ∧ (0 ≤ m ∧ m ≤ 100 * (i : Int) + (j : Int)) ∧ (0 < m ↔ (∃ k, k < i ∧ ∃ j, j < k ∧ crs (at3 l k) (at3 l j) ≠ (0, 0, 0)) ∨ ∃ k, k < j ∧ crs (at3 l i) (at3 l k) ≠ (0, 0, 0)) ∧ y = [.i m, .b false, .i (j : Int)], upK 2 (i : Int), ⟨0, x2, by omega, by omega, by omega, by simpa using hmi, rfl⟩, ?_⟩
    rintro x7 b2 x8 ⟨j, m, hj, hoj, hmj, hmij, hy⟩
    simp only [List.cons.injEq, Vc.Vl.i.injEq, Vc.Vl.b.injEq, and_true] at hy
    obtain ⟨rfl, rfl, rfl⟩ := hy
    refine iteI (fun hlt2 => ?_) (fun hge2 => ?_)
    · have hq2 := List.getElem?_eq_getElem (show j < l.length by omega)
      have hmem2 : l[j] ∈ l := List.getElem_mem (by omega)
      generalize l[j] = q at hq2 hmem2
      obtain ⟨d0, d1, d2⟩ := hc j q hq2
      have e1 := at3_eq hq
      have e2 := at3_eq hq2
      have hn := crs_bd (hl p hmem) (hl q hmem2)
      refine ⟨by omega, by omega, _, d0, _, d1, _, d2, ?_⟩
      refine ⟨_, _, _, fun w' hw => pcrs (a := p) (b := q) (hl p hmem) (hl q hmem2) w', ?_⟩
      refine iteI (fun hz => ?_) (fun hz => ?_)
      · rintro x15 e15
        rw [wrap_up j (by omega)] at e15
        subst e15
        have hzz : ¬ crs (at3 l i) (at3 l j) ≠ (0, 0, 0) := by rw [e1, e2, ne3]; exact fun h => h hz
        refine ⟨⟨j + 1, x7, by omega, fun k hk => ?_, by omega, ?_, rfl⟩, by simp only [upK, List.getElem?_cons_succ, List.getElem?_cons_zero]; omega⟩
        · by_cases hkj : k = j
          · subst hkj; exact fun h => absurd h hzz
          · exact hoj k (by omega)
        · rw [hmij]
          constructor
          · rintro (h | ⟨k, hk, h⟩)
            · exact .inl h
            · exact .inr ⟨k, by omega, h⟩
          · rintro (h | ⟨k, hk, h⟩)
            · exact .inl h
            · by_cases hkj : k = j
              · subst hkj; exact absurd h hzz
              · exact .inr ⟨k, by omega, h⟩
      · have hnz : crs (at3 l i) (at3 l j) ≠ (0, 0, 0) := by rw [e1, e2, ne3]; exact hz
        have hnz' := hnz
        rw [e1, e2] at hnz'
        have no : ¬ (abv l (crs p q) = true ∧ blw l (crs p q) = true) → (Value.bool false : Value) = .bool (span3B l) := fun hx => by
          have : span3B l = false := by
            rw [Bool.eq_false_iff, ne_eq, span3B_iff]
            intro hs
            have := hs.1 i (by omega) j (by omega) hnz
            rw [e1, e2] at this
            exact hx this
          rw [this]
        rintro x15 e15
        rw [Vc.i64_id (by omega)] at e15
        subst e15
        refine ⟨_, _, fun w' hw => psides (sl_below hw h) (crs p q) hl hn (by omega), ?_⟩
        refine iteI (fun ha => iteI (fun hbw => ?_) (fun hbw => no fun h => hbw h.2)) (fun ha => no fun h => ha h.1)
        rintro x16 e16
        rw [wrap_up j (by omega)] at e16
        subst e16
        refine ⟨⟨j + 1, x7 + 1, by omega, fun k hk => ?_, by omega, ?_, rfl⟩, by simp only [upK, List.getElem?_cons_succ, List.getElem?_cons_zero]; omega⟩
        · by_cases hkj : k = j
          · subst hkj; intro _; rw [e1, e2]; exact ⟨ha, hbw⟩
          · exact hoj k (by omega)
        · constructor
          · intro _; exact .inr ⟨j, by omega, hnz⟩
          · intro _; omega
    · obtain rfl : j = i := by omega
      rintro x9 e9
      rw [wrap_up j (by omega)] at e9
      subst e9
      refine ⟨⟨j + 1, x7, by omega, fun k hk => ?_, by omega, ?_, rfl⟩, by simp only [upK, List.getElem?_cons_succ, List.getElem?_cons_zero]; omega⟩
      · by_cases hkj : k = j
        · subst hkj; exact hoj
        · exact ho k (by omega)
      · rw [hmij]
        constructor
        · rintro (⟨k, hk, h⟩ | h)
          · exact ⟨k, by omega, h⟩
          · exact ⟨j, by omega, h⟩
        · rintro ⟨k, hk, h⟩
          by_cases hkj : k = j
          · subst hkj; exact .inr h
          · exact .inl ⟨k, by omega, h⟩
  · obtain rfl : i = l.length := by omega
    congr 1
    rw [Bool.eq_iff_iff, span3B_iff, decide_eq_true_eq]
    unfold Span3
    constructor
    · intro h; exact ⟨ho, hmi.1 h⟩
    · intro h; exact hmi.2 h.2
end Go.Proofs.Ytancpffnjhdfaaa
set_option linter.unusedVariables false
set_option maxRecDepth 4000
namespace Go.Proofs.Ytancpffnjhdfaaa
open Go Go.RowKit Ul Vc
attribute [local irreducible] Go.Calls
def wHi (a b : Int) : Int :=
  if b < 0 then IntKind.u64.wrap ((if a < 0 then IntKind.u64.wrap (hiW (IntKind.u64.wrap a * IntKind.u64.wrap b) - IntKind.u64.wrap b) else hiW (IntKind.u64.wrap a * IntKind.u64.wrap b)) - IntKind.u64.wrap a)
  else (if a < 0 then IntKind.u64.wrap (hiW (IntKind.u64.wrap a * IntKind.u64.wrap b) - IntKind.u64.wrap b) else hiW (IntKind.u64.wrap a * IntKind.u64.wrap b))
def wLo (a b : Int) : Int := loW (IntKind.u64.wrap a * IntKind.u64.wrap b)
def wplus (hi lo a b : Int) (m : Bool) : Int × Int :=
  if m = true then (IntKind.i64.wrap (hi - IntKind.i64.wrap (IntKind.i64.wrap (wHi a b) + IntKind.i64.wrap (bor lo (wLo a b)))), (lo - wLo a b) % 18446744073709551616)
  else (IntKind.i64.wrap (hi + IntKind.i64.wrap (IntKind.i64.wrap (wHi a b) + IntKind.i64.wrap ((lo + wLo a b) / 18446744073709551616))), (lo + wLo a b) % 18446744073709551616)
theorem u64_bd (x : Int) : 0 ≤ IntKind.u64.wrap x ∧ IntKind.u64.wrap x ≤ 18446744073709551615 := by
  rw [IntKind.wrap_u64]; omega
theorem lo_bd (x : Int) : 0 ≤ loW x ∧ loW x ≤ 18446744073709551615 := by unfold loW; omega
theorem pplus (hi lo a b : Int) (m : Bool) (hlo : 0 ≤ lo) (ha : I64 a) (hb : I64 b) (w : World) : Calls Try.prog 27 #[.agg #[.int .i64 hi, .int .u64 lo], .int .i64 a, .int .i64 b, .bool m] w (Vc.Ret (.agg #[.int .i64 (wplus hi lo a b m).1, .int .u64 (wplus hi lo a b m).2]) w) := by
  have ua := u64_bd a
  have ub := u64_bd b
  have ul : 0 ≤ wLo a b ∧ wLo a b ≤ 18446744073709551615 := lo_bd _
  refine vc__steer_wide__plus hi lo a b m w _ ?_
  rintro _ rfl _ rfl
  refine ⟨_, _, fun w' hw => mul64_any _ _ w' ua.1 ua.2 ub.1 ub.2, ?_⟩
  refine iteI (fun h1 => ?_) (fun h1 => ?_)
  · rintro _ rfl _ rfl
    refine iteI (fun h2 => ?_) (fun h2 => ?_)
    · rintro _ rfl _ rfl
      refine iteI (fun h3 => ?_) (fun h3 => ?_)
      · refine ⟨_, _, ⟨rfl, fun w' => sub64_0 lo (wLo a b) hlo ul.1 ul.2 w'⟩, ?_⟩
        rintro _ rfl _ rfl _ rfl _ rfl
        simp only [wplus, wHi, h1, h2, h3, if_true]
      · refine ⟨_, _, ⟨rfl, fun w' => add64_0 lo (wLo a b) hlo ul.1 w'⟩, ?_⟩
        rintro _ rfl _ rfl _ rfl _ rfl
        simp only [wplus, wHi, h1, h2, if_true, if_neg h3]
    · refine iteI (fun h3 => ?_) (fun h3 => ?_)
      · refine ⟨_, _, ⟨rfl, fun w' => sub64_0 lo (wLo a b) hlo ul.1 ul.2 w'⟩, ?_⟩
        rintro _ rfl _ rfl _ rfl _ rfl
        simp only [wplus, wHi, h1, h3, if_true, if_neg h2]
      · refine ⟨_, _, ⟨rfl, fun w' => add64_0 lo (wLo a b) hlo ul.1 w'⟩, ?_⟩
        rintro _ rfl _ rfl _ rfl _ rfl
        simp only [wplus, wHi, h1, if_true, if_neg h2, if_neg h3]
  · refine iteI (fun h2 => ?_) (fun h2 => ?_)
    · rintro _ rfl _ rfl
      refine iteI (fun h3 => ?_) (fun h3 => ?_)
      · refine ⟨_, _, ⟨rfl, fun w' => sub64_0 lo (wLo a b) hlo ul.1 ul.2 w'⟩, ?_⟩
        rintro _ rfl _ rfl _ rfl _ rfl
        simp only [wplus, wHi, h2, h3, if_true, if_neg h1]
      · refine ⟨_, _, ⟨rfl, fun w' => add64_0 lo (wLo a b) hlo ul.1 w'⟩, ?_⟩
        rintro _ rfl _ rfl _ rfl _ rfl
        simp only [wplus, wHi, h2, if_true, if_neg h1, if_neg h3]
    · refine iteI (fun h3 => ?_) (fun h3 => ?_)
      · refine ⟨_, _, ⟨rfl, fun w' => sub64_0 lo (wLo a b) hlo ul.1 ul.2 w'⟩, ?_⟩
        rintro _ rfl _ rfl _ rfl _ rfl
        simp only [wplus, wHi, h3, if_true, if_neg h1, if_neg h2]
      · refine ⟨_, _, ⟨rfl, fun w' => add64_0 lo (wLo a b) hlo ul.1 w'⟩, ?_⟩
        rintro _ rfl _ rfl _ rfl _ rfl
        simp only [wplus, wHi, if_neg h1, if_neg h2, if_neg h3]
def downN (hi lo : Int) : Int := bits .or .i64 (IntKind.i64.wrap (hi * 4294967296)) (IntKind.i64.wrap (lo / 4294967296))
def downV (hi lo : Int) : Int × Bool := if hi / 2147483648 = downN hi lo / 9223372036854775808 then (downN hi lo, decide (downN hi lo ≥ -9223372036854775807)) else (downN hi lo, false)
theorem pdown (hi lo : Int) (w : World) : Calls Try.prog 28 #[.agg #[.int .i64 hi, .int .u64 lo]] w (Vc.Ret (.tuple #[.int .i64 (downV hi lo).1, .bool (downV hi lo).2]) w) := by
  refine vc__steer_wide__down hi lo w _ ?_
  rintro x2 e2 x3 e3 x4 e4 x5 e5 x6 e6 x7 e7
  subst e2 e3 e4
  have h5 : x5 = downN hi lo := e5
  subst h5 e6 e7
  refine iteI (fun h => ⟨_, fun w' hw => svalid _ w', ?_⟩) (fun h => ?_)
  · unfold downV; rw [if_pos h]
  · unfold downV; rw [if_neg h]
/-- The jets that work. -/
def bt (f : Int) (i : Nat) : Int := bits .and .i64 (Int.fdiv f (2 ^ (Nat.min i 64))) 1
def wkT (l : List V3) (f : Int) : Nat → List V3
  | 0 => []
  | n + 1 => if bt f n = 0 then wkT l f n ++ [at3 l n] else wkT l f n
def wk (l : List V3) (f : Int) : List V3 := wkT l f l.length
theorem wkT_yes {l : List V3} {f : Int} {n : Nat} (h : bt f n = 0) : wkT l f (n + 1) = wkT l f n ++ [at3 l n] := if_pos h
theorem wkT_no {l : List V3} {f : Int} {n : Nat} (h : ¬ bt f n = 0) : wkT l f (n + 1) = wkT l f n := if_neg h
theorem wkT_len (l : List V3) (f : Int) : ∀ n, (wkT l f n).length ≤ n
  | 0 => by simp [wkT]
  | n + 1 => by
    unfold wkT
    have := wkT_len l f n
    split
    · rw [List.length_append, List.length_singleton]; omega
    · omega
theorem wkT_mem {l : List V3} {f : Int} {v : V3} : ∀ {n : Nat}, v ∈ wkT l f n ↔ ∃ i, i < n ∧ bt f i = 0 ∧ v = at3 l i
  | 0 => by simp [wkT]
  | n + 1 => by
    unfold wkT
    have ih := wkT_mem (l := l) (f := f) (v := v) (n := n)
    split
    · rename_i h
      rw [List.mem_append, ih, List.mem_singleton]
      constructor
      · rintro (⟨i, hi, h1⟩ | rfl)
        · exact ⟨i, by omega, h1⟩
        · exact ⟨n, by omega, h, rfl⟩
      · rintro ⟨i, hi, h1, h2⟩
        by_cases hin : i = n
        · subst hin; exact .inr h2
        · exact .inl ⟨i, by omega, h1, h2⟩
    · rename_i h
      rw [ih]
      constructor
      · rintro ⟨i, hi, h1⟩; exact ⟨i, by omega, h1⟩
      · rintro ⟨i, hi, h1, h2⟩
        refine ⟨i, ?_, h1, h2⟩
        by_cases hin : i = n
        · subst hin; exact absurd h1 h
        · omega
theorem at3_mem {l : List V3} {i : Nat} (h : i < l.length) : at3 l i ∈ l := by
  rw [at3_eq (List.getElem?_eq_getElem h)]; exact List.getElem_mem h
theorem wk_bd {l : List V3} {f : Int} (hl : ∀ p ∈ l, V3B 1048576 p) : ∀ p ∈ wk l f, V3B 1048576 p := by
  intro p hp
  obtain ⟨i, hi, _, rfl⟩ := wkT_mem.1 hp
  exact hl _ (at3_mem hi)
theorem ck_ok {l : List V3} {f : Int} (h : ckV l f = 0) : l.length ≤ 12 ∧ (∀ v ∈ l, V3B 1048576 v) ∧ 0 ≤ f ∧ f < 2 ^ l.length := by
  unfold ckV at h
  split at h
  · cases h
  · split at h
    · split at h
      · exact ⟨by omega, by assumption, by omega, by omega⟩
      · cases h
    · cases h
def spansV (l : List V3) (f : Int) : Bool × Int := if ckV l f = 0 then (span3B (wk l f), 0) else (false, ckV l f)
theorem span_row {lo b code n base : Nat} {l : List V3} {t : TypeId} {w : World} {xs : List Value} (h : RowOk lo b code n base xs 3 t w) (hx : xs = l.flatMap v3c) (hl : ∀ p ∈ l, V3B 1048576 p) (hlen : l.length ≤ 100) :
    Calls Try.prog 24 #[ownV b code n base] w (Vc.Ret (.bool (span3B l)) w) := by
  obtain ⟨b0, p0, x1, h1, h2, h3, h4⟩ := v3_row h hx
  refine pspan3 h1 h2 h3 h4 ?_ hl hlen
  subst hx
  exact own_sl h
theorem pSpans {w : World} {v : Value} {l : List V3} (h : V3s w v l) (f : Int) (hf : I64 f) : Calls Try.prog 11 #[v, .int .i64 f] w (Vc.Ret (.tuple #[.bool (spansV l f).1, .int .i64 (spansV l f).2]) w) := by
  have h0 := h
  obtain ⟨b0, p0, x1, rfl, hb, hc⟩ := v3_form h
  refine vc_steer_Spans p0 (l.length : Int) x1 f b0 w _ ?_
  refine ⟨_, fun w' hw => pcheck (sl_below hw h0) f hf, ?_⟩
  refine iteI (fun g => ?_) (fun g => ?_)
  rotate_left
  · unfold spansV; rw [if_neg g]
  obtain ⟨k1, k2, k3, k4⟩ := ck_ok g
  refine ⟨by omega, sps_nb hb, ?_⟩
  refine ⟨fun y => ∃ i : Nat, i ≤ l.length ∧ y = [.l ((wkT l f i).flatMap v3c), .i (i : Int)], upK 1 (l.length : Int), ⟨0, by omega, rfl⟩, ?_⟩
  rintro l0 x4 ⟨i, hi, hy⟩
  simp only [List.cons.injEq, Vc.Vl.i.injEq, Vc.Vl.l.injEq, and_true] at hy
  obtain ⟨e1, rfl⟩ := hy
  rw [List.append_nil] at e1
  have le1 : l0.length = (wkT l f i).length * 3 := by
    have := congrArg List.length e1
    rwa [List.length_map, flat_len v3c_len] at this
  have lw := wkT_len l f i
  refine iteI (fun hlt => ?_) (fun hge => ?_)
  · have hq := List.getElem?_eq_getElem (show i < l.length by omega)
    generalize l[i] = p at hq
    obtain ⟨c0, c1, c2⟩ := hc i p hq
    have ep := at3_eq hq
    refine ⟨sps_nb0 hb (by omega), by omega, hlt, _, c0, _, c1, _, c2, by omega, ?_⟩
    rintro x8 e8 x9 e9
    have hbt : x9 = bt f i := by rw [e9, e8]; rfl
    refine iteI (fun h9 => ?_) (fun h9 => ?_)
    · rintro x10 e10
      refine ⟨by omega, ?_⟩
      rintro x11 e11
      rw [wrap_up i (by omega)] at e11
      subst e11
      refine ⟨⟨i + 1, by omega, ?_⟩, by simp only [upK, List.getElem?_cons_succ, List.getElem?_cons_zero]; omega⟩
      rw [e1, wkT_yes (by rw [← hbt]; exact h9), List.flatMap_append, ep]
      rfl
    · rintro x10 e10
      rw [wrap_up i (by omega)] at e10
      subst e10
      refine ⟨⟨i + 1, by omega, ?_⟩, by simp only [upK, List.getElem?_cons_succ, List.getElem?_cons_zero]; omega⟩
      rw [e1, List.append_nil, wkT_no (by rw [← hbt]; exact h9)]
  · obtain rfl : i = l.length := by omega
    refine ⟨_, fun β w' hw hm => span_row (l := wk l f) hm.1 (by rw [e1, List.append_nil]; rfl) (wk_bd k2) (by unfold wk; omega), ?_⟩
    unfold spansV; rw [if_pos g]
def polyB (l : List Sp) : Bool := decide (2 ≤ l.length ∧ l.length ≤ 9) && okL l && decide (sign (l.getD 0 (0, 0)).1 (l.getD 0 (0, 0)).2 > 0)
theorem ppoly {w : World} {v : Value} {l : List Sp} (h : Sps w v l) (hlen : l.length ≤ 1000) : Calls Try.prog 21 #[v] w (Vc.Ret (.bool (polyB l)) w) := by
  have h0 := h
  obtain ⟨b0, p0, x1, rfl, hb, hc⟩ := sps_form h
  refine vc_steer_polynomial p0 (l.length : Int) x1 b0 w _ ?_
  refine ⟨by omega, sps_nb hb, ?_⟩
  refine iteI (fun h1 => ⟨by omega, sps_nb hb, iteI (fun h2 => ?_) (fun h2 => ?_)⟩) (fun h1 => ?_)
  · refine ⟨_, fun w' hw => sall (sps_below hw h0) (by omega), ?_⟩
    refine iteI (fun h3 => ?_) (fun h3 => ?_)
    · have hq := List.getElem?_eq_getElem (show 0 < l.length by omega)
      obtain ⟨c0, c1⟩ := hc 0 _ hq
      refine ⟨sps_nb0 hb (by omega), by omega, _, c0, _, c1, _, fun w' hw => sign_any _ _ w', ?_⟩
      unfold polyB
      rw [decide_eq_true (show 2 ≤ l.length ∧ l.length ≤ 9 by omega), h3, List.getD_eq_getElem?_getD, hq]
      rfl
    · unfold polyB
      rw [show okL l = false by simpa using h3]
      simp
  · unfold polyB
    rw [decide_eq_false (show ¬ (2 ≤ l.length ∧ l.length ≤ 9) by omega)]
    rfl
  · unfold polyB
    rw [decide_eq_false (show ¬ (2 ≤ l.length ∧ l.length ≤ 9) by omega)]
    rfl
theorem pelem {w : World} {v : Value} {l : List Sp} (h : Sps w v l) (i : Int) (hi : 0 ≤ i) : Calls Try.prog 44 #[v, .int .i64 i] w (Vc.Ret (Vc.S (l.getD i.toNat (0, 0)).1 (l.getD i.toNat (0, 0)).2) w) := by
  obtain ⟨b0, p0, x1, rfl, hb, hc⟩ := sps_form h
  refine vc_steer_element p0 (l.length : Int) x1 i b0 w _ ?_
  refine ⟨by omega, sps_nb hb, ?_⟩
  refine iteI (fun h1 => ?_) (fun h1 => ?_)
  · rw [List.getD_eq_getElem?_getD, List.getElem?_eq_none (by omega)]; rfl
  · have hq := List.getElem?_eq_getElem (show i.toNat < l.length by omega)
    obtain ⟨c0, c1⟩ := hc _ _ hq
    refine ⟨sps_nb0 hb (by omega), by omega, by omega, _, c0, _, c1, ?_⟩
    rw [List.getD_eq_getElem?_getD, hq]; rfl
theorem Eff.mono {w : World} {f : FuncId} {args : Array Value} {v v' : Value} {x : Nat} {cs cs' : Array Value} {t : TypeId} (h : Calls Try.prog f args w (Vc.Eff v x cs t w)) (e : (v, cs) = (v', cs')) : Calls Try.prog f args w (Vc.Eff v' x cs' t w) := by
  cases e; exact h
theorem routhA {lo bk code n base : Nat} {t : TypeId} {w : World} {xs : List Value} (h : RowOk lo bk code n base xs 2 t w) (hx : xs = ([(4294967296, 4294967296), (12884901888, 12884901888), (8589934592, 8589934592)] : List Sp).flatMap spc) :
    Calls Try.prog 9 #[ownV bk code n base] w (Vc.Ret (.tuple #[.int .i64 (1), .int .i64 0]) w) := by
  have hs : Sps w (ownV bk code n base) [(4294967296, 4294967296), (12884901888, 12884901888), (8589934592, 8589934592)] := own_sps h hx
  obtain ⟨m, e1, e2, e3⟩ := row_at (k := 3) h (by rw [hx]; rfl) (by omega)
  rw [e1] at hs ⊢
  have c := fun j u hj => e3 j u (by rw [hx]; exact hj)
  refine vc_steer_Routh (bk, 0) (m : Int) w _ ?_
  refine ⟨true, fun w' hw => Ret.mono (ppoly (sps_below hw hs) (by decide)) (by rw [show polyB [(4294967296, 4294967296), (12884901888, 12884901888), (8589934592, 8589934592)] = true by decide +kernel]), ?_⟩
  refine iteI (fun _ => ?_) (fun h => absurd rfl h)
  refine ⟨_, c 0 _ rfl, _, c 1 _ rfl, _, c 2 _ rfl, _, c 3 _ rfl, _, c 4 _ rfl, _, c 5 _ rfl, ?_⟩
  refine ⟨1, fun w' hw => Ret.mono (sign_any _ _ w') (by rw [show sign 12884901888 12884901888 = 1 by decide +kernel]), ?_⟩
  refine iteI (fun _ => ?_) (fun h => absurd rfl h)
  refine ⟨25769803776, 25769803776, 0, fun β w' hw hm => Eff.mono (op_mul 0 (a := (12884901888, 12884901888)) (b := (8589934592, 8589934592)) (show SpI (12884901888, 12884901888) by unfold SpI I64; decide) (show SpI (8589934592, 8589934592) by unfold SpI I64; decide) w' _ hm.1.2) (by rw [show cop 0 (mul 12884901888 12884901888 8589934592 8589934592) = (25769803776, 25769803776, 0) by decide +kernel]), ?_⟩
  refine ⟨0, 0, fun β w' hw hm => Ret.mono (pelem (l := [(12884901888, 12884901888)]) (own_sps hm.1 rfl) 1 (by decide)) rfl, ?_⟩
  refine ⟨0, 0, 0, fun β w' hw hm => Eff.mono (op_mul 0 (a := (4294967296, 4294967296)) (b := (0, 0)) (show SpI (4294967296, 4294967296) by unfold SpI I64; decide) (show SpI (0, 0) by unfold SpI I64; decide) w' _ hm.1.2) (by rw [show cop 0 (mul 4294967296 4294967296 0 0) = (0, 0, 0) by decide +kernel]), ?_⟩
  refine ⟨25769803776, 25769803776, 0, fun β w' hw hm => Eff.mono (op_sub 0 (a := (25769803776, 25769803776)) (b := (0, 0)) (show SpI (25769803776, 25769803776) by unfold SpI I64; decide) (show SpI (0, 0) by unfold SpI I64; decide) w' _ hm.1.2) (by rw [show cop 0 (sub 25769803776 25769803776 0 0) = (25769803776, 25769803776, 0) by decide +kernel]), ?_⟩
  refine ⟨8589934592, 8589934592, 0, fun β w' hw hm => Eff.mono (op_div 0 (a := (25769803776, 25769803776)) (b := (12884901888, 12884901888)) (show SpI (25769803776, 25769803776) by unfold SpI I64; decide) (show SpI (12884901888, 12884901888) by unfold SpI I64; decide) w' _ hm.1.2) (by rw [show cop 0 (div 25769803776 25769803776 12884901888 12884901888) = (8589934592, 8589934592, 0) by decide +kernel]), ?_⟩
  refine iteI (fun _ => ?_) (fun h => absurd rfl h)
  refine ⟨1, fun w' hw => Ret.mono (sign_any _ _ w') (by rw [show sign 8589934592 8589934592 = 1 by decide +kernel]), ?_⟩
  exact iteI (fun _ => rfl) (fun h => absurd rfl h)
theorem routhB {lo bk code n base : Nat} {t : TypeId} {w : World} {xs : List Value} (h : RowOk lo bk code n base xs 2 t w) (hx : xs = ([(4294967296, 4294967296), ((-12884901888), (-12884901888)), (8589934592, 8589934592)] : List Sp).flatMap spc) :
    Calls Try.prog 9 #[ownV bk code n base] w (Vc.Ret (.tuple #[.int .i64 (-1), .int .i64 0]) w) := by
  have hs : Sps w (ownV bk code n base) [(4294967296, 4294967296), ((-12884901888), (-12884901888)), (8589934592, 8589934592)] := own_sps h hx
  obtain ⟨m, e1, e2, e3⟩ := row_at (k := 3) h (by rw [hx]; rfl) (by omega)
  rw [e1] at hs ⊢
  have c := fun j u hj => e3 j u (by rw [hx]; exact hj)
  refine vc_steer_Routh (bk, 0) (m : Int) w _ ?_
  refine ⟨true, fun w' hw => Ret.mono (ppoly (sps_below hw hs) (by decide)) (by rw [show polyB [(4294967296, 4294967296), ((-12884901888), (-12884901888)), (8589934592, 8589934592)] = true by decide +kernel]), ?_⟩
  refine iteI (fun _ => ?_) (fun h => absurd rfl h)
  refine ⟨_, c 0 _ rfl, _, c 1 _ rfl, _, c 2 _ rfl, _, c 3 _ rfl, _, c 4 _ rfl, _, c 5 _ rfl, ?_⟩
  refine ⟨-1, fun w' hw => Ret.mono (sign_any _ _ w') (by rw [show sign (-12884901888) (-12884901888) = -1 by decide +kernel]), ?_⟩
  exact iteI (fun h => absurd h (by decide)) (fun _ => rfl)
def six : List V3 := [(1, 0, 0), (-1, 0, 0), (0, 1, 0), (0, -1, 0), (0, 0, 1), (0, 0, -1)]
theorem alive_any (w : World) : Calls Try.prog 4 #[] w (Vc.Ret (.bool true) w) := by
  refine vc_ullagelaw05_alive w _ ?_
  refine ⟨0, 9223372036854775808, fun w' hw => Ret.mono (pplus 0 0 2147483648 4294967296 false (by omega) (by unfold I64; omega) (by unfold I64; omega) w') (by rw [show wplus 0 0 2147483648 4294967296 false = (0, 9223372036854775808) by decide +kernel]), ?_⟩
  refine ⟨0, 9223372036854775808, fun w' hw => Ret.mono (pplus 0 9223372036854775808 0 0 false (by omega) (by unfold I64; omega) (by unfold I64; omega) w') (by rw [show wplus 0 9223372036854775808 0 0 false = (0, 9223372036854775808) by decide +kernel]), ?_⟩
  refine ⟨0, 9223372036854775808, fun w' hw => Ret.mono (pplus 0 9223372036854775808 0 0 false (by omega) (by unfold I64; omega) (by unfold I64; omega) w') (by rw [show wplus 0 9223372036854775808 0 0 false = (0, 9223372036854775808) by decide +kernel]), ?_⟩
  refine ⟨0, 9223372036854775808, fun w' hw => Ret.mono (pplus 0 9223372036854775808 (-2147483648) 0 true (by omega) (by unfold I64; omega) (by unfold I64; omega) w') (by rw [show wplus 0 9223372036854775808 (-2147483648) 0 true = (0, 9223372036854775808) by decide +kernel]), ?_⟩
  refine ⟨0, 9223372036854775808, fun w' hw => Ret.mono (pplus 0 9223372036854775808 0 0 true (by omega) (by unfold I64; omega) (by unfold I64; omega) w') (by rw [show wplus 0 9223372036854775808 0 0 true = (0, 9223372036854775808) by decide +kernel]), ?_⟩
  refine ⟨2147483648, true, fun w' hw => Ret.mono (pdown 0 9223372036854775808 w') (by rw [show downV 0 9223372036854775808 = (2147483648, true) by decide +kernel]), ?_⟩
  refine iteI (fun _ => ?_) (fun h => absurd rfl h)
  refine ⟨0, 9223372036854775808, fun w' hw => Ret.mono (pplus 0 0 2147483648 4294967296 false (by omega) (by unfold I64; omega) (by unfold I64; omega) w') (by rw [show wplus 0 0 2147483648 4294967296 false = (0, 9223372036854775808) by decide +kernel]), ?_⟩
  refine ⟨0, 9223372036854775808, fun w' hw => Ret.mono (pplus 0 9223372036854775808 0 4294967296 false (by omega) (by unfold I64; omega) (by unfold I64; omega) w') (by rw [show wplus 0 9223372036854775808 0 4294967296 false = (0, 9223372036854775808) by decide +kernel]), ?_⟩
  refine ⟨0, 9223372036854775808, fun w' hw => Ret.mono (pplus 0 9223372036854775808 0 0 false (by omega) (by unfold I64; omega) (by unfold I64; omega) w') (by rw [show wplus 0 9223372036854775808 0 0 false = (0, 9223372036854775808) by decide +kernel]), ?_⟩
  refine ⟨0, 13835058055282163712, fun w' hw => Ret.mono (pplus 0 9223372036854775808 (-2147483648) 2147483648 true (by omega) (by unfold I64; omega) (by unfold I64; omega) w') (by rw [show wplus 0 9223372036854775808 (-2147483648) 2147483648 true = (0, 13835058055282163712) by decide +kernel]), ?_⟩
  refine ⟨0, 13835058055282163712, fun w' hw => Ret.mono (pplus 0 13835058055282163712 0 0 true (by omega) (by unfold I64; omega) (by unfold I64; omega) w') (by rw [show wplus 0 13835058055282163712 0 0 true = (0, 13835058055282163712) by decide +kernel]), ?_⟩
  refine ⟨3221225472, true, fun w' hw => Ret.mono (pdown 0 13835058055282163712 w') (by rw [show downV 0 13835058055282163712 = (3221225472, true) by decide +kernel]), ?_⟩
  refine iteI (fun _ => ?_) (fun h => absurd rfl h)
  refine ⟨0, 9223372036854775808, fun w' hw => Ret.mono (pplus 0 0 2147483648 4294967296 false (by omega) (by unfold I64; omega) (by unfold I64; omega) w') (by rw [show wplus 0 0 2147483648 4294967296 false = (0, 9223372036854775808) by decide +kernel]), ?_⟩
  refine ⟨0, 9223372036854775808, fun w' hw => Ret.mono (pplus 0 9223372036854775808 0 4294967296 false (by omega) (by unfold I64; omega) (by unfold I64; omega) w') (by rw [show wplus 0 9223372036854775808 0 4294967296 false = (0, 9223372036854775808) by decide +kernel]), ?_⟩
  refine ⟨0, 9223372036854775808, fun w' hw => Ret.mono (pplus 0 9223372036854775808 0 4294967296 false (by omega) (by unfold I64; omega) (by unfold I64; omega) w') (by rw [show wplus 0 9223372036854775808 0 4294967296 false = (0, 9223372036854775808) by decide +kernel]), ?_⟩
  refine ⟨0, 16140901064495857664, fun w' hw => Ret.mono (pplus 0 9223372036854775808 (-2147483648) 3221225472 true (by omega) (by unfold I64; omega) (by unfold I64; omega) w') (by rw [show wplus 0 9223372036854775808 (-2147483648) 3221225472 true = (0, 16140901064495857664) by decide +kernel]), ?_⟩
  refine ⟨0, 16140901064495857664, fun w' hw => Ret.mono (pplus 0 16140901064495857664 0 2147483648 true (by omega) (by unfold I64; omega) (by unfold I64; omega) w') (by rw [show wplus 0 16140901064495857664 0 2147483648 true = (0, 16140901064495857664) by decide +kernel]), ?_⟩
  refine ⟨3758096384, true, fun w' hw => Ret.mono (pdown 0 16140901064495857664 w') (by rw [show downV 0 16140901064495857664 = (3758096384, true) by decide +kernel]), ?_⟩
  refine iteI (fun _ => ?_) (fun h => absurd rfl h)
  refine ⟨1, 0, fun β w' hw hm => routhA hm.1 rfl, ?_⟩
  refine ⟨-1, 0, fun β w' hw hm => routhB hm.1 rfl, ?_⟩
  refine ⟨true, 0, fun β w' hw hm => Ret.mono (pSpans (l := six) (sl_heap hm.1.2 rfl rfl) 0 (by unfold I64; omega)) (by rw [show spansV six 0 = (true, 0) by decide +kernel]), ?_⟩
  refine iteI (fun _ => ?_) (fun h => absurd rfl h)
  refine iteI (fun _ => ?_) (fun h => absurd rfl h)
  refine iteI (fun _ => ?_) (fun h => absurd rfl h)
  refine iteI (fun _ => ?_) (fun h => absurd rfl h)
  refine iteI (fun _ => ?_) (fun h => absurd rfl h)
  refine iteI (fun _ => ?_) (fun h => absurd rfl h)
  exact iteI (fun _ => rfl) (fun h => absurd rfl h)
end Go.Proofs.Ytancpffnjhdfaaa
set_option linter.unusedVariables false
set_option maxRecDepth 4000
namespace Go.Proofs.Ytancpffnjhdfaaa
open Go Go.RowKit Go.ChangeShapes Go.WideShapes Go.ChangeAt Go.Joins Go.Deep Ul Vc
theorem wf64i {n : Int} (h : (Lit.int .i64 n).wf = true) : I64 n := by
  simp only [Lit.wf, Bool.and_eq_true, decide_eq_true_eq] at h
  exact h
section
variable {H : Type} {enc : TypeId × Value → H} {w : World} {base : Nat} {sp : Nat → Bool} {held : Bool}
end
end Go.Proofs.Ytancpffnjhdfaaa
set_option linter.unusedVariables false
set_option maxRecDepth 4000
namespace Go.Proofs.Ytancpffnjhdfaaa
open Go Go.RowKit Ul Vc
attribute [local irreducible] Go.Calls
theorem ck_zero {l : List V3} {f : Int} (h : ckV l f = 0) {g : Int} (h0 : 0 ≤ g) (h1 : g < 2 ^ l.length) : ckV l g = 0 := by
  obtain ⟨k1, k2, _, _⟩ := ck_ok h
  unfold ckV
  rw [if_neg (by omega), if_pos k2, if_pos ⟨h0, h1⟩]
end Go.Proofs.Ytancpffnjhdfaaa
set_option linter.unusedVariables false
set_option maxRecDepth 4000
namespace Go.Proofs.Ytancpffnjhdfaaa
open Go Go.RowKit Go.ChangeShapes Go.WideShapes Go.ChangeAt Go.Joins Go.Deep Ul Vc
theorem wf8 {n : Int} (h : (Lit.int .u8 n).wf = true) : 0 ≤ n ∧ n ≤ 255 := by
  simp only [Lit.wf, Bool.and_eq_true, decide_eq_true_eq] at h
  exact h
theorem okWide_arr {P : Program} {w : World} {r : Reach} {base n : Nat} {t e : TypeId} {v : Value} (ht : P.underlying t = some (.array n e)) (h : Value.okWide P w r base t v) : ∃ cs, v = .agg cs := by
  simp only [Value.okWide, ht] at h
  obtain ⟨cs, h1, _⟩ := h
  exact ⟨cs, h1⟩
theorem list_of {α : Type} {R : Nat → α → Prop} : ∀ (n : Nat), (∀ i, i < n → ∃ a, R i a) → ∃ l : List α, l.length = n ∧ ∀ i a, l[i]? = some a → R i a
  | 0, _ => ⟨[], rfl, fun i a h => by simp at h⟩
  | n + 1, h => by
    obtain ⟨l, h1, h2⟩ := list_of n fun i hi => h i (by omega)
    obtain ⟨a, ha⟩ := h n (by omega)
    refine ⟨l ++ [a], by simp [h1], fun i b hb => ?_⟩
    by_cases hi : i < l.length
    · rw [List.getElem?_append_left hi] at hb
      exact h2 i b hb
    · rw [List.getElem?_append_right (by omega)] at hb
      have : i - l.length = 0 := by
        have := (List.getElem?_eq_some_iff.1 hb).1
        simp at this; omega
      rw [this] at hb
      simp at hb
      subst hb
      have : i = n := by omega
      subst this
      exact ha
section
variable {H : Type} {enc : TypeId × Value → H} {P : Program} {w : World} {base : Nat} {sp : Nat → Bool} {held : Bool}
theorem sl_of {α : Type} {f : α → List Value} {G : α → Prop} {c : Nat} {t e : TypeId} (hsp : ∀ b, sp b = true) (ht : P.underlying t = some (.slice e)) (hc : P.cellsOf e = c) (c0 : 0 < c) (hf : ∀ a, (f a).length = c)
    (hE : ∀ fuel cs x, DataW.trod enc P w base sp held fuel e cs = some x → ∃ a, cs = f a ∧ G a) {v : Value} {fuel : Nat} {x : DataW H × List MemPlace} (hx : DataW.trod enc P w base sp held fuel t [v] = some x) :
    ∃ l : List α, SlAt w v c (l.flatMap f) ∧ ∀ a ∈ l, G a := by
  rcases DataW.trod_slice ht hx with ⟨h1, _⟩ | ⟨a, len, cap, elems, rest, n, _, h1, _, hb, hl, hm, hlen, hel, hspare, _⟩
  · simp only [List.cons.injEq, and_true] at h1
    exact ⟨[], .inl ⟨h1, rfl⟩, fun a ha => by cases ha⟩
  · simp only [List.cons.injEq, and_true] at h1
    subst h1
    obtain ⟨b, o, spot⟩ := a
    by_cases hcap : cap = 0
    · obtain rfl : len = 0 := by omega
      subst hcap
      exact ⟨[], .inr (.inl ⟨_, rfl, rfl⟩), fun a ha => by cases ha⟩
    have hs : spot = none := by
      have some_cell : ∀ k cs, k * c = k * c → w.cells? base ((⟨b, o, spot⟩ : Addr).add (k * c)) c = some cs → k = 0 → spot = none := fun k cs _ h hk => by
        subst hk
        have h2 := (World.cells?_some h).2
        have h3 := h2.2 0 c0
        rw [List.getElem?_eq_getElem (by omega)] at h3
        simpa [Addr.add] using World.cell?_spot h3
      by_cases hlen0 : len = 0
      · obtain ⟨hr1, hr2⟩ := hspare (hsp b)
        have h2 := hr2 0 (by omega)
        rw [List.getElem?_eq_getElem (by omega), hc, Option.bind_eq_some_iff] at h2
        obtain ⟨cs, h3, _⟩ := h2
        rw [hlen0] at h3
        exact some_cell 0 cs rfl (by simpa using h3) rfl
      · have h2 := hel 0 (by omega)
        rw [List.getElem?_eq_getElem (by omega), hc, Option.bind_eq_some_iff] at h2
        obtain ⟨cs, h3, _⟩ := h2
        exact some_cell 0 cs rfl h3 rfl
    subst hs
    have each : ∀ i, i < len → ∃ y : α, G y ∧ ∀ j, j < c → w.cell? ⟨b, o + (i * c + j), none⟩ = (f y)[j]? := fun i hi => by
      have h2 := hel i hi
      rw [List.getElem?_eq_getElem (by omega), hc, Option.bind_eq_some_iff] at h2
      obtain ⟨cs, h3, h4⟩ := h2
      obtain ⟨y, rfl, hg⟩ := hE _ _ _ h4
      refine ⟨y, hg, fun j hj => ?_⟩
      rw [← (World.cells?_some h3).2.2 j hj, addr_add, addr_add, Nat.add_assoc]
    obtain ⟨l, hl1, hl2⟩ := list_of len each
    refine ⟨l, .inr (.inr ⟨b, o, len, cap, rfl, by rw [flat_len hf, hl1], fun j u hj => ?_⟩), fun a ha => ?_⟩
    · have hjl : j < l.length * c := by
        have := (List.getElem?_eq_some_iff.1 hj).1
        rwa [flat_len hf] at this
      have hi : j / c < l.length := (Nat.div_lt_iff_lt_mul c0).2 hjl
      have hr : j % c < c := Nat.mod_lt _ c0
      have hjd : j = j / c * c + j % c := by rw [Nat.mul_comm]; exact (Nat.div_add_mod j c).symm
      have hp := List.getElem?_eq_getElem hi
      rw [hjd] at hj ⊢
      rw [flat_at hf hp hr] at hj
      rw [← hj]
      exact (hl2 _ _ hp).2 _ hr
    · obtain ⟨i, hi⟩ := List.getElem?_of_mem ha
      exact (hl2 i a hi).1
end
section
variable {H : Type} {enc : TypeId × Value → H} {w : World} {base : Nat} {sp : Nat → Bool} {held : Bool}
theorem tri_cells {fuel : Nat} {cs : List Value} {x : DataW H × List MemPlace} (h : DataW.trod enc Try.prog w base sp held fuel 23 cs = some x) : ∃ p : V3, cs = v3c p ∧ (I64 p.1 ∧ I64 p.2.1 ∧ I64 p.2.2) := by
  obtain ⟨xs, m, _, _, hl, hlen, hf⟩ := DataW.trod_array Try.underlying23 h
  have e1 : Try.prog.cellsOf 3 = 1 := by kernel_rfl
  have e2 : Try.prog.cellsOf 23 = 3 := by kernel_rfl
  rw [e2] at hl
  simp only [e1] at hf
  match cs, hl with
  | [c0, c1, c2], _ =>
    match xs, hlen with
    | [y0, y1, y2], _ =>
      have h0 := hf 0 (by omega)
      have h1 := hf 1 (by omega)
      have h2 := hf 2 (by omega)
      simp only [List.getElem?_cons_zero, List.getElem?_cons_succ] at h0 h1 h2
      obtain ⟨a, ha, _, wa⟩ := DataW.trod_int Try.underlying3 h0
      obtain ⟨b, hb, _, wb⟩ := DataW.trod_int Try.underlying3 h1
      obtain ⟨c, hc, _, wc⟩ := DataW.trod_int Try.underlying3 h2
      simp at ha hb hc
      exact ⟨(a, b, c), by rw [ha, hb, hc]; rfl, wf64i wa, wf64i wb, wf64i wc⟩
theorem open_tri {P : Program} (hP : P = Try.prog) {r : Reach} {b0 : Nat} {v : Value} {d : DataW H} {ps : List MemPlace} (hval : Value.okWide P w r b0 23 v) (hd : DataW.Trod enc P w base sp held 23 v d ps) :
    ∃ m : V3, v = VV m ∧ (I64 m.1 ∧ I64 m.2.1 ∧ I64 m.2.2) := by
  have hu : P.underlying 23 = some (.array 3 3) := by rw [hP]; exact Try.underlying23
  have hz : ∀ fuel cs x, DataW.trod enc P w base sp held fuel 23 cs = some x → ∃ p : V3, cs = v3c p ∧ (I64 p.1 ∧ I64 p.2.1 ∧ I64 p.2.2) := fun fuel cs x h => by rw [hP] at h; exact tri_cells h
  clear hP
  obtain ⟨cs, rfl⟩ := okWide_arr hu hval
  obtain ⟨fuel, hf⟩ := hd
  obtain ⟨p, h1, h2⟩ := hz _ _ _ hf
  refine ⟨p, ?_, h2⟩
  have : cs = #[.int .i64 p.1, .int .i64 p.2.1, .int .i64 p.2.2] := by
    apply Array.ext'
    exact h1
  rw [this]
theorem jet_cells {fuel : Nat} {cs : List Value} {x : DataW H × List MemPlace} (h : DataW.trod enc Try.prog w base sp held fuel 44 cs = some x) : ∃ p : V3, cs = v3c p ∧ (I64 p.1 ∧ I64 p.2.1 ∧ I64 p.2.2) := by
  obtain ⟨xs, n, _, _, hl, hlen, hf⟩ := DataW.trod_struct Try.underlying44 h
  have e2 : Try.prog.cellsOf 23 = 3 := by kernel_rfl
  have e3 : Try.prog.cellsOf 44 = 3 := by kernel_rfl
  rw [e3] at hl
  match xs, hlen with
  | [y0], _ =>
    match cs, hl with
    | [c0, c1, c2], _ =>
      have g0 := hf 0 _ rfl
      simp [e2] at g0
      exact tri_cells g0
theorem jets_sl {P : Program} (hsp : ∀ b, sp b = true) (hP : P = Try.prog) {fuel : Nat} {v : Value} {cs : List Value} {x : DataW H × List MemPlace} (h : DataW.trod enc P w base sp held fuel 22 cs = some x) (hcs : cs = [v]) : ∃ l : List V3, V3s w v l := by
  subst hcs
  have hu : P.underlying 22 = some (.slice 44) := by rw [hP]; kernel_rfl
  have hc : P.cellsOf 44 = 3 := by rw [hP]; kernel_rfl
  have hE : ∀ fuel cs x, DataW.trod enc P w base sp held fuel 44 cs = some x → ∃ a, cs = v3c a ∧ (I64 a.1 ∧ I64 a.2.1 ∧ I64 a.2.2) := fun fuel cs x h => by rw [hP] at h; exact jet_cells h
  clear hP
  obtain ⟨l, h1, _⟩ := sl_of hsp hu hc (by omega) v3c_len hE h
  exact ⟨l, h1⟩
theorem open_jets {P : Program} (hsp : ∀ b, sp b = true) (hP : P = Try.prog) {r : Reach} {b0 : Nat} {v : Value} {d : DataW H} {ps : List MemPlace} (hval : Value.okWide P w r b0 22 v) (hd : DataW.Trod enc P w base sp held 22 v d ps) :
    ∃ l : List V3, V3s w v l := by
  have hu : P.underlying 22 = some (.slice 44) := by rw [hP]; kernel_rfl
  obtain ⟨a', len', cap', rfl⟩ := okWide_slice hu hval
  obtain ⟨fuel, hf⟩ := hd
  exact jets_sl hsp hP hf rfl
end
end Go.Proofs.Ytancpffnjhdfaaa
set_option linter.unusedVariables false
set_option maxRecDepth 4000
namespace Go.Proofs.Ytancpffnjhdfaaa
open Go Go.RowKit Ul Vc
theorem ofInt_nat {n : Nat} (h : n < 9223372036854775808) : (BitVec.ofInt 64 (n : Int)).toNat = n := by
  rw [BitVec.toNat_ofInt]; omega
theorem bits_or {a b : Nat} (ha : a < 4611686018427387904) (hb : b < 4611686018427387904) : bits .or .i64 (a : Int) (b : Int) = ((a ||| b : Nat) : Int) := by
  have : a ||| b < 4611686018427387904 := Nat.or_lt_two_pow (n := 62) ha hb
  show IntKind.i64.wrap ((BitVec.ofInt 64 (a : Int) ||| BitVec.ofInt 64 (b : Int)).toNat : Int) = _
  rw [BitVec.toNat_or, ofInt_nat (by omega), ofInt_nat (by omega), i64_id (by omega)]
theorem bits_and {a b : Nat} (ha : a < 4611686018427387904) (hb : b < 4611686018427387904) : bits .and .i64 (a : Int) (b : Int) = ((a &&& b : Nat) : Int) := by
  have : a &&& b ≤ a := Nat.and_le_left
  show IntKind.i64.wrap ((BitVec.ofInt 64 (a : Int) &&& BitVec.ofInt 64 (b : Int)).toNat : Int) = _
  rw [BitVec.toNat_and, ofInt_nat (by omega), ofInt_nat (by omega), i64_id (by omega)]
theorem bits_not_lt {a b : Nat} (ha : a < 4611686018427387904) (hb : b < 4611686018427387904) : ∃ c : Nat, bits .andNot .i64 (a : Int) (b : Int) = (c : Int) ∧ c ≤ a ∧ ∀ i, c.testBit i = (a.testBit i && !b.testBit i) := by
  refine ⟨(BitVec.ofInt 64 (a : Int) &&& ~~~BitVec.ofInt 64 (b : Int)).toNat, ?_, ?_, ?_⟩
  · have h : (BitVec.ofInt 64 (a : Int) &&& ~~~BitVec.ofInt 64 (b : Int)).toNat ≤ a := by
      rw [BitVec.toNat_and, ofInt_nat (by omega)]; exact Nat.and_le_left
    show IntKind.i64.wrap ((BitVec.ofInt 64 (a : Int) &&& ~~~BitVec.ofInt 64 (b : Int)).toNat : Int) = _
    rw [i64_id (by omega)]
  · rw [BitVec.toNat_and, ofInt_nat (by omega)]; exact Nat.and_le_left
  · intro i
    rw [BitVec.toNat_and, Nat.testBit_and, ofInt_nat (by omega)]
    by_cases hi : i < 64
    · congr 1
      rw [← BitVec.getLsbD, BitVec.getLsbD_not, BitVec.getLsbD, ofInt_nat (by omega)]
      simp [hi]
    · have : a.testBit i = false := Nat.testBit_lt_two_pow (Nat.lt_of_lt_of_le ha (by
        have := Nat.pow_le_pow_right (n := 2) (by decide) (show 62 ≤ i by omega)
        omega))
      simp [this]
theorem fdiv_pow {a n : Nat} (h : n ≤ 64) : Int.fdiv (a : Int) (2 ^ (Nat.min n 64)) = ((a / 2 ^ n : Nat) : Int) := by
  rw [show Nat.min n 64 = n from Nat.min_eq_left h, Int.fdiv_eq_ediv_of_nonneg _ (Int.pow_nonneg (by decide)), Int.natCast_ediv, Int.natCast_pow]
  rfl
theorem bt_nat {a n : Nat} (ha : a < 4611686018427387904) (h : n ≤ 64) : bits .and .i64 (Int.fdiv (a : Int) (2 ^ (Nat.min n 64))) 1 = if a.testBit n then 1 else 0 := by
  have h1 : a / 2 ^ n ≤ a := Nat.div_le_self _ _
  rw [fdiv_pow h, show (1 : Int) = ((1 : Nat) : Int) from rfl, bits_and (by omega) (by omega), Nat.testBit_eq_decide_div_mod_eq, Nat.and_one_is_mod]
  have : a / 2 ^ n % 2 = 0 ∨ a / 2 ^ n % 2 = 1 := by omega
  rcases this with h2 | h2 <;> simp [h2]
def sub3 (a b : V3) : V3 := (a.1 - b.1, a.2.1 - b.2.1, a.2.2 - b.2.2)
theorem sub3_comm (r a b : V3) : sub3 (sub3 r a) b = sub3 (sub3 r b) a := by
  unfold sub3; ext <;> dsimp only <;> omega
/-- What Mix keeps. -/
structure Ms where
  least : Int
  few : Int
  on : Int
  left : V3
def leafM (mask many : Int) (r : V3) (s : Ms) : Ms :=
  if dot r r < s.least ∨ (dot r r = s.least ∧ (many < s.few ∨ (many = s.few ∧ mask < s.on))) then ⟨dot r r, many, mask, r⟩ else s
def tryM (l : List V3) (f : Int) : Nat → Int → Int → V3 → Ms → Ms
  | 0, mask, many, r, s => leafM mask many r s
  | n + 1, mask, many, r, s => if bt f n = 0 then tryM l f n (bits .or .i64 mask (2 ^ n)) (many + 1) (sub3 r (at3 l n)) (tryM l f n mask many r s) else tryM l f n mask many r s
/-- What jets that are on leave. -/
def overN (l : List V3) (m : Nat) : Nat → V3 → V3
  | 0, r => r
  | n + 1, r => if m.testBit n = true then sub3 (overN l m n r) (at3 l n) else overN l m n r
theorem overN_sub (l : List V3) (m : Nat) (v : V3) : ∀ (n : Nat) (r : V3), overN l m n (sub3 r v) = sub3 (overN l m n r) v
  | 0, r => rfl
  | n + 1, r => by
    unfold overN
    rw [overN_sub l m v n r]
    split
    · rw [sub3_comm]
    · rfl
theorem overN_congr {l : List V3} {c d : Nat} : ∀ {n : Nat} {r : V3}, (∀ i, i < n → c.testBit i = d.testBit i) → overN l c n r = overN l d n r
  | 0, r, h => rfl
  | n + 1, r, h => by
    unfold overN
    rw [overN_congr fun i hi => h i (by omega), h n (by omega)]
theorem overN_zero (l : List V3) : ∀ (n : Nat) (r : V3), overN l 0 n r = r
  | 0, r => rfl
  | n + 1, r => by unfold overN; rw [overN_zero l n r]; simp
theorem sub_bd {A B a b : Int} (ha : Bd A a) (hb : Bd B b) : Bd (A + B) (a - b) := by unfold Bd at *; omega
theorem sub3_bd {A B : Int} {a b : V3} (ha : V3B A a) (hb : V3B B b) : V3B (A + B) (sub3 a b) := ⟨sub_bd ha.1 hb.1, sub_bd ha.2.1 hb.2.1, sub_bd ha.2.2 hb.2.2⟩
theorem V3B.mono {A B : Int} {a : V3} (h : V3B A a) (hab : A ≤ B) : V3B B a := by unfold V3B Bd at *; omega
theorem overN_bd {l : List V3} (hl : ∀ v ∈ l, V3B 1048576 v) {m : Nat} {A : Int} (hA : 0 ≤ A) : ∀ {n : Nat} {r : V3}, n ≤ l.length → V3B A r → V3B (A + (n : Int) * 1048576) (overN l m n r)
  | 0, r, _, h => h.mono (by omega)
  | n + 1, r, hn, h => by
    unfold overN
    have ih := overN_bd hl hA (m := m) (n := n) (by omega) h
    split
    · exact (sub3_bd ih (hl _ (at3_mem (by omega)))).mono (by rw [Int.natCast_add]; omega)
    · exact ih.mono (by rw [Int.natCast_add]; omega)
theorem or_assoc' (a b c : Nat) : a ||| b ||| c = a ||| (c ||| b) := by rw [Nat.or_assoc, Nat.or_comm b c]
/-- What the search comes to. -/
theorem tryM_spec {l : List V3} {f : Int} : ∀ (n : Nat) (mask : Nat) (many : Int) (r : V3) (s : Ms), n ≤ 12 → mask < 4611686018427387904 →
    (tryM l f n mask many r s = s ∨ ∃ c : Nat, c < 2 ^ n ∧ (∀ i, i < n → c.testBit i = true → bt f i = 0) ∧ (tryM l f n mask many r s).on = ((mask ||| c : Nat) : Int) ∧ (tryM l f n mask many r s).left = overN l c n r ∧ (tryM l f n mask many r s).least = dot (overN l c n r) (overN l c n r)) ∧
    (tryM l f n mask many r s).least ≤ s.least ∧
    ∀ c : Nat, (∀ i, i < n → c.testBit i = true → bt f i = 0) → (tryM l f n mask many r s).least ≤ dot (overN l c n r) (overN l c n r)
  | 0, mask, many, r, s, _, _ => by
    unfold tryM leafM
    split
    · rename_i h
      refine ⟨.inr ⟨0, by decide, fun i hi => by omega, by simp, rfl, rfl⟩, by dsimp only; omega, fun c _ => Int.le_refl _⟩
    · rename_i h
      refine ⟨.inl rfl, Int.le_refl _, fun c _ => ?_⟩
      show s.least ≤ dot r r
      omega
  | n + 1, mask, many, r, s, hn, hm => by
    have p12 : (2 : Nat) ^ n ≤ 4096 := by
      have := Nat.pow_le_pow_right (n := 2) (by decide) (show n ≤ 12 by omega)
      simpa using this
    have e1 : ∀ c : Nat, c.testBit n = false → overN l c (n + 1) r = overN l c n r := fun c h => by
      rw [overN, if_neg (by rw [h]; decide)]
    have e2 : ∀ c : Nat, c.testBit n = true → overN l c (n + 1) r = overN l c n (sub3 r (at3 l n)) := fun c h => by
      rw [overN, if_pos h, overN_sub]
    have low : ∀ c : Nat, c < 2 ^ n → c.testBit n = false := fun c h => Nat.testBit_lt_two_pow h
    have h2 : (2 : Nat) ^ (n + 1) = 2 ^ n + 2 ^ n := by rw [Nat.pow_succ]; omega
    obtain ⟨i1, i2, i3⟩ := tryM_spec (l := l) (f := f) n mask many r s (by omega) hm
    by_cases hb : bt f n = 0
    · have et : tryM l f (n + 1) mask many r s = tryM l f n (bits .or .i64 mask (2 ^ n)) (many + 1) (sub3 r (at3 l n)) (tryM l f n mask many r s) := if_pos hb
      have em : bits .or .i64 (mask : Int) (2 ^ n) = ((mask ||| 2 ^ n : Nat) : Int) := by
        rw [← bits_or hm (by omega), Int.natCast_pow]; rfl
      rw [et, em]
      generalize tryM l f n mask many r s = s1 at *
      obtain ⟨j1, j2, j3⟩ := tryM_spec (l := l) (f := f) n (mask ||| 2 ^ n) (many + 1) (sub3 r (at3 l n)) s1 (by omega) (Nat.or_lt_two_pow (n := 62) hm (by omega))
      generalize tryM l f n ((mask ||| 2 ^ n : Nat) : Int) (many + 1) (sub3 r (at3 l n)) s1 = s2 at *
      refine ⟨?_, by omega, fun c hc => ?_⟩
      · rcases j1 with rfl | ⟨c, k1, k2, k3, k4, k5⟩
        · rcases i1 with rfl | ⟨c, k1, k2, k3, k4, k5⟩
          · exact .inl rfl
          · refine .inr ⟨c, by omega, fun i hi hc => ?_, k3, by rw [e1 c (low c k1)]; exact k4, by rw [e1 c (low c k1)]; exact k5⟩
            by_cases h : i = n
            · subst h; exact hb
            · exact k2 i (by omega) hc
        · have ht : (c ||| 2 ^ n).testBit n = true := by rw [Nat.testBit_or]; simp
          have hlow : ∀ i, i < n → (c ||| 2 ^ n).testBit i = c.testBit i := fun i hi => by
            rw [Nat.testBit_or, Nat.testBit_two_pow]
            have : ¬ n = i := by omega
            simp [this]
          refine .inr ⟨c ||| 2 ^ n, Nat.or_lt_two_pow (by omega) (by omega), fun i hi hc => ?_, by rw [k3, or_assoc'], ?_, ?_⟩
          · by_cases h : i = n
            · subst h; exact hb
            · exact k2 i (by omega) (by rw [← hlow i (by omega)]; exact hc)
          · rw [e2 _ ht, overN_congr hlow]; exact k4
          · rw [e2 _ ht, overN_congr hlow]; exact k5
      · cases ht : c.testBit n with
        | true => rw [e2 c ht]; exact j3 c fun i hi => hc i (by omega)
        | false =>
          rw [e1 c ht]
          have := i3 c fun i hi => hc i (by omega)
          omega
    · have et : tryM l f (n + 1) mask many r s = tryM l f n mask many r s := if_neg hb
      rw [et]
      refine ⟨?_, i2, fun c hc => ?_⟩
      · rcases i1 with h | ⟨c, k1, k2, k3, k4, k5⟩
        · exact .inl h
        · refine .inr ⟨c, by omega, fun i hi hc => ?_, k3, by rw [e1 c (low c k1)]; exact k4, by rw [e1 c (low c k1)]; exact k5⟩
          by_cases h : i = n
          · subst h; rw [low c k1] at hc; cases hc
          · exact k2 i (by omega) hc
      · have ht : c.testBit n = false := by
          cases h : c.testBit n with
          | false => rfl
          | true => exact absurd (hc n (by omega) h) hb
        rw [e1 c ht]
        exact i3 c fun i hi => hc i (by omega)
def mixS (l : List V3) (f : Int) (want : V3) : Ms := tryM l f l.length 0 0 want ⟨dot want want, 0, 0, want⟩
/-- What Mix returns: the jets that are on, what is left, an error. -/
def mixV (l : List V3) (f : Int) (want : V3) : Int × V3 × Int :=
  if ckV l f = 0 then (if V3B 16777216 want then ((mixS l f want).on, (mixS l f want).left, 0) else (0, (0, 0, 0), 2)) else (0, (0, 0, 0), ckV l f)
theorem mixS_spec {l : List V3} {f : Int} (want : V3) (hl : l.length ≤ 12) : ∃ c : Nat, c < 2 ^ l.length ∧ (∀ i, i < l.length → c.testBit i = true → bt f i = 0) ∧ (mixS l f want).on = (c : Int) ∧ (mixS l f want).left = overN l c l.length want ∧
    ∀ d : Nat, (∀ i, i < l.length → d.testBit i = true → bt f i = 0) → dot (overN l c l.length want) (overN l c l.length want) ≤ dot (overN l d l.length want) (overN l d l.length want) := by
  obtain ⟨h1, h2, h3⟩ := tryM_spec (l := l) (f := f) l.length 0 0 want ⟨dot want want, 0, 0, want⟩ hl (by decide)
  rcases h1 with h1 | ⟨c, k1, k2, k3, k4, k5⟩
  · refine ⟨0, Nat.two_pow_pos _, fun i _ h => by simp at h, ?_, ?_, fun d hd => ?_⟩
    · unfold mixS; rw [show ((0 : Nat) : Int) = 0 from rfl] at h1; rw [h1]; rfl
    · unfold mixS; rw [show ((0 : Nat) : Int) = 0 from rfl] at h1; rw [h1, overN_zero]
    · have := h3 d hd
      rw [h1] at this
      rw [overN_zero]
      exact this
  · refine ⟨c, k1, k2, by unfold mixS; simpa using k3, k4, fun d hd => ?_⟩
    rw [← k5]
    exact h3 d hd
end Go.Proofs.Ytancpffnjhdfaaa
set_option linter.unusedVariables false
set_option maxRecDepth 4000
namespace Go.Proofs.Ytancpffnjhdfaaa
open Go Go.RowKit Ul Vc
attribute [local irreducible] Go.Calls
theorem hideL_mk {W : World} {a : Addr} {v : Value} : ∀ {xs : List Nat}, a.block ∉ xs → W.cell? a = some v → (hideL xs W).cell? a = some v
  | [], _, h => h
  | x :: l, hn, h => by
    simp only [List.mem_cons, not_or] at hn
    have ih := hideL_mk hn.2 h
    show (hideB x (hideL l W)).cell? a = some v
    rw [← ih]
    unfold World.cell? hideB
    rw [Array.getElem?_setIfInBounds_ne (by omega)]
theorem slAt_move {W W' : World} {v : Value} {sz : Nat} {xs : List Value} (h : SlAt W v sz xs) (hm : ∀ a u, W.cell? a = some u → W'.cell? a = some u) : SlAt W' v sz xs := by
  rcases h with h | h | ⟨b, o, len, cap, h1, h2, h3⟩
  · exact .inl h
  · exact .inr (.inl h)
  · exact .inr (.inr ⟨b, o, len, cap, h1, h2, fun j u hj => hm _ _ (h3 j u hj)⟩)
/-- A slice that lies outside of what is lent, seen by a callee. -/
theorem slAt_lent {xs ys : List Nat} {w w' : World} {v : Value} {sz : Nat} {cs : List Value} (hw : BelL xs w w') (hy : ∀ y ∈ ys, y ∈ xs ∨ w.heap.size ≤ y) (h : SlAt (hideL xs w) v sz cs) : SlAt (hideL ys w') v sz cs := by
  refine slAt_move h fun a u ha => ?_
  obtain ⟨h1, h2⟩ := hideL_cell ha
  have hb := World.block_lt_of_cell? _ _ h2
  refine hideL_mk (fun hm => ?_) ?_
  · rcases hy _ hm with h3 | h3
    · exact h1 h3
    · omega
  · rw [← h2]; unfold World.cell?; rw [hw.block _ hb h1]
theorem effL_zip {w' : World} : ∀ {xs : List Nat} {bs : List (Array Value × TypeId)}, LentH xs bs w' → ∀ x ∈ xs.zip bs, w'.heap[x.1]? = some (.cells x.2.1 x.2.2)
  | [], _, _, x, h => by cases h
  | a :: xs, [], _, x, h => by cases h
  | a :: xs, b :: bs, h, x, hx => by
    rcases List.mem_cons.1 hx with rfl | hx
    · exact h.1
    · exact effL_zip h.2 x hx
abbrev tryF (a b c d e f g : Nat) : Value := .func (.func 14) #[] #[Vc.ptr a 0, Vc.ptr b 0, Vc.ptr c 0, Vc.ptr d 0, Vc.ptr e 0, Vc.ptr f 0, Vc.ptr g 0]
abbrev msC (s : Ms) (cl : Value) (f : Int) (sv : Value) : List (Array Value) := [#[.int .i64 s.least], #[.int .i64 s.few], #[.int .i64 s.on], #[.int .i64 s.left.1, .int .i64 s.left.2.1, .int .i64 s.left.2.2], #[cl], #[.int .i64 f], #[sv]]
abbrev msT : List TypeId := [3, 3, 3, 48, 50, 3, 22]
theorem try_any {l : List V3} {f : Int} (hl12 : l.length ≤ 12) (hlb : ∀ v ∈ l, V3B 1048576 v) : ∀ (n : Nat), n ≤ l.length → ∀ {w : World} {sv : Value} {x0 x1 x2 x3 x4 x5 x6 : Nat} (s : Ms) (mask many : Int) (r : V3), [x0, x1, x2, x3, x4, x5, x6].Nodup →
    LentH [x0, x1, x2, x3, x4, x5, x6] ((msC s (tryF x0 x1 x2 x3 x4 x5 x6) f sv).zip msT) w → V3s (hideL [x0, x1, x2, x3, x4, x5, x6] w) sv l → 0 ≤ many → many + (n : Int) ≤ 12 → V3B (16777216 + (12 - (n : Int)) * 1048576) r →
    Calls Try.prog 14 #[.int .i64 ((n : Int) - 1), .int .i64 mask, .int .i64 many, VV r, Vc.ptr x0 0, Vc.ptr x1 0, Vc.ptr x2 0, Vc.ptr x3 0, Vc.ptr x4 0, Vc.ptr x5 0, Vc.ptr x6 0] w
      (Vc.EffL (.tuple #[]) [(x0, #[.int .i64 (tryM l f n mask many r s).least], 3), (x1, #[.int .i64 (tryM l f n mask many r s).few], 3), (x2, #[.int .i64 (tryM l f n mask many r s).on], 3), (x3, #[.int .i64 (tryM l f n mask many r s).left.1, .int .i64 (tryM l f n mask many r s).left.2.1, .int .i64 (tryM l f n mask many r s).left.2.2], 48), (x4, #[tryF x0 x1 x2 x3 x4 x5 x6], 50), (x5, #[.int .i64 f], 3), (x6, #[sv], 22)] w) := by
  intro n
  induction n with
  | zero =>
    intro hn w sv x0 x1 x2 x3 x4 x5 x6 s mask many r hnd hx hv hm0 hm1 hr
    obtain ⟨b0, p0, cap, e1, e2, hc⟩ := v3_form hv
    subst e1
    obtain ⟨s', hs'⟩ : ∃ s', s' = tryM l f 0 mask many r s := ⟨_, rfl⟩
    rw [← hs']
    unfold tryM leafM at hs'
    refine Calls.mono (vc_steer_Mix_1 p0 s.least s.few s.on s.left.1 s.left.2.1 s.left.2.2 f (l.length : Int) cap _ mask many r.1 r.2.1 r.2.2 b0 x0 x1 x2 x3 x4 x5 x6 w (.tuple #[]) (msC s' (tryF x0 x1 x2 x3 x4 x5 x6) f (if b0 = true then .slice none 0 0 else .slice (some (Vc.qad p0 (Int.toNat (l.length : Int)) (Int.toNat cap))) (Int.toNat (l.length : Int)) (Int.toNat cap))) hnd hx ?_) fun e w' he => ?_
    · refine iteI (fun _ => ?_) (fun h => absurd (show ((0 : Nat) : Int) - 1 < 0 by decide) h)
      refine ⟨_, fun w' hw => pdot hr hr (by decide) w', ?_⟩
      refine iteI (fun h1 => ?_) (fun h1 => ?_)
      · rw [if_pos (.inl h1)] at hs'; subst hs'; rfl
      · refine iteI (fun h2 => ?_) (fun h2 => ?_)
        · refine iteI (fun h3 => ?_) (fun h3 => ?_)
          · rw [if_pos (.inr ⟨h2, .inl h3⟩)] at hs'; subst hs'; rfl
          · refine iteI (fun h4 => ?_) (fun h4 => ?_)
            · refine iteI (fun h5 => ?_) (fun h5 => ?_)
              · rw [if_pos (.inr ⟨h2, .inr ⟨h4, h5⟩⟩)] at hs'; subst hs'; rfl
              · rw [if_neg (by omega)] at hs'; subst hs'; rfl
            · rw [if_neg (by omega)] at hs'; subst hs'; rfl
        · rw [if_neg (by omega)] at hs'; subst hs'; rfl
    · exact ⟨he.1, he.2.1, effL_zip he.2.2⟩
  | succ n ih =>
    intro hn w sv x0 x1 x2 x3 x4 x5 x6 s mask many r hnd hx hv hm0 hm1 hr
    obtain ⟨b0, p0, cap, e1, e2, hc⟩ := v3_form hv
    subst e1
    have hr' : V3B (16777216 + (12 - (n : Int)) * 1048576) r := hr.mono (by rw [Int.natCast_add]; omega)
    rw [Int.natCast_add] at hm1
    obtain ⟨s', hs'⟩ : ∃ s', s' = tryM l f (n + 1) mask many r s := ⟨_, rfl⟩
    rw [← hs']
    unfold tryM at hs'
    refine Calls.mono (vc_steer_Mix_1 p0 s.least s.few s.on s.left.1 s.left.2.1 s.left.2.2 f (l.length : Int) cap _ mask many r.1 r.2.1 r.2.2 b0 x0 x1 x2 x3 x4 x5 x6 w (.tuple #[]) (msC s' (tryF x0 x1 x2 x3 x4 x5 x6) f (if b0 = true then .slice none 0 0 else .slice (some (Vc.qad p0 (Int.toNat (l.length : Int)) (Int.toNat cap))) (Int.toNat (l.length : Int)) (Int.toNat cap))) hnd hx ?_) fun e w' he => ?_
    · have en : ((n + 1 : Nat) : Int) - 1 = (n : Int) := by omega
      rw [en]
      refine iteI (fun h => absurd h (by omega)) (fun _ => ?_)
      intro x hx'; rw [Vc.i64_id (by omega)] at hx'; subst x
      obtain ⟨s1, hs1⟩ : ∃ s1, s1 = tryM l f n mask many r s := ⟨_, rfl⟩
      refine ⟨s1.least, s1.few, s1.on, s1.left.1, s1.left.2.1, s1.left.2.2, fun β w' hw hm hd => ?_, ?_⟩
      · have := ih (by omega) (w := w') s mask many r hd ⟨hm.1.2, hm.2.1.2, hm.2.2.1.2, hm.2.2.2.1.2, hm.2.2.2.2.1.2, hm.2.2.2.2.2.1.2, hm.2.2.2.2.2.2.1.2, trivial⟩
          (slAt_lent hw (fun y hy => by
            simp only [List.mem_cons, List.not_mem_nil, or_false] at hy
            rcases hy with rfl | rfl | rfl | rfl | rfl | rfl | rfl
            · exact hm.1.1
            · exact hm.2.1.1
            · exact hm.2.2.1.1
            · exact hm.2.2.2.1.1
            · exact hm.2.2.2.2.1.1
            · exact hm.2.2.2.2.2.1.1
            · exact hm.2.2.2.2.2.2.1.1) hv) hm0 (by omega) hr'
        rw [← hs1] at this
        exact this
      · refine ⟨by omega, ?_⟩
        intro x6' hx6 x7' hx7
        have hbt : x7' = bt f n := by rw [hx7, hx6, Int.toNat_natCast]; rfl
        clear hx6 hx7
        subst x7'
        rw [← hs1] at hs'
        refine iteI (fun hb => ?_) (fun hb => ?_)
        · rw [if_pos hb] at hs'
          intro x hx'; rw [Vc.i64_id (by omega)] at hx'; subst x
          refine ⟨by omega, ?_⟩
          have hp := pow_le12 (n := n) (by omega)
          have hp2 := pow_pos2 n
          intro x hx'; rw [Int.toNat_natCast, show Nat.min n 64 = n from Nat.min_eq_left (by omega), Int.one_mul, Vc.i64_id (by omega)] at hx'; subst x
          intro xm hxm
          subst xm
          intro x hx'; rw [Vc.i64_id (by omega)] at hx'; subst x
          have hq := List.getElem?_eq_getElem (show n < l.length by omega)
          have hmem : l[n] ∈ l := List.getElem_mem (by omega)
          have hat := at3_eq hq
          generalize l[n] = p at hq hmem hat
          obtain ⟨c0, c1, c2⟩ := hc n p hq
          have hpb := hlb p hmem
          refine ⟨fun hb => by have := e2 hb; omega, by omega, by omega, _, by rw [Int.toNat_natCast]; exact c0, _, by rw [Int.toNat_natCast]; exact c1, _, by rw [Int.toNat_natCast]; exact c2, ?_⟩
          refine ⟨(sub3 r p).1, (sub3 r p).2.1, (sub3 r p).2.2, fun w' hw => ?_, ?_⟩
          · refine vc__steer_vector__minus _ _ _ _ _ _ w' _ ?_
            unfold V3B Bd at hr' hpb
            intro x hx'; rw [Vc.i64_id (by omega)] at hx'; subst x
            intro x hx'; rw [Vc.i64_id (by omega)] at hx'; subst x
            intro x hx'; rw [Vc.i64_id (by omega)] at hx'; subst x
            rfl
          · rw [hat] at hs'
            refine ⟨s'.least, s'.few, s'.on, s'.left.1, s'.left.2.1, s'.left.2.2, fun β w' hw hm hd => ?_, rfl⟩
            have := ih (by omega) (w := w') s1 (bits .or .i64 mask (2 ^ n)) (many + 1) (sub3 r p) hd ⟨hm.1.2, hm.2.1.2, hm.2.2.1.2, hm.2.2.2.1.2, hm.2.2.2.2.1.2, hm.2.2.2.2.2.1.2, hm.2.2.2.2.2.2.1.2, trivial⟩
              (slAt_lent hw (fun y hy => by
                simp only [List.mem_cons, List.not_mem_nil, or_false] at hy
                rcases hy with rfl | rfl | rfl | rfl | rfl | rfl | rfl
                · exact hm.1.1
                · exact hm.2.1.1
                · exact hm.2.2.1.1
                · exact hm.2.2.2.1.1
                · exact hm.2.2.2.2.1.1
                · exact hm.2.2.2.2.2.1.1
                · exact hm.2.2.2.2.2.2.1.1) hv) (by omega) (by omega) ((sub3_bd hr hpb).mono (by rw [Int.natCast_add]; omega))
            rw [← hs'] at this
            exact this
        · rw [if_neg hb] at hs'
          subst hs'
          rfl
    · exact ⟨he.1, he.2.1, effL_zip he.2.2⟩
end Go.Proofs.Ytancpffnjhdfaaa
set_option linter.unusedVariables false
set_option maxRecDepth 4000
namespace Go.Proofs.Ytancpffnjhdfaaa
open Go Go.RowKit Ul Vc
attribute [local irreducible] Go.Calls
/-- A slice of another's, seen by a callee to which blocks of the call's own are lent. -/
theorem slAt_own {ys : List Nat} {w w' : World} {v : Value} {sz : Nat} {cs : List Value} (hw : Below w.heap.size w w') (hy : ∀ y ∈ ys, w.heap.size ≤ y) (h : SlAt w v sz cs) : SlAt (hideL ys w') v sz cs := by
  refine slAt_move h fun a u ha => ?_
  have hb := World.block_lt_of_cell? _ _ ha
  refine hideL_mk (fun hm => ?_) ?_
  · have := hy _ hm
    omega
  · rw [← ha]; unfold World.cell?; rw [hw.block _ hb]
theorem pMix {w : World} {sv : Value} {l : List V3} (h : V3s w sv l) (f : Int) (hf : I64 f) (want : V3) : Calls Try.prog 5 #[sv, .int .i64 f, VV want] w (Vc.Ret (.tuple #[.int .i64 (mixV l f want).1, VV (mixV l f want).2.1, .int .i64 (mixV l f want).2.2]) w) := by
  have h0 := h
  obtain ⟨b0, p0, x1, rfl, hb, hc⟩ := v3_form h
  refine vc_steer_Mix p0 (l.length : Int) x1 f want.1 want.2.1 want.2.2 b0 w _ ?_
  refine ⟨_, fun w' hw => pcheck (sl_below hw h0) f hf, ?_⟩
  refine iteI (fun hck => ?_) (fun hck => ?_)
  rotate_left
  · have e : mixV l f want = (0, (0, 0, 0), ckV l f) := if_neg hck
    rw [e]
  have no : ∀ (hn : ¬ V3B 16777216 want), (.tuple #[.int .i64 0, .agg #[.int .i64 0, .int .i64 0, .int .i64 0], .int .i64 2] : Value) = .tuple #[.int .i64 (mixV l f want).1, VV (mixV l f want).2.1, .int .i64 (mixV l f want).2.2] := fun hn => by
    have e : mixV l f want = (0, (0, 0, 0), 2) := by unfold mixV; rw [if_pos hck, if_neg hn]
    rw [e]
  refine iteI (fun g => no fun hv => by unfold V3B Bd at hv; omega) (fun g1 => ?_)
  refine iteI (fun g => no fun hv => by unfold V3B Bd at hv; omega) (fun g2 => ?_)
  refine iteI (fun g => no fun hv => by unfold V3B Bd at hv; omega) (fun g3 => ?_)
  refine iteI (fun g => no fun hv => by unfold V3B Bd at hv; omega) (fun g4 => ?_)
  refine iteI (fun g => no fun hv => by unfold V3B Bd at hv; omega) (fun g5 => ?_)
  refine iteI (fun g => no fun hv => by unfold V3B Bd at hv; omega) (fun g6 => ?_)
  have hwb : V3B 16777216 want := by unfold V3B Bd; omega
  obtain ⟨k1, k2, k3, k4⟩ := ck_ok hck
  have e : mixV l f want = ((mixS l f want).on, (mixS l f want).left, 0) := by unfold mixV; rw [if_pos hck, if_pos hwb]
  rw [e]
  refine ⟨_, fun w' hw => pdot hwb hwb (by decide) w', by omega, sps_nb hb, ?_⟩
  intro x hx; rw [Vc.i64_id (by omega)] at hx; subst x
  refine ⟨(mixS l f want).least, (mixS l f want).few, (mixS l f want).on, (mixS l f want).left.1, (mixS l f want).left.2.1, (mixS l f want).left.2.2, fun β w' hw hm hd => ?_, rfl⟩
  exact try_any k1 k2 l.length (Nat.le_refl _) (w := w') ⟨dot want want, 0, 0, want⟩ 0 0 want hd ⟨hm.1.2, hm.2.1.2, hm.2.2.1.2, hm.2.2.2.1.2, hm.2.2.2.2.1.2, hm.2.2.2.2.2.1.2, hm.2.2.2.2.2.2.1.2, trivial⟩
    (slAt_own hw (fun y hy => by
      simp only [List.mem_cons, List.not_mem_nil, or_false] at hy
      rcases hy with rfl | rfl | rfl | rfl | rfl | rfl | rfl
      · exact hm.1.1
      · exact hm.2.1.1
      · exact hm.2.2.1.1
      · exact hm.2.2.2.1.1
      · exact hm.2.2.2.2.1.1
      · exact hm.2.2.2.2.2.1.1
      · exact hm.2.2.2.2.2.2.1.1) h0) (by decide) (by omega) (hwb.mono (by omega))
theorem pover {w : World} {sv : Value} {l : List V3} (h : V3s w sv l) (hl : l.length ≤ 12) (hlb : ∀ v ∈ l, V3B 1048576 v) (m : Nat) (hm : m < 4611686018427387904) (want : V3) (hwb : V3B 16777216 want) :
    Calls Try.prog 6 #[sv, .int .i64 (m : Int), VV want] w (Vc.Ret (VV (overN l m l.length want)) w) := by
  obtain ⟨b0, p0, x1, rfl, hb, hc⟩ := v3_form h
  refine vc_ullagelaw05_over p0 (l.length : Int) x1 (m : Int) want.1 want.2.1 want.2.2 b0 w _ ?_
  refine ⟨by omega, sps_nb hb, ?_⟩
  refine ⟨fun y => ∃ i : Nat, i ≤ l.length ∧ y = [.i (i : Int), .i (overN l m i want).1, .i (overN l m i want).2.1, .i (overN l m i want).2.2], upK 0 (l.length : Int), ⟨0, by omega, rfl⟩, ?_⟩
  rintro x6 x7 x8 x9 ⟨i, hi, hy⟩
  simp only [List.cons.injEq, Vc.Vl.i.injEq, and_true] at hy
  obtain ⟨rfl, rfl, rfl, rfl⟩ := hy
  refine iteI (fun hlt => ?_) (fun hge => ?_)
  · have hq := List.getElem?_eq_getElem (show i < l.length by omega)
    have hmem : l[i] ∈ l := List.getElem_mem (by omega)
    generalize l[i] = p at hq hmem
    obtain ⟨c0, c1, c2⟩ := hc i p hq
    have ep := at3_eq hq
    have hp := hlb p hmem
    have nb0 := sps_nb0 hb (show 0 < l.length by omega)
    have bd := (overN_bd hlb (m := m) (by decide) (n := i) (by omega) hwb).mono (show 16777216 + (i : Int) * 1048576 ≤ 33554432 by omega)
    intro x hx; rw [Vc.u64_id (by omega)] at hx; subst x
    refine ⟨by omega, ?_⟩
    intro xa ha xb hbb
    have hbt : xb = if m.testBit i then 1 else 0 := by rw [hbb, ha, Int.toNat_natCast, bt_nat hm (by omega)]
    clear ha hbb
    refine iteI (fun h1 => ?_) (fun h1 => ?_)
    · have ht : m.testBit i = true := by
        cases hh : m.testBit i with
        | true => rfl
        | false => rw [hbt, hh] at h1; simp at h1
      have en : overN l m (i + 1) want = sub3 (overN l m i want) p := by rw [overN, if_pos ht, ep]
      unfold V3B Bd at bd hp
      refine ⟨nb0, by omega, hlt, _, by rw [Int.toNat_natCast]; exact c0, ?_⟩
      intro x hx; rw [Vc.i64_id (by omega)] at hx; subst x
      refine ⟨nb0, by omega, hlt, _, by rw [Int.toNat_natCast]; exact c1, ?_⟩
      intro x hx; rw [Vc.i64_id (by omega)] at hx; subst x
      refine ⟨nb0, by omega, hlt, _, by rw [Int.toNat_natCast]; exact c2, ?_⟩
      intro x hx; rw [Vc.i64_id (by omega)] at hx; subst x
      intro x hx; rw [Vc.i64_id (by omega)] at hx; subst x
      refine ⟨⟨i + 1, by omega, ?_⟩, by simp only [upK, List.getElem?_cons_zero]; omega⟩
      rw [en]
      simp [sub3]
    · have ht : m.testBit i = false := by
        cases hh : m.testBit i with
        | true => rw [hbt, hh] at h1; simp at h1
        | false => rfl
      have en : overN l m (i + 1) want = overN l m i want := by rw [overN, if_neg (by rw [ht]; decide)]
      intro x hx; rw [Vc.i64_id (by omega)] at hx; subst x
      refine ⟨⟨i + 1, by omega, ?_⟩, by simp only [upK, List.getElem?_cons_zero]; omega⟩
      rw [en]
      simp
  · obtain rfl : i = l.length := by omega
    rfl
theorem psq3 {a : V3} (ha : V3B 33554432 a) (w : World) : Calls Try.prog 7 #[VV a] w (Vc.Ret (.int .i64 (dot a a)) w) := by
  refine vc_ullagelaw05_square _ _ _ w _ ?_
  have m1 := mul_bd ha.1 ha.1
  have m2 := mul_bd ha.2.1 ha.2.1
  have m3 := mul_bd ha.2.2 ha.2.2
  unfold Bd at m1 m2 m3
  intro x hx; rw [Vc.i64_id (by omega)] at hx; subst x
  intro x hx; rw [Vc.i64_id (by omega)] at hx; subst x
  intro x hx; rw [Vc.i64_id (by omega)] at hx; subst x
  intro x hx; rw [Vc.i64_id (by omega)] at hx; subst x
  intro x hx; rw [Vc.i64_id (by omega)] at hx; subst x
  rfl
theorem bt_of {f i : Nat} (hf : f < 4611686018427387904) (hi : i ≤ 64) : bt (f : Int) i = 0 ↔ f.testBit i = false := by
  unfold bt
  rw [bt_nat hf hi]
  cases f.testBit i <;> simp
theorem and_zero {c f n : Nat} (hc : c < 2 ^ n) (h : ∀ i, i < n → c.testBit i = true → f.testBit i = false) : c &&& f = 0 := by
  apply Nat.eq_of_testBit_eq
  intro i
  rw [Nat.testBit_and, Nat.zero_testBit]
  by_cases hi : i < n
  · cases hci : c.testBit i with
    | false => rfl
    | true => rw [h i hi hci]; rfl
  · have : c.testBit i = false := Nat.testBit_lt_two_pow (Nat.lt_of_lt_of_le hc (Nat.pow_le_pow_right (by decide) (by omega)))
    rw [this]; rfl
theorem walk_steerLeast0 {w : World} {v : Value} {l : List V3} (h : V3s w v l) (f : Int) (hf : I64 f) (want : V3) (other gone : Int) (ho : 0 ≤ other ∧ other ≤ 255) (hg : 0 ≤ gone ∧ gone ≤ 255) :
    Calls Try.prog 3 #[v, .int .i64 f, VV want, .int .u8 other, .int .u8 gone] w (Vc.Ret (.bool true) w) := by
  have h0 := h
  obtain ⟨b0, p0, x1, rfl, hb, hc⟩ := v3_form h
  have nb := sps_nb hb
  refine vc_ullagelaw05_SteerLeast p0 (l.length : Int) x1 f want.1 want.2.1 want.2.2 other gone b0 w _ ?_
  refine ⟨true, fun w' hw => alive_any w', by omega, nb, ?_⟩
  refine iteI (fun _ => rfl) (fun h8 => iteI (fun _ => ?_) (fun h => absurd rfl h))
  refine ⟨_, _, _, _, _, fun w' hw => pMix (sl_below hw h0) f hf want, ?_⟩
  by_cases hck : ckV l f = 0
  rotate_left
  · have e : mixV l f want = (0, (0, 0, 0), ckV l f) := if_neg hck
    rw [e]
    refine iteI (fun h => absurd h hck) (fun _ => iteI (fun _ => iteI (fun _ => rfl) (fun h => absurd rfl h)) (fun h => absurd rfl h))
  by_cases hwb : V3B 16777216 want
  rotate_left
  · have e : mixV l f want = (0, (0, 0, 0), 2) := by unfold mixV; rw [if_pos hck, if_neg hwb]
    rw [e]
    refine iteI (fun h => absurd h (by decide)) (fun _ => iteI (fun _ => iteI (fun _ => rfl) (fun h => absurd rfl h)) (fun h => absurd rfl h))
  obtain ⟨k1, k2, k3, k4⟩ := ck_ok hck
  have mixE : ∀ g : Int, ckV l g = 0 → mixV l g want = ((mixS l g want).on, (mixS l g want).left, 0) := fun g hg => by unfold mixV; rw [if_pos hg, if_pos hwb]
  rw [mixE f hck]
  obtain ⟨c, c1, c2, c3, c4, c5⟩ := mixS_spec (l := l) (f := f) want k1
  rw [c3, c4]
  obtain ⟨fn, rfl⟩ := Int.eq_ofNat_of_zero_le k3
  have p8 : (2 : Nat) ^ l.length ≤ 256 := by
    have := Nat.pow_le_pow_right (n := 2) (by decide) (show l.length ≤ 8 by omega)
    simpa using this
  have hfn : fn < 2 ^ l.length := by
    have : ((2 ^ l.length : Nat) : Int) = 2 ^ l.length := by rw [Int.natCast_pow]; rfl
    omega
  have ob : ∀ d : Nat, V3B 33554432 (overN l d l.length want) := fun d => (overN_bd k2 (m := d) (by decide) (Nat.le_refl _) hwb).mono (by omega)
  have lb : ((l.length : Nat) : Int) < 9 := by omega
  refine iteI (fun _ => ?_) (fun h => absurd rfl h)
  refine iteI (fun h => absurd h (by omega)) (fun _ => ?_)
  intro xa ha
  rw [bits_and (by omega) (by omega), and_zero c1 (fun i hi hci => (bt_of (by omega) (by omega)).1 (c2 i hi hci))] at ha
  subst xa
  refine iteI (fun _ => ?_) (fun h => absurd rfl h)
  refine ⟨by omega, nb, ?_⟩
  intro x hx; rw [Vc.u64_id (by omega)] at hx; subst x
  refine ⟨by omega, ?_⟩
  intro xb hxb
  rw [Int.toNat_natCast, fdiv_pow (by omega), Nat.div_eq_of_lt c1] at hxb
  subst xb
  refine iteI (fun _ => ?_) (fun h => absurd rfl h)
  refine ⟨_, _, _, fun w' hw => pover (sl_below hw h0) k1 k2 c (by omega) want hwb, ?_⟩
  refine iteI (fun _ => ?_) (fun h => absurd ⟨rfl, rfl, rfl⟩ h)
  intro x hx; rw [Vc.i64_id (by omega)] at hx; subst x
  refine ⟨by omega, nb, ?_⟩
  intro x hx; rw [Vc.u64_id (by omega)] at hx; subst x
  refine ⟨by omega, ?_⟩
  have pw : ∀ n : Nat, n ≤ 8 → (2 : Int) ^ (Nat.min n 64) = ((2 ^ n : Nat) : Int) := fun n hn => by rw [show Nat.min n 64 = n from Nat.min_eq_left (by omega), Int.natCast_pow]; rfl
  have hpos : 0 < (2 : Nat) ^ l.length := Nat.two_pow_pos _
  intro x hx; rw [Int.toNat_natCast, Int.one_mul, pw _ (by omega), Vc.i64_id (by omega)] at hx; subst x
  intro x hx; rw [Vc.i64_id (by omega)] at hx; subst x
  obtain ⟨on, rfl⟩ := Int.eq_ofNat_of_zero_le ho.1
  intro xc hxc
  rw [show ((2 ^ l.length : Nat) : Int) - 1 = ((2 ^ l.length - 1 : Nat) : Int) by omega, bits_and (by omega) (by omega)] at hxc
  subst xc
  have hle : on &&& (2 ^ l.length - 1) ≤ on := Nat.and_le_left
  obtain ⟨d, d1, d2, d3⟩ := bits_not_lt (a := on &&& (2 ^ l.length - 1)) (b := fn) (by omega) (by omega)
  intro xd hxd
  rw [d1] at hxd
  subst xd
  refine ⟨_, _, _, fun w' hw => pover (sl_below hw h0) k1 k2 d (by omega) want hwb, ?_⟩
  refine ⟨_, fun w' hw => psq3 (ob d) w', _, fun w' hw => psq3 (ob c) w', ?_⟩
  have hmin := c5 d fun i hi hdi => (bt_of (by omega) (by omega)).2 (by
    rw [d3 i] at hdi
    cases hh : fn.testBit i with
    | false => rfl
    | true => rw [hh] at hdi; simp at hdi)
  refine iteI (fun h => absurd h (by omega)) (fun _ => ?_)
  refine ⟨by omega, nb, ?_⟩
  refine iteI (fun _ => rfl) (fun hne => ?_)
  intro x hx; rw [Vc.i64_id (by omega)] at hx; subst x
  refine ⟨by omega, nb, by omega, ?_⟩
  obtain ⟨gn, rfl⟩ := Int.eq_ofNat_of_zero_le hg.1
  intro x hx; rw [show Int.tmod (gn : Int) (l.length : Int) = ((gn % l.length : Nat) : Int) from rfl] at hx; subst x
  have hk : gn % l.length < l.length := Nat.mod_lt _ (by omega)
  generalize gn % l.length = k at hk ⊢
  intro x hx; rw [Vc.u64_id (by omega)] at hx; subst x
  refine ⟨by omega, ?_⟩
  have hpk : (2 : Nat) ^ k < 2 ^ l.length := Nat.pow_lt_pow_right (by decide) hk
  have hpk2 : (2 : Nat) ^ k < 256 := Nat.lt_of_lt_of_le hpk p8
  intro x hx; rw [Int.toNat_natCast, Int.one_mul, pw k (by omega)] at hx
  generalize (2 : Nat) ^ k = K at hx hpk hpk2
  rw [Vc.i64_id (by omega)] at hx; subst x
  intro x hx; rw [bits_or (by omega) (by omega)] at hx; subst x
  have hf2 : fn ||| K < 2 ^ l.length := Nat.or_lt_two_pow hfn hpk
  have hck2 : ckV l ((fn ||| K : Nat) : Int) = 0 := ck_zero hck (by omega) (by
    have : ((2 ^ l.length : Nat) : Int) = 2 ^ l.length := by rw [Int.natCast_pow]; rfl
    omega)
  obtain ⟨c', q1, q2, q3, q4, q5⟩ := mixS_spec (l := l) (f := ((fn ||| K : Nat) : Int)) want k1
  have q2' : ∀ i, i < l.length → c'.testBit i = true → fn.testBit i = false := fun i hi hci => by
    have := (bt_of (f := fn ||| K) (by omega) (by omega)).1 (q2 i hi hci)
    rw [Nat.testBit_or] at this
    cases hh : fn.testBit i with
    | false => rfl
    | true => rw [hh] at this; simp at this
  refine ⟨_, _, _, _, _, fun w' hw => pMix (sl_below hw h0) _ (by unfold I64; omega) want, ?_⟩
  rw [mixE _ hck2, q3, q4]
  refine iteI (fun _ => ?_) (fun h => absurd rfl h)
  refine iteI (fun _ => ?_) (fun h => absurd rfl h)
  refine ⟨_, fun w' hw => psq3 (ob c') w', _, fun w' hw => psq3 (ob c) w', ?_⟩
  have hmin2 := c5 c' fun i hi hdi => (bt_of (by omega) (by omega)).2 (q2' i hi hdi)
  refine iteI (fun _ => ?_) (fun h => absurd hmin2 h)
  intro x hx
  rw [bits_and (by omega) (by omega), and_zero q1 q2'] at hx
  subst x
  rfl
theorem walk_steerLeast {w : World} {v : Value} {l : List V3} (h : V3s w v l) (f : Int) (hf : (Lit.int .i64 f).wf = true) (want : V3) (hwt : I64 want.1 ∧ I64 want.2.1 ∧ I64 want.2.2) (other : Int) (ho : (Lit.int .u8 other).wf = true) (gone : Int) (hg : (Lit.int .u8 gone).wf = true) :
    Calls Try.prog 3 #[v, .int .i64 f, VV want, .int .u8 other, .int .u8 gone] w (Vc.Ret (.bool true) w) := walk_steerLeast0 h f (wf64i hf) want other gone (wf8 ho) (wf8 hg)
end Go.Proofs.Ytancpffnjhdfaaa
