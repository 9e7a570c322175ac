/- Contracts of the layer, as far as they are wanted (written by program out of the templates). -/
import Derived.Test.YthmggmpgkmmfiaaTuA
import Derived.Test.YthmggmpgkmmfiaaTuG3
import Derived.WalkKit
import Derived.ProofKit
import Derived.OpenShut
import Derived.Lib.SmallJoins
import Derived.Deep.Strs
set_option linter.unusedVariables false
set_option linter.unusedSimpArgs false
namespace Go.Proofs.Ythmggmpgkmmfiaa
open Go Go.RowKit Ul Vc
attribute [local irreducible] Go.Calls
theorem wrap_up (i : Nat) (h : i < 1000000) : IntKind.i64.wrap ((i : Int) + 1) = ((i + 1 : Nat) : Int) := by rw [Vc.i64_id (by omega)]; omega
/-- The k-th of a loop's variables counts up. -/
def upK (k : Nat) (n : Int) (l : List Vc.Vl) : Nat :=
  match l[k]? with
  | some (.i x) => (n - x).toNat
  | _ => 0
abbrev Sp := Int × Int
def spc (p : Sp) : List Value := [.int .i64 p.1, .int .i64 p.2]
theorem spc_len (p : Sp) : (spc p).length = 2 := rfl
/-- A list of places, at a slice. -/
def Sps (w : World) (v : Value) (l : List Sp) : Prop := SlAt w v 2 (l.flatMap spc)
/-- The place with a number, taken round. -/
def sp (l : List Sp) (i : Nat) : Sp := l.getD (i % l.length) (0, 0)
theorem sps_form {w : World} {v : Value} {l : List Sp} (h : Sps w v l) : ∃ (b0 : Bool) (p0 : Nat × Nat) (x1 : Int), v = (if b0 = true then .slice none 0 0 else .slice (some (Vc.qad p0 (Int.toNat (l.length : Int)) (Int.toNat x1))) (Int.toNat (l.length : Int)) (Int.toNat x1)) ∧ (b0 = true → l.length = 0) ∧
    (∀ (i : Nat) (p : Sp), l[i]? = some p → w.cell? ⟨p0.1, p0.2 + i * 2 + 0, none⟩ = some (.int .i64 p.1) ∧ w.cell? ⟨p0.1, p0.2 + i * 2 + 1, none⟩ = some (.int .i64 p.2)) := by
  obtain ⟨b0, p0, x1, h1, h2, h3⟩ := sl_form h (by decide) (flat_len spc_len l)
  refine ⟨b0, p0, x1, h1, h2, fun i p hp => ?_⟩
  simp only [Nat.add_assoc]
  exact ⟨h3 (i * 2 + 0) _ (flat_at spc_len hp (by decide)), h3 (i * 2 + 1) _ (flat_at spc_len hp (by decide))⟩
theorem sps_nb {b0 : Bool} {n : Nat} (h : b0 = true → n = 0) : (¬ (b0 = true)) ∨ ((n : Int) = 0) := by
  by_cases hb0 : b0 = true
  · right; have := h hb0; omega
  · left; exact hb0
theorem sps_nb0 {b0 : Bool} {n : Nat} (h : b0 = true → n = 0) (hn : 0 < n) : ¬ (b0 = true) := fun hb => by have := h hb; omega
theorem sps_below {v : Value} {l : List Sp} {w w' : World} (hb : Below w.heap.size w w') (h : Sps w v l) : Sps w' v l := sl_below hb h
end Go.Proofs.Ythmggmpgkmmfiaa
set_option linter.unusedVariables false
set_option maxRecDepth 4000
namespace Go.Proofs.Ythmggmpgkmmfiaa
open Go Go.RowKit Ul Vc
attribute [local irreducible] Go.Calls
theorem sl_heap {w : World} {k t n c : Nat} {L : List Value} {xs : Array Value} (h : w.heap[k]? = some (.cells xs t)) (hx : xs.toList = L) (hn : L.length = n * c) : SlAt w (.slice (some ⟨k, 0, none⟩) n n) c L := by
  refine .inr (.inr ⟨k, 0, _, _, rfl, hn, fun j u hj => ?_⟩)
  rw [Nat.zero_add, cell_of_heap h, ← Array.getElem?_toList, hx]
  exact hj
theorem own_sps {lo b code n base : Nat} {l : List Sp} {t : TypeId} {w : World} {xs : List Value} (h : RowOk lo b code n base xs 2 t w) (hx : xs = l.flatMap spc) : Sps w (ownV b code n base) l := by
  subst hx
  exact own_sl h
end Go.Proofs.Ythmggmpgkmmfiaa
set_option linter.unusedVariables false
set_option maxRecDepth 4000
namespace Go.Proofs.Ythmggmpgkmmfiaa
open Go Go.RowKit Ul Vc
attribute [local irreducible] Go.Calls
def SpI (p : Sp) : Prop := I64 p.1 ∧ I64 p.2
/-- The result of an operation that is done unless there was an error. -/
def cop (e : Int) (r : R) : R := if e = 0 then r else (0, 0, e)
/-- What a method does to a row of operations. -/
def Op (f : FuncId) (e : Int) (a b : Sp) (r : R) : Prop := ∀ (w : World) (xl : Nat), w.heap[xl]? = some (.cells #[.int .i64 e] 83) →
  Calls Try.prog f #[Vc.ptr xl 0, Vc.S a.1 a.2, Vc.S b.1 b.2] w (Vc.Eff (Vc.S r.1 r.2.1) xl #[.int .i64 r.2.2] 83 w)
theorem op_sub (e : Int) {a b : Sp} (ha : SpI a) (hb : SpI b) : Op 35 e a b (cop e (sub a.1 a.2 b.1 b.2)) := by
  intro w xl hx
  refine vc___steer_calc__sub e a.1 a.2 b.1 b.2 xl w _ _ hx ?_
  refine iteI (fun h => ⟨_, _, _, fun w' hw => psub_any _ _ _ _ w' ha.1 ha.2 hb.1 hb.2, ?_⟩) (fun h => ?_)
  · unfold cop; rw [if_pos h]
  · unfold cop; rw [if_neg h]
theorem op_mul (e : Int) {a b : Sp} (ha : SpI a) (hb : SpI b) : Op 36 e a b (cop e (mul a.1 a.2 b.1 b.2)) := by
  intro w xl hx
  refine vc___steer_calc__mul e a.1 a.2 b.1 b.2 xl w _ _ hx ?_
  refine iteI (fun h => ⟨_, _, _, fun w' hw => pmul_any _ _ _ _ w' ha.1 ha.2 hb.1 hb.2, ?_⟩) (fun h => ?_)
  · unfold cop; rw [if_pos h]
  · unfold cop; rw [if_neg h]
theorem op_div (e : Int) {a b : Sp} (ha : SpI a) (hb : SpI b) : Op 34 e a b (cop e (div a.1 a.2 b.1 b.2)) := by
  intro w xl hx
  refine vc___steer_calc__div e a.1 a.2 b.1 b.2 xl w _ _ hx ?_
  refine iteI (fun h => ⟨_, _, _, fun w' hw => pdiv_any _ _ _ _ w' ha.1 ha.2 hb.1 hb.2, ?_⟩) (fun h => ?_)
  · unfold cop; rw [if_pos h]
  · unfold cop; rw [if_neg h]
theorem svalid (n : Int) (w : World) : Calls Try.prog 43 #[.int .i64 n] w (Vc.Ret (.bool (decide (n ≥ -9223372036854775807))) w) := vc_steer_valid n w _ rfl
def okL (l : List Sp) : Bool := decide (∀ p ∈ l, ok p.1 p.2 = true)
theorem sall1 (p : Sp) (w : World) : Calls Try.prog 59 #[Vc.S p.1 p.2] w (Vc.Ret (.bool (!(ok p.1 p.2))) w) := by
  refine vc_steer_all_1 _ _ w _ ?_
  refine ⟨_, fun w' hw => check_any _ _ w', ?_⟩
  unfold chk
  cases ok p.1 p.2 <;> rfl
theorem sall {w : World} {v : Value} {l : List Sp} (h : Sps w v l) (hn : l.length < 1000000) : Calls Try.prog 32 #[v] w (Vc.Ret (.bool (okL l)) w) := by
  obtain ⟨b0, p0, x1, rfl, hb, hc⟩ := sps_form h
  refine vc_steer_all p0 (l.length : Int) x1 b0 w _ ?_
  refine ⟨by omega, sps_nb hb, ?_⟩
  refine ⟨fun y => ∃ i : Nat, i ≤ l.length ∧ (∀ p ∈ l.take i, ok p.1 p.2 = true) ∧ y = [.i 0, .i (i : Int)], upK 1 (l.length : Int), ⟨0, by omega, by simp, rfl⟩, ?_⟩
  rintro x2 x3 ⟨i, hi, ho, hy⟩
  simp only [List.cons.injEq, Vc.Vl.i.injEq, and_true] at hy
  obtain ⟨rfl, rfl⟩ := hy
  refine iteI (fun hlt => ?_) (fun hge => ?_)
  · have hq := List.getElem?_eq_getElem (show i < l.length by omega)
    generalize l[i] = p at hq
    obtain ⟨c0, c1⟩ := hc i p hq
    refine ⟨sps_nb0 hb (by omega), by omega, hlt, _, c0, _, c1, _, fun w' hw => sall1 p w', ?_⟩
    refine iteI (fun hf => ?_) (fun hf => ?_)
    · rw [decide_eq_true (show (i : Int) ≥ 0 by omega)]
      have : okL l = false := decide_eq_false fun hall => by
        have := hall p (List.mem_of_getElem? hq)
        rw [this] at hf
        cases hf
      rw [this]; rfl
    · rintro x6 e6
      rw [wrap_up i (by omega)] at e6
      subst e6
      refine ⟨⟨i + 1, by omega, fun q hq' => ?_, rfl⟩, by simp only [upK, List.getElem?_cons_succ, List.getElem?_cons_zero]; omega⟩
      have et : l.take (i + 1) = l.take i ++ [p] := by rw [List.take_add_one, hq]; rfl
      rw [et] at hq'
      rcases List.mem_append.1 hq' with h | h
      · exact ho q h
      · simp only [List.mem_cons, List.not_mem_nil, or_false] at h
        subst h
        cases hk : ok q.1 q.2
        · rw [hk] at hf; exact absurd rfl hf
        · rfl
  · obtain rfl : i = l.length := by omega
    rw [List.take_of_length_le (Nat.le_refl _)] at ho
    rw [show okL l = true from decide_eq_true ho]
end Go.Proofs.Ythmggmpgkmmfiaa
set_option linter.unusedVariables false
set_option maxRecDepth 4000
namespace Go.Proofs.Ythmggmpgkmmfiaa
open Go Go.RowKit Ul Vc
attribute [local irreducible] Go.Calls
abbrev V3 := Int × Int × Int
def v3c (v : V3) : List Value := [.int .i64 v.1, .int .i64 v.2.1, .int .i64 v.2.2]
theorem v3c_len (v : V3) : (v3c v).length = 3 := rfl
abbrev VV (v : V3) : Value := .agg #[.int .i64 v.1, .int .i64 v.2.1, .int .i64 v.2.2]
def V3s (w : World) (v : Value) (l : List V3) : Prop := SlAt w v 3 (l.flatMap v3c)
theorem v3_cells {w : World} {p0 : Nat × Nat} {l : List V3} (h3 : ∀ j u, (l.flatMap v3c)[j]? = some u → w.cell? ⟨p0.1, p0.2 + j, none⟩ = some u) : ∀ (i : Nat) (p : V3), l[i]? = some p → w.cell? ⟨p0.1, p0.2 + i * 3 + 0, none⟩ = some (.int .i64 p.1) ∧ w.cell? ⟨p0.1, p0.2 + i * 3 + 1, none⟩ = some (.int .i64 p.2.1) ∧ w.cell? ⟨p0.1, p0.2 + i * 3 + 2, none⟩ = some (.int .i64 p.2.2) := by
  intro i p hp
  simp only [Nat.add_assoc]
  exact ⟨h3 (i * 3 + 0) _ (flat_at v3c_len hp (by decide)), h3 (i * 3 + 1) _ (flat_at v3c_len hp (by decide)), h3 (i * 3 + 2) _ (flat_at v3c_len hp (by decide))⟩
theorem v3_form {w : World} {v : Value} {l : List V3} (h : V3s w v l) : ∃ (b0 : Bool) (p0 : Nat × Nat) (x1 : Int), v = (if b0 = true then .slice none 0 0 else .slice (some (Vc.qad p0 (Int.toNat (l.length : Int)) (Int.toNat x1))) (Int.toNat (l.length : Int)) (Int.toNat x1)) ∧ (b0 = true → l.length = 0) ∧
    (∀ (i : Nat) (p : V3), l[i]? = some p → w.cell? ⟨p0.1, p0.2 + i * 3 + 0, none⟩ = some (.int .i64 p.1) ∧ w.cell? ⟨p0.1, p0.2 + i * 3 + 1, none⟩ = some (.int .i64 p.2.1) ∧ w.cell? ⟨p0.1, p0.2 + i * 3 + 2, none⟩ = some (.int .i64 p.2.2)) := by
  obtain ⟨b0, p0, x1, h1, h2, h3⟩ := sl_form h (by decide) (flat_len v3c_len l)
  exact ⟨b0, p0, x1, h1, h2, v3_cells h3⟩
/-- A row of the call's own: its room is not less than its length. -/
theorem v3_row {lo b code n base : Nat} {l : List V3} {t : TypeId} {w : World} {xs : List Value} (h : RowOk lo b code n base xs 3 t w) (hx : xs = l.flatMap v3c) : ∃ (b0 : Bool) (p0 : Nat × Nat) (x1 : Int), ownV b code n base = (if b0 = true then .slice none 0 0 else .slice (some (Vc.qad p0 (Int.toNat (l.length : Int)) (Int.toNat x1))) (Int.toNat (l.length : Int)) (Int.toNat x1)) ∧ (b0 = true → l.length = 0) ∧
    (0 < l.length → (l.length : Int) ≤ x1) ∧
    (∀ (i : Nat) (p : V3), l[i]? = some p → w.cell? ⟨p0.1, p0.2 + i * 3 + 0, none⟩ = some (.int .i64 p.1) ∧ w.cell? ⟨p0.1, p0.2 + i * 3 + 1, none⟩ = some (.int .i64 p.2.1) ∧ w.cell? ⟨p0.1, p0.2 + i * 3 + 2, none⟩ = some (.int .i64 p.2.2)) := by
  subst hx
  by_cases h0 : l.length = 0
  · obtain ⟨b0, p0, x1, h1, h2, h3⟩ := v3_form (own_sl h : V3s w _ l)
    exact ⟨b0, p0, x1, h1, h2, fun h => by omega, h3⟩
  · obtain ⟨m, e1, e2, e3⟩ := row_at h (flat_len v3c_len l) (by omega)
    refine ⟨false, (b, 0), (m : Int), ?_, fun h => (by cases h), fun _ => by omega, v3_cells fun j u hj => by rw [Nat.zero_add]; exact e3 j u hj⟩
    rw [e1, if_neg (by decide), qad_plain (by omega)]
    rfl
def Bd (n x : Int) : Prop := -n ≤ x ∧ x ≤ n
theorem mul_bd {a b A B : Int} (ha : Bd A a) (hb : Bd B b) : Bd (A * B) (a * b) := by
  have hA : 0 ≤ A := by unfold Bd at ha; omega
  have hB : 0 ≤ B := by unfold Bd at hb; omega
  have h1 : (a.natAbs : Int) ≤ A := by unfold Bd at ha; omega
  have h2 : (b.natAbs : Int) ≤ B := by unfold Bd at hb; omega
  have h3 : ((a * b).natAbs : Int) ≤ A * B := by
    rw [Int.natAbs_mul]
    exact_mod_cast Int.mul_le_mul h1 h2 (by omega) hA
  unfold Bd; omega
def V3B (n : Int) (v : V3) : Prop := Bd n v.1 ∧ Bd n v.2.1 ∧ Bd n v.2.2
instance (n x : Int) : Decidable (Bd n x) := inferInstanceAs (Decidable (_ ∧ _))
instance (n : Int) (v : V3) : Decidable (V3B n v) := inferInstanceAs (Decidable (_ ∧ _ ∧ _))
def dot (a b : V3) : Int := a.1 * b.1 + a.2.1 * b.2.1 + a.2.2 * b.2.2
def crs (a b : V3) : V3 := (a.2.1 * b.2.2 - a.2.2 * b.2.1, a.2.2 * b.1 - a.1 * b.2.2, a.1 * b.2.1 - a.2.1 * b.1)
theorem pdot {a b : V3} {A B : Int} (ha : V3B A a) (hb : V3B B b) (h : A * B * 3 ≤ 9223372036854775807) (w : World) : Calls Try.prog 29 #[VV a, VV b] w (Vc.Ret (.int .i64 (dot a b)) w) := by
  have m1 := mul_bd ha.1 hb.1
  have m2 := mul_bd ha.2.1 hb.2.1
  have m3 := mul_bd ha.2.2 hb.2.2
  unfold Bd at m1 m2 m3
  refine vc__steer_vector__dot _ _ _ _ _ _ w _ ?_
  rintro _ rfl _ rfl _ rfl _ rfl _ rfl
  rw [Vc.i64_id (x := a.1 * b.1) (by omega), Vc.i64_id (x := a.2.1 * b.2.1) (by omega), Vc.i64_id (x := a.2.2 * b.2.2) (by omega), Vc.i64_id (x := a.1 * b.1 + a.2.1 * b.2.1) (by omega), Vc.i64_id (by omega)]
  rfl
theorem crs_bd {a b : V3} (ha : V3B 1048576 a) (hb : V3B 1048576 b) : V3B 2199023255552 (crs a b) := by
  have m1 := mul_bd ha.2.1 hb.2.2
  have m2 := mul_bd ha.2.2 hb.2.1
  have m3 := mul_bd ha.2.2 hb.1
  have m4 := mul_bd ha.1 hb.2.2
  have m5 := mul_bd ha.1 hb.2.1
  have m6 := mul_bd ha.2.1 hb.1
  unfold V3B crs Bd at *
  simp only
  omega
theorem pcrs {a b : V3} (ha : V3B 1048576 a) (hb : V3B 1048576 b) (w : World) : Calls Try.prog 56 #[VV a, VV b] w (Vc.Ret (VV (crs a b)) w) := by
  have m1 := mul_bd ha.2.1 hb.2.2
  have m2 := mul_bd ha.2.2 hb.2.1
  have m3 := mul_bd ha.2.2 hb.1
  have m4 := mul_bd ha.1 hb.2.2
  have m5 := mul_bd ha.1 hb.2.1
  have m6 := mul_bd ha.2.1 hb.1
  unfold Bd at *
  refine vc__steer_vector__cross _ _ _ _ _ _ w _ ?_
  rintro _ rfl _ rfl _ rfl _ rfl _ rfl _ rfl _ rfl _ rfl _ rfl
  rw [Vc.i64_id (x := a.2.1 * b.2.2) (by omega), Vc.i64_id (x := a.2.2 * b.2.1) (by omega), Vc.i64_id (x := a.2.2 * b.1) (by omega), Vc.i64_id (x := a.1 * b.2.2) (by omega), Vc.i64_id (x := a.1 * b.2.1) (by omega), Vc.i64_id (x := a.2.1 * b.1) (by omega), Vc.i64_id (by omega), Vc.i64_id (by omega), Vc.i64_id (by omega)]
  rfl
def ckV (l : List V3) (f : Int) : Int := if 12 < l.length then 3 else if ∀ v ∈ l, V3B 1048576 v then (if 0 ≤ f ∧ f < 2 ^ l.length then 0 else 2) else 2
theorem pow_le12 {n : Nat} (h : n ≤ 12) : (2 : Int) ^ n ≤ 4096 := by
  have : ∀ k : Nat, k ≤ 12 → (2 : Int) ^ k ≤ 4096 := by decide
  exact this n h
theorem pow_pos2 (n : Nat) : (0 : Int) < 2 ^ n := Int.pow_pos (by decide)
theorem pcheck {w : World} {v : Value} {l : List V3} (h : V3s w v l) (f : Int) (hf : I64 f) : Calls Try.prog 26 #[v, .int .i64 f] w (Vc.Ret (.int .i64 (ckV l f)) w) := by
  obtain ⟨b0, p0, x1, rfl, hb, hc⟩ := v3_form h
  have nb := sps_nb hb
  refine vc_steer_check p0 (l.length : Int) x1 f b0 w _ ?_
  refine ⟨by omega, nb, ?_⟩
  refine iteI (fun g => ?_) (fun g => ⟨by omega, nb, ?_⟩)
  · unfold ckV; rw [if_pos (by omega)]
  refine ⟨fun y => ∃ i : Nat, i ≤ l.length ∧ (∀ p ∈ l.take i, V3B 1048576 p) ∧ y = [.i 0, .i (i : Int)], upK 1 (l.length : Int), ⟨0, by omega, by simp, rfl⟩, ?_⟩
  rintro x3 x4 ⟨i, hi, ho, hy⟩
  simp only [List.cons.injEq, Vc.Vl.i.injEq, and_true] at hy
  obtain ⟨rfl, rfl⟩ := hy
  refine iteI (fun hlt => ?_) (fun hge => ?_)
  · have hq := List.getElem?_eq_getElem (show i < l.length by omega)
    generalize l[i] = p at hq
    obtain ⟨c0, c1, c2⟩ := hc i p hq
    have bad : ¬ V3B 1048576 p → (2 : Int) = ckV l f := fun hn => by
      unfold ckV
      rw [if_neg (by omega), if_neg fun hall => hn (hall p (List.mem_of_getElem? hq))]
    refine ⟨sps_nb0 hb (by omega), by omega, hlt, _, c0, _, c1, _, c2, ?_⟩
    refine iteI (fun k => ?_) (fun k1 => iteI (fun k => ?_) (fun k2 => iteI (fun k => ?_) (fun k3 => iteI (fun k => ?_) (fun k4 => iteI (fun k => ?_) (fun k5 => iteI (fun k => ?_) (fun k6 => ?_))))))
    · rw [← bad (by unfold V3B Bd; omega)]
    · rw [← bad (by unfold V3B Bd; omega)]
    · rw [← bad (by unfold V3B Bd; omega)]
    · rw [← bad (by unfold V3B Bd; omega)]
    · rw [← bad (by unfold V3B Bd; omega)]
    · rw [← bad (by unfold V3B Bd; omega)]
    rintro x8 e8
    rw [wrap_up i (by omega)] at e8
    subst e8
    refine ⟨⟨i + 1, by omega, fun q hq' => ?_, rfl⟩, by simp only [upK, List.getElem?_cons_succ, List.getElem?_cons_zero]; omega⟩
    have et : l.take (i + 1) = l.take i ++ [p] := by rw [List.take_add_one, hq]; rfl
    rw [et] at hq'
    rcases List.mem_append.1 hq' with h | h
    · exact ho q h
    · simp only [List.mem_cons, List.not_mem_nil, or_false] at h
      subst h
      unfold V3B Bd; omega
  · obtain rfl : i = l.length := by omega
    rw [List.take_of_length_le (Nat.le_refl _)] at ho
    have e : ckV l f = if 0 ≤ f ∧ f < 2 ^ l.length then 0 else 2 := by unfold ckV; rw [if_neg (by omega), if_pos ho]
    refine iteI (fun k => ?_) (fun k => ⟨by omega, nb, by omega, ?_⟩)
    · rw [e, if_neg (by omega)]
    rintro x5 e5
    have hp := pow_le12 (n := l.length) (by omega)
    have hp0 := pow_pos2 l.length
    rw [show Nat.min (Int.toNat (l.length : Int)) 64 = l.length from Nat.min_eq_left (by omega), Int.one_mul, Vc.i64_id (by omega)] at e5
    subst e5
    refine iteI (fun k2 => ?_) (fun k2 => ?_)
    · rw [e, if_neg (by omega)]
    · rw [e, if_pos (by omega)]
def abv (l : List V3) (n : V3) : Bool := decide (∃ v ∈ l, 0 < dot v n)
def blw (l : List V3) (n : V3) : Bool := decide (∃ v ∈ l, dot v n < 0)
theorem abv_snoc (l : List V3) (p n : V3) : abv (l ++ [p]) n = (abv l n || decide (0 < dot p n)) := by
  unfold abv
  rw [Bool.eq_iff_iff]
  simp [or_and_right, exists_or]
theorem blw_snoc (l : List V3) (p n : V3) : blw (l ++ [p]) n = (blw l n || decide (dot p n < 0)) := by
  unfold blw
  rw [Bool.eq_iff_iff]
  simp [or_and_right, exists_or]
theorem psides {w : World} {v : Value} {l : List V3} (h : V3s w v l) (n : V3) (hl : ∀ p ∈ l, V3B 1048576 p) (hn : V3B 2199023255552 n) (hlen : l.length ≤ 1000) : Calls Try.prog 57 #[v, VV n] w (Vc.Ret (.tuple #[.bool (abv l n), .bool (blw l n)]) w) := by
  obtain ⟨b0, p0, x1, rfl, hb, hc⟩ := v3_form h
  refine vc_steer_sides p0 (l.length : Int) x1 n.1 n.2.1 n.2.2 b0 w _ ?_
  refine ⟨by omega, sps_nb hb, ?_⟩
  refine ⟨fun y => ∃ i : Nat, i ≤ l.length ∧ y = [.b (abv (l.take i) n), .b (blw (l.take i) n), .i (i : Int)], upK 2 (l.length : Int), ⟨0, by omega, rfl⟩, ?_⟩
  rintro b1 b2 x5 ⟨i, hi, hy⟩
  simp only [List.cons.injEq, Vc.Vl.i.injEq, Vc.Vl.b.injEq, and_true] at hy
  obtain ⟨e1, e2, rfl⟩ := hy
  refine iteI (fun hlt => ?_) (fun hge => ?_)
  · have hq := List.getElem?_eq_getElem (show i < l.length by omega)
    have hm : l[i] ∈ l := List.getElem_mem (by omega)
    generalize l[i] = p at hq hm
    obtain ⟨c0, c1, c2⟩ := hc i p hq
    have et : l.take (i + 1) = l.take i ++ [p] := by rw [List.take_add_one, hq]; rfl
    have next : ∀ (x : Int) (c d : Bool), x = IntKind.i64.wrap ((i : Int) + 1) → c = (b1 || decide (0 < dot p n)) → d = (b2 || decide (dot p n < 0)) →
        (∃ i : Nat, i ≤ l.length ∧ [Vc.Vl.b c, .b d, .i x] = [.b (abv (l.take i) n), .b (blw (l.take i) n), .i (i : Int)]) ∧ upK 2 (l.length : Int) [.b c, .b d, .i x] < upK 2 (l.length : Int) [.b b1, .b b2, .i (i : Int)] := by
      rintro x c d ex rfl rfl
      rw [wrap_up i (by omega)] at ex
      subst ex
      refine ⟨⟨i + 1, by omega, ?_⟩, by simp only [upK, List.getElem?_cons_succ, List.getElem?_cons_zero]; omega⟩
      rw [et, abv_snoc, blw_snoc, ← e1, ← e2]
    refine ⟨sps_nb0 hb (by omega), by omega, hlt, _, c0, _, c1, _, c2, _, fun w' hw => pdot (a := p) (b := n) (hl p hm) hn (by omega) w', ?_⟩
    refine iteI (fun g1 => iteI (fun g2 => ?_) (fun g2 => ?_)) (fun g1 => iteI (fun g2 => ?_) (fun g2 => ?_))
    · rintro x10 e10; exact next _ _ _ e10 (by rw [g1]; rfl) (by rw [g2]; rfl)
    · rintro x10 e10; exact next _ _ _ e10 (by rw [g1]; rfl) (by simp [g2])
    · rintro x10 e10; exact next _ _ _ e10 (by simp [g1]) (by rw [g2]; rfl)
    · rintro x10 e10; exact next _ _ _ e10 (by simp [g1]) (by simp [g2])
  · obtain rfl : i = l.length := by omega
    rw [List.take_of_length_le (Nat.le_refl _)] at e1 e2
    rw [e1, e2]
/-- On both sides of each plane that two of the first ones make. -/
def at3 (l : List V3) (i : Nat) : V3 := l.getD i (0, 0, 0)
def pairOk (l : List V3) (i j : Nat) : Prop := crs (at3 l i) (at3 l j) ≠ (0, 0, 0) → abv l (crs (at3 l i) (at3 l j)) = true ∧ blw l (crs (at3 l i) (at3 l j)) = true
instance (l : List V3) (i j : Nat) : Decidable (pairOk l i j) := inferInstanceAs (Decidable (_ → _))
def Span3 (l : List V3) : Prop := (∀ i, i < l.length → ∀ j, j < i → pairOk l i j) ∧ ∃ i, i < l.length ∧ ∃ j, j < i ∧ crs (at3 l i) (at3 l j) ≠ (0, 0, 0)
def span3B (l : List V3) : Bool := decide (∀ i, i < l.length → ∀ j, j < i → pairOk l i j) && (List.range l.length).any fun i => (List.range i).any fun j => decide (crs (at3 l i) (at3 l j) ≠ (0, 0, 0))
theorem span3B_iff {l : List V3} : span3B l = true ↔ Span3 l := by
  unfold span3B Span3
  simp [List.any_eq_true]
theorem at3_eq {l : List V3} {i : Nat} {p : V3} (h : l[i]? = some p) : at3 l i = p := by
  unfold at3; rw [List.getD_eq_getElem?_getD, h]; rfl
theorem ne3 {v : V3} : v ≠ (0, 0, 0) ↔ ¬ (v.1 = 0 ∧ (v.2.1 = 0 ∧ v.2.2 = 0)) := by
  obtain ⟨a, b, c⟩ := v
  simp
theorem pspan3 {w : World} {v : Value} {l : List V3} {b0 : Bool} {p0 : Nat × Nat} {x1 : Int} (hv : v = (if b0 = true then .slice none 0 0 else .slice (some (Vc.qad p0 (Int.toNat (l.length : Int)) (Int.toNat x1))) (Int.toNat (l.length : Int)) (Int.toNat x1))) (hb : b0 = true → l.length = 0)
    (hcap : 0 < l.length → (l.length : Int) ≤ x1)
    (hc : ∀ (i : Nat) (p : V3), l[i]? = some p → w.cell? ⟨p0.1, p0.2 + i * 3 + 0, none⟩ = some (.int .i64 p.1) ∧ w.cell? ⟨p0.1, p0.2 + i * 3 + 1, none⟩ = some (.int .i64 p.2.1) ∧ w.cell? ⟨p0.1, p0.2 + i * 3 + 2, none⟩ = some (.int .i64 p.2.2))
    (h : V3s w v l) (hl : ∀ p ∈ l, V3B 1048576 p) (hlen : l.length ≤ 100) : Calls Try.prog 27 #[v] w (Vc.Ret (.bool (span3B l)) w) := by
  subst hv
  refine vc_steer_span3 p0 (l.length : Int) x1 b0 w _ ?_
  refine ⟨by omega, sps_nb hb, ?_⟩
  refine ⟨fun y => ∃ (i : Nat) (m : Int), i ≤ l.length ∧ (∀ k, k < i → ∀ j, j < k → pairOk l k j) ∧ (0 ≤ m ∧ m ≤ 100 * (i : Int)) ∧ (0 < m ↔ ∃ k, k < i ∧ ∃ j, j < k ∧ crs (at3 l k) (at3 l j) ≠ (0, 0, 0)) ∧ y = [.i m, .b false, .i (i : Int)], upK 2 (l.length : Int), ⟨0, 0, by omega, by omega, by omega, by simp, rfl⟩, ?_⟩
  rintro x2 b1 x3 ⟨i, m, hi, ho, hm, hmi, hy⟩
  simp only [List.cons.injEq, Vc.Vl.i.injEq, Vc.Vl.b.injEq, and_true] at hy
  obtain ⟨rfl, rfl, rfl⟩ := hy
  refine iteI (fun hlt => ?_) (fun hge => ?_)
  · have hq := List.getElem?_eq_getElem (show i < l.length by omega)
    have hmem : l[i] ∈ l := List.getElem_mem (by omega)
    generalize l[i] = p at hq hmem
    obtain ⟨c0, c1, c2⟩ := hc i p hq
    have hcp := hcap (by omega)
    refine ⟨sps_nb0 hb (by omega), by omega, hlt, _, c0, _, c1, _, c2, sps_nb0 hb (by omega), by omega, by omega, by omega, by omega, by omega, by omega, ?_⟩
    refine ⟨fun y => ∃ (j : Nat) (m : Int), j ≤ i ∧ (∀ k, k < j → pairOk l i k) ∧ (0 ≤ m ∧ m ≤ 100 * (i : Int) + (j : Int)) ∧ (0 < m ↔ (∃ k, k < i ∧ ∃ j, j < k ∧ crs (at3 l k) (at3 l j) ≠ (0, 0, 0)) ∨ ∃ k, k < j ∧ crs (at3 l i) (at3 l k) ≠ (0, 0, 0)) ∧ y = [.i m, .b false, .i (j : Int)], upK 2 (i : Int), ⟨0, x2, by omega, by omega, by omega, by simpa using hmi, rfl⟩, ?_⟩
    rintro x7 b2 x8 ⟨j, m, hj, hoj, hmj, hmij, hy⟩
    simp only [List.cons.injEq, Vc.Vl.i.injEq, Vc.Vl.b.injEq, and_true] at hy
    obtain ⟨rfl, rfl, rfl⟩ := hy
    refine iteI (fun hlt2 => ?_) (fun hge2 => ?_)
    · have hq2 := List.getElem?_eq_getElem (show j < l.length by omega)
      have hmem2 : l[j] ∈ l := List.getElem_mem (by omega)
      generalize l[j] = q at hq2 hmem2
      obtain ⟨d0, d1, d2⟩ := hc j q hq2
      have e1 := at3_eq hq
      have e2 := at3_eq hq2
      have hn := crs_bd (hl p hmem) (hl q hmem2)
      refine ⟨by omega, by omega, _, d0, _, d1, _, d2, ?_⟩
      refine ⟨_, _, _, fun w' hw => pcrs (a := p) (b := q) (hl p hmem) (hl q hmem2) w', ?_⟩
      refine iteI (fun hz => ?_) (fun hz => ?_)
      · rintro x15 e15
        rw [wrap_up j (by omega)] at e15
        subst e15
        have hzz : ¬ crs (at3 l i) (at3 l j) ≠ (0, 0, 0) := by rw [e1, e2, ne3]; exact fun h => h hz
        refine ⟨⟨j + 1, x7, by omega, fun k hk => ?_, by omega, ?_, rfl⟩, by simp only [upK, List.getElem?_cons_succ, List.getElem?_cons_zero]; omega⟩
        · by_cases hkj : k = j
          · subst hkj; exact fun h => absurd h hzz
          · exact hoj k (by omega)
        · rw [hmij]
          constructor
          · rintro (h | ⟨k, hk, h⟩)
            · exact .inl h
            · exact .inr ⟨k, by omega, h⟩
          · rintro (h | ⟨k, hk, h⟩)
            · exact .inl h
            · by_cases hkj : k = j
              · subst hkj; exact absurd h hzz
              · exact .inr ⟨k, by omega, h⟩
      · have hnz : crs (at3 l i) (at3 l j) ≠ (0, 0, 0) := by rw [e1, e2, ne3]; exact hz
        have hnz' := hnz
        rw [e1, e2] at hnz'
        have no : ¬ (abv l (crs p q) = true ∧ blw l (crs p q) = true) → (Value.bool false : Value) = .bool (span3B l) := fun hx => by
          have : span3B l = false := by
            rw [Bool.eq_false_iff, ne_eq, span3B_iff]
            intro hs
            have := hs.1 i (by omega) j (by omega) hnz
            rw [e1, e2] at this
            exact hx this
          rw [this]
        rintro x15 e15
        rw [Vc.i64_id (by omega)] at e15
        subst e15
        refine ⟨_, _, fun w' hw => psides (sl_below hw h) (crs p q) hl hn (by omega), ?_⟩
        refine iteI (fun ha => iteI (fun hbw => ?_) (fun hbw => no fun h => hbw h.2)) (fun ha => no fun h => ha h.1)
        rintro x16 e16
        rw [wrap_up j (by omega)] at e16
        subst e16
        refine ⟨⟨j + 1, x7 + 1, by omega, fun k hk => ?_, by omega, ?_, rfl⟩, by simp only [upK, List.getElem?_cons_succ, List.getElem?_cons_zero]; omega⟩
        · by_cases hkj : k = j
          · subst hkj; intro _; rw [e1, e2]; exact ⟨ha, hbw⟩
          · exact hoj k (by omega)
        · constructor
          · intro _; exact .inr ⟨j, by omega, hnz⟩
          · intro _; omega
    · obtain rfl : j = i := by omega
      rintro x9 e9
      rw [wrap_up j (by omega)] at e9
      subst e9
      refine ⟨⟨j + 1, x7, by omega, fun k hk => ?_, by omega, ?_, rfl⟩, by simp only [upK, List.getElem?_cons_succ, List.getElem?_cons_zero]; omega⟩
      · by_cases hkj : k = j
        · subst hkj; exact hoj
        · exact ho k (by omega)
      · rw [hmij]
        constructor
        · rintro (⟨k, hk, h⟩ | h)
          · exact ⟨k, by omega, h⟩
          · exact ⟨j, by omega, h⟩
        · rintro ⟨k, hk, h⟩
          by_cases hkj : k = j
          · subst hkj; exact .inr h
          · exact .inl ⟨k, by omega, h⟩
  · obtain rfl : i = l.length := by omega
    congr 1
    rw [Bool.eq_iff_iff, span3B_iff, decide_eq_true_eq]
    unfold Span3
    constructor
    · intro h; exact ⟨ho, hmi.1 h⟩
    · intro h; exact hmi.2 h.2
end Go.Proofs.Ythmggmpgkmmfiaa
set_option linter.unusedVariables false
set_option maxRecDepth 4000
namespace Go.Proofs.Ythmggmpgkmmfiaa
open Go Go.RowKit Ul Vc
attribute [local irreducible] Go.Calls
def wHi (a b : Int) : Int :=
  if b < 0 then IntKind.u64.wrap ((if a < 0 then IntKind.u64.wrap (hiW (IntKind.u64.wrap a * IntKind.u64.wrap b) - IntKind.u64.wrap b) else hiW (IntKind.u64.wrap a * IntKind.u64.wrap b)) - IntKind.u64.wrap a)
  else (if a < 0 then IntKind.u64.wrap (hiW (IntKind.u64.wrap a * IntKind.u64.wrap b) - IntKind.u64.wrap b) else hiW (IntKind.u64.wrap a * IntKind.u64.wrap b))
def wLo (a b : Int) : Int := loW (IntKind.u64.wrap a * IntKind.u64.wrap b)
def wplus (hi lo a b : Int) (m : Bool) : Int × Int :=
  if m = true then (IntKind.i64.wrap (hi - IntKind.i64.wrap (IntKind.i64.wrap (wHi a b) + IntKind.i64.wrap (bor lo (wLo a b)))), (lo - wLo a b) % 18446744073709551616)
  else (IntKind.i64.wrap (hi + IntKind.i64.wrap (IntKind.i64.wrap (wHi a b) + IntKind.i64.wrap ((lo + wLo a b) / 18446744073709551616))), (lo + wLo a b) % 18446744073709551616)
theorem u64_bd (x : Int) : 0 ≤ IntKind.u64.wrap x ∧ IntKind.u64.wrap x ≤ 18446744073709551615 := by
  rw [IntKind.wrap_u64]; omega
theorem lo_bd (x : Int) : 0 ≤ loW x ∧ loW x ≤ 18446744073709551615 := by unfold loW; omega
theorem pplus (hi lo a b : Int) (m : Bool) (hlo : 0 ≤ lo) (ha : I64 a) (hb : I64 b) (w : World) : Calls Try.prog 68 #[.agg #[.int .i64 hi, .int .u64 lo], .int .i64 a, .int .i64 b, .bool m] w (Vc.Ret (.agg #[.int .i64 (wplus hi lo a b m).1, .int .u64 (wplus hi lo a b m).2]) w) := by
  have ua := u64_bd a
  have ub := u64_bd b
  have ul : 0 ≤ wLo a b ∧ wLo a b ≤ 18446744073709551615 := lo_bd _
  refine vc__steer_wide__plus hi lo a b m w _ ?_
  rintro _ rfl _ rfl
  refine ⟨_, _, fun w' hw => mul64_any _ _ w' ua.1 ua.2 ub.1 ub.2, ?_⟩
  refine iteI (fun h1 => ?_) (fun h1 => ?_)
  · rintro _ rfl _ rfl
    refine iteI (fun h2 => ?_) (fun h2 => ?_)
    · rintro _ rfl _ rfl
      refine iteI (fun h3 => ?_) (fun h3 => ?_)
      · refine ⟨_, _, ⟨rfl, fun w' => sub64_0 lo (wLo a b) hlo ul.1 ul.2 w'⟩, ?_⟩
        rintro _ rfl _ rfl _ rfl _ rfl
        simp only [wplus, wHi, h1, h2, h3, if_true]
      · refine ⟨_, _, ⟨rfl, fun w' => add64_0 lo (wLo a b) hlo ul.1 w'⟩, ?_⟩
        rintro _ rfl _ rfl _ rfl _ rfl
        simp only [wplus, wHi, h1, h2, if_true, if_neg h3]
    · refine iteI (fun h3 => ?_) (fun h3 => ?_)
      · refine ⟨_, _, ⟨rfl, fun w' => sub64_0 lo (wLo a b) hlo ul.1 ul.2 w'⟩, ?_⟩
        rintro _ rfl _ rfl _ rfl _ rfl
        simp only [wplus, wHi, h1, h3, if_true, if_neg h2]
      · refine ⟨_, _, ⟨rfl, fun w' => add64_0 lo (wLo a b) hlo ul.1 w'⟩, ?_⟩
        rintro _ rfl _ rfl _ rfl _ rfl
        simp only [wplus, wHi, h1, if_true, if_neg h2, if_neg h3]
  · refine iteI (fun h2 => ?_) (fun h2 => ?_)
    · rintro _ rfl _ rfl
      refine iteI (fun h3 => ?_) (fun h3 => ?_)
      · refine ⟨_, _, ⟨rfl, fun w' => sub64_0 lo (wLo a b) hlo ul.1 ul.2 w'⟩, ?_⟩
        rintro _ rfl _ rfl _ rfl _ rfl
        simp only [wplus, wHi, h2, h3, if_true, if_neg h1]
      · refine ⟨_, _, ⟨rfl, fun w' => add64_0 lo (wLo a b) hlo ul.1 w'⟩, ?_⟩
        rintro _ rfl _ rfl _ rfl _ rfl
        simp only [wplus, wHi, h2, if_true, if_neg h1, if_neg h3]
    · refine iteI (fun h3 => ?_) (fun h3 => ?_)
      · refine ⟨_, _, ⟨rfl, fun w' => sub64_0 lo (wLo a b) hlo ul.1 ul.2 w'⟩, ?_⟩
        rintro _ rfl _ rfl _ rfl _ rfl
        simp only [wplus, wHi, h3, if_true, if_neg h1, if_neg h2]
      · refine ⟨_, _, ⟨rfl, fun w' => add64_0 lo (wLo a b) hlo ul.1 w'⟩, ?_⟩
        rintro _ rfl _ rfl _ rfl _ rfl
        simp only [wplus, wHi, if_neg h1, if_neg h2, if_neg h3]
def downN (hi lo : Int) : Int := bits .or .i64 (IntKind.i64.wrap (hi * 4294967296)) (IntKind.i64.wrap (lo / 4294967296))
def downV (hi lo : Int) : Int × Bool := if hi / 2147483648 = downN hi lo / 9223372036854775808 then (downN hi lo, decide (downN hi lo ≥ -9223372036854775807)) else (downN hi lo, false)
theorem pdown (hi lo : Int) (w : World) : Calls Try.prog 69 #[.agg #[.int .i64 hi, .int .u64 lo]] w (Vc.Ret (.tuple #[.int .i64 (downV hi lo).1, .bool (downV hi lo).2]) w) := by
  refine vc__steer_wide__down hi lo w _ ?_
  rintro x2 e2 x3 e3 x4 e4 x5 e5 x6 e6 x7 e7
  subst e2 e3 e4
  have h5 : x5 = downN hi lo := e5
  subst h5 e6 e7
  refine iteI (fun h => ⟨_, fun w' hw => svalid _ w', ?_⟩) (fun h => ?_)
  · unfold downV; rw [if_pos h]
  · unfold downV; rw [if_neg h]
/-- The jets that work. -/
def bt (f : Int) (i : Nat) : Int := bits .and .i64 (Int.fdiv f (2 ^ (Nat.min i 64))) 1
def wkT (l : List V3) (f : Int) : Nat → List V3
  | 0 => []
  | n + 1 => if bt f n = 0 then wkT l f n ++ [at3 l n] else wkT l f n
def wk (l : List V3) (f : Int) : List V3 := wkT l f l.length
theorem wkT_yes {l : List V3} {f : Int} {n : Nat} (h : bt f n = 0) : wkT l f (n + 1) = wkT l f n ++ [at3 l n] := if_pos h
theorem wkT_no {l : List V3} {f : Int} {n : Nat} (h : ¬ bt f n = 0) : wkT l f (n + 1) = wkT l f n := if_neg h
theorem wkT_len (l : List V3) (f : Int) : ∀ n, (wkT l f n).length ≤ n
  | 0 => by simp [wkT]
  | n + 1 => by
    unfold wkT
    have := wkT_len l f n
    split
    · rw [List.length_append, List.length_singleton]; omega
    · omega
theorem wkT_mem {l : List V3} {f : Int} {v : V3} : ∀ {n : Nat}, v ∈ wkT l f n ↔ ∃ i, i < n ∧ bt f i = 0 ∧ v = at3 l i
  | 0 => by simp [wkT]
  | n + 1 => by
    unfold wkT
    have ih := wkT_mem (l := l) (f := f) (v := v) (n := n)
    split
    · rename_i h
      rw [List.mem_append, ih, List.mem_singleton]
      constructor
      · rintro (⟨i, hi, h1⟩ | rfl)
        · exact ⟨i, by omega, h1⟩
        · exact ⟨n, by omega, h, rfl⟩
      · rintro ⟨i, hi, h1, h2⟩
        by_cases hin : i = n
        · subst hin; exact .inr h2
        · exact .inl ⟨i, by omega, h1, h2⟩
    · rename_i h
      rw [ih]
      constructor
      · rintro ⟨i, hi, h1⟩; exact ⟨i, by omega, h1⟩
      · rintro ⟨i, hi, h1, h2⟩
        refine ⟨i, ?_, h1, h2⟩
        by_cases hin : i = n
        · subst hin; exact absurd h1 h
        · omega
theorem at3_mem {l : List V3} {i : Nat} (h : i < l.length) : at3 l i ∈ l := by
  rw [at3_eq (List.getElem?_eq_getElem h)]; exact List.getElem_mem h
theorem wk_bd {l : List V3} {f : Int} (hl : ∀ p ∈ l, V3B 1048576 p) : ∀ p ∈ wk l f, V3B 1048576 p := by
  intro p hp
  obtain ⟨i, hi, _, rfl⟩ := wkT_mem.1 hp
  exact hl _ (at3_mem hi)
theorem ck_ok {l : List V3} {f : Int} (h : ckV l f = 0) : l.length ≤ 12 ∧ (∀ v ∈ l, V3B 1048576 v) ∧ 0 ≤ f ∧ f < 2 ^ l.length := by
  unfold ckV at h
  split at h
  · cases h
  · split at h
    · split at h
      · exact ⟨by omega, by assumption, by omega, by omega⟩
      · cases h
    · cases h
def spansV (l : List V3) (f : Int) : Bool × Int := if ckV l f = 0 then (span3B (wk l f), 0) else (false, ckV l f)
theorem span_row {lo b code n base : Nat} {l : List V3} {t : TypeId} {w : World} {xs : List Value} (h : RowOk lo b code n base xs 3 t w) (hx : xs = l.flatMap v3c) (hl : ∀ p ∈ l, V3B 1048576 p) (hlen : l.length ≤ 100) :
    Calls Try.prog 27 #[ownV b code n base] w (Vc.Ret (.bool (span3B l)) w) := by
  obtain ⟨b0, p0, x1, h1, h2, h3, h4⟩ := v3_row h hx
  refine pspan3 h1 h2 h3 h4 ?_ hl hlen
  subst hx
  exact own_sl h
theorem pSpans {w : World} {v : Value} {l : List V3} (h : V3s w v l) (f : Int) (hf : I64 f) : Calls Try.prog 9 #[v, .int .i64 f] w (Vc.Ret (.tuple #[.bool (spansV l f).1, .int .i64 (spansV l f).2]) w) := by
  have h0 := h
  obtain ⟨b0, p0, x1, rfl, hb, hc⟩ := v3_form h
  refine vc_steer_Spans p0 (l.length : Int) x1 f b0 w _ ?_
  refine ⟨_, fun w' hw => pcheck (sl_below hw h0) f hf, ?_⟩
  refine iteI (fun g => ?_) (fun g => ?_)
  rotate_left
  · unfold spansV; rw [if_neg g]
  obtain ⟨k1, k2, k3, k4⟩ := ck_ok g
  refine ⟨by omega, sps_nb hb, ?_⟩
  refine ⟨fun y => ∃ i : Nat, i ≤ l.length ∧ y = [.l ((wkT l f i).flatMap v3c), .i (i : Int)], upK 1 (l.length : Int), ⟨0, by omega, rfl⟩, ?_⟩
  rintro l0 x4 ⟨i, hi, hy⟩
  simp only [List.cons.injEq, Vc.Vl.i.injEq, Vc.Vl.l.injEq, and_true] at hy
  obtain ⟨e1, rfl⟩ := hy
  rw [List.append_nil] at e1
  have le1 : l0.length = (wkT l f i).length * 3 := by
    have := congrArg List.length e1
    rwa [List.length_map, flat_len v3c_len] at this
  have lw := wkT_len l f i
  refine iteI (fun hlt => ?_) (fun hge => ?_)
  · have hq := List.getElem?_eq_getElem (show i < l.length by omega)
    generalize l[i] = p at hq
    obtain ⟨c0, c1, c2⟩ := hc i p hq
    have ep := at3_eq hq
    refine ⟨sps_nb0 hb (by omega), by omega, hlt, _, c0, _, c1, _, c2, by omega, ?_⟩
    rintro x8 e8 x9 e9
    have hbt : x9 = bt f i := by rw [e9, e8]; rfl
    refine iteI (fun h9 => ?_) (fun h9 => ?_)
    · rintro x10 e10
      refine ⟨by omega, ?_⟩
      rintro x11 e11
      rw [wrap_up i (by omega)] at e11
      subst e11
      refine ⟨⟨i + 1, by omega, ?_⟩, by simp only [upK, List.getElem?_cons_succ, List.getElem?_cons_zero]; omega⟩
      rw [e1, wkT_yes (by rw [← hbt]; exact h9), List.flatMap_append, ep]
      rfl
    · rintro x10 e10
      rw [wrap_up i (by omega)] at e10
      subst e10
      refine ⟨⟨i + 1, by omega, ?_⟩, by simp only [upK, List.getElem?_cons_succ, List.getElem?_cons_zero]; omega⟩
      rw [e1, List.append_nil, wkT_no (by rw [← hbt]; exact h9)]
  · obtain rfl : i = l.length := by omega
    refine ⟨_, fun β w' hw hm => span_row (l := wk l f) hm.1 (by rw [e1, List.append_nil]; rfl) (wk_bd k2) (by unfold wk; omega), ?_⟩
    unfold spansV; rw [if_pos g]
def safeV (l : List V3) : Bool × Int := if ckV l 0 = 0 then (decide (∀ i, i < l.length → span3B (wk l (2 ^ i)) = true) && decide (0 < l.length), 0) else (false, ckV l 0)
theorem pSafe {w : World} {v : Value} {l : List V3} (h : V3s w v l) : Calls Try.prog 10 #[v] w (Vc.Ret (.tuple #[.bool (safeV l).1, .int .i64 (safeV l).2]) w) := by
  have h0 := h
  obtain ⟨b0, p0, x1, rfl, hb, hc⟩ := v3_form h
  refine vc_steer_Safe p0 (l.length : Int) x1 b0 w _ ?_
  refine ⟨_, fun w' hw => pcheck (sl_below hw h0) 0 (by unfold I64; omega), ?_⟩
  refine iteI (fun g => ?_) (fun g => ?_)
  rotate_left
  · unfold safeV; rw [if_neg g]
  obtain ⟨k1, k2, k3, k4⟩ := ck_ok g
  refine ⟨by omega, sps_nb hb, ?_⟩
  refine ⟨fun y => ∃ k : Nat, k ≤ l.length ∧ (∀ i, i < k → span3B (wk l (2 ^ i)) = true) ∧ y = [.b false, .i 0, .i (k : Int)], upK 2 (l.length : Int), ⟨0, by omega, by intro i hi; omega, rfl⟩, ?_⟩
  rintro b1 x3 x4 ⟨k, hk, hko, hy⟩
  simp only [List.cons.injEq, Vc.Vl.i.injEq, Vc.Vl.b.injEq, and_true] at hy
  obtain ⟨rfl, rfl, rfl⟩ := hy
  refine iteI (fun hkl => ⟨by omega, ?_⟩) (fun hkl => ?_)
  · rintro x5 e5
    have hp := pow_le12 (n := k) (by omega)
    have hp0 := pow_pos2 k
    rw [show Nat.min (Int.toNat (k : Int)) 64 = k from Nat.min_eq_left (by omega), Int.one_mul, Vc.i64_id (by omega)] at e5
    subst e5
    refine ⟨by omega, sps_nb hb, ?_⟩
    refine ⟨fun y => ∃ i : Nat, i ≤ l.length ∧ y = [.l ((wkT l (2 ^ k) i).flatMap v3c), .i (i : Int)], upK 1 (l.length : Int), ⟨0, by omega, rfl⟩, ?_⟩
    rintro l0 x4 ⟨i, hi, hy⟩
    simp only [List.cons.injEq, Vc.Vl.i.injEq, Vc.Vl.l.injEq, and_true] at hy
    obtain ⟨e1, rfl⟩ := hy
    rw [List.append_nil] at e1
    have le1 : l0.length = (wkT l (2 ^ k) i).length * 3 := by
      have := congrArg List.length e1
      rwa [List.length_map, flat_len v3c_len] at this
    have lw := wkT_len l (2 ^ k) i
    refine iteI (fun hlt => ?_) (fun hge => ?_)
    · have hq := List.getElem?_eq_getElem (show i < l.length by omega)
      generalize l[i] = p at hq
      obtain ⟨c0, c1, c2⟩ := hc i p hq
      have ep := at3_eq hq
      refine ⟨sps_nb0 hb (by omega), by omega, hlt, _, c0, _, c1, _, c2, by omega, ?_⟩
      rintro x8 e8 x9 e9
      have hbt : x9 = bt (2 ^ k) i := by rw [e9, e8]; rfl
      refine iteI (fun h9 => ?_) (fun h9 => ?_)
      · rintro x10 e10
        refine ⟨by omega, ?_⟩
        rintro x11 e11
        rw [wrap_up i (by omega)] at e11
        subst e11
        refine ⟨⟨i + 1, by omega, ?_⟩, by simp only [upK, List.getElem?_cons_succ, List.getElem?_cons_zero]; omega⟩
        rw [e1, wkT_yes (by rw [← hbt]; exact h9), List.flatMap_append, ep]
        rfl
      · rintro x10 e10
        rw [wrap_up i (by omega)] at e10
        subst e10
        refine ⟨⟨i + 1, by omega, ?_⟩, by simp only [upK, List.getElem?_cons_succ, List.getElem?_cons_zero]; omega⟩
        rw [e1, List.append_nil, wkT_no (by rw [← hbt]; exact h9)]
    · obtain rfl : i = l.length := by omega
      refine ⟨_, fun β w' hw hm => span_row (l := wk l (2 ^ k)) hm.1 (by rw [e1, List.append_nil]; rfl) (wk_bd k2) (by unfold wk; omega), ?_⟩
      refine iteI (fun hs => ?_) (fun hs => ?_)
      · rintro x7 e7
        rw [wrap_up k (by omega)] at e7
        subst e7
        refine ⟨⟨k + 1, by omega, fun i hi => ?_, rfl⟩, by simp only [upK, List.getElem?_cons_succ, List.getElem?_cons_zero]; omega⟩
        by_cases hik : i = k
        · subst hik; exact hs
        · exact hko i (by omega)
      · have : decide (∀ i, i < l.length → span3B (wk l (2 ^ i)) = true) = false := decide_eq_false fun hall => hs (hall k (by omega))
        unfold safeV; rw [if_pos g, this]; rfl
  · obtain rfl : k = l.length := by omega
    refine ⟨by omega, sps_nb hb, ?_⟩
    unfold safeV; rw [if_pos g, decide_eq_true hko]
    congr 2
    simp
def polyB (l : List Sp) : Bool := decide (2 ≤ l.length ∧ l.length ≤ 9) && okL l && decide (sign (l.getD 0 (0, 0)).1 (l.getD 0 (0, 0)).2 > 0)
theorem ppoly {w : World} {v : Value} {l : List Sp} (h : Sps w v l) (hlen : l.length ≤ 1000) : Calls Try.prog 54 #[v] w (Vc.Ret (.bool (polyB l)) w) := by
  have h0 := h
  obtain ⟨b0, p0, x1, rfl, hb, hc⟩ := sps_form h
  refine vc_steer_polynomial p0 (l.length : Int) x1 b0 w _ ?_
  refine ⟨by omega, sps_nb hb, ?_⟩
  refine iteI (fun h1 => ⟨by omega, sps_nb hb, iteI (fun h2 => ?_) (fun h2 => ?_)⟩) (fun h1 => ?_)
  · refine ⟨_, fun w' hw => sall (sps_below hw h0) (by omega), ?_⟩
    refine iteI (fun h3 => ?_) (fun h3 => ?_)
    · have hq := List.getElem?_eq_getElem (show 0 < l.length by omega)
      obtain ⟨c0, c1⟩ := hc 0 _ hq
      refine ⟨sps_nb0 hb (by omega), by omega, _, c0, _, c1, _, fun w' hw => sign_any _ _ w', ?_⟩
      unfold polyB
      rw [decide_eq_true (show 2 ≤ l.length ∧ l.length ≤ 9 by omega), h3, List.getD_eq_getElem?_getD, hq]
      rfl
    · unfold polyB
      rw [show okL l = false by simpa using h3]
      simp
  · unfold polyB
    rw [decide_eq_false (show ¬ (2 ≤ l.length ∧ l.length ≤ 9) by omega)]
    rfl
  · unfold polyB
    rw [decide_eq_false (show ¬ (2 ≤ l.length ∧ l.length ≤ 9) by omega)]
    rfl
theorem pelem {w : World} {v : Value} {l : List Sp} (h : Sps w v l) (i : Int) (hi : 0 ≤ i) : Calls Try.prog 88 #[v, .int .i64 i] w (Vc.Ret (Vc.S (l.getD i.toNat (0, 0)).1 (l.getD i.toNat (0, 0)).2) w) := by
  obtain ⟨b0, p0, x1, rfl, hb, hc⟩ := sps_form h
  refine vc_steer_element p0 (l.length : Int) x1 i b0 w _ ?_
  refine ⟨by omega, sps_nb hb, ?_⟩
  refine iteI (fun h1 => ?_) (fun h1 => ?_)
  · rw [List.getD_eq_getElem?_getD, List.getElem?_eq_none (by omega)]; rfl
  · have hq := List.getElem?_eq_getElem (show i.toNat < l.length by omega)
    obtain ⟨c0, c1⟩ := hc _ _ hq
    refine ⟨sps_nb0 hb (by omega), by omega, by omega, _, c0, _, c1, ?_⟩
    rw [List.getD_eq_getElem?_getD, hq]; rfl
theorem Eff.mono {w : World} {f : FuncId} {args : Array Value} {v v' : Value} {x : Nat} {cs cs' : Array Value} {t : TypeId} (h : Calls Try.prog f args w (Vc.Eff v x cs t w)) (e : (v, cs) = (v', cs')) : Calls Try.prog f args w (Vc.Eff v' x cs' t w) := by
  cases e; exact h
theorem routhA {lo bk code n base : Nat} {t : TypeId} {w : World} {xs : List Value} (h : RowOk lo bk code n base xs 2 t w) (hx : xs = ([(4294967296, 4294967296), (12884901888, 12884901888), (8589934592, 8589934592)] : List Sp).flatMap spc) :
    Calls Try.prog 24 #[ownV bk code n base] w (Vc.Ret (.tuple #[.int .i64 (1), .int .i64 0]) w) := by
  have hs : Sps w (ownV bk code n base) [(4294967296, 4294967296), (12884901888, 12884901888), (8589934592, 8589934592)] := own_sps h hx
  obtain ⟨m, e1, e2, e3⟩ := row_at (k := 3) h (by rw [hx]; rfl) (by omega)
  rw [e1] at hs ⊢
  have c := fun j u hj => e3 j u (by rw [hx]; exact hj)
  refine vc_steer_Routh (bk, 0) (m : Int) w _ ?_
  refine ⟨true, fun w' hw => Ret.mono (ppoly (sps_below hw hs) (by decide)) (by rw [show polyB [(4294967296, 4294967296), (12884901888, 12884901888), (8589934592, 8589934592)] = true by decide +kernel]), ?_⟩
  refine iteI (fun _ => ?_) (fun h => absurd rfl h)
  refine ⟨_, c 0 _ rfl, _, c 1 _ rfl, _, c 2 _ rfl, _, c 3 _ rfl, _, c 4 _ rfl, _, c 5 _ rfl, ?_⟩
  refine ⟨1, fun w' hw => Ret.mono (sign_any _ _ w') (by rw [show sign 12884901888 12884901888 = 1 by decide +kernel]), ?_⟩
  refine iteI (fun _ => ?_) (fun h => absurd rfl h)
  refine ⟨25769803776, 25769803776, 0, fun β w' hw hm => Eff.mono (op_mul 0 (a := (12884901888, 12884901888)) (b := (8589934592, 8589934592)) (show SpI (12884901888, 12884901888) by unfold SpI I64; decide) (show SpI (8589934592, 8589934592) by unfold SpI I64; decide) w' _ hm.1.2) (by rw [show cop 0 (mul 12884901888 12884901888 8589934592 8589934592) = (25769803776, 25769803776, 0) by decide +kernel]), ?_⟩
  refine ⟨0, 0, fun β w' hw hm => Ret.mono (pelem (l := [(12884901888, 12884901888)]) (own_sps hm.1 rfl) 1 (by decide)) rfl, ?_⟩
  refine ⟨0, 0, 0, fun β w' hw hm => Eff.mono (op_mul 0 (a := (4294967296, 4294967296)) (b := (0, 0)) (show SpI (4294967296, 4294967296) by unfold SpI I64; decide) (show SpI (0, 0) by unfold SpI I64; decide) w' _ hm.1.2) (by rw [show cop 0 (mul 4294967296 4294967296 0 0) = (0, 0, 0) by decide +kernel]), ?_⟩
  refine ⟨25769803776, 25769803776, 0, fun β w' hw hm => Eff.mono (op_sub 0 (a := (25769803776, 25769803776)) (b := (0, 0)) (show SpI (25769803776, 25769803776) by unfold SpI I64; decide) (show SpI (0, 0) by unfold SpI I64; decide) w' _ hm.1.2) (by rw [show cop 0 (sub 25769803776 25769803776 0 0) = (25769803776, 25769803776, 0) by decide +kernel]), ?_⟩
  refine ⟨8589934592, 8589934592, 0, fun β w' hw hm => Eff.mono (op_div 0 (a := (25769803776, 25769803776)) (b := (12884901888, 12884901888)) (show SpI (25769803776, 25769803776) by unfold SpI I64; decide) (show SpI (12884901888, 12884901888) by unfold SpI I64; decide) w' _ hm.1.2) (by rw [show cop 0 (div 25769803776 25769803776 12884901888 12884901888) = (8589934592, 8589934592, 0) by decide +kernel]), ?_⟩
  refine iteI (fun _ => ?_) (fun h => absurd rfl h)
  refine ⟨1, fun w' hw => Ret.mono (sign_any _ _ w') (by rw [show sign 8589934592 8589934592 = 1 by decide +kernel]), ?_⟩
  exact iteI (fun _ => rfl) (fun h => absurd rfl h)
theorem routhB {lo bk code n base : Nat} {t : TypeId} {w : World} {xs : List Value} (h : RowOk lo bk code n base xs 2 t w) (hx : xs = ([(4294967296, 4294967296), ((-12884901888), (-12884901888)), (8589934592, 8589934592)] : List Sp).flatMap spc) :
    Calls Try.prog 24 #[ownV bk code n base] w (Vc.Ret (.tuple #[.int .i64 (-1), .int .i64 0]) w) := by
  have hs : Sps w (ownV bk code n base) [(4294967296, 4294967296), ((-12884901888), (-12884901888)), (8589934592, 8589934592)] := own_sps h hx
  obtain ⟨m, e1, e2, e3⟩ := row_at (k := 3) h (by rw [hx]; rfl) (by omega)
  rw [e1] at hs ⊢
  have c := fun j u hj => e3 j u (by rw [hx]; exact hj)
  refine vc_steer_Routh (bk, 0) (m : Int) w _ ?_
  refine ⟨true, fun w' hw => Ret.mono (ppoly (sps_below hw hs) (by decide)) (by rw [show polyB [(4294967296, 4294967296), ((-12884901888), (-12884901888)), (8589934592, 8589934592)] = true by decide +kernel]), ?_⟩
  refine iteI (fun _ => ?_) (fun h => absurd rfl h)
  refine ⟨_, c 0 _ rfl, _, c 1 _ rfl, _, c 2 _ rfl, _, c 3 _ rfl, _, c 4 _ rfl, _, c 5 _ rfl, ?_⟩
  refine ⟨-1, fun w' hw => Ret.mono (sign_any _ _ w') (by rw [show sign (-12884901888) (-12884901888) = -1 by decide +kernel]), ?_⟩
  exact iteI (fun h => absurd h (by decide)) (fun _ => rfl)
def six : List V3 := [(1, 0, 0), (-1, 0, 0), (0, 1, 0), (0, -1, 0), (0, 0, 1), (0, 0, -1)]
theorem alive_any (w : World) : Calls Try.prog 8 #[] w (Vc.Ret (.bool true) w) := by
  refine vc_ullagelaw05_alive w _ ?_
  refine ⟨0, 9223372036854775808, fun w' hw => Ret.mono (pplus 0 0 2147483648 4294967296 false (by omega) (by unfold I64; omega) (by unfold I64; omega) w') (by rw [show wplus 0 0 2147483648 4294967296 false = (0, 9223372036854775808) by decide +kernel]), ?_⟩
  refine ⟨0, 9223372036854775808, fun w' hw => Ret.mono (pplus 0 9223372036854775808 0 0 false (by omega) (by unfold I64; omega) (by unfold I64; omega) w') (by rw [show wplus 0 9223372036854775808 0 0 false = (0, 9223372036854775808) by decide +kernel]), ?_⟩
  refine ⟨0, 9223372036854775808, fun w' hw => Ret.mono (pplus 0 9223372036854775808 0 0 false (by omega) (by unfold I64; omega) (by unfold I64; omega) w') (by rw [show wplus 0 9223372036854775808 0 0 false = (0, 9223372036854775808) by decide +kernel]), ?_⟩
  refine ⟨0, 9223372036854775808, fun w' hw => Ret.mono (pplus 0 9223372036854775808 (-2147483648) 0 true (by omega) (by unfold I64; omega) (by unfold I64; omega) w') (by rw [show wplus 0 9223372036854775808 (-2147483648) 0 true = (0, 9223372036854775808) by decide +kernel]), ?_⟩
  refine ⟨0, 9223372036854775808, fun w' hw => Ret.mono (pplus 0 9223372036854775808 0 0 true (by omega) (by unfold I64; omega) (by unfold I64; omega) w') (by rw [show wplus 0 9223372036854775808 0 0 true = (0, 9223372036854775808) by decide +kernel]), ?_⟩
  refine ⟨2147483648, true, fun w' hw => Ret.mono (pdown 0 9223372036854775808 w') (by rw [show downV 0 9223372036854775808 = (2147483648, true) by decide +kernel]), ?_⟩
  refine iteI (fun _ => ?_) (fun h => absurd rfl h)
  refine ⟨0, 9223372036854775808, fun w' hw => Ret.mono (pplus 0 0 2147483648 4294967296 false (by omega) (by unfold I64; omega) (by unfold I64; omega) w') (by rw [show wplus 0 0 2147483648 4294967296 false = (0, 9223372036854775808) by decide +kernel]), ?_⟩
  refine ⟨0, 9223372036854775808, fun w' hw => Ret.mono (pplus 0 9223372036854775808 0 4294967296 false (by omega) (by unfold I64; omega) (by unfold I64; omega) w') (by rw [show wplus 0 9223372036854775808 0 4294967296 false = (0, 9223372036854775808) by decide +kernel]), ?_⟩
  refine ⟨0, 9223372036854775808, fun w' hw => Ret.mono (pplus 0 9223372036854775808 0 0 false (by omega) (by unfold I64; omega) (by unfold I64; omega) w') (by rw [show wplus 0 9223372036854775808 0 0 false = (0, 9223372036854775808) by decide +kernel]), ?_⟩
  refine ⟨0, 13835058055282163712, fun w' hw => Ret.mono (pplus 0 9223372036854775808 (-2147483648) 2147483648 true (by omega) (by unfold I64; omega) (by unfold I64; omega) w') (by rw [show wplus 0 9223372036854775808 (-2147483648) 2147483648 true = (0, 13835058055282163712) by decide +kernel]), ?_⟩
  refine ⟨0, 13835058055282163712, fun w' hw => Ret.mono (pplus 0 13835058055282163712 0 0 true (by omega) (by unfold I64; omega) (by unfold I64; omega) w') (by rw [show wplus 0 13835058055282163712 0 0 true = (0, 13835058055282163712) by decide +kernel]), ?_⟩
  refine ⟨3221225472, true, fun w' hw => Ret.mono (pdown 0 13835058055282163712 w') (by rw [show downV 0 13835058055282163712 = (3221225472, true) by decide +kernel]), ?_⟩
  refine iteI (fun _ => ?_) (fun h => absurd rfl h)
  refine ⟨0, 9223372036854775808, fun w' hw => Ret.mono (pplus 0 0 2147483648 4294967296 false (by omega) (by unfold I64; omega) (by unfold I64; omega) w') (by rw [show wplus 0 0 2147483648 4294967296 false = (0, 9223372036854775808) by decide +kernel]), ?_⟩
  refine ⟨0, 9223372036854775808, fun w' hw => Ret.mono (pplus 0 9223372036854775808 0 4294967296 false (by omega) (by unfold I64; omega) (by unfold I64; omega) w') (by rw [show wplus 0 9223372036854775808 0 4294967296 false = (0, 9223372036854775808) by decide +kernel]), ?_⟩
  refine ⟨0, 9223372036854775808, fun w' hw => Ret.mono (pplus 0 9223372036854775808 0 4294967296 false (by omega) (by unfold I64; omega) (by unfold I64; omega) w') (by rw [show wplus 0 9223372036854775808 0 4294967296 false = (0, 9223372036854775808) by decide +kernel]), ?_⟩
  refine ⟨0, 16140901064495857664, fun w' hw => Ret.mono (pplus 0 9223372036854775808 (-2147483648) 3221225472 true (by omega) (by unfold I64; omega) (by unfold I64; omega) w') (by rw [show wplus 0 9223372036854775808 (-2147483648) 3221225472 true = (0, 16140901064495857664) by decide +kernel]), ?_⟩
  refine ⟨0, 16140901064495857664, fun w' hw => Ret.mono (pplus 0 16140901064495857664 0 2147483648 true (by omega) (by unfold I64; omega) (by unfold I64; omega) w') (by rw [show wplus 0 16140901064495857664 0 2147483648 true = (0, 16140901064495857664) by decide +kernel]), ?_⟩
  refine ⟨3758096384, true, fun w' hw => Ret.mono (pdown 0 16140901064495857664 w') (by rw [show downV 0 16140901064495857664 = (3758096384, true) by decide +kernel]), ?_⟩
  refine iteI (fun _ => ?_) (fun h => absurd rfl h)
  refine ⟨1, 0, fun β w' hw hm => routhA hm.1 rfl, ?_⟩
  refine ⟨-1, 0, fun β w' hw hm => routhB hm.1 rfl, ?_⟩
  refine ⟨true, 0, fun β w' hw hm => Ret.mono (pSpans (l := six) (sl_heap hm.1.2 rfl rfl) 0 (by unfold I64; omega)) (by rw [show spansV six 0 = (true, 0) by decide +kernel]), ?_⟩
  refine iteI (fun _ => ?_) (fun h => absurd rfl h)
  refine iteI (fun _ => ?_) (fun h => absurd rfl h)
  refine iteI (fun _ => ?_) (fun h => absurd rfl h)
  refine iteI (fun _ => ?_) (fun h => absurd rfl h)
  refine iteI (fun _ => ?_) (fun h => absurd rfl h)
  refine iteI (fun _ => ?_) (fun h => absurd rfl h)
  exact iteI (fun _ => rfl) (fun h => absurd rfl h)
end Go.Proofs.Ythmggmpgkmmfiaa
set_option linter.unusedVariables false
set_option maxRecDepth 4000
namespace Go.Proofs.Ythmggmpgkmmfiaa
open Go Go.RowKit Go.ChangeShapes Go.WideShapes Go.ChangeAt Go.Joins Go.Deep Ul Vc
theorem wf64i {n : Int} (h : (Lit.int .i64 n).wf = true) : I64 n := by
  simp only [Lit.wf, Bool.and_eq_true, decide_eq_true_eq] at h
  exact h
section
variable {H : Type} {enc : TypeId × Value → H} {w : World} {base : Nat} {sp : Nat → Bool} {held : Bool}
end
end Go.Proofs.Ythmggmpgkmmfiaa
set_option linter.unusedVariables false
namespace Go.Proofs.Ythmggmpgkmmfiaa
open Go Go.RowKit Ul
def sq (a : V3) : Int := dot a a
def cmb (u d e : V3) : V3 := (dot u e * d.1 - dot u d * e.1, dot u e * d.2.1 - dot u d * e.2.1, dot u e * d.2.2 - dot u d * e.2.2)
theorem dot_cmb (v u d e : V3) : dot v (cmb u d e) = dot u e * dot v d - dot u d * dot v e := by unfold cmb; simp only [dot]; grind
theorem dot_comm (a b : V3) : dot a b = dot b a := by simp only [dot]; grind
theorem mul_self_nn (x : Int) : 0 ≤ x * x := by
  rcases Int.le_total 0 x with h | h
  · exact Int.mul_nonneg h h
  · have := Int.mul_nonneg (show 0 ≤ -x by omega) (show 0 ≤ -x by omega)
    have e : -x * -x = x * x := by grind
    omega
theorem sq_nonneg (a : V3) : 0 ≤ sq a := by
  have h1 := mul_self_nn a.1
  have h2 := mul_self_nn a.2.1
  have h3 := mul_self_nn a.2.2
  unfold sq dot; omega
theorem v3ext {a b : V3} (h1 : a.1 = b.1) (h2 : a.2.1 = b.2.1) (h3 : a.2.2 = b.2.2) : a = b := by
  obtain ⟨x, y, z⟩ := a; obtain ⟨x', y', z'⟩ := b; simp only at h1 h2 h3; subst h1 h2 h3; rfl
theorem sq_zero {a : V3} (h : sq a = 0) : a = (0, 0, 0) := by
  have h1 := mul_self_nn a.1
  have h2 := mul_self_nn a.2.1
  have h3 := mul_self_nn a.2.2
  unfold sq dot at h
  have e : ∀ x : Int, x * x = 0 → x = 0 := fun x hx => by rcases Int.mul_eq_zero.1 hx with h | h <;> exact h
  exact v3ext (e _ (by omega)) (e _ (by omega)) (e _ (by omega))
theorem sq_pos {a : V3} (h : a ≠ (0, 0, 0)) : 0 < sq a := by
  have := sq_nonneg a
  rcases Int.lt_or_eq_of_le this with h1 | h1
  · exact h1
  · exact absurd (sq_zero h1.symm) h
theorem sq_crs (a b : V3) : sq (crs a b) = sq a * sq b - dot a b * dot a b := by unfold sq; simp only [dot, crs]; grind
theorem dot_crs_l (a b : V3) : dot a (crs a b) = 0 := by simp only [dot, crs]; grind
theorem dot_crs_r (a b : V3) : dot b (crs a b) = 0 := by simp only [dot, crs]; grind
theorem dot_crs_neg (v a b : V3) : dot v (crs b a) = -dot v (crs a b) := by simp only [dot, crs]; grind
theorem crs_self (a : V3) : crs a a = (0, 0, 0) := by apply v3ext <;> (simp only [crs]; grind)
theorem dot_zero (v : V3) : dot (0, 0, 0) v = 0 := by simp [dot]
/-- Along a direction the first one that is met. -/
theorem first_met : ∀ {l : List (Int × Int)}, (∃ x ∈ l, 0 < x.2) → ∃ m ∈ l, 0 < m.2 ∧ ∀ x ∈ l, 0 < x.2 → m.1 * x.2 ≤ x.1 * m.2
  | [], h => by obtain ⟨x, hx, _⟩ := h; cases hx
  | a :: l, h => by
    by_cases ht : ∃ x ∈ l, 0 < x.2
    · obtain ⟨m, hm, m0, hmin⟩ := first_met ht
      by_cases ha : 0 < a.2 ∧ a.1 * m.2 ≤ m.1 * a.2
      · refine ⟨a, List.mem_cons_self .., ha.1, fun x hx x0 => ?_⟩
        rcases List.mem_cons.1 hx with rfl | hx
        · exact Int.le_refl _
        · have h1 := Int.mul_le_mul_of_nonneg_right ha.2 (Int.le_of_lt x0)
          have h2 := Int.mul_le_mul_of_nonneg_right (hmin x hx x0) (Int.le_of_lt ha.1)
          refine Int.le_of_mul_le_mul_right (a := m.2) ?_ m0
          have e1 : a.1 * x.2 * m.2 = a.1 * m.2 * x.2 := by grind
          have e2 : m.1 * a.2 * x.2 = m.1 * x.2 * a.2 := by grind
          have e3 : x.1 * a.2 * m.2 = x.1 * m.2 * a.2 := by grind
          omega
      · refine ⟨m, List.mem_cons_of_mem _ hm, m0, fun x hx x0 => ?_⟩
        rcases List.mem_cons.1 hx with rfl | hx
        · have : ¬ (x.1 * m.2 ≤ m.1 * x.2) := fun h => ha ⟨x0, h⟩
          omega
        · exact hmin x hx x0
    · obtain ⟨x, hx, x0⟩ := h
      rcases List.mem_cons.1 hx with rfl | hx
      · refine ⟨x, List.mem_cons_self .., x0, fun y hy y0 => ?_⟩
        rcases List.mem_cons.1 hy with rfl | hy
        · exact Int.le_refl _
        · exact absurd ⟨y, hy, y0⟩ ht
      · exact absurd ⟨x, hx, x0⟩ ht
theorem rot {L : List V3} {d e : V3} (hd : ∀ v ∈ L, dot v d ≤ 0) (he : ∃ v ∈ L, 0 < dot v e) : ∃ u ∈ L, 0 < dot u e ∧ ∀ v ∈ L, dot v (cmb u d e) ≤ 0 := by
  obtain ⟨m, hm, m0, hmin⟩ := first_met (l := L.map fun v => (-dot v d, dot v e)) (by
    obtain ⟨v, hv, h⟩ := he
    exact ⟨_, List.mem_map_of_mem hv, h⟩)
  obtain ⟨u, hu, rfl⟩ := List.mem_map.1 hm
  refine ⟨u, hu, m0, fun v hv => ?_⟩
  rw [dot_cmb]
  simp only at m0
  have hdu := hd u hu
  have hdv := hd v hv
  by_cases h : 0 < dot v e
  · have := hmin _ (List.mem_map_of_mem (f := fun v => (-dot v d, dot v e)) hv) h
    simp only at this
    have e1 : -dot u d * dot v e = -(dot u d * dot v e) := by grind
    have e2 : -dot v d * dot u e = -(dot u e * dot v d) := by grind
    omega
  · have h1 := Int.mul_nonpos_of_nonneg_of_nonpos (Int.le_of_lt m0) hdv
    have h2 := Int.mul_nonneg (show 0 ≤ -dot u d by omega) (show 0 ≤ -dot v e by omega)
    have e1 : -dot u d * -dot v e = dot u d * dot v e := by grind
    omega
/-- Both sides of each plane that two of some vectors make. -/
def Both (L : List V3) : Prop := ∀ p ∈ L, ∀ q ∈ L, crs p q ≠ (0, 0, 0) → (∃ v ∈ L, 0 < dot v (crs p q)) ∧ ∃ v ∈ L, dot v (crs p q) < 0
theorem par_crs {a p q : V3} (ha : a ≠ (0, 0, 0)) (hp : crs p a = (0, 0, 0)) (hq : crs q a = (0, 0, 0)) : crs p q = (0, 0, 0) := by
  have h := sq_pos ha
  have c1 := congrArg (·.1) hp
  have c2 := congrArg (·.2.1) hp
  have c3 := congrArg (·.2.2) hp
  have d1 := congrArg (·.1) hq
  have d2 := congrArg (·.2.1) hq
  have d3 := congrArg (·.2.2) hq
  simp only [crs] at c1 c2 c3 d1 d2 d3
  have key : ∀ x : Int, sq a * x = 0 → x = 0 := fun x hx => by
    rcases Int.mul_eq_zero.1 hx with h' | h'
    · omega
    · exact h'
  apply v3ext <;> apply key <;> (unfold sq; simp only [dot, crs]; grind)
theorem to_par {d n v : V3} (h : crs d n = (0, 0, 0)) : sq d * dot v n = dot d n * dot v d := by
  have c1 := congrArg (·.1) h
  have c2 := congrArg (·.2.1) h
  have c3 := congrArg (·.2.2) h
  simp only [crs] at c1 c2 c3
  unfold sq; simp only [dot]; grind
theorem crs_crs_perp {d a b : V3} (h1 : dot a d = 0) (h2 : dot b d = 0) : crs d (crs a b) = (0, 0, 0) := by
  simp only [dot] at h1 h2
  apply v3ext <;> (simp only [crs]; grind)
/-- Some vectors that have both sides of each plane, and make one, have one on the side of each direction. -/
theorem span_dir {L : List V3} (hb : Both L) {p q : V3} (hp : p ∈ L) (hq : q ∈ L) (hn : crs p q ≠ (0, 0, 0)) {d : V3} (hd0 : d ≠ (0, 0, 0)) : ∃ v ∈ L, 0 < dot v d := by
  refine Decidable.byContradiction fun hno => ?_
  have hd : ∀ v ∈ L, dot v d ≤ 0 := fun v hv => by
    refine Decidable.byContradiction fun h => hno ⟨v, hv, by omega⟩
  -- one that is not along d
  obtain ⟨a, ha, had⟩ : ∃ a ∈ L, crs a d ≠ (0, 0, 0) := by
    by_cases h1 : crs p d = (0, 0, 0)
    · by_cases h2 : crs q d = (0, 0, 0)
      · exact absurd (par_crs hd0 h1 h2) hn
      · exact ⟨q, hq, h2⟩
    · exact ⟨p, hp, h1⟩
  have ha0 : a ≠ (0, 0, 0) := fun h => had (by rw [h]; apply v3ext <;> simp [crs])
  obtain ⟨a1, ha1, h1pos, hd1⟩ := rot hd ⟨a, ha, (sq_pos ha0 : 0 < dot a a)⟩
  have hd10 : cmb a1 d a ≠ (0, 0, 0) := fun h => by
    have : crs a (cmb a1 d a) = (0, 0, 0) := by rw [h]; apply v3ext <;> simp [crs]
    have c1 := congrArg (·.1) this
    have c2 := congrArg (·.2.1) this
    have c3 := congrArg (·.2.2) this
    apply had
    have key : ∀ x : Int, dot a1 a * x = 0 → x = 0 := fun x hx => by
      rcases Int.mul_eq_zero.1 hx with h' | h'
      · omega
      · exact h'
    simp only [crs, cmb] at c1 c2 c3
    generalize dot a1 a = k at *
    generalize dot a1 d = k2 at *
    clear this h had hd1 hno hd hb
    apply v3ext <;> apply key <;> (simp only [crs]; grind)
  have hz1 : dot a1 (cmb a1 d a) = 0 := by rw [dot_cmb]; grind
  have ha10 : a1 ≠ (0, 0, 0) := fun h => by rw [h, dot_zero] at h1pos; omega
  generalize cmb a1 d a = d1 at hd1 hd10 hz1
  -- turn about a1
  have he0 : crs a1 d1 ≠ (0, 0, 0) := fun h => by
    have hs := sq_crs a1 d1
    rw [h, hz1] at hs
    have s1 := Int.mul_pos (sq_pos ha10) (sq_pos hd10)
    have : sq ((0, 0, 0) : V3) = 0 := by simp [sq, dot]
    omega
  have turn : ∀ e : V3, dot a1 e = 0 → dot e d1 = 0 → (∃ v ∈ L, 0 < dot v e) → False := by
    intro e hae hed hv
    obtain ⟨u, hu, hupos, hd2⟩ := rot hd1 hv
    have k1 : dot a1 (cmb u d1 e) = 0 := by rw [dot_cmb, hz1, hae]; simp
    have k2 : dot u (cmb u d1 e) = 0 := by rw [dot_cmb]; grind
    have hne : crs a1 u ≠ (0, 0, 0) := fun h => by
      have := to_par (v := e) h
      rw [dot_comm e u, dot_comm e a1, hae] at this
      have s1 := Int.mul_pos (sq_pos ha10) hupos
      omega
    have hpar := crs_crs_perp k1 k2
    obtain ⟨⟨v, hv, hv1⟩, v', hv', hv2⟩ := hb a1 ha1 u hu hne
    have q1 := to_par (v := v) hpar
    have q2 := to_par (v := v') hpar
    have q3 := hd2 v hv
    have q4 := hd2 v' hv'
    have q5 := sq_nonneg (cmb u d1 e)
    rcases Int.lt_or_eq_of_le q5 with q6 | q6
    · have r1 := Int.mul_pos q6 hv1
      have r2 := Int.mul_neg_of_pos_of_neg q6 hv2
      generalize dot (cmb u d1 e) (crs a1 u) = c at *
      by_cases hc : 0 ≤ c
      · have := Int.mul_nonpos_of_nonneg_of_nonpos hc q3
        omega
      · have := Int.mul_nonneg (show 0 ≤ -c by omega) (show 0 ≤ -dot v' (cmb u d1 e) by omega)
        have e1 : -c * -dot v' (cmb u d1 e) = c * dot v' (cmb u d1 e) := by grind
        omega
    · have hz := sq_zero q6.symm
      have c1 := congrArg (·.1) hz
      have c2 := congrArg (·.2.1) hz
      have c3 := congrArg (·.2.2) hz
      simp only [cmb] at c1 c2 c3
      have t : dot u e * sq d1 = dot u d1 * dot e d1 := by unfold sq; generalize dot u e = x at *; generalize dot u d1 = y at *; simp only [dot]; grind
      have s1 := Int.mul_pos hupos (sq_pos hd10)
      rw [hed] at t
      omega
  have all0 : ∀ v ∈ L, dot v (crs a1 d1) = 0 := fun v hv => by
    have h1 : ¬ 0 < dot v (crs a1 d1) := fun h => turn _ (dot_crs_l a1 d1) (by rw [dot_comm]; exact dot_crs_r a1 d1) ⟨v, hv, h⟩
    have h2 : ¬ dot v (crs a1 d1) < 0 := fun h => turn (crs d1 a1) (dot_crs_r d1 a1) (by rw [dot_comm]; exact dot_crs_l d1 a1) ⟨v, hv, by rw [dot_crs_neg]; omega⟩
    omega
  have hpar := crs_crs_perp (all0 p hp) (all0 q hq)
  obtain ⟨⟨v, hv, hv1⟩, _⟩ := hb p hp q hq hn
  have := to_par (v := v) hpar
  rw [all0 v hv] at this
  have s1 := Int.mul_pos (sq_pos he0) hv1
  omega
end Go.Proofs.Ythmggmpgkmmfiaa
set_option linter.unusedVariables false
set_option maxRecDepth 4000
namespace Go.Proofs.Ythmggmpgkmmfiaa
open Go Go.RowKit Ul Vc
attribute [local irreducible] Go.Calls
theorem at3_of_mem {l : List V3} {p : V3} (h : p ∈ l) : ∃ i, i < l.length ∧ at3 l i = p := by
  obtain ⟨i, hi, e⟩ := List.getElem_of_mem h
  exact ⟨i, hi, by rw [at3_eq (List.getElem?_eq_getElem hi)]; exact e⟩
theorem both_of {L : List V3} (h : Span3 L) : Both L ∧ ∃ p ∈ L, ∃ q ∈ L, crs p q ≠ (0, 0, 0) := by
  obtain ⟨h1, i, hi, j, hj, hn⟩ := h
  refine ⟨fun p hp q hq hn => ?_, _, at3_mem hi, _, at3_mem (by omega), hn⟩
  obtain ⟨i, hi, rfl⟩ := at3_of_mem hp
  obtain ⟨j, hj, rfl⟩ := at3_of_mem hq
  rcases Nat.lt_trichotomy j i with h | h | h
  · obtain ⟨a, b⟩ := h1 i hi j h hn
    exact ⟨of_decide_eq_true a, of_decide_eq_true b⟩
  · subst h; exact absurd (crs_self _) hn
  · have hn' : crs (at3 L j) (at3 L i) ≠ (0, 0, 0) := fun hz => hn (by
      have c1 := congrArg (·.1) hz
      have c2 := congrArg (·.2.1) hz
      have c3 := congrArg (·.2.2) hz
      simp only [crs] at c1 c2 c3
      apply v3ext <;> (simp only [crs]; grind))
    obtain ⟨a, b⟩ := h1 j hj i h hn'
    obtain ⟨v, hv, ha⟩ := (of_decide_eq_true a : ∃ v ∈ L, 0 < dot v (crs (at3 L j) (at3 L i)))
    obtain ⟨u, hu, hb⟩ := (of_decide_eq_true b : ∃ v ∈ L, dot v (crs (at3 L j) (at3 L i)) < 0)
    rw [dot_crs_neg] at ha hb
    exact ⟨⟨u, hu, by omega⟩, v, hv, by omega⟩
theorem crs_swap_ne {p q : V3} (hn : crs p q ≠ (0, 0, 0)) : crs q p ≠ (0, 0, 0) := fun hz => hn (by
  have c1 := congrArg (·.1) hz
  have c2 := congrArg (·.2.1) hz
  have c3 := congrArg (·.2.2) hz
  simp only [crs] at c1 c2 c3
  apply v3ext <;> (simp only [crs]; grind))
theorem span_up {L M : List V3} (hs : ∀ v ∈ L, v ∈ M) (h : Span3 L) : Span3 M := by
  obtain ⟨hb, p, hp, q, hq, hn⟩ := both_of h
  have hB : ∀ a b : V3, crs a b ≠ (0, 0, 0) → (∃ v ∈ M, 0 < dot v (crs a b)) ∧ ∃ v ∈ M, dot v (crs a b) < 0 := fun a b hab => by
    obtain ⟨v, hv, h1⟩ := span_dir hb hp hq hn hab
    obtain ⟨u, hu, h2⟩ := span_dir hb hp hq hn (crs_swap_ne hab)
    rw [dot_crs_neg] at h2
    exact ⟨⟨v, hs v hv, h1⟩, u, hs u hu, by omega⟩
  refine ⟨fun i hi j hj hij => ⟨decide_eq_true (hB _ _ hij).1, decide_eq_true (hB _ _ hij).2⟩, ?_⟩
  obtain ⟨i, hi, rfl⟩ := at3_of_mem (hs p hp)
  obtain ⟨j, hj, rfl⟩ := at3_of_mem (hs q hq)
  rcases Nat.lt_trichotomy j i with h | h | h
  · exact ⟨i, hi, j, h, hn⟩
  · subst h; exact absurd (crs_self _) hn
  · exact ⟨j, hj, i, h, crs_swap_ne hn⟩
theorem bt_zero (i : Nat) : bt 0 i = 0 := by
  unfold bt
  rw [Int.zero_fdiv]
  decide
theorem wk_sub (l : List V3) (f : Int) : ∀ v ∈ wk l f, v ∈ wk l 0 := by
  intro v hv
  obtain ⟨i, hi, _, h⟩ := wkT_mem.1 hv
  exact wkT_mem.2 ⟨i, hi, bt_zero i, h⟩
theorem span_all {l : List V3} {f : Int} (h : span3B (wk l f) = true) : span3B (wk l 0) = true := span3B_iff.2 (span_up (wk_sub l f) (span3B_iff.1 h))
theorem ck_zero {l : List V3} {f : Int} (h : ckV l f = 0) {g : Int} (h0 : 0 ≤ g) (h1 : g < 2 ^ l.length) : ckV l g = 0 := by
  obtain ⟨k1, k2, _, _⟩ := ck_ok h
  unfold ckV
  rw [if_neg (by omega), if_pos k2, if_pos ⟨h0, h1⟩]
theorem walk_steerTurns {w : World} {v : Value} {l : List V3} (h : V3s w v l) (f : Int) (hf : I64 f) (d : V3) (hd : V3B 32768 d) (gone : Int) (hg : 0 ≤ gone ∧ gone ≤ 255) :
    Calls Try.prog 3 #[v, .int .i64 f, .agg #[.int .i16 d.1, .int .i16 d.2.1, .int .i16 d.2.2], .int .u8 gone] w (Vc.Ret (.bool true) w) := by
  have h0 := h
  obtain ⟨b0, p0, x1, rfl, hb, hc⟩ := v3_form h
  have nb := sps_nb hb
  refine vc_ullagelaw05_SteerTurns p0 (l.length : Int) x1 f d.1 d.2.1 d.2.2 gone b0 w _ ?_
  refine ⟨true, fun w' hw => alive_any w', by omega, nb, ?_⟩
  refine iteI (fun _ => rfl) (fun h8 => iteI (fun _ => ?_) (fun h => absurd rfl h))
  refine ⟨_, _, fun w' hw => pSpans (sl_below hw h0) f hf, ?_⟩
  refine iteI (fun he => ?_) (fun he => ?_)
  rotate_left
  · have hno : ¬ ckV l f = 0 := fun hk => he (by unfold spansV; rw [if_pos hk])
    have : spansV l f = (false, ckV l f) := by unfold spansV; rw [if_neg hno]
    rw [this]
    exact iteI (fun _ => rfl) (fun h => absurd rfl h)
  have hck : ckV l f = 0 := by
    refine Decidable.byContradiction fun hk => ?_
    unfold spansV at he
    rw [if_neg hk] at he
    exact hk he
  have hs : spansV l f = (span3B (wk l f), 0) := by unfold spansV; rw [if_pos hck]
  obtain ⟨k1, k2, k3, k4⟩ := ck_ok hck
  have hck0 : ckV l 0 = 0 := ck_zero hck (by omega) (pow_pos2 _)
  have hs0 : spansV l 0 = (span3B (wk l 0), 0) := by unfold spansV; rw [if_pos hck0]
  have hsf : safeV l = (decide (∀ i, i < l.length → span3B (wk l (2 ^ i)) = true) && decide (0 < l.length), 0) := by unfold safeV; rw [if_pos hck0]
  rw [hs]
  refine ⟨by omega, nb, ?_⟩
  refine ⟨fun y => ∃ (i : Nat) (b : Bool), i ≤ l.length ∧ (b = true ↔ d = (0, 0, 0) ∨ ∃ j, j < i ∧ bt f j = 0 ∧ 0 < dot (at3 l j) d) ∧ y = [.b b, .i (i : Int)], upK 1 (l.length : Int), ⟨0, _, by omega, ?_, rfl⟩, ?_⟩
  · obtain ⟨a, b, c⟩ := d
    simp [Bool.and_eq_true]
  rintro b3 x8 ⟨i, b, hi, hbi, hy⟩
  simp only [List.cons.injEq, Vc.Vl.i.injEq, Vc.Vl.b.injEq, and_true] at hy
  obtain ⟨rfl, rfl⟩ := hy
  refine iteI (fun hlt => ?_) (fun hge => ?_)
  · have hq := List.getElem?_eq_getElem (show i < l.length by omega)
    have hmem : l[i] ∈ l := List.getElem_mem (by omega)
    generalize l[i] = p at hq hmem
    obtain ⟨c0, c1, c2⟩ := hc i p hq
    have ep := at3_eq hq
    have hp := k2 p hmem
    have nb0 := sps_nb0 hb (show 0 < l.length by omega)
    have m1 := mul_bd hp.1 hd.1
    have m2 := mul_bd hp.2.1 hd.2.1
    have m3 := mul_bd hp.2.2 hd.2.2
    have bd := hd
    unfold V3B Bd at bd
    unfold Bd at m1 m2 m3
    refine ⟨nb0, by omega, hlt, _, c0, ?_⟩
    rintro x10 e10
    rw [Vc.i64_id (by omega)] at e10
    subst e10
    rintro x11 e11
    rw [Vc.i64_id (by omega)] at e11
    subst e11
    rintro x12 e12
    rw [Int.zero_add, Vc.i64_id (by omega)] at e12
    subst e12
    refine ⟨nb0, by omega, hlt, _, c1, ?_⟩
    rintro x14 e14
    rw [Vc.i64_id (by omega)] at e14
    subst e14
    rintro x15 e15
    rw [Vc.i64_id (by omega)] at e15
    subst e15
    rintro x16 e16
    rw [Vc.i64_id (by omega)] at e16
    subst e16
    refine ⟨nb0, by omega, hlt, _, c2, ?_⟩
    rintro x18 e18
    rw [Vc.i64_id (by omega)] at e18
    subst e18
    rintro x19 e19
    rw [Vc.i64_id (by omega)] at e19
    subst e19
    rintro x20 e20
    rw [Vc.i64_id (by omega)] at e20
    have ed : x20 = dot (at3 l i) d := by rw [e20, ep]; rfl
    clear e20
    subst ed
    have next : ∀ (c : Bool) (x : Int), x = IntKind.i64.wrap ((i : Int) + 1) → (c = true ↔ d = (0, 0, 0) ∨ ∃ j, j < i + 1 ∧ bt f j = 0 ∧ 0 < dot (at3 l j) d) → (∃ (i : Nat) (b : Bool), i ≤ l.length ∧ (b = true ↔ d = (0, 0, 0) ∨ ∃ j, j < i ∧ bt f j = 0 ∧ 0 < dot (at3 l j) d) ∧ [Vc.Vl.b c, .i x] = [.b b, .i (i : Int)]) ∧
        upK 1 (l.length : Int) [.b c, .i x] < upK 1 (l.length : Int) [.b b3, .i (i : Int)] := fun c x ex hcc => by
      rw [wrap_up i (by omega)] at ex
      subst ex
      exact ⟨⟨i + 1, c, by omega, hcc, rfl⟩, by simp only [upK, List.getElem?_cons_succ, List.getElem?_cons_zero]; omega⟩
    have old : ∀ {j : Nat}, j < i + 1 → j = i ∨ j < i := fun h => by omega
    refine iteI (fun g => ?_) (fun g => ?_)
    · rintro x21 e21
      refine next _ _ e21 ⟨fun _ => ?_, fun _ => rfl⟩
      rcases hbi.1 g with h | ⟨j, hj, h⟩
      · exact .inl h
      · exact .inr ⟨j, by omega, h⟩
    · rintro x21 e21
      rw [IntKind.wrap_u64, Int.emod_eq_of_lt (by omega) (by omega)] at e21
      subst e21
      refine ⟨by omega, ?_⟩
      rintro x22 e22 x23 e23
      have hbt : x23 = bt f i := by rw [e23, e22]; rfl
      subst hbt
      have g' : ¬ (d = (0, 0, 0) ∨ ∃ j, j < i ∧ bt f j = 0 ∧ 0 < dot (at3 l j) d) := fun h => g (hbi.2 h)
      refine iteI (fun hz => ?_) (fun hz => ?_)
      · rintro x24 e24
        refine next _ _ e24 ?_
        rw [decide_eq_true_eq]
        constructor
        · intro h; exact .inr ⟨i, by omega, hz, h⟩
        · rintro (h | ⟨j, hj, h1, h2⟩)
          · exact absurd (.inl h) g'
          · rcases old hj with rfl | hj
            · exact h2
            · exact absurd (.inr ⟨j, hj, h1, h2⟩) g'
      · rintro x24 e24
        refine next _ _ e24 ⟨fun h => (by cases h), ?_⟩
        rintro (h | ⟨j, hj, h1, h2⟩)
        · exact absurd (.inl h) g'
        · rcases old hj with rfl | hj
          · exact absurd h1 hz
          · exact absurd (.inr ⟨j, hj, h1, h2⟩) g'
  obtain rfl : i = l.length := by omega
  refine ⟨_, _, fun w' hw => pSpans (sl_below hw h0) 0 (by unfold I64; omega), ?_⟩
  refine ⟨_, _, fun w' hw => pSafe (sl_below hw h0), ?_⟩
  rw [hs0, hsf]
  generalize hS : (decide (∀ i, i < l.length → span3B (wk l (2 ^ i)) = true) && decide (0 < l.length)) = safe
  have K2 : span3B (wk l f) = true → b3 = true ∧ span3B (wk l 0) = true := fun h => by
    refine ⟨hbi.2 ?_, span_all h⟩
    by_cases hd0 : d = (0, 0, 0)
    · exact .inl hd0
    · obtain ⟨hb', p, hp, q, hq, hn⟩ := both_of (span3B_iff.1 h)
      obtain ⟨v, hv, hpos⟩ := span_dir hb' hp hq hn hd0
      obtain ⟨j, hj, h1, rfl⟩ := wkT_mem.1 hv
      exact .inr ⟨j, hj, h1, hpos⟩
  have K5 : safe = true → (∀ i, i < l.length → span3B (wk l (2 ^ i)) = true) ∧ 0 < l.length := fun h => by
    rw [← hS, Bool.and_eq_true, decide_eq_true_eq, decide_eq_true_eq] at h
    exact h
  have K3 : safe = true → span3B (wk l 0) = true := fun h => span_all ((K5 h).1 0 (K5 h).2)
  have K4 : (l.length : Int) = 0 → span3B (wk l f) = false ∧ safe = false := fun h => by
    constructor
    · rw [Bool.eq_false_iff, ne_eq, span3B_iff]
      rintro ⟨_, i, hi, _⟩
      have := wkT_len l f l.length
      unfold wk at hi
      omega
    · rw [Bool.eq_false_iff, ne_eq]
      intro h'
      have := (K5 h').2
      omega
  have tail : (0 ≤ (l.length : Int)) ∧ ((¬ (b0 = true)) ∨ ((l.length : Int) = 0)) ∧ (((l.length : Int) = 0 → (((true = true) → (((span3B (wk l f) = true) → ((Value.bool false : Value) = .bool true)) ∧ (¬ (span3B (wk l f) = true) → ((.bool (!safe) : Value) = .bool true)))) ∧ (¬ (true = true) → ((.bool false : Value) = .bool true)))) ∧ (¬ (l.length : Int) = 0 → (
      ∀ x11 : Int, x11 = IntKind.i64.wrap (gone) → (0 ≤ (l.length : Int)) ∧ ((¬ (b0 = true)) ∨ ((l.length : Int) = 0)) ∧ ((l.length : Int) ≠ 0) ∧
      ∀ x12 : Int, x12 = Int.tmod x11 (l.length : Int) → ∀ x13 : Int, x13 = IntKind.u64.wrap (x12) → (0 ≤ x13) ∧ ∀ x14 : Int, x14 = IntKind.i64.wrap (1 * 2 ^ (Nat.min (Int.toNat x13) 64)) →
      ∃ (b6 : Bool), ∃ (x15 : Int), (∀ w' : World, Below w.heap.size w w' → Calls Try.prog 9 #[(if b0 = true then .slice none 0 0 else .slice (some (Vc.qad p0 (Int.toNat (l.length : Int)) (Int.toNat x1))) (Int.toNat (l.length : Int)) (Int.toNat x1) : Value), .int .i64 x14] w' (Vc.Ret (.tuple #[.bool b6, .int .i64 x15]) w')) ∧
      (((true = true) → (((x15 = 0) → (((safe = true) → ((.bool b6 : Value) = .bool true)) ∧ (¬ (safe = true) → ((.bool true : Value) = .bool true)))) ∧ (¬ (x15 = 0) → ((.bool false : Value) = .bool true)))) ∧ (¬ (true = true) → ((.bool false : Value) = .bool true)))))) := by
    refine ⟨by omega, nb, fun hz => ⟨fun _ => ⟨fun h => (by rw [(K4 hz).1] at h; cases h), fun _ => (by rw [(K4 hz).2]; rfl)⟩, fun h => absurd rfl h⟩, fun hz => ?_⟩
    rintro x11 e11
    rw [Vc.i64_id (by omega)] at e11
    subst e11
    refine ⟨by omega, nb, hz, ?_⟩
    rintro x12 e12
    obtain ⟨g, rfl⟩ := Int.eq_ofNat_of_zero_le hg.1
    have hk : g % l.length < l.length := Nat.mod_lt _ (by omega)
    rw [← Int.ofNat_tmod] at e12
    subst e12
    rintro x13 e13
    rw [IntKind.wrap_u64, Int.emod_eq_of_lt (by omega) (by omega)] at e13
    subst e13
    refine ⟨by omega, ?_⟩
    rintro x14 e14
    have hp := pow_le12 (n := g % l.length) (by omega)
    have hp0 := pow_pos2 (g % l.length)
    rw [show Nat.min (Int.toNat ((g % l.length : Nat) : Int)) 64 = g % l.length from Nat.min_eq_left (by omega), Int.one_mul, Vc.i64_id (by omega)] at e14
    subst e14
    have hckk : ckV l (2 ^ (g % l.length)) = 0 := ck_zero hck (by omega) (Int.pow_lt_pow_of_lt (by omega) hk)
    have hsk : spansV l (2 ^ (g % l.length)) = (span3B (wk l (2 ^ (g % l.length))), 0) := by unfold spansV; rw [if_pos hckk]
    refine ⟨_, _, fun w' hw => pSpans (sl_below hw h0) _ (by unfold I64; omega), ?_⟩
    rw [hsk]
    exact ⟨fun _ => ⟨fun _ => ⟨fun hs5 => by rw [(K5 hs5).1 _ hk], fun _ => rfl⟩, fun h => absurd rfl h⟩, fun h => absurd rfl h⟩
  refine iteI (fun _ => ?_) (fun h => absurd rfl h)
  refine iteI (fun _ => ?_) (fun h => absurd rfl h)
  refine iteI (fun g2 => ?_) (fun g2 => ?_)
  · exact iteI (fun g3 => iteI (fun g4 => iteI (fun g5 => iteI (fun _ => tail) (fun h => absurd g4 h)) (fun g5 => tail)) (fun g4 => absurd (K2 g2).2 g4)) (fun g3 => absurd (K2 g2).1 g3)
  · exact iteI (fun g5 => iteI (fun _ => tail) (fun g4 => absurd (K3 g5) g4)) (fun g5 => tail)
end Go.Proofs.Ythmggmpgkmmfiaa
set_option linter.unusedVariables false
set_option maxRecDepth 4000
namespace Go.Proofs.Ythmggmpgkmmfiaa
open Go Go.RowKit Go.ChangeShapes Go.WideShapes Go.ChangeAt Go.Joins Go.Deep Ul Vc
theorem wf8 {n : Int} (h : (Lit.int .u8 n).wf = true) : 0 ≤ n ∧ n ≤ 255 := by
  simp only [Lit.wf, Bool.and_eq_true, decide_eq_true_eq] at h
  exact h
theorem wf16i {n : Int} (h : (Lit.int .i16 n).wf = true) : Bd 32768 n := by
  simp only [Lit.wf, Bool.and_eq_true, decide_eq_true_eq] at h
  have h1 : -32768 ≤ n := h.1
  have h2 : n ≤ 32767 := h.2
  unfold Bd; omega
theorem okWide_arr {P : Program} {w : World} {r : Reach} {base n : Nat} {t e : TypeId} {v : Value} (ht : P.underlying t = some (.array n e)) (h : Value.okWide P w r base t v) : ∃ cs, v = .agg cs := by
  simp only [Value.okWide, ht] at h
  obtain ⟨cs, h1, _⟩ := h
  exact ⟨cs, h1⟩
theorem list_of {α : Type} {R : Nat → α → Prop} : ∀ (n : Nat), (∀ i, i < n → ∃ a, R i a) → ∃ l : List α, l.length = n ∧ ∀ i a, l[i]? = some a → R i a
  | 0, _ => ⟨[], rfl, fun i a h => by simp at h⟩
  | n + 1, h => by
    obtain ⟨l, h1, h2⟩ := list_of n fun i hi => h i (by omega)
    obtain ⟨a, ha⟩ := h n (by omega)
    refine ⟨l ++ [a], by simp [h1], fun i b hb => ?_⟩
    by_cases hi : i < l.length
    · rw [List.getElem?_append_left hi] at hb
      exact h2 i b hb
    · rw [List.getElem?_append_right (by omega)] at hb
      have : i - l.length = 0 := by
        have := (List.getElem?_eq_some_iff.1 hb).1
        simp at this; omega
      rw [this] at hb
      simp at hb
      subst hb
      have : i = n := by omega
      subst this
      exact ha
section
variable {H : Type} {enc : TypeId × Value → H} {P : Program} {w : World} {base : Nat} {sp : Nat → Bool} {held : Bool}
theorem sl_of {α : Type} {f : α → List Value} {G : α → Prop} {c : Nat} {t e : TypeId} (hsp : ∀ b, sp b = true) (ht : P.underlying t = some (.slice e)) (hc : P.cellsOf e = c) (c0 : 0 < c) (hf : ∀ a, (f a).length = c)
    (hE : ∀ fuel cs x, DataW.trod enc P w base sp held fuel e cs = some x → ∃ a, cs = f a ∧ G a) {v : Value} {fuel : Nat} {x : DataW H × List MemPlace} (hx : DataW.trod enc P w base sp held fuel t [v] = some x) :
    ∃ l : List α, SlAt w v c (l.flatMap f) ∧ ∀ a ∈ l, G a := by
  rcases DataW.trod_slice ht hx with ⟨h1, _⟩ | ⟨a, len, cap, elems, rest, n, _, h1, _, hb, hl, hm, hlen, hel, hspare, _⟩
  · simp only [List.cons.injEq, and_true] at h1
    exact ⟨[], .inl ⟨h1, rfl⟩, fun a ha => by cases ha⟩
  · simp only [List.cons.injEq, and_true] at h1
    subst h1
    obtain ⟨b, o, spot⟩ := a
    by_cases hcap : cap = 0
    · obtain rfl : len = 0 := by omega
      subst hcap
      exact ⟨[], .inr (.inl ⟨_, rfl, rfl⟩), fun a ha => by cases ha⟩
    have hs : spot = none := by
      have some_cell : ∀ k cs, k * c = k * c → w.cells? base ((⟨b, o, spot⟩ : Addr).add (k * c)) c = some cs → k = 0 → spot = none := fun k cs _ h hk => by
        subst hk
        have h2 := (World.cells?_some h).2
        have h3 := h2.2 0 c0
        rw [List.getElem?_eq_getElem (by omega)] at h3
        simpa [Addr.add] using World.cell?_spot h3
      by_cases hlen0 : len = 0
      · obtain ⟨hr1, hr2⟩ := hspare (hsp b)
        have h2 := hr2 0 (by omega)
        rw [List.getElem?_eq_getElem (by omega), hc, Option.bind_eq_some_iff] at h2
        obtain ⟨cs, h3, _⟩ := h2
        rw [hlen0] at h3
        exact some_cell 0 cs rfl (by simpa using h3) rfl
      · have h2 := hel 0 (by omega)
        rw [List.getElem?_eq_getElem (by omega), hc, Option.bind_eq_some_iff] at h2
        obtain ⟨cs, h3, _⟩ := h2
        exact some_cell 0 cs rfl h3 rfl
    subst hs
    have each : ∀ i, i < len → ∃ y : α, G y ∧ ∀ j, j < c → w.cell? ⟨b, o + (i * c + j), none⟩ = (f y)[j]? := fun i hi => by
      have h2 := hel i hi
      rw [List.getElem?_eq_getElem (by omega), hc, Option.bind_eq_some_iff] at h2
      obtain ⟨cs, h3, h4⟩ := h2
      obtain ⟨y, rfl, hg⟩ := hE _ _ _ h4
      refine ⟨y, hg, fun j hj => ?_⟩
      rw [← (World.cells?_some h3).2.2 j hj, addr_add, addr_add, Nat.add_assoc]
    obtain ⟨l, hl1, hl2⟩ := list_of len each
    refine ⟨l, .inr (.inr ⟨b, o, len, cap, rfl, by rw [flat_len hf, hl1], fun j u hj => ?_⟩), fun a ha => ?_⟩
    · have hjl : j < l.length * c := by
        have := (List.getElem?_eq_some_iff.1 hj).1
        rwa [flat_len hf] at this
      have hi : j / c < l.length := (Nat.div_lt_iff_lt_mul c0).2 hjl
      have hr : j % c < c := Nat.mod_lt _ c0
      have hjd : j = j / c * c + j % c := by rw [Nat.mul_comm]; exact (Nat.div_add_mod j c).symm
      have hp := List.getElem?_eq_getElem hi
      rw [hjd] at hj ⊢
      rw [flat_at hf hp hr] at hj
      rw [← hj]
      exact (hl2 _ _ hp).2 _ hr
    · obtain ⟨i, hi⟩ := List.getElem?_of_mem ha
      exact (hl2 i a hi).1
end
section
variable {H : Type} {enc : TypeId × Value → H} {w : World} {base : Nat} {sp : Nat → Bool} {held : Bool}
theorem tri_cells {fuel : Nat} {cs : List Value} {x : DataW H × List MemPlace} (h : DataW.trod enc Try.prog w base sp held fuel 29 cs = some x) : ∃ p : V3, cs = v3c p ∧ (I64 p.1 ∧ I64 p.2.1 ∧ I64 p.2.2) := by
  obtain ⟨xs, m, _, _, hl, hlen, hf⟩ := DataW.trod_array Try.underlying29 h
  have e1 : Try.prog.cellsOf 3 = 1 := by kernel_rfl
  have e2 : Try.prog.cellsOf 29 = 3 := by kernel_rfl
  rw [e2] at hl
  simp only [e1] at hf
  match cs, hl with
  | [c0, c1, c2], _ =>
    match xs, hlen with
    | [y0, y1, y2], _ =>
      have h0 := hf 0 (by omega)
      have h1 := hf 1 (by omega)
      have h2 := hf 2 (by omega)
      simp only [List.getElem?_cons_zero, List.getElem?_cons_succ] at h0 h1 h2
      obtain ⟨a, ha, _, wa⟩ := DataW.trod_int Try.underlying3 h0
      obtain ⟨b, hb, _, wb⟩ := DataW.trod_int Try.underlying3 h1
      obtain ⟨c, hc, _, wc⟩ := DataW.trod_int Try.underlying3 h2
      simp at ha hb hc
      exact ⟨(a, b, c), by rw [ha, hb, hc]; rfl, wf64i wa, wf64i wb, wf64i wc⟩
theorem tri16_cells {fuel : Nat} {cs : List Value} {x : DataW H × List MemPlace} (h : DataW.trod enc Try.prog w base sp held fuel 24 cs = some x) : ∃ p : V3, cs = [.int .i16 p.1, .int .i16 p.2.1, .int .i16 p.2.2] ∧ V3B 32768 p := by
  obtain ⟨xs, m, _, _, hl, hlen, hf⟩ := DataW.trod_array Try.underlying24 h
  have e1 : Try.prog.cellsOf 23 = 1 := by kernel_rfl
  have e2 : Try.prog.cellsOf 24 = 3 := by kernel_rfl
  rw [e2] at hl
  simp only [e1] at hf
  match cs, hl with
  | [c0, c1, c2], _ =>
    match xs, hlen with
    | [y0, y1, y2], _ =>
      have h0 := hf 0 (by omega)
      have h1 := hf 1 (by omega)
      have h2 := hf 2 (by omega)
      simp only [List.getElem?_cons_zero, List.getElem?_cons_succ] at h0 h1 h2
      obtain ⟨a, ha, _, wa⟩ := DataW.trod_int Try.underlying23 h0
      obtain ⟨b, hb, _, wb⟩ := DataW.trod_int Try.underlying23 h1
      obtain ⟨c, hc, _, wc⟩ := DataW.trod_int Try.underlying23 h2
      simp at ha hb hc
      exact ⟨(a, b, c), by rw [ha, hb, hc], wf16i wa, wf16i wb, wf16i wc⟩
theorem open_tri16 {P : Program} (hP : P = Try.prog) {r : Reach} {b0 : Nat} {v : Value} {d : DataW H} {ps : List MemPlace} (hval : Value.okWide P w r b0 24 v) (hd : DataW.Trod enc P w base sp held 24 v d ps) :
    ∃ m : V3, v = .agg #[.int .i16 m.1, .int .i16 m.2.1, .int .i16 m.2.2] ∧ V3B 32768 m := by
  have hu : P.underlying 24 = some (.array 3 23) := by rw [hP]; exact Try.underlying24
  have hz : ∀ fuel cs x, DataW.trod enc P w base sp held fuel 24 cs = some x → ∃ p : V3, cs = [.int .i16 p.1, .int .i16 p.2.1, .int .i16 p.2.2] ∧ V3B 32768 p := fun fuel cs x h => by rw [hP] at h; exact tri16_cells h
  clear hP
  obtain ⟨cs, rfl⟩ := okWide_arr hu hval
  obtain ⟨fuel, hf⟩ := hd
  obtain ⟨p, h1, h2⟩ := hz _ _ _ hf
  refine ⟨p, ?_, h2⟩
  have : cs = #[.int .i16 p.1, .int .i16 p.2.1, .int .i16 p.2.2] := by
    apply Array.ext'
    exact h1
  rw [this]
theorem jet_cells {fuel : Nat} {cs : List Value} {x : DataW H × List MemPlace} (h : DataW.trod enc Try.prog w base sp held fuel 31 cs = some x) : ∃ p : V3, cs = v3c p ∧ (I64 p.1 ∧ I64 p.2.1 ∧ I64 p.2.2) := by
  obtain ⟨xs, n, _, _, hl, hlen, hf⟩ := DataW.trod_struct Try.underlying31 h
  have e2 : Try.prog.cellsOf 29 = 3 := by kernel_rfl
  have e3 : Try.prog.cellsOf 31 = 3 := by kernel_rfl
  rw [e3] at hl
  match xs, hlen with
  | [y0], _ =>
    match cs, hl with
    | [c0, c1, c2], _ =>
      have g0 := hf 0 _ rfl
      simp [e2] at g0
      exact tri_cells g0
theorem jets_sl {P : Program} (hsp : ∀ b, sp b = true) (hP : P = Try.prog) {fuel : Nat} {v : Value} {cs : List Value} {x : DataW H × List MemPlace} (h : DataW.trod enc P w base sp held fuel 22 cs = some x) (hcs : cs = [v]) : ∃ l : List V3, V3s w v l := by
  subst hcs
  have hu : P.underlying 22 = some (.slice 31) := by rw [hP]; kernel_rfl
  have hc : P.cellsOf 31 = 3 := by rw [hP]; kernel_rfl
  have hE : ∀ fuel cs x, DataW.trod enc P w base sp held fuel 31 cs = some x → ∃ a, cs = v3c a ∧ (I64 a.1 ∧ I64 a.2.1 ∧ I64 a.2.2) := fun fuel cs x h => by rw [hP] at h; exact jet_cells h
  clear hP
  obtain ⟨l, h1, _⟩ := sl_of hsp hu hc (by omega) v3c_len hE h
  exact ⟨l, h1⟩
theorem open_jets {P : Program} (hsp : ∀ b, sp b = true) (hP : P = Try.prog) {r : Reach} {b0 : Nat} {v : Value} {d : DataW H} {ps : List MemPlace} (hval : Value.okWide P w r b0 22 v) (hd : DataW.Trod enc P w base sp held 22 v d ps) :
    ∃ l : List V3, V3s w v l := by
  have hu : P.underlying 22 = some (.slice 31) := by rw [hP]; kernel_rfl
  obtain ⟨a', len', cap', rfl⟩ := okWide_slice hu hval
  obtain ⟨fuel, hf⟩ := hd
  exact jets_sl hsp hP hf rfl
end
theorem walk_steerTurns' {w : World} {v : Value} {l : List V3} (h : V3s w v l) (f : Int) (hf : (Lit.int .i64 f).wf = true) (d : V3) (hd : V3B 32768 d) (gone : Int) (hg : (Lit.int .u8 gone).wf = true) :
    Calls Try.prog 3 #[v, .int .i64 f, .agg #[.int .i16 d.1, .int .i16 d.2.1, .int .i16 d.2.2], .int .u8 gone] w (Vc.Ret (.bool true) w) := walk_steerTurns h f (wf64i hf) d hd gone (wf8 hg)
end Go.Proofs.Ythmggmpgkmmfiaa
