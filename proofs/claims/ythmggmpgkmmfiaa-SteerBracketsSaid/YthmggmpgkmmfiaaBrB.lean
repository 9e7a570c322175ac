/- Contracts of the layer, as far as they are wanted (written by program out of the templates). -/
import Derived.Test.YthmggmpgkmmfiaaBrA
import Derived.Test.YthmggmpgkmmfiaaBrG3
import Derived.WalkKit
import Derived.ProofKit
import Derived.OpenShut
import Derived.Lib.SmallJoins
import Derived.Deep.Strs
set_option linter.unusedVariables false
set_option linter.unusedSimpArgs false
namespace Go.Proofs.Ythmggmpgkmmfiaa
open Go Go.RowKit Ul Vc
attribute [local irreducible] Go.Calls
theorem wrap_up (i : Nat) (h : i < 1000000) : IntKind.i64.wrap ((i : Int) + 1) = ((i + 1 : Nat) : Int) := by rw [Vc.i64_id (by omega)]; omega
/-- The k-th of a loop's variables counts up. -/
def upK (k : Nat) (n : Int) (l : List Vc.Vl) : Nat :=
  match l[k]? with
  | some (.i x) => (n - x).toNat
  | _ => 0
abbrev Sp := Int × Int
def spc (p : Sp) : List Value := [.int .i64 p.1, .int .i64 p.2]
theorem spc_len (p : Sp) : (spc p).length = 2 := rfl
/-- A list of places, at a slice. -/
def Sps (w : World) (v : Value) (l : List Sp) : Prop := SlAt w v 2 (l.flatMap spc)
/-- The place with a number, taken round. -/
def sp (l : List Sp) (i : Nat) : Sp := l.getD (i % l.length) (0, 0)
theorem sps_form {w : World} {v : Value} {l : List Sp} (h : Sps w v l) : ∃ (b0 : Bool) (p0 : Nat × Nat) (x1 : Int), v = (if b0 = true then .slice none 0 0 else .slice (some (Vc.qad p0 (Int.toNat (l.length : Int)) (Int.toNat x1))) (Int.toNat (l.length : Int)) (Int.toNat x1)) ∧ (b0 = true → l.length = 0) ∧
    (∀ (i : Nat) (p : Sp), l[i]? = some p → w.cell? ⟨p0.1, p0.2 + i * 2 + 0, none⟩ = some (.int .i64 p.1) ∧ w.cell? ⟨p0.1, p0.2 + i * 2 + 1, none⟩ = some (.int .i64 p.2)) := by
  obtain ⟨b0, p0, x1, h1, h2, h3⟩ := sl_form h (by decide) (flat_len spc_len l)
  refine ⟨b0, p0, x1, h1, h2, fun i p hp => ?_⟩
  simp only [Nat.add_assoc]
  exact ⟨h3 (i * 2 + 0) _ (flat_at spc_len hp (by decide)), h3 (i * 2 + 1) _ (flat_at spc_len hp (by decide))⟩
theorem sps_nb {b0 : Bool} {n : Nat} (h : b0 = true → n = 0) : (¬ (b0 = true)) ∨ ((n : Int) = 0) := by
  by_cases hb0 : b0 = true
  · right; have := h hb0; omega
  · left; exact hb0
theorem sps_nb0 {b0 : Bool} {n : Nat} (h : b0 = true → n = 0) (hn : 0 < n) : ¬ (b0 = true) := fun hb => by have := h hb; omega
theorem sps_below {v : Value} {l : List Sp} {w w' : World} (hb : Below w.heap.size w w') (h : Sps w v l) : Sps w' v l := sl_below hb h
end Go.Proofs.Ythmggmpgkmmfiaa
set_option linter.unusedVariables false
set_option maxRecDepth 4000
namespace Go.Proofs.Ythmggmpgkmmfiaa
open Go Go.RowKit Ul Vc
attribute [local irreducible] Go.Calls
theorem sl_heap {w : World} {k t n c : Nat} {L : List Value} {xs : Array Value} (h : w.heap[k]? = some (.cells xs t)) (hx : xs.toList = L) (hn : L.length = n * c) : SlAt w (.slice (some ⟨k, 0, none⟩) n n) c L := by
  refine .inr (.inr ⟨k, 0, _, _, rfl, hn, fun j u hj => ?_⟩)
  rw [Nat.zero_add, cell_of_heap h, ← Array.getElem?_toList, hx]
  exact hj
theorem own_sps {lo b code n base : Nat} {l : List Sp} {t : TypeId} {w : World} {xs : List Value} (h : RowOk lo b code n base xs 2 t w) (hx : xs = l.flatMap spc) : Sps w (ownV b code n base) l := by
  subst hx
  exact own_sl h
end Go.Proofs.Ythmggmpgkmmfiaa
set_option linter.unusedVariables false
namespace Go.Proofs.Ythmggmpgkmmfiaa
open Go Go.RowKit Ul
abbrev lohi (r : R) : Int × Int := (r.1, r.2.1)
theorem fit_ok {a b : Int} (h : (fit a b).2.2 = 0) : fit a b = (a, b, 0) ∧ (-9223372036854775807 ≤ a ∧ a ≤ 9223372036854775807) ∧ -9223372036854775807 ≤ b ∧ b ≤ 9223372036854775807 := by
  unfold fit at h ⊢
  split at h
  · rename_i g; rw [if_pos g]; exact ⟨rfl, by omega, by omega⟩
  · cases h
end Go.Proofs.Ythmggmpgkmmfiaa
set_option linter.unusedVariables false
set_option maxRecDepth 4000
namespace Go.Proofs.Ythmggmpgkmmfiaa
open Go Go.RowKit Ul Vc
attribute [local irreducible] Go.Calls
def SpI (p : Sp) : Prop := I64 p.1 ∧ I64 p.2
def N63 (n : Int) : Prop := -9223372036854775807 ≤ n ∧ n ≤ 9223372036854775807
def SpN (p : Sp) : Prop := N63 p.1 ∧ N63 p.2
theorem SpN.I {p : Sp} (h : SpN p) : SpI p := by unfold SpN N63 at h; unfold SpI I64; omega
instance (n : Int) : Decidable (N63 n) := inferInstanceAs (Decidable (_ ∧ _))
instance (p : Sp) : Decidable (SpN p) := inferInstanceAs (Decidable (_ ∧ _))
def R64 (r : R) : Prop := N63 r.1 ∧ N63 r.2.1
theorem fit_64 (x y : Int) : R64 (fit x y) := by
  unfold fit R64 N63
  split
  · simp only; omega
  · simp only; omega
theorem no_64 (e : Int) : R64 (0, 0, e) := by unfold R64 N63; simp only; omega
theorem add_64 (a b c d : Int) : R64 (add a b c d) := by
  unfold add; split
  · exact fit_64 _ _
  · exact no_64 _
theorem sub_64 (a b c d : Int) : R64 (sub a b c d) := by
  unfold sub; split
  · exact add_64 _ _ _ _
  · exact no_64 _
theorem mul_64 (a b c d : Int) : R64 (mul a b c d) := by
  unfold mul; split
  · exact fit_64 _ _
  · exact no_64 _
/-- The result of an operation that is done unless there was an error. -/
def cop (e : Int) (r : R) : R := if e = 0 then r else (0, 0, e)
theorem cop_64 {e : Int} {r : R} (h : R64 r) : R64 (cop e r) := by
  unfold cop; split
  · exact h
  · exact no_64 _
theorem cop_ok {e : Int} {r : R} (h : (cop e r).2.2 = 0) : e = 0 ∧ r.2.2 = 0 ∧ cop e r = r := by
  unfold cop at *
  split at h
  · rename_i g; exact ⟨g, h, by rw [if_pos g]⟩
  · rename_i g; exact absurd h g
/-- What a method does to a row of operations. -/
def Op (f : FuncId) (e : Int) (a b : Sp) (r : R) : Prop := ∀ (w : World) (xl : Nat), w.heap[xl]? = some (.cells #[.int .i64 e] 83) →
  Calls Try.prog f #[Vc.ptr xl 0, Vc.S a.1 a.2, Vc.S b.1 b.2] w (Vc.Eff (Vc.S r.1 r.2.1) xl #[.int .i64 r.2.2] 83 w)
theorem op_add (e : Int) {a b : Sp} (ha : SpI a) (hb : SpI b) : Op 39 e a b (cop e (add a.1 a.2 b.1 b.2)) := by
  intro w xl hx
  refine vc___steer_calc__add e a.1 a.2 b.1 b.2 xl w _ _ hx ?_
  refine iteI (fun h => ⟨_, _, _, fun w' hw => padd_any _ _ _ _ w' ha.1 ha.2 hb.1 hb.2, ?_⟩) (fun h => ?_)
  · unfold cop; rw [if_pos h]
  · unfold cop; rw [if_neg h]
theorem op_sub (e : Int) {a b : Sp} (ha : SpI a) (hb : SpI b) : Op 35 e a b (cop e (sub a.1 a.2 b.1 b.2)) := by
  intro w xl hx
  refine vc___steer_calc__sub e a.1 a.2 b.1 b.2 xl w _ _ hx ?_
  refine iteI (fun h => ⟨_, _, _, fun w' hw => psub_any _ _ _ _ w' ha.1 ha.2 hb.1 hb.2, ?_⟩) (fun h => ?_)
  · unfold cop; rw [if_pos h]
  · unfold cop; rw [if_neg h]
theorem op_mul (e : Int) {a b : Sp} (ha : SpI a) (hb : SpI b) : Op 36 e a b (cop e (mul a.1 a.2 b.1 b.2)) := by
  intro w xl hx
  refine vc___steer_calc__mul e a.1 a.2 b.1 b.2 xl w _ _ hx ?_
  refine iteI (fun h => ⟨_, _, _, fun w' hw => pmul_any _ _ _ _ w' ha.1 ha.2 hb.1 hb.2, ?_⟩) (fun h => ?_)
  · unfold cop; rw [if_pos h]
  · unfold cop; rw [if_neg h]
theorem op_div (e : Int) {a b : Sp} (ha : SpI a) (hb : SpI b) : Op 34 e a b (cop e (div a.1 a.2 b.1 b.2)) := by
  intro w xl hx
  refine vc___steer_calc__div e a.1 a.2 b.1 b.2 xl w _ _ hx ?_
  refine iteI (fun h => ⟨_, _, _, fun w' hw => pdiv_any _ _ _ _ w' ha.1 ha.2 hb.1 hb.2, ?_⟩) (fun h => ?_)
  · unfold cop; rw [if_pos h]
  · unfold cop; rw [if_neg h]
theorem spoint (n : Int) (w : World) : Calls Try.prog 33 #[.int .i64 n] w (Vc.Ret (Vc.S n n) w) := vc_steer_point n w _ rfl
theorem swhole (n : Int) (hn : -1000 ≤ n ∧ n ≤ 1000) (w : World) : Calls Try.prog 40 #[.int .i64 n] w (Vc.Ret (Vc.S (n * 4294967296) (n * 4294967296)) w) := by
  refine vc_steer_whole n w _ ?_
  rintro x1 e1
  rw [Vc.i64_id (by omega)] at e1
  subst e1
  exact ⟨_, _, fun w' hw => spoint _ w', rfl⟩
theorem svalid (n : Int) (w : World) : Calls Try.prog 43 #[.int .i64 n] w (Vc.Ret (.bool (decide (n ≥ -9223372036854775807))) w) := vc_steer_valid n w _ rfl
def okL (l : List Sp) : Bool := decide (∀ p ∈ l, ok p.1 p.2 = true)
theorem sall1 (p : Sp) (w : World) : Calls Try.prog 59 #[Vc.S p.1 p.2] w (Vc.Ret (.bool (!(ok p.1 p.2))) w) := by
  refine vc_steer_all_1 _ _ w _ ?_
  refine ⟨_, fun w' hw => check_any _ _ w', ?_⟩
  unfold chk
  cases ok p.1 p.2 <;> rfl
theorem sall {w : World} {v : Value} {l : List Sp} (h : Sps w v l) (hn : l.length < 1000000) : Calls Try.prog 32 #[v] w (Vc.Ret (.bool (okL l)) w) := by
  obtain ⟨b0, p0, x1, rfl, hb, hc⟩ := sps_form h
  refine vc_steer_all p0 (l.length : Int) x1 b0 w _ ?_
  refine ⟨by omega, sps_nb hb, ?_⟩
  refine ⟨fun y => ∃ i : Nat, i ≤ l.length ∧ (∀ p ∈ l.take i, ok p.1 p.2 = true) ∧ y = [.i 0, .i (i : Int)], upK 1 (l.length : Int), ⟨0, by omega, by simp, rfl⟩, ?_⟩
  rintro x2 x3 ⟨i, hi, ho, hy⟩
  simp only [List.cons.injEq, Vc.Vl.i.injEq, and_true] at hy
  obtain ⟨rfl, rfl⟩ := hy
  refine iteI (fun hlt => ?_) (fun hge => ?_)
  · have hq := List.getElem?_eq_getElem (show i < l.length by omega)
    generalize l[i] = p at hq
    obtain ⟨c0, c1⟩ := hc i p hq
    refine ⟨sps_nb0 hb (by omega), by omega, hlt, _, c0, _, c1, _, fun w' hw => sall1 p w', ?_⟩
    refine iteI (fun hf => ?_) (fun hf => ?_)
    · rw [decide_eq_true (show (i : Int) ≥ 0 by omega)]
      have : okL l = false := decide_eq_false fun hall => by
        have := hall p (List.mem_of_getElem? hq)
        rw [this] at hf
        cases hf
      rw [this]; rfl
    · rintro x6 e6
      rw [wrap_up i (by omega)] at e6
      subst e6
      refine ⟨⟨i + 1, by omega, fun q hq' => ?_, rfl⟩, by simp only [upK, List.getElem?_cons_succ, List.getElem?_cons_zero]; omega⟩
      have et : l.take (i + 1) = l.take i ++ [p] := by rw [List.take_add_one, hq]; rfl
      rw [et] at hq'
      rcases List.mem_append.1 hq' with h | h
      · exact ho q h
      · simp only [List.mem_cons, List.not_mem_nil, or_false] at h
        subst h
        cases hk : ok q.1 q.2
        · rw [hk] at hf; exact absurd rfl hf
        · rfl
  · obtain rfl : i = l.length := by omega
    rw [List.take_of_length_le (Nat.le_refl _)] at ho
    rw [show okL l = true from decide_eq_true ho]
end Go.Proofs.Ythmggmpgkmmfiaa
set_option linter.unusedVariables false
set_option maxRecDepth 4000
namespace Go.Proofs.Ythmggmpgkmmfiaa
open Go Go.RowKit Ul Vc
attribute [local irreducible] Go.Calls
abbrev V3 := Int × Int × Int
def v3c (v : V3) : List Value := [.int .i64 v.1, .int .i64 v.2.1, .int .i64 v.2.2]
theorem v3c_len (v : V3) : (v3c v).length = 3 := rfl
abbrev VV (v : V3) : Value := .agg #[.int .i64 v.1, .int .i64 v.2.1, .int .i64 v.2.2]
def V3s (w : World) (v : Value) (l : List V3) : Prop := SlAt w v 3 (l.flatMap v3c)
theorem v3_cells {w : World} {p0 : Nat × Nat} {l : List V3} (h3 : ∀ j u, (l.flatMap v3c)[j]? = some u → w.cell? ⟨p0.1, p0.2 + j, none⟩ = some u) : ∀ (i : Nat) (p : V3), l[i]? = some p → w.cell? ⟨p0.1, p0.2 + i * 3 + 0, none⟩ = some (.int .i64 p.1) ∧ w.cell? ⟨p0.1, p0.2 + i * 3 + 1, none⟩ = some (.int .i64 p.2.1) ∧ w.cell? ⟨p0.1, p0.2 + i * 3 + 2, none⟩ = some (.int .i64 p.2.2) := by
  intro i p hp
  simp only [Nat.add_assoc]
  exact ⟨h3 (i * 3 + 0) _ (flat_at v3c_len hp (by decide)), h3 (i * 3 + 1) _ (flat_at v3c_len hp (by decide)), h3 (i * 3 + 2) _ (flat_at v3c_len hp (by decide))⟩
theorem v3_form {w : World} {v : Value} {l : List V3} (h : V3s w v l) : ∃ (b0 : Bool) (p0 : Nat × Nat) (x1 : Int), v = (if b0 = true then .slice none 0 0 else .slice (some (Vc.qad p0 (Int.toNat (l.length : Int)) (Int.toNat x1))) (Int.toNat (l.length : Int)) (Int.toNat x1)) ∧ (b0 = true → l.length = 0) ∧
    (∀ (i : Nat) (p : V3), l[i]? = some p → w.cell? ⟨p0.1, p0.2 + i * 3 + 0, none⟩ = some (.int .i64 p.1) ∧ w.cell? ⟨p0.1, p0.2 + i * 3 + 1, none⟩ = some (.int .i64 p.2.1) ∧ w.cell? ⟨p0.1, p0.2 + i * 3 + 2, none⟩ = some (.int .i64 p.2.2)) := by
  obtain ⟨b0, p0, x1, h1, h2, h3⟩ := sl_form h (by decide) (flat_len v3c_len l)
  exact ⟨b0, p0, x1, h1, h2, v3_cells h3⟩
/-- A row of the call's own: its room is not less than its length. -/
theorem v3_row {lo b code n base : Nat} {l : List V3} {t : TypeId} {w : World} {xs : List Value} (h : RowOk lo b code n base xs 3 t w) (hx : xs = l.flatMap v3c) : ∃ (b0 : Bool) (p0 : Nat × Nat) (x1 : Int), ownV b code n base = (if b0 = true then .slice none 0 0 else .slice (some (Vc.qad p0 (Int.toNat (l.length : Int)) (Int.toNat x1))) (Int.toNat (l.length : Int)) (Int.toNat x1)) ∧ (b0 = true → l.length = 0) ∧
    (0 < l.length → (l.length : Int) ≤ x1) ∧
    (∀ (i : Nat) (p : V3), l[i]? = some p → w.cell? ⟨p0.1, p0.2 + i * 3 + 0, none⟩ = some (.int .i64 p.1) ∧ w.cell? ⟨p0.1, p0.2 + i * 3 + 1, none⟩ = some (.int .i64 p.2.1) ∧ w.cell? ⟨p0.1, p0.2 + i * 3 + 2, none⟩ = some (.int .i64 p.2.2)) := by
  subst hx
  by_cases h0 : l.length = 0
  · obtain ⟨b0, p0, x1, h1, h2, h3⟩ := v3_form (own_sl h : V3s w _ l)
    exact ⟨b0, p0, x1, h1, h2, fun h => by omega, h3⟩
  · obtain ⟨m, e1, e2, e3⟩ := row_at h (flat_len v3c_len l) (by omega)
    refine ⟨false, (b, 0), (m : Int), ?_, fun h => (by cases h), fun _ => by omega, v3_cells fun j u hj => by rw [Nat.zero_add]; exact e3 j u hj⟩
    rw [e1, if_neg (by decide), qad_plain (by omega)]
    rfl
def Bd (n x : Int) : Prop := -n ≤ x ∧ x ≤ n
theorem mul_bd {a b A B : Int} (ha : Bd A a) (hb : Bd B b) : Bd (A * B) (a * b) := by
  have hA : 0 ≤ A := by unfold Bd at ha; omega
  have hB : 0 ≤ B := by unfold Bd at hb; omega
  have h1 : (a.natAbs : Int) ≤ A := by unfold Bd at ha; omega
  have h2 : (b.natAbs : Int) ≤ B := by unfold Bd at hb; omega
  have h3 : ((a * b).natAbs : Int) ≤ A * B := by
    rw [Int.natAbs_mul]
    exact_mod_cast Int.mul_le_mul h1 h2 (by omega) hA
  unfold Bd; omega
def V3B (n : Int) (v : V3) : Prop := Bd n v.1 ∧ Bd n v.2.1 ∧ Bd n v.2.2
instance (n x : Int) : Decidable (Bd n x) := inferInstanceAs (Decidable (_ ∧ _))
instance (n : Int) (v : V3) : Decidable (V3B n v) := inferInstanceAs (Decidable (_ ∧ _ ∧ _))
def dot (a b : V3) : Int := a.1 * b.1 + a.2.1 * b.2.1 + a.2.2 * b.2.2
def crs (a b : V3) : V3 := (a.2.1 * b.2.2 - a.2.2 * b.2.1, a.2.2 * b.1 - a.1 * b.2.2, a.1 * b.2.1 - a.2.1 * b.1)
theorem pdot {a b : V3} {A B : Int} (ha : V3B A a) (hb : V3B B b) (h : A * B * 3 ≤ 9223372036854775807) (w : World) : Calls Try.prog 29 #[VV a, VV b] w (Vc.Ret (.int .i64 (dot a b)) w) := by
  have m1 := mul_bd ha.1 hb.1
  have m2 := mul_bd ha.2.1 hb.2.1
  have m3 := mul_bd ha.2.2 hb.2.2
  unfold Bd at m1 m2 m3
  refine vc__steer_vector__dot _ _ _ _ _ _ w _ ?_
  rintro _ rfl _ rfl _ rfl _ rfl _ rfl
  rw [Vc.i64_id (x := a.1 * b.1) (by omega), Vc.i64_id (x := a.2.1 * b.2.1) (by omega), Vc.i64_id (x := a.2.2 * b.2.2) (by omega), Vc.i64_id (x := a.1 * b.1 + a.2.1 * b.2.1) (by omega), Vc.i64_id (by omega)]
  rfl
theorem crs_bd {a b : V3} (ha : V3B 1048576 a) (hb : V3B 1048576 b) : V3B 2199023255552 (crs a b) := by
  have m1 := mul_bd ha.2.1 hb.2.2
  have m2 := mul_bd ha.2.2 hb.2.1
  have m3 := mul_bd ha.2.2 hb.1
  have m4 := mul_bd ha.1 hb.2.2
  have m5 := mul_bd ha.1 hb.2.1
  have m6 := mul_bd ha.2.1 hb.1
  unfold V3B crs Bd at *
  simp only
  omega
theorem pcrs {a b : V3} (ha : V3B 1048576 a) (hb : V3B 1048576 b) (w : World) : Calls Try.prog 56 #[VV a, VV b] w (Vc.Ret (VV (crs a b)) w) := by
  have m1 := mul_bd ha.2.1 hb.2.2
  have m2 := mul_bd ha.2.2 hb.2.1
  have m3 := mul_bd ha.2.2 hb.1
  have m4 := mul_bd ha.1 hb.2.2
  have m5 := mul_bd ha.1 hb.2.1
  have m6 := mul_bd ha.2.1 hb.1
  unfold Bd at *
  refine vc__steer_vector__cross _ _ _ _ _ _ w _ ?_
  rintro _ rfl _ rfl _ rfl _ rfl _ rfl _ rfl _ rfl _ rfl _ rfl
  rw [Vc.i64_id (x := a.2.1 * b.2.2) (by omega), Vc.i64_id (x := a.2.2 * b.2.1) (by omega), Vc.i64_id (x := a.2.2 * b.1) (by omega), Vc.i64_id (x := a.1 * b.2.2) (by omega), Vc.i64_id (x := a.1 * b.2.1) (by omega), Vc.i64_id (x := a.2.1 * b.1) (by omega), Vc.i64_id (by omega), Vc.i64_id (by omega), Vc.i64_id (by omega)]
  rfl
def ckV (l : List V3) (f : Int) : Int := if 12 < l.length then 3 else if ∀ v ∈ l, V3B 1048576 v then (if 0 ≤ f ∧ f < 2 ^ l.length then 0 else 2) else 2
theorem pow_le12 {n : Nat} (h : n ≤ 12) : (2 : Int) ^ n ≤ 4096 := by
  have : ∀ k : Nat, k ≤ 12 → (2 : Int) ^ k ≤ 4096 := by decide
  exact this n h
theorem pow_pos2 (n : Nat) : (0 : Int) < 2 ^ n := Int.pow_pos (by decide)
theorem pcheck {w : World} {v : Value} {l : List V3} (h : V3s w v l) (f : Int) (hf : I64 f) : Calls Try.prog 26 #[v, .int .i64 f] w (Vc.Ret (.int .i64 (ckV l f)) w) := by
  obtain ⟨b0, p0, x1, rfl, hb, hc⟩ := v3_form h
  have nb := sps_nb hb
  refine vc_steer_check p0 (l.length : Int) x1 f b0 w _ ?_
  refine ⟨by omega, nb, ?_⟩
  refine iteI (fun g => ?_) (fun g => ⟨by omega, nb, ?_⟩)
  · unfold ckV; rw [if_pos (by omega)]
  refine ⟨fun y => ∃ i : Nat, i ≤ l.length ∧ (∀ p ∈ l.take i, V3B 1048576 p) ∧ y = [.i 0, .i (i : Int)], upK 1 (l.length : Int), ⟨0, by omega, by simp, rfl⟩, ?_⟩
  rintro x3 x4 ⟨i, hi, ho, hy⟩
  simp only [List.cons.injEq, Vc.Vl.i.injEq, and_true] at hy
  obtain ⟨rfl, rfl⟩ := hy
  refine iteI (fun hlt => ?_) (fun hge => ?_)
  · have hq := List.getElem?_eq_getElem (show i < l.length by omega)
    generalize l[i] = p at hq
    obtain ⟨c0, c1, c2⟩ := hc i p hq
    have bad : ¬ V3B 1048576 p → (2 : Int) = ckV l f := fun hn => by
      unfold ckV
      rw [if_neg (by omega), if_neg fun hall => hn (hall p (List.mem_of_getElem? hq))]
    refine ⟨sps_nb0 hb (by omega), by omega, hlt, _, c0, _, c1, _, c2, ?_⟩
    refine iteI (fun k => ?_) (fun k1 => iteI (fun k => ?_) (fun k2 => iteI (fun k => ?_) (fun k3 => iteI (fun k => ?_) (fun k4 => iteI (fun k => ?_) (fun k5 => iteI (fun k => ?_) (fun k6 => ?_))))))
    · rw [← bad (by unfold V3B Bd; omega)]
    · rw [← bad (by unfold V3B Bd; omega)]
    · rw [← bad (by unfold V3B Bd; omega)]
    · rw [← bad (by unfold V3B Bd; omega)]
    · rw [← bad (by unfold V3B Bd; omega)]
    · rw [← bad (by unfold V3B Bd; omega)]
    rintro x8 e8
    rw [wrap_up i (by omega)] at e8
    subst e8
    refine ⟨⟨i + 1, by omega, fun q hq' => ?_, rfl⟩, by simp only [upK, List.getElem?_cons_succ, List.getElem?_cons_zero]; omega⟩
    have et : l.take (i + 1) = l.take i ++ [p] := by rw [List.take_add_one, hq]; rfl
    rw [et] at hq'
    rcases List.mem_append.1 hq' with h | h
    · exact ho q h
    · simp only [List.mem_cons, List.not_mem_nil, or_false] at h
      subst h
      unfold V3B Bd; omega
  · obtain rfl : i = l.length := by omega
    rw [List.take_of_length_le (Nat.le_refl _)] at ho
    have e : ckV l f = if 0 ≤ f ∧ f < 2 ^ l.length then 0 else 2 := by unfold ckV; rw [if_neg (by omega), if_pos ho]
    refine iteI (fun k => ?_) (fun k => ⟨by omega, nb, by omega, ?_⟩)
    · rw [e, if_neg (by omega)]
    rintro x5 e5
    have hp := pow_le12 (n := l.length) (by omega)
    have hp0 := pow_pos2 l.length
    rw [show Nat.min (Int.toNat (l.length : Int)) 64 = l.length from Nat.min_eq_left (by omega), Int.one_mul, Vc.i64_id (by omega)] at e5
    subst e5
    refine iteI (fun k2 => ?_) (fun k2 => ?_)
    · rw [e, if_neg (by omega)]
    · rw [e, if_pos (by omega)]
def abv (l : List V3) (n : V3) : Bool := decide (∃ v ∈ l, 0 < dot v n)
def blw (l : List V3) (n : V3) : Bool := decide (∃ v ∈ l, dot v n < 0)
theorem abv_snoc (l : List V3) (p n : V3) : abv (l ++ [p]) n = (abv l n || decide (0 < dot p n)) := by
  unfold abv
  rw [Bool.eq_iff_iff]
  simp [or_and_right, exists_or]
theorem blw_snoc (l : List V3) (p n : V3) : blw (l ++ [p]) n = (blw l n || decide (dot p n < 0)) := by
  unfold blw
  rw [Bool.eq_iff_iff]
  simp [or_and_right, exists_or]
theorem psides {w : World} {v : Value} {l : List V3} (h : V3s w v l) (n : V3) (hl : ∀ p ∈ l, V3B 1048576 p) (hn : V3B 2199023255552 n) (hlen : l.length ≤ 1000) : Calls Try.prog 57 #[v, VV n] w (Vc.Ret (.tuple #[.bool (abv l n), .bool (blw l n)]) w) := by
  obtain ⟨b0, p0, x1, rfl, hb, hc⟩ := v3_form h
  refine vc_steer_sides p0 (l.length : Int) x1 n.1 n.2.1 n.2.2 b0 w _ ?_
  refine ⟨by omega, sps_nb hb, ?_⟩
  refine ⟨fun y => ∃ i : Nat, i ≤ l.length ∧ y = [.b (abv (l.take i) n), .b (blw (l.take i) n), .i (i : Int)], upK 2 (l.length : Int), ⟨0, by omega, rfl⟩, ?_⟩
  rintro b1 b2 x5 ⟨i, hi, hy⟩
  simp only [List.cons.injEq, Vc.Vl.i.injEq, Vc.Vl.b.injEq, and_true] at hy
  obtain ⟨e1, e2, rfl⟩ := hy
  refine iteI (fun hlt => ?_) (fun hge => ?_)
  · have hq := List.getElem?_eq_getElem (show i < l.length by omega)
    have hm : l[i] ∈ l := List.getElem_mem (by omega)
    generalize l[i] = p at hq hm
    obtain ⟨c0, c1, c2⟩ := hc i p hq
    have et : l.take (i + 1) = l.take i ++ [p] := by rw [List.take_add_one, hq]; rfl
    have next : ∀ (x : Int) (c d : Bool), x = IntKind.i64.wrap ((i : Int) + 1) → c = (b1 || decide (0 < dot p n)) → d = (b2 || decide (dot p n < 0)) →
        (∃ i : Nat, i ≤ l.length ∧ [Vc.Vl.b c, .b d, .i x] = [.b (abv (l.take i) n), .b (blw (l.take i) n), .i (i : Int)]) ∧ upK 2 (l.length : Int) [.b c, .b d, .i x] < upK 2 (l.length : Int) [.b b1, .b b2, .i (i : Int)] := by
      rintro x c d ex rfl rfl
      rw [wrap_up i (by omega)] at ex
      subst ex
      refine ⟨⟨i + 1, by omega, ?_⟩, by simp only [upK, List.getElem?_cons_succ, List.getElem?_cons_zero]; omega⟩
      rw [et, abv_snoc, blw_snoc, ← e1, ← e2]
    refine ⟨sps_nb0 hb (by omega), by omega, hlt, _, c0, _, c1, _, c2, _, fun w' hw => pdot (a := p) (b := n) (hl p hm) hn (by omega) w', ?_⟩
    refine iteI (fun g1 => iteI (fun g2 => ?_) (fun g2 => ?_)) (fun g1 => iteI (fun g2 => ?_) (fun g2 => ?_))
    · rintro x10 e10; exact next _ _ _ e10 (by rw [g1]; rfl) (by rw [g2]; rfl)
    · rintro x10 e10; exact next _ _ _ e10 (by rw [g1]; rfl) (by simp [g2])
    · rintro x10 e10; exact next _ _ _ e10 (by simp [g1]) (by rw [g2]; rfl)
    · rintro x10 e10; exact next _ _ _ e10 (by simp [g1]) (by simp [g2])
  · obtain rfl : i = l.length := by omega
    rw [List.take_of_length_le (Nat.le_refl _)] at e1 e2
    rw [e1, e2]
/-- On both sides of each plane that two of the first ones make. -/
def at3 (l : List V3) (i : Nat) : V3 := l.getD i (0, 0, 0)
def pairOk (l : List V3) (i j : Nat) : Prop := crs (at3 l i) (at3 l j) ≠ (0, 0, 0) → abv l (crs (at3 l i) (at3 l j)) = true ∧ blw l (crs (at3 l i) (at3 l j)) = true
instance (l : List V3) (i j : Nat) : Decidable (pairOk l i j) := inferInstanceAs (Decidable (_ → _))
def Span3 (l : List V3) : Prop := (∀ i, i < l.length → ∀ j, j < i → pairOk l i j) ∧ ∃ i, i < l.length ∧ ∃ j, j < i ∧ crs (at3 l i) (at3 l j) ≠ (0, 0, 0)
def span3B (l : List V3) : Bool := decide (∀ i, i < l.length → ∀ j, j < i → pairOk l i j) && (List.range l.length).any fun i => (List.range i).any fun j => decide (crs (at3 l i) (at3 l j) ≠ (0, 0, 0))
theorem span3B_iff {l : List V3} : span3B l = true ↔ Span3 l := by
  unfold span3B Span3
  simp [List.any_eq_true]
theorem at3_eq {l : List V3} {i : Nat} {p : V3} (h : l[i]? = some p) : at3 l i = p := by
  unfold at3; rw [List.getD_eq_getElem?_getD, h]; rfl
theorem ne3 {v : V3} : v ≠ (0, 0, 0) ↔ ¬ (v.1 = 0 ∧ (v.2.1 = 0 ∧ v.2.2 = 0)) := by
  obtain ⟨a, b, c⟩ := v
  simp
theorem pspan3 {w : World} {v : Value} {l : List V3} {b0 : Bool} {p0 : Nat × Nat} {x1 : Int} (hv : v = (if b0 = true then .slice none 0 0 else .slice (some (Vc.qad p0 (Int.toNat (l.length : Int)) (Int.toNat x1))) (Int.toNat (l.length : Int)) (Int.toNat x1))) (hb : b0 = true → l.length = 0)
    (hcap : 0 < l.length → (l.length : Int) ≤ x1)
    (hc : ∀ (i : Nat) (p : V3), l[i]? = some p → w.cell? ⟨p0.1, p0.2 + i * 3 + 0, none⟩ = some (.int .i64 p.1) ∧ w.cell? ⟨p0.1, p0.2 + i * 3 + 1, none⟩ = some (.int .i64 p.2.1) ∧ w.cell? ⟨p0.1, p0.2 + i * 3 + 2, none⟩ = some (.int .i64 p.2.2))
    (h : V3s w v l) (hl : ∀ p ∈ l, V3B 1048576 p) (hlen : l.length ≤ 100) : Calls Try.prog 27 #[v] w (Vc.Ret (.bool (span3B l)) w) := by
  subst hv
  refine vc_steer_span3 p0 (l.length : Int) x1 b0 w _ ?_
  refine ⟨by omega, sps_nb hb, ?_⟩
  refine ⟨fun y => ∃ (i : Nat) (m : Int), i ≤ l.length ∧ (∀ k, k < i → ∀ j, j < k → pairOk l k j) ∧ (0 ≤ m ∧ m ≤ 100 * (i : Int)) ∧ (0 < m ↔ ∃ k, k < i ∧ ∃ j, j < k ∧ crs (at3 l k) (at3 l j) ≠ (0, 0, 0)) ∧ y = [.i m, .b false, .i (i : Int)], upK 2 (l.length : Int), ⟨0, 0, by omega, by omega, by omega, by simp, rfl⟩, ?_⟩
  rintro x2 b1 x3 ⟨i, m, hi, ho, hm, hmi, hy⟩
  simp only [List.cons.injEq, Vc.Vl.i.injEq, Vc.Vl.b.injEq, and_true] at hy
  obtain ⟨rfl, rfl, rfl⟩ := hy
  refine iteI (fun hlt => ?_) (fun hge => ?_)
  · have hq := List.getElem?_eq_getElem (show i < l.length by omega)
    have hmem : l[i] ∈ l := List.getElem_mem (by omega)
    generalize l[i] = p at hq hmem
    obtain ⟨c0, c1, c2⟩ := hc i p hq
    have hcp := hcap (by omega)
    refine ⟨sps_nb0 hb (by omega), by omega, hlt, _, c0, _, c1, _, c2, sps_nb0 hb (by omega), by omega, by omega, by omega, by omega, by omega, by omega, ?_⟩
    refine ⟨fun y => ∃ (j : Nat) (m : Int), j ≤ i ∧ (∀ k, k < j → pairOk l i k) ∧ (0 ≤ m ∧ m ≤ 100 * (i : Int) + (j : Int)) ∧ (0 < m ↔ (∃ k, k < i ∧ ∃ j, j < k ∧ crs (at3 l k) (at3 l j) ≠ (0, 0, 0)) ∨ ∃ k, k < j ∧ crs (at3 l i) (at3 l k) ≠ (0, 0, 0)) ∧ y = [.i m, .b false, .i (j : Int)], upK 2 (i : Int), ⟨0, x2, by omega, by omega, by omega, by simpa using hmi, rfl⟩, ?_⟩
    rintro x7 b2 x8 ⟨j, m, hj, hoj, hmj, hmij, hy⟩
    simp only [List.cons.injEq, Vc.Vl.i.injEq, Vc.Vl.b.injEq, and_true] at hy
    obtain ⟨rfl, rfl, rfl⟩ := hy
    refine iteI (fun hlt2 => ?_) (fun hge2 => ?_)
    · have hq2 := List.getElem?_eq_getElem (show j < l.length by omega)
      have hmem2 : l[j] ∈ l := List.getElem_mem (by omega)
      generalize l[j] = q at hq2 hmem2
      obtain ⟨d0, d1, d2⟩ := hc j q hq2
      have e1 := at3_eq hq
      have e2 := at3_eq hq2
      have hn := crs_bd (hl p hmem) (hl q hmem2)
      refine ⟨by omega, by omega, _, d0, _, d1, _, d2, ?_⟩
      refine ⟨_, _, _, fun w' hw => pcrs (a := p) (b := q) (hl p hmem) (hl q hmem2) w', ?_⟩
      refine iteI (fun hz => ?_) (fun hz => ?_)
      · rintro x15 e15
        rw [wrap_up j (by omega)] at e15
        subst e15
        have hzz : ¬ crs (at3 l i) (at3 l j) ≠ (0, 0, 0) := by rw [e1, e2, ne3]; exact fun h => h hz
        refine ⟨⟨j + 1, x7, by omega, fun k hk => ?_, by omega, ?_, rfl⟩, by simp only [upK, List.getElem?_cons_succ, List.getElem?_cons_zero]; omega⟩
        · by_cases hkj : k = j
          · subst hkj; exact fun h => absurd h hzz
          · exact hoj k (by omega)
        · rw [hmij]
          constructor
          · rintro (h | ⟨k, hk, h⟩)
            · exact .inl h
            · exact .inr ⟨k, by omega, h⟩
          · rintro (h | ⟨k, hk, h⟩)
            · exact .inl h
            · by_cases hkj : k = j
              · subst hkj; exact absurd h hzz
              · exact .inr ⟨k, by omega, h⟩
      · have hnz : crs (at3 l i) (at3 l j) ≠ (0, 0, 0) := by rw [e1, e2, ne3]; exact hz
        have hnz' := hnz
        rw [e1, e2] at hnz'
        have no : ¬ (abv l (crs p q) = true ∧ blw l (crs p q) = true) → (Value.bool false : Value) = .bool (span3B l) := fun hx => by
          have : span3B l = false := by
            rw [Bool.eq_false_iff, ne_eq, span3B_iff]
            intro hs
            have := hs.1 i (by omega) j (by omega) hnz
            rw [e1, e2] at this
            exact hx this
          rw [this]
        rintro x15 e15
        rw [Vc.i64_id (by omega)] at e15
        subst e15
        refine ⟨_, _, fun w' hw => psides (sl_below hw h) (crs p q) hl hn (by omega), ?_⟩
        refine iteI (fun ha => iteI (fun hbw => ?_) (fun hbw => no fun h => hbw h.2)) (fun ha => no fun h => ha h.1)
        rintro x16 e16
        rw [wrap_up j (by omega)] at e16
        subst e16
        refine ⟨⟨j + 1, x7 + 1, by omega, fun k hk => ?_, by omega, ?_, rfl⟩, by simp only [upK, List.getElem?_cons_succ, List.getElem?_cons_zero]; omega⟩
        · by_cases hkj : k = j
          · subst hkj; intro _; rw [e1, e2]; exact ⟨ha, hbw⟩
          · exact hoj k (by omega)
        · constructor
          · intro _; exact .inr ⟨j, by omega, hnz⟩
          · intro _; omega
    · obtain rfl : j = i := by omega
      rintro x9 e9
      rw [wrap_up j (by omega)] at e9
      subst e9
      refine ⟨⟨j + 1, x7, by omega, fun k hk => ?_, by omega, ?_, rfl⟩, by simp only [upK, List.getElem?_cons_succ, List.getElem?_cons_zero]; omega⟩
      · by_cases hkj : k = j
        · subst hkj; exact hoj
        · exact ho k (by omega)
      · rw [hmij]
        constructor
        · rintro (⟨k, hk, h⟩ | h)
          · exact ⟨k, by omega, h⟩
          · exact ⟨j, by omega, h⟩
        · rintro ⟨k, hk, h⟩
          by_cases hkj : k = j
          · subst hkj; exact .inr h
          · exact .inl ⟨k, by omega, h⟩
  · obtain rfl : i = l.length := by omega
    congr 1
    rw [Bool.eq_iff_iff, span3B_iff, decide_eq_true_eq]
    unfold Span3
    constructor
    · intro h; exact ⟨ho, hmi.1 h⟩
    · intro h; exact hmi.2 h.2
end Go.Proofs.Ythmggmpgkmmfiaa
set_option linter.unusedVariables false
set_option maxRecDepth 4000
namespace Go.Proofs.Ythmggmpgkmmfiaa
open Go Go.RowKit Ul Vc
attribute [local irreducible] Go.Calls
def wHi (a b : Int) : Int :=
  if b < 0 then IntKind.u64.wrap ((if a < 0 then IntKind.u64.wrap (hiW (IntKind.u64.wrap a * IntKind.u64.wrap b) - IntKind.u64.wrap b) else hiW (IntKind.u64.wrap a * IntKind.u64.wrap b)) - IntKind.u64.wrap a)
  else (if a < 0 then IntKind.u64.wrap (hiW (IntKind.u64.wrap a * IntKind.u64.wrap b) - IntKind.u64.wrap b) else hiW (IntKind.u64.wrap a * IntKind.u64.wrap b))
def wLo (a b : Int) : Int := loW (IntKind.u64.wrap a * IntKind.u64.wrap b)
def wplus (hi lo a b : Int) (m : Bool) : Int × Int :=
  if m = true then (IntKind.i64.wrap (hi - IntKind.i64.wrap (IntKind.i64.wrap (wHi a b) + IntKind.i64.wrap (bor lo (wLo a b)))), (lo - wLo a b) % 18446744073709551616)
  else (IntKind.i64.wrap (hi + IntKind.i64.wrap (IntKind.i64.wrap (wHi a b) + IntKind.i64.wrap ((lo + wLo a b) / 18446744073709551616))), (lo + wLo a b) % 18446744073709551616)
theorem u64_bd (x : Int) : 0 ≤ IntKind.u64.wrap x ∧ IntKind.u64.wrap x ≤ 18446744073709551615 := by
  rw [IntKind.wrap_u64]; omega
theorem lo_bd (x : Int) : 0 ≤ loW x ∧ loW x ≤ 18446744073709551615 := by unfold loW; omega
theorem pplus (hi lo a b : Int) (m : Bool) (hlo : 0 ≤ lo) (ha : I64 a) (hb : I64 b) (w : World) : Calls Try.prog 68 #[.agg #[.int .i64 hi, .int .u64 lo], .int .i64 a, .int .i64 b, .bool m] w (Vc.Ret (.agg #[.int .i64 (wplus hi lo a b m).1, .int .u64 (wplus hi lo a b m).2]) w) := by
  have ua := u64_bd a
  have ub := u64_bd b
  have ul : 0 ≤ wLo a b ∧ wLo a b ≤ 18446744073709551615 := lo_bd _
  refine vc__steer_wide__plus hi lo a b m w _ ?_
  rintro _ rfl _ rfl
  refine ⟨_, _, fun w' hw => mul64_any _ _ w' ua.1 ua.2 ub.1 ub.2, ?_⟩
  refine iteI (fun h1 => ?_) (fun h1 => ?_)
  · rintro _ rfl _ rfl
    refine iteI (fun h2 => ?_) (fun h2 => ?_)
    · rintro _ rfl _ rfl
      refine iteI (fun h3 => ?_) (fun h3 => ?_)
      · refine ⟨_, _, ⟨rfl, fun w' => sub64_0 lo (wLo a b) hlo ul.1 ul.2 w'⟩, ?_⟩
        rintro _ rfl _ rfl _ rfl _ rfl
        simp only [wplus, wHi, h1, h2, h3, if_true]
      · refine ⟨_, _, ⟨rfl, fun w' => add64_0 lo (wLo a b) hlo ul.1 w'⟩, ?_⟩
        rintro _ rfl _ rfl _ rfl _ rfl
        simp only [wplus, wHi, h1, h2, if_true, if_neg h3]
    · refine iteI (fun h3 => ?_) (fun h3 => ?_)
      · refine ⟨_, _, ⟨rfl, fun w' => sub64_0 lo (wLo a b) hlo ul.1 ul.2 w'⟩, ?_⟩
        rintro _ rfl _ rfl _ rfl _ rfl
        simp only [wplus, wHi, h1, h3, if_true, if_neg h2]
      · refine ⟨_, _, ⟨rfl, fun w' => add64_0 lo (wLo a b) hlo ul.1 w'⟩, ?_⟩
        rintro _ rfl _ rfl _ rfl _ rfl
        simp only [wplus, wHi, h1, if_true, if_neg h2, if_neg h3]
  · refine iteI (fun h2 => ?_) (fun h2 => ?_)
    · rintro _ rfl _ rfl
      refine iteI (fun h3 => ?_) (fun h3 => ?_)
      · refine ⟨_, _, ⟨rfl, fun w' => sub64_0 lo (wLo a b) hlo ul.1 ul.2 w'⟩, ?_⟩
        rintro _ rfl _ rfl _ rfl _ rfl
        simp only [wplus, wHi, h2, h3, if_true, if_neg h1]
      · refine ⟨_, _, ⟨rfl, fun w' => add64_0 lo (wLo a b) hlo ul.1 w'⟩, ?_⟩
        rintro _ rfl _ rfl _ rfl _ rfl
        simp only [wplus, wHi, h2, if_true, if_neg h1, if_neg h3]
    · refine iteI (fun h3 => ?_) (fun h3 => ?_)
      · refine ⟨_, _, ⟨rfl, fun w' => sub64_0 lo (wLo a b) hlo ul.1 ul.2 w'⟩, ?_⟩
        rintro _ rfl _ rfl _ rfl _ rfl
        simp only [wplus, wHi, h3, if_true, if_neg h1, if_neg h2]
      · refine ⟨_, _, ⟨rfl, fun w' => add64_0 lo (wLo a b) hlo ul.1 w'⟩, ?_⟩
        rintro _ rfl _ rfl _ rfl _ rfl
        simp only [wplus, wHi, if_neg h1, if_neg h2, if_neg h3]
def downN (hi lo : Int) : Int := bits .or .i64 (IntKind.i64.wrap (hi * 4294967296)) (IntKind.i64.wrap (lo / 4294967296))
def downV (hi lo : Int) : Int × Bool := if hi / 2147483648 = downN hi lo / 9223372036854775808 then (downN hi lo, decide (downN hi lo ≥ -9223372036854775807)) else (downN hi lo, false)
theorem pdown (hi lo : Int) (w : World) : Calls Try.prog 69 #[.agg #[.int .i64 hi, .int .u64 lo]] w (Vc.Ret (.tuple #[.int .i64 (downV hi lo).1, .bool (downV hi lo).2]) w) := by
  refine vc__steer_wide__down hi lo w _ ?_
  rintro x2 e2 x3 e3 x4 e4 x5 e5 x6 e6 x7 e7
  subst e2 e3 e4
  have h5 : x5 = downN hi lo := e5
  subst h5 e6 e7
  refine iteI (fun h => ⟨_, fun w' hw => svalid _ w', ?_⟩) (fun h => ?_)
  · unfold downV; rw [if_pos h]
  · unfold downV; rw [if_neg h]
/-- The jets that work. -/
def bt (f : Int) (i : Nat) : Int := bits .and .i64 (Int.fdiv f (2 ^ (Nat.min i 64))) 1
def wkT (l : List V3) (f : Int) : Nat → List V3
  | 0 => []
  | n + 1 => if bt f n = 0 then wkT l f n ++ [at3 l n] else wkT l f n
def wk (l : List V3) (f : Int) : List V3 := wkT l f l.length
theorem wkT_yes {l : List V3} {f : Int} {n : Nat} (h : bt f n = 0) : wkT l f (n + 1) = wkT l f n ++ [at3 l n] := if_pos h
theorem wkT_no {l : List V3} {f : Int} {n : Nat} (h : ¬ bt f n = 0) : wkT l f (n + 1) = wkT l f n := if_neg h
theorem wkT_len (l : List V3) (f : Int) : ∀ n, (wkT l f n).length ≤ n
  | 0 => by simp [wkT]
  | n + 1 => by
    unfold wkT
    have := wkT_len l f n
    split
    · rw [List.length_append, List.length_singleton]; omega
    · omega
theorem wkT_mem {l : List V3} {f : Int} {v : V3} : ∀ {n : Nat}, v ∈ wkT l f n ↔ ∃ i, i < n ∧ bt f i = 0 ∧ v = at3 l i
  | 0 => by simp [wkT]
  | n + 1 => by
    unfold wkT
    have ih := wkT_mem (l := l) (f := f) (v := v) (n := n)
    split
    · rename_i h
      rw [List.mem_append, ih, List.mem_singleton]
      constructor
      · rintro (⟨i, hi, h1⟩ | rfl)
        · exact ⟨i, by omega, h1⟩
        · exact ⟨n, by omega, h, rfl⟩
      · rintro ⟨i, hi, h1, h2⟩
        by_cases hin : i = n
        · subst hin; exact .inr h2
        · exact .inl ⟨i, by omega, h1, h2⟩
    · rename_i h
      rw [ih]
      constructor
      · rintro ⟨i, hi, h1⟩; exact ⟨i, by omega, h1⟩
      · rintro ⟨i, hi, h1, h2⟩
        refine ⟨i, ?_, h1, h2⟩
        by_cases hin : i = n
        · subst hin; exact absurd h1 h
        · omega
theorem at3_mem {l : List V3} {i : Nat} (h : i < l.length) : at3 l i ∈ l := by
  rw [at3_eq (List.getElem?_eq_getElem h)]; exact List.getElem_mem h
theorem wk_bd {l : List V3} {f : Int} (hl : ∀ p ∈ l, V3B 1048576 p) : ∀ p ∈ wk l f, V3B 1048576 p := by
  intro p hp
  obtain ⟨i, hi, _, rfl⟩ := wkT_mem.1 hp
  exact hl _ (at3_mem hi)
theorem ck_ok {l : List V3} {f : Int} (h : ckV l f = 0) : l.length ≤ 12 ∧ (∀ v ∈ l, V3B 1048576 v) ∧ 0 ≤ f ∧ f < 2 ^ l.length := by
  unfold ckV at h
  split at h
  · cases h
  · split at h
    · split at h
      · exact ⟨by omega, by assumption, by omega, by omega⟩
      · cases h
    · cases h
def spansV (l : List V3) (f : Int) : Bool × Int := if ckV l f = 0 then (span3B (wk l f), 0) else (false, ckV l f)
theorem span_row {lo b code n base : Nat} {l : List V3} {t : TypeId} {w : World} {xs : List Value} (h : RowOk lo b code n base xs 3 t w) (hx : xs = l.flatMap v3c) (hl : ∀ p ∈ l, V3B 1048576 p) (hlen : l.length ≤ 100) :
    Calls Try.prog 27 #[ownV b code n base] w (Vc.Ret (.bool (span3B l)) w) := by
  obtain ⟨b0, p0, x1, h1, h2, h3, h4⟩ := v3_row h hx
  refine pspan3 h1 h2 h3 h4 ?_ hl hlen
  subst hx
  exact own_sl h
theorem pSpans {w : World} {v : Value} {l : List V3} (h : V3s w v l) (f : Int) (hf : I64 f) : Calls Try.prog 9 #[v, .int .i64 f] w (Vc.Ret (.tuple #[.bool (spansV l f).1, .int .i64 (spansV l f).2]) w) := by
  have h0 := h
  obtain ⟨b0, p0, x1, rfl, hb, hc⟩ := v3_form h
  refine vc_steer_Spans p0 (l.length : Int) x1 f b0 w _ ?_
  refine ⟨_, fun w' hw => pcheck (sl_below hw h0) f hf, ?_⟩
  refine iteI (fun g => ?_) (fun g => ?_)
  rotate_left
  · unfold spansV; rw [if_neg g]
  obtain ⟨k1, k2, k3, k4⟩ := ck_ok g
  refine ⟨by omega, sps_nb hb, ?_⟩
  refine ⟨fun y => ∃ i : Nat, i ≤ l.length ∧ y = [.l ((wkT l f i).flatMap v3c), .i (i : Int)], upK 1 (l.length : Int), ⟨0, by omega, rfl⟩, ?_⟩
  rintro l0 x4 ⟨i, hi, hy⟩
  simp only [List.cons.injEq, Vc.Vl.i.injEq, Vc.Vl.l.injEq, and_true] at hy
  obtain ⟨e1, rfl⟩ := hy
  rw [List.append_nil] at e1
  have le1 : l0.length = (wkT l f i).length * 3 := by
    have := congrArg List.length e1
    rwa [List.length_map, flat_len v3c_len] at this
  have lw := wkT_len l f i
  refine iteI (fun hlt => ?_) (fun hge => ?_)
  · have hq := List.getElem?_eq_getElem (show i < l.length by omega)
    generalize l[i] = p at hq
    obtain ⟨c0, c1, c2⟩ := hc i p hq
    have ep := at3_eq hq
    refine ⟨sps_nb0 hb (by omega), by omega, hlt, _, c0, _, c1, _, c2, by omega, ?_⟩
    rintro x8 e8 x9 e9
    have hbt : x9 = bt f i := by rw [e9, e8]; rfl
    refine iteI (fun h9 => ?_) (fun h9 => ?_)
    · rintro x10 e10
      refine ⟨by omega, ?_⟩
      rintro x11 e11
      rw [wrap_up i (by omega)] at e11
      subst e11
      refine ⟨⟨i + 1, by omega, ?_⟩, by simp only [upK, List.getElem?_cons_succ, List.getElem?_cons_zero]; omega⟩
      rw [e1, wkT_yes (by rw [← hbt]; exact h9), List.flatMap_append, ep]
      rfl
    · rintro x10 e10
      rw [wrap_up i (by omega)] at e10
      subst e10
      refine ⟨⟨i + 1, by omega, ?_⟩, by simp only [upK, List.getElem?_cons_succ, List.getElem?_cons_zero]; omega⟩
      rw [e1, List.append_nil, wkT_no (by rw [← hbt]; exact h9)]
  · obtain rfl : i = l.length := by omega
    refine ⟨_, fun β w' hw hm => span_row (l := wk l f) hm.1 (by rw [e1, List.append_nil]; rfl) (wk_bd k2) (by unfold wk; omega), ?_⟩
    unfold spansV; rw [if_pos g]
def polyB (l : List Sp) : Bool := decide (2 ≤ l.length ∧ l.length ≤ 9) && okL l && decide (sign (l.getD 0 (0, 0)).1 (l.getD 0 (0, 0)).2 > 0)
theorem ppoly {w : World} {v : Value} {l : List Sp} (h : Sps w v l) (hlen : l.length ≤ 1000) : Calls Try.prog 54 #[v] w (Vc.Ret (.bool (polyB l)) w) := by
  have h0 := h
  obtain ⟨b0, p0, x1, rfl, hb, hc⟩ := sps_form h
  refine vc_steer_polynomial p0 (l.length : Int) x1 b0 w _ ?_
  refine ⟨by omega, sps_nb hb, ?_⟩
  refine iteI (fun h1 => ⟨by omega, sps_nb hb, iteI (fun h2 => ?_) (fun h2 => ?_)⟩) (fun h1 => ?_)
  · refine ⟨_, fun w' hw => sall (sps_below hw h0) (by omega), ?_⟩
    refine iteI (fun h3 => ?_) (fun h3 => ?_)
    · have hq := List.getElem?_eq_getElem (show 0 < l.length by omega)
      obtain ⟨c0, c1⟩ := hc 0 _ hq
      refine ⟨sps_nb0 hb (by omega), by omega, _, c0, _, c1, _, fun w' hw => sign_any _ _ w', ?_⟩
      unfold polyB
      rw [decide_eq_true (show 2 ≤ l.length ∧ l.length ≤ 9 by omega), h3, List.getD_eq_getElem?_getD, hq]
      rfl
    · unfold polyB
      rw [show okL l = false by simpa using h3]
      simp
  · unfold polyB
    rw [decide_eq_false (show ¬ (2 ≤ l.length ∧ l.length ≤ 9) by omega)]
    rfl
  · unfold polyB
    rw [decide_eq_false (show ¬ (2 ≤ l.length ∧ l.length ≤ 9) by omega)]
    rfl
theorem pelem {w : World} {v : Value} {l : List Sp} (h : Sps w v l) (i : Int) (hi : 0 ≤ i) : Calls Try.prog 88 #[v, .int .i64 i] w (Vc.Ret (Vc.S (l.getD i.toNat (0, 0)).1 (l.getD i.toNat (0, 0)).2) w) := by
  obtain ⟨b0, p0, x1, rfl, hb, hc⟩ := sps_form h
  refine vc_steer_element p0 (l.length : Int) x1 i b0 w _ ?_
  refine ⟨by omega, sps_nb hb, ?_⟩
  refine iteI (fun h1 => ?_) (fun h1 => ?_)
  · rw [List.getD_eq_getElem?_getD, List.getElem?_eq_none (by omega)]; rfl
  · have hq := List.getElem?_eq_getElem (show i.toNat < l.length by omega)
    obtain ⟨c0, c1⟩ := hc _ _ hq
    refine ⟨sps_nb0 hb (by omega), by omega, by omega, _, c0, _, c1, ?_⟩
    rw [List.getD_eq_getElem?_getD, hq]; rfl
theorem Eff.mono {w : World} {f : FuncId} {args : Array Value} {v v' : Value} {x : Nat} {cs cs' : Array Value} {t : TypeId} (h : Calls Try.prog f args w (Vc.Eff v x cs t w)) (e : (v, cs) = (v', cs')) : Calls Try.prog f args w (Vc.Eff v' x cs' t w) := by
  cases e; exact h
theorem routhA {lo bk code n base : Nat} {t : TypeId} {w : World} {xs : List Value} (h : RowOk lo bk code n base xs 2 t w) (hx : xs = ([(4294967296, 4294967296), (12884901888, 12884901888), (8589934592, 8589934592)] : List Sp).flatMap spc) :
    Calls Try.prog 24 #[ownV bk code n base] w (Vc.Ret (.tuple #[.int .i64 (1), .int .i64 0]) w) := by
  have hs : Sps w (ownV bk code n base) [(4294967296, 4294967296), (12884901888, 12884901888), (8589934592, 8589934592)] := own_sps h hx
  obtain ⟨m, e1, e2, e3⟩ := row_at (k := 3) h (by rw [hx]; rfl) (by omega)
  rw [e1] at hs ⊢
  have c := fun j u hj => e3 j u (by rw [hx]; exact hj)
  refine vc_steer_Routh (bk, 0) (m : Int) w _ ?_
  refine ⟨true, fun w' hw => Ret.mono (ppoly (sps_below hw hs) (by decide)) (by rw [show polyB [(4294967296, 4294967296), (12884901888, 12884901888), (8589934592, 8589934592)] = true by decide +kernel]), ?_⟩
  refine iteI (fun _ => ?_) (fun h => absurd rfl h)
  refine ⟨_, c 0 _ rfl, _, c 1 _ rfl, _, c 2 _ rfl, _, c 3 _ rfl, _, c 4 _ rfl, _, c 5 _ rfl, ?_⟩
  refine ⟨1, fun w' hw => Ret.mono (sign_any _ _ w') (by rw [show sign 12884901888 12884901888 = 1 by decide +kernel]), ?_⟩
  refine iteI (fun _ => ?_) (fun h => absurd rfl h)
  refine ⟨25769803776, 25769803776, 0, fun β w' hw hm => Eff.mono (op_mul 0 (a := (12884901888, 12884901888)) (b := (8589934592, 8589934592)) (show SpI (12884901888, 12884901888) by unfold SpI I64; decide) (show SpI (8589934592, 8589934592) by unfold SpI I64; decide) w' _ hm.1.2) (by rw [show cop 0 (mul 12884901888 12884901888 8589934592 8589934592) = (25769803776, 25769803776, 0) by decide +kernel]), ?_⟩
  refine ⟨0, 0, fun β w' hw hm => Ret.mono (pelem (l := [(12884901888, 12884901888)]) (own_sps hm.1 rfl) 1 (by decide)) rfl, ?_⟩
  refine ⟨0, 0, 0, fun β w' hw hm => Eff.mono (op_mul 0 (a := (4294967296, 4294967296)) (b := (0, 0)) (show SpI (4294967296, 4294967296) by unfold SpI I64; decide) (show SpI (0, 0) by unfold SpI I64; decide) w' _ hm.1.2) (by rw [show cop 0 (mul 4294967296 4294967296 0 0) = (0, 0, 0) by decide +kernel]), ?_⟩
  refine ⟨25769803776, 25769803776, 0, fun β w' hw hm => Eff.mono (op_sub 0 (a := (25769803776, 25769803776)) (b := (0, 0)) (show SpI (25769803776, 25769803776) by unfold SpI I64; decide) (show SpI (0, 0) by unfold SpI I64; decide) w' _ hm.1.2) (by rw [show cop 0 (sub 25769803776 25769803776 0 0) = (25769803776, 25769803776, 0) by decide +kernel]), ?_⟩
  refine ⟨8589934592, 8589934592, 0, fun β w' hw hm => Eff.mono (op_div 0 (a := (25769803776, 25769803776)) (b := (12884901888, 12884901888)) (show SpI (25769803776, 25769803776) by unfold SpI I64; decide) (show SpI (12884901888, 12884901888) by unfold SpI I64; decide) w' _ hm.1.2) (by rw [show cop 0 (div 25769803776 25769803776 12884901888 12884901888) = (8589934592, 8589934592, 0) by decide +kernel]), ?_⟩
  refine iteI (fun _ => ?_) (fun h => absurd rfl h)
  refine ⟨1, fun w' hw => Ret.mono (sign_any _ _ w') (by rw [show sign 8589934592 8589934592 = 1 by decide +kernel]), ?_⟩
  exact iteI (fun _ => rfl) (fun h => absurd rfl h)
theorem routhB {lo bk code n base : Nat} {t : TypeId} {w : World} {xs : List Value} (h : RowOk lo bk code n base xs 2 t w) (hx : xs = ([(4294967296, 4294967296), ((-12884901888), (-12884901888)), (8589934592, 8589934592)] : List Sp).flatMap spc) :
    Calls Try.prog 24 #[ownV bk code n base] w (Vc.Ret (.tuple #[.int .i64 (-1), .int .i64 0]) w) := by
  have hs : Sps w (ownV bk code n base) [(4294967296, 4294967296), ((-12884901888), (-12884901888)), (8589934592, 8589934592)] := own_sps h hx
  obtain ⟨m, e1, e2, e3⟩ := row_at (k := 3) h (by rw [hx]; rfl) (by omega)
  rw [e1] at hs ⊢
  have c := fun j u hj => e3 j u (by rw [hx]; exact hj)
  refine vc_steer_Routh (bk, 0) (m : Int) w _ ?_
  refine ⟨true, fun w' hw => Ret.mono (ppoly (sps_below hw hs) (by decide)) (by rw [show polyB [(4294967296, 4294967296), ((-12884901888), (-12884901888)), (8589934592, 8589934592)] = true by decide +kernel]), ?_⟩
  refine iteI (fun _ => ?_) (fun h => absurd rfl h)
  refine ⟨_, c 0 _ rfl, _, c 1 _ rfl, _, c 2 _ rfl, _, c 3 _ rfl, _, c 4 _ rfl, _, c 5 _ rfl, ?_⟩
  refine ⟨-1, fun w' hw => Ret.mono (sign_any _ _ w') (by rw [show sign (-12884901888) (-12884901888) = -1 by decide +kernel]), ?_⟩
  exact iteI (fun h => absurd h (by decide)) (fun _ => rfl)
def six : List V3 := [(1, 0, 0), (-1, 0, 0), (0, 1, 0), (0, -1, 0), (0, 0, 1), (0, 0, -1)]
theorem alive_any (w : World) : Calls Try.prog 8 #[] w (Vc.Ret (.bool true) w) := by
  refine vc_ullagelaw05_alive w _ ?_
  refine ⟨0, 9223372036854775808, fun w' hw => Ret.mono (pplus 0 0 2147483648 4294967296 false (by omega) (by unfold I64; omega) (by unfold I64; omega) w') (by rw [show wplus 0 0 2147483648 4294967296 false = (0, 9223372036854775808) by decide +kernel]), ?_⟩
  refine ⟨0, 9223372036854775808, fun w' hw => Ret.mono (pplus 0 9223372036854775808 0 0 false (by omega) (by unfold I64; omega) (by unfold I64; omega) w') (by rw [show wplus 0 9223372036854775808 0 0 false = (0, 9223372036854775808) by decide +kernel]), ?_⟩
  refine ⟨0, 9223372036854775808, fun w' hw => Ret.mono (pplus 0 9223372036854775808 0 0 false (by omega) (by unfold I64; omega) (by unfold I64; omega) w') (by rw [show wplus 0 9223372036854775808 0 0 false = (0, 9223372036854775808) by decide +kernel]), ?_⟩
  refine ⟨0, 9223372036854775808, fun w' hw => Ret.mono (pplus 0 9223372036854775808 (-2147483648) 0 true (by omega) (by unfold I64; omega) (by unfold I64; omega) w') (by rw [show wplus 0 9223372036854775808 (-2147483648) 0 true = (0, 9223372036854775808) by decide +kernel]), ?_⟩
  refine ⟨0, 9223372036854775808, fun w' hw => Ret.mono (pplus 0 9223372036854775808 0 0 true (by omega) (by unfold I64; omega) (by unfold I64; omega) w') (by rw [show wplus 0 9223372036854775808 0 0 true = (0, 9223372036854775808) by decide +kernel]), ?_⟩
  refine ⟨2147483648, true, fun w' hw => Ret.mono (pdown 0 9223372036854775808 w') (by rw [show downV 0 9223372036854775808 = (2147483648, true) by decide +kernel]), ?_⟩
  refine iteI (fun _ => ?_) (fun h => absurd rfl h)
  refine ⟨0, 9223372036854775808, fun w' hw => Ret.mono (pplus 0 0 2147483648 4294967296 false (by omega) (by unfold I64; omega) (by unfold I64; omega) w') (by rw [show wplus 0 0 2147483648 4294967296 false = (0, 9223372036854775808) by decide +kernel]), ?_⟩
  refine ⟨0, 9223372036854775808, fun w' hw => Ret.mono (pplus 0 9223372036854775808 0 4294967296 false (by omega) (by unfold I64; omega) (by unfold I64; omega) w') (by rw [show wplus 0 9223372036854775808 0 4294967296 false = (0, 9223372036854775808) by decide +kernel]), ?_⟩
  refine ⟨0, 9223372036854775808, fun w' hw => Ret.mono (pplus 0 9223372036854775808 0 0 false (by omega) (by unfold I64; omega) (by unfold I64; omega) w') (by rw [show wplus 0 9223372036854775808 0 0 false = (0, 9223372036854775808) by decide +kernel]), ?_⟩
  refine ⟨0, 13835058055282163712, fun w' hw => Ret.mono (pplus 0 9223372036854775808 (-2147483648) 2147483648 true (by omega) (by unfold I64; omega) (by unfold I64; omega) w') (by rw [show wplus 0 9223372036854775808 (-2147483648) 2147483648 true = (0, 13835058055282163712) by decide +kernel]), ?_⟩
  refine ⟨0, 13835058055282163712, fun w' hw => Ret.mono (pplus 0 13835058055282163712 0 0 true (by omega) (by unfold I64; omega) (by unfold I64; omega) w') (by rw [show wplus 0 13835058055282163712 0 0 true = (0, 13835058055282163712) by decide +kernel]), ?_⟩
  refine ⟨3221225472, true, fun w' hw => Ret.mono (pdown 0 13835058055282163712 w') (by rw [show downV 0 13835058055282163712 = (3221225472, true) by decide +kernel]), ?_⟩
  refine iteI (fun _ => ?_) (fun h => absurd rfl h)
  refine ⟨0, 9223372036854775808, fun w' hw => Ret.mono (pplus 0 0 2147483648 4294967296 false (by omega) (by unfold I64; omega) (by unfold I64; omega) w') (by rw [show wplus 0 0 2147483648 4294967296 false = (0, 9223372036854775808) by decide +kernel]), ?_⟩
  refine ⟨0, 9223372036854775808, fun w' hw => Ret.mono (pplus 0 9223372036854775808 0 4294967296 false (by omega) (by unfold I64; omega) (by unfold I64; omega) w') (by rw [show wplus 0 9223372036854775808 0 4294967296 false = (0, 9223372036854775808) by decide +kernel]), ?_⟩
  refine ⟨0, 9223372036854775808, fun w' hw => Ret.mono (pplus 0 9223372036854775808 0 4294967296 false (by omega) (by unfold I64; omega) (by unfold I64; omega) w') (by rw [show wplus 0 9223372036854775808 0 4294967296 false = (0, 9223372036854775808) by decide +kernel]), ?_⟩
  refine ⟨0, 16140901064495857664, fun w' hw => Ret.mono (pplus 0 9223372036854775808 (-2147483648) 3221225472 true (by omega) (by unfold I64; omega) (by unfold I64; omega) w') (by rw [show wplus 0 9223372036854775808 (-2147483648) 3221225472 true = (0, 16140901064495857664) by decide +kernel]), ?_⟩
  refine ⟨0, 16140901064495857664, fun w' hw => Ret.mono (pplus 0 16140901064495857664 0 2147483648 true (by omega) (by unfold I64; omega) (by unfold I64; omega) w') (by rw [show wplus 0 16140901064495857664 0 2147483648 true = (0, 16140901064495857664) by decide +kernel]), ?_⟩
  refine ⟨3758096384, true, fun w' hw => Ret.mono (pdown 0 16140901064495857664 w') (by rw [show downV 0 16140901064495857664 = (3758096384, true) by decide +kernel]), ?_⟩
  refine iteI (fun _ => ?_) (fun h => absurd rfl h)
  refine ⟨1, 0, fun β w' hw hm => routhA hm.1 rfl, ?_⟩
  refine ⟨-1, 0, fun β w' hw hm => routhB hm.1 rfl, ?_⟩
  refine ⟨true, 0, fun β w' hw hm => Ret.mono (pSpans (l := six) (sl_heap hm.1.2 rfl rfl) 0 (by unfold I64; omega)) (by rw [show spansV six 0 = (true, 0) by decide +kernel]), ?_⟩
  refine iteI (fun _ => ?_) (fun h => absurd rfl h)
  refine iteI (fun _ => ?_) (fun h => absurd rfl h)
  refine iteI (fun _ => ?_) (fun h => absurd rfl h)
  refine iteI (fun _ => ?_) (fun h => absurd rfl h)
  refine iteI (fun _ => ?_) (fun h => absurd rfl h)
  refine iteI (fun _ => ?_) (fun h => absurd rfl h)
  exact iteI (fun _ => rfl) (fun h => absurd rfl h)
end Go.Proofs.Ythmggmpgkmmfiaa
set_option linter.unusedVariables false
set_option maxRecDepth 4000
namespace Go.Proofs.Ythmggmpgkmmfiaa
open Go Go.RowKit Go.ChangeShapes Go.WideShapes Go.ChangeAt Go.Joins Go.Deep Ul Vc
theorem wf64i {n : Int} (h : (Lit.int .i64 n).wf = true) : I64 n := by
  simp only [Lit.wf, Bool.and_eq_true, decide_eq_true_eq] at h
  exact h
section
variable {H : Type} {enc : TypeId × Value → H} {w : World} {base : Nat} {sp : Nat → Bool} {held : Bool}
theorem span_cells' {fuel : Nat} {cs : List Value} {x : DataW H × List MemPlace} (h : DataW.trod enc Try.prog w base sp held fuel 42 cs = some x) : ∃ p : Sp, cs = spc p ∧ SpI p := by
  obtain ⟨y0, y1, n, _, hl, h0, h1⟩ := trod_struct2 Try.underlying42 h
  have e1 : Try.prog.cellsOf 40 = 1 := by kernel_rfl
  have e2 : Try.prog.cellsOf 42 = 2 := by kernel_rfl
  rw [e2] at hl
  simp only [e1] at h0 h1
  match cs, hl with
  | [c0, c1], _ =>
    obtain ⟨a, ha, _, wa⟩ := DataW.trod_int Try.underlying40 h0
    obtain ⟨b, hb, _, wb⟩ := DataW.trod_int Try.underlying40 h1
    simp at ha hb
    exact ⟨(a, b), by rw [ha, hb]; rfl, wf64i wa, wf64i wb⟩
end
end Go.Proofs.Ythmggmpgkmmfiaa
set_option linter.unusedVariables false
set_option maxRecDepth 4000
namespace Go.Proofs.Ythmggmpgkmmfiaa
open Go Go.RowKit Ul Vc
attribute [local irreducible] Go.Calls
theorem neg_ok {a : Sp} (ha : ok a.1 a.2 = true) (h : a.2 ≤ 9223372036854775807) : ok (-a.2) (-a.1) = true := by
  have := ok_true.1 ha
  exact ok_true.2 (by omega)
theorem ce_mono {x x' y : Int} (h : x ≤ x') (hy : 0 < y) : ce x y ≤ ce x' y := by
  unfold ce
  have := Int.ediv_le_ediv hy (show -x' ≤ -x by omega)
  omega
end Go.Proofs.Ythmggmpgkmmfiaa
set_option linter.unusedVariables false
set_option maxRecDepth 4000
namespace Go.Proofs.Ythmggmpgkmmfiaa
open Go Go.RowKit Ul Vc
attribute [local irreducible] Go.Calls
structure Pd where
  v : Sp
  push : Sp
  pull : Sp
  t : Int
structure PdI (p : Pd) : Prop where
  v : SpI p.v
  push : SpI p.push
  pull : SpI p.pull
  t : I64 p.t
abbrev PDV (p : Pd) : Value := .agg #[.int .i64 p.v.1, .int .i64 p.v.2, .int .i64 p.push.1, .int .i64 p.push.2, .int .i64 p.pull.1, .int .i64 p.pull.2, .int .i64 p.t]
def sinR (a : Sp) : R := (turn a.1 a.2).2.1
theorem sin_64 (a : Sp) : R64 (sinR a) := by
  unfold sinR turn
  split
  · split
    · exact fit_64 _ _
    · exact no_64 _
  · exact no_64 _
def at1 (p : Pd) (a : Sp) : R := cop 0 (mul p.push.1 p.push.2 (sinR a).1 (sinR a).2.1)
def at2 (p : Pd) (a : Sp) : R := cop (at1 p a).2.2 (sub (at1 p a).1 (at1 p a).2.1 p.pull.1 p.pull.2)
def at3' (p : Pd) (a : Sp) : R := cop (at2 p a).2.2 (mul (at2 p a).1 (at2 p a).2.1 p.t p.t)
def at4 (p : Pd) (a : Sp) : R := cop (at3' p a).2.2 (add p.v.1 p.v.2 (at3' p a).1 (at3' p a).2.1)
def atV (p : Pd) (a : Sp) : R := if (turn a.1 a.2).2.2 = 0 then at4 p a else (0, 0, (turn a.1 a.2).2.2)
theorem pat {p : Pd} (hp : PdI p) {a : Sp} (ha : SpI a) (w : World) : Calls Try.prog 47 #[PDV p, Vc.S a.1 a.2] w (Vc.Ret (Vc.RV (atV p a)) w) := by
  refine vc__steer_predictor__at p.v.1 p.v.2 p.push.1 p.push.2 p.pull.1 p.pull.2 p.t a.1 a.2 w _ ?_
  refine ⟨_, _, _, _, _, fun w' hw => pturn_any _ _ w' ha.1 ha.2, ?_⟩
  have hs : SpI (lohi (sinR a)) := (show SpN (lohi (sinR a)) from sin_64 a).I
  have h1 : SpN (lohi (at1 p a)) := cop_64 (mul_64 _ _ _ _)
  have h2 : SpN (lohi (at2 p a)) := cop_64 (sub_64 _ _ _ _)
  have h3 : SpN (lohi (at3' p a)) := cop_64 (mul_64 _ _ _ _)
  refine iteI (fun h => ?_) (fun h => ?_)
  · refine ⟨_, _, _, fun β w' hw hm => op_mul 0 (a := p.push) (b := lohi (sinR a)) hp.push hs w' _ hm.1.2, ?_⟩
    refine ⟨_, _, _, fun β w' hw hm => op_sub (at1 p a).2.2 (a := lohi (at1 p a)) (b := p.pull) h1.I hp.pull w' _ hm.1.2, ?_⟩
    refine ⟨_, _, fun w' hw => spoint p.t w', ?_⟩
    refine ⟨_, _, _, fun β w' hw hm => op_mul (at2 p a).2.2 (a := lohi (at2 p a)) (b := (p.t, p.t)) h2.I ⟨hp.t, hp.t⟩ w' _ hm.1.2, ?_⟩
    refine ⟨_, _, _, fun β w' hw hm => op_add (at3' p a).2.2 (a := p.v) (b := lohi (at3' p a)) hp.v h3.I w' _ hm.1.2, ?_⟩
    unfold atV
    rw [if_pos h]
    rfl
  · unfold atV
    rw [if_neg h]
def okP (p : Pd) : Bool := okL [p.v, p.push, p.pull] && decide (0 ≤ p.t) && decide (0 ≤ p.push.1)
theorem all3 (a b c : Sp) {w : World} {k : Nat} {t : TypeId} (h : w.heap[k]? = some (.cells #[.int .i64 a.1, .int .i64 a.2, .int .i64 b.1, .int .i64 b.2, .int .i64 c.1, .int .i64 c.2] t)) : Calls Try.prog 32 #[.slice (some ⟨k, 0, none⟩) 3 3] w (Vc.Ret (.bool (okL [a, b, c])) w) :=
  sall (l := [a, b, c]) (sl_heap h rfl rfl) (by simp)
theorem pright (p : Pd) (w : World) : Calls Try.prog 46 #[PDV p] w (Vc.Ret (.bool (okP p)) w) := by
  refine vc__steer_predictor__right p.v.1 p.v.2 p.push.1 p.push.2 p.pull.1 p.pull.2 p.t w _ ?_
  refine ⟨okL [p.v, p.push, p.pull], fun β w' hw hm => all3 p.v p.push p.pull hm.1.2, ?_⟩
  unfold okP
  refine iteI (fun h => iteI (fun h2 => ?_) (fun h2 => ?_)) (fun h => ?_)
  · rw [h, decide_eq_true (show 0 ≤ p.t by omega)]; simp
  · rw [decide_eq_false (show ¬ 0 ≤ p.t by omega)]; simp
  · rw [show okL [p.v, p.push, p.pull] = false by simpa using h]; simp
theorem pLift {p : Pd} (hp : PdI p) {a : Sp} (ha : SpI a) (w : World) : Calls Try.prog 22 #[Vc.S p.v.1 p.v.2, Vc.S p.push.1 p.push.2, Vc.S p.pull.1 p.pull.2, .int .i64 p.t, Vc.S a.1 a.2] w (Vc.Ret (Vc.RV (if okP p = true then atV p a else (0, 0, 2))) w) := by
  refine vc_steer_Lift p.v.1 p.v.2 p.push.1 p.push.2 p.pull.1 p.pull.2 p.t a.1 a.2 w _ ?_
  refine ⟨_, fun w' hw => pright p w', ?_⟩
  refine iteI (fun h => ⟨_, _, _, fun w' hw => pat hp ha w', ?_⟩) (fun h => ?_)
  · rw [if_pos h]
  · rw [if_neg h]
/-- Directions by halves: the least, the greatest, the rounds that were used. -/
def ordW (p : Pd) (want m : Int) : Int := order (atV p (m, m)).1 (atV p (m, m)).2.1 want want
def aimL (p : Pd) (want : Int) : Nat → Int → Int → Int → Int × Int × Int
  | 0, lo, hi, u => (lo, hi, u)
  | k + 1, lo, hi, u => if 2 ≤ hi - lo then (if ordW p want ((lo + hi) / 2) = -1 then aimL p want k ((lo + hi) / 2) hi (u + 1) else if ordW p want ((lo + hi) / 2) = 1 then aimL p want k lo ((lo + hi) / 2) (u + 1) else (lo, hi, u + 1)) else (lo, hi, u)
def aimV (p : Pd) (want rounds : Int) : Sp × Int × Int :=
  if okP p = true ∧ -9223372036854775807 ≤ want ∧ 0 ≤ rounds ∧ rounds ≤ 40 then
    if (atV p (4294967296, 4294967296)).2.2 = 0 then
      if (atV p (-4294967296, -4294967296)).2.2 = 0 then
        if (atV p (4294967296, 4294967296)).2.1 < want ∨ want < (atV p (-4294967296, -4294967296)).1 then ((0, 0), 0, 7)
        else (((aimL p want rounds.toNat (-4294967296) 4294967296 0).1, (aimL p want rounds.toNat (-4294967296) 4294967296 0).2.1), (aimL p want rounds.toNat (-4294967296) 4294967296 0).2.2, 0)
      else ((0, 0), 0, (atV p (-4294967296, -4294967296)).2.2)
    else ((0, 0), 0, (atV p (4294967296, 4294967296)).2.2)
  else ((0, 0), 0, 2)
abbrev AIV (r : Sp × Int × Int) : Value := .tuple #[Vc.S r.1.1 r.1.2, .int .i64 r.2.1, .int .i64 r.2.2]
theorem aiv {a : Sp} {u e : Int} {r : Sp × Int × Int} (h : (a, u, e) = r) : (.tuple #[Vc.S a.1 a.2, .int .i64 u, .int .i64 e] : Value) = AIV r := by rw [← h]
theorem mid_eq {lo hi : Int} (h1 : -4294967296 ≤ lo) (h2 : lo ≤ hi) (h3 : hi ≤ 4294967296) : (mid lo hi).1 = (lo + hi) / 2 := by
  unfold mid; rw [if_pos (ok_true.2 (by omega))]
theorem pAim {p : Pd} (hp : PdI p) {want rounds : Int} (hw64 : I64 want) (hr : I64 rounds) (w : World) : Calls Try.prog 19 #[Vc.S p.v.1 p.v.2, Vc.S p.push.1 p.push.2, Vc.S p.pull.1 p.pull.2, .int .i64 p.t, .int .i64 want, .int .i64 rounds] w (Vc.Ret (AIV (aimV p want rounds)) w) := by
  have bad : ¬ (okP p = true ∧ -9223372036854775807 ≤ want ∧ 0 ≤ rounds ∧ rounds ≤ 40) → (.tuple #[Vc.S 0 0, .int .i64 0, .int .i64 2] : Value) = AIV (aimV p want rounds) := fun h => aiv (a := (0, 0)) (by unfold aimV; rw [if_neg h])
  have i1 : SpI (4294967296, 4294967296) := by unfold SpI I64; decide
  have i2 : SpI (-4294967296, -4294967296) := by unfold SpI I64; decide
  refine vc_steer_Aim p.v.1 p.v.2 p.push.1 p.push.2 p.pull.1 p.pull.2 p.t want rounds w _ ?_
  refine ⟨_, fun w' hw => pright p w', ?_⟩
  refine iteI (fun g1 => ?_) (fun g1 => bad fun h => g1 h.1)
  refine ⟨_, fun w' hw => svalid want w', ?_⟩
  refine iteI (fun g2 => ?_) (fun g2 => bad fun h => g2 (decide_eq_true h.2.1))
  have g2 := of_decide_eq_true g2
  refine iteI (fun g3 => bad fun h => by omega) (fun g3 => iteI (fun g4 => bad fun h => by omega) (fun g4 => ?_))
  refine ⟨_, _, fun w' hw => swhole 1 (by omega) w', ?_⟩
  refine ⟨_, _, _, fun w' hw => pat (a := (4294967296, 4294967296)) hp i1 w', ?_⟩
  refine ⟨_, _, fun w' hw => swhole (-1) (by omega) w', ?_⟩
  refine ⟨_, _, _, fun w' hw => pat (a := (-4294967296, -4294967296)) hp i2 w', ?_⟩
  have hv : aimV p want rounds = if (atV p (4294967296, 4294967296)).2.2 = 0 then
      if (atV p (-4294967296, -4294967296)).2.2 = 0 then
        if (atV p (4294967296, 4294967296)).2.1 < want ∨ want < (atV p (-4294967296, -4294967296)).1 then ((0, 0), 0, 7)
        else (((aimL p want rounds.toNat (-4294967296) 4294967296 0).1, (aimL p want rounds.toNat (-4294967296) 4294967296 0).2.1), (aimL p want rounds.toNat (-4294967296) 4294967296 0).2.2, 0)
      else ((0, 0), 0, (atV p (-4294967296, -4294967296)).2.2)
    else ((0, 0), 0, (atV p (4294967296, 4294967296)).2.2) := by
    unfold aimV; rw [if_pos ⟨g1, g2, by omega, by omega⟩]
  rw [hv]
  refine iteI (fun e1 => iteI (fun e2 => iteI (fun e3 => ?_) (fun e3 => iteI (fun e4 => ?_) (fun e4 => ?_))) (fun e2 => ?_)) (fun e1 => ?_)
  · rw [if_pos e1, if_pos e2, if_pos (.inl e3)]
  · rw [if_pos e1, if_pos e2, if_pos (.inr e4)]
  rotate_left
  · rw [if_pos e1, if_neg e2]
  · rw [if_neg e1]
  rw [if_pos e1, if_pos e2, if_neg (by rintro (h | h); exact e3 h; exact e4 h)]
  refine ⟨fun y => ∃ (u : Nat) (lo hi : Int), (u : Int) ≤ rounds ∧ (-4294967296 ≤ lo ∧ lo ≤ hi ∧ hi ≤ 4294967296) ∧ aimL p want (rounds.toNat - u) lo hi (u : Int) = aimL p want rounds.toNat (-4294967296) 4294967296 0 ∧ y = [.i (u : Int), .i (atV p (4294967296, 4294967296)).2.2, .i lo, .i hi], upK 0 rounds, ⟨0, -4294967296, 4294967296, by omega, by omega, rfl, rfl⟩, ?_⟩
  rintro x19 x20 x21 x22 ⟨u, lo, hi, hu, hlh, heq, hy⟩
  simp only [List.cons.injEq, Vc.Vl.i.injEq, and_true] at hy
  obtain ⟨rfl, rfl, rfl, rfl⟩ := hy
  have stop : aimL p want (rounds.toNat - u) x21 x22 (u : Int) = (x21, x22, (u : Int)) → (.tuple #[Vc.S x21 x22, .int .i64 (u : Int), .int .i64 0] : Value) = AIV (((aimL p want rounds.toNat (-4294967296) 4294967296 0).1, (aimL p want rounds.toNat (-4294967296) 4294967296 0).2.1), (aimL p want rounds.toNat (-4294967296) 4294967296 0).2.2, 0) := fun h => by
    rw [← heq, h]
  refine iteI (fun hlt => ?_) (fun hge => ?_)
  rotate_left
  · refine stop ?_
    rw [show rounds.toNat - u = 0 by omega]
    rfl
  obtain ⟨k, hk⟩ : ∃ k, rounds.toNat - u = k + 1 := ⟨rounds.toNat - u - 1, by omega⟩
  rintro x23 e23
  rw [Vc.i64_id (by omega)] at e23
  subst e23
  have hstep : aimL p want (k + 1) x21 x22 (u : Int) = if 2 ≤ x22 - x21 then (if ordW p want ((x21 + x22) / 2) = -1 then aimL p want k ((x21 + x22) / 2) x22 ((u : Int) + 1) else if ordW p want ((x21 + x22) / 2) = 1 then aimL p want k x21 ((x21 + x22) / 2) ((u : Int) + 1) else (x21, x22, (u : Int) + 1)) else (x21, x22, (u : Int)) := rfl
  refine iteI (fun h2 => ?_) (fun h2 => stop (by rw [hk, hstep, if_neg h2]))
  have hm := mid_eq hlh.1 hlh.2.1 hlh.2.2
  rw [if_pos h2] at hstep
  refine ⟨_, _, fun w' hw => pmid_any _ _ w' (by unfold I64; omega) (by unfold I64; omega), ?_⟩
  rw [hm]
  generalize hmm : (x21 + x22) / 2 = m at hstep ⊢
  have hmb : x21 < m ∧ m < x22 := by omega
  refine ⟨_, _, fun w' hw => spoint m w', ?_⟩
  refine ⟨_, _, _, fun w' hw => pat (a := (m, m)) hp (by unfold SpI I64; simp only; omega) w', ?_⟩
  rintro x31 e31
  rw [wrap_up u (by omega)] at e31
  subst e31
  refine ⟨_, _, fun w' hw => spoint want w', ?_⟩
  refine ⟨_, fun w' hw => order_any _ _ _ _ w', ?_⟩
  have hnat : ((u : Int) + 1) = ((u + 1 : Nat) : Int) := by omega
  have hkk : rounds.toNat - (u + 1) = k := by omega
  refine iteI (fun o1 => ?_) (fun o1 => iteI (fun o2 => ?_) (fun o2 => ?_))
  · rw [if_pos (show ordW p want m = -1 from o1), hnat] at hstep
    exact ⟨⟨u + 1, m, x22, by omega, by omega, by rw [hkk, ← hstep, ← hk, heq], rfl⟩, by simp only [upK, List.getElem?_cons_zero]; omega⟩
  · rw [if_neg (show ¬ ordW p want m = -1 from o1), if_pos (show ordW p want m = 1 from o2), hnat] at hstep
    exact ⟨⟨u + 1, x21, m, by omega, by omega, by rw [hkk, ← hstep, ← hk, heq], rfl⟩, by simp only [upK, List.getElem?_cons_zero]; omega⟩
  · rw [if_neg (show ¬ ordW p want m = -1 from o1), if_neg (show ¬ ordW p want m = 1 from o2), hnat] at hstep
    rw [← heq, hk, hstep]
theorem ppick {lo hi by0 : Int} (h1 : -4294967296 ≤ lo) (h2 : lo ≤ hi) (h3 : hi ≤ 4294967296) (hb : 0 ≤ by0 ∧ by0 ≤ 18446744073709551615) : ∃ x, (lo ≤ x ∧ x ≤ hi) ∧ ∀ w, Calls Try.prog 21 #[Vc.S lo hi, .int .u64 by0] w (Vc.Ret (.int .i64 x) w) := by
  have hm0 := Int.emod_nonneg by0 (show hi - lo + 1 ≠ 0 by omega)
  have hm1 := Int.emod_lt_of_pos by0 (show 0 < hi - lo + 1 by omega)
  refine ⟨lo + by0 % (hi - lo + 1), by omega, fun w => ?_⟩
  refine vc_ullagelaw05_pick lo hi by0 w _ ?_
  rintro x3 e3 x4 e4 x5 e5
  rw [IntKind.wrap_u64] at e3 e4 e5
  have e5' : x5 = hi - lo := by rw [e5, e3, e4]; omega
  clear e5
  subst e5'
  refine iteI (fun h => by omega) (fun _ => ?_)
  rintro x6 e6 x7 e7
  rw [IntKind.wrap_u64] at e6 e7
  have e7' : x7 = hi - lo + 1 := by omega
  subst e7'
  refine ⟨by omega, ?_⟩
  rintro x8 e8 x9 e9 x10 e10
  rw [Int.tmod_eq_emod_of_nonneg hb.1] at e8
  subst e8
  rw [IntKind.wrap_u64] at e9
  rw [Ul.i64_eq] at e10
  rw [show x10 = lo + by0 % (hi - lo + 1) by omega]
end Go.Proofs.Ythmggmpgkmmfiaa
set_option linter.unusedVariables false
set_option maxRecDepth 4000
namespace Go.Proofs.Ythmggmpgkmmfiaa
open Go Go.RowKit Ul Vc
attribute [local irreducible] Go.Calls
/-- Spans of numbers from -1 to 1 that are valid, and rise. -/
structure MonoOK (F : Int → R) : Prop where
  e : ∀ x, -4294967296 ≤ x → x ≤ 4294967296 → (F x).2.2 = 0 ∧ ok (F x).1 (F x).2.1 = true
  m : ∀ x y, -4294967296 ≤ x → x ≤ y → y ≤ 4294967296 → (F x).1 ≤ (F y).1 ∧ (F x).2.1 ≤ (F y).2.1
theorem MonoOK.step {F : Int → R} (h : MonoOK F) {op : Int → Int → R} {L H : Int → Int → Int} (hop : ∀ a b, ok a b = true → op a b = fit (L a b) (H a b)) (hL : ∀ a b, a ≤ b → L a b ≤ H a b)
    (hm : ∀ a b c d, a ≤ c → b ≤ d → L a b ≤ L c d ∧ H a b ≤ H c d)
    (h0 : (op (F (-4294967296)).1 (F (-4294967296)).2.1).2.2 = 0) (h1 : (op (F 4294967296).1 (F 4294967296).2.1).2.2 = 0) : MonoOK (fun x => op (F x).1 (F x).2.1) := by
  have lo := h.e (-4294967296) (by omega) (by omega)
  have hi := h.e 4294967296 (by omega) (by omega)
  rw [hop _ _ lo.2] at h0
  rw [hop _ _ hi.2] at h1
  have f0 := fit_ok h0
  have f1 := fit_ok h1
  have each : ∀ x, -4294967296 ≤ x → x ≤ 4294967296 → op (F x).1 (F x).2.1 = (L (F x).1 (F x).2.1, H (F x).1 (F x).2.1, 0) := fun x hx hy => by
    have g := h.e x hx hy
    have a := h.m (-4294967296) x (by omega) hx hy
    have b := h.m x 4294967296 hx hy (by omega)
    have c := hm _ _ _ _ a.1 a.2
    have d := hm _ _ _ _ b.1 b.2
    rw [hop _ _ g.2]
    unfold fit
    rw [if_pos (by omega)]
  refine ⟨fun x hx hy => ?_, fun x y hx hxy hy => ?_⟩
  · have g := h.e x hx hy
    have a := h.m (-4294967296) x (by omega) hx hy
    have b := h.m x 4294967296 hx hy (by omega)
    have c := hm _ _ _ _ a.1 a.2
    have d := hm _ _ _ _ b.1 b.2
    have l := hL _ _ (ok_true.1 g.2).2.2
    rw [each x hx hy]
    refine ⟨rfl, ok_true.2 ?_⟩
    simp only
    omega
  · rw [each x hx (by omega), each y (by omega) hy]
    exact hm _ _ _ _ (h.m x y hx hxy hy).1 (h.m x y hx hxy hy).2
theorem fl_le_ce {x y z : Int} (h : x ≤ y) (hz : 0 < z) : fl x z ≤ ce y z := by
  unfold fl ce
  have h1 := Int.ediv_mul_le x (show z ≠ 0 by omega)
  have h2 := Int.ediv_mul_le (-y) (show z ≠ 0 by omega)
  have h3 : (x / z + (-y) / z) * z ≤ 0 := by rw [Int.add_mul]; omega
  have : x / z + (-y) / z ≤ 0 := by
    refine Decidable.byContradiction fun hn => ?_
    have := Int.mul_pos (show 0 < x / z + (-y) / z by omega) hz
    omega
  omega
theorem fl_mono {x y z : Int} (h : x ≤ y) (hz : 0 < z) : fl x z ≤ fl y z := Int.ediv_le_ediv hz h
theorem mul_nn_mono {p a c : Int} (hp : 0 ≤ p) (h : a ≤ c) : p * a ≤ p * c := Int.mul_le_mul_of_nonneg_left h hp
theorem step_mul {F : Int → R} (h : MonoOK F) {p q : Int} (hp : 0 ≤ p) (hpq : ok p q = true) (h0 : (mul p q (F (-4294967296)).1 (F (-4294967296)).2.1).2.2 = 0) (h1 : (mul p q (F 4294967296).1 (F 4294967296).2.1).2.2 = 0) :
    MonoOK (fun x => mul p q (F x).1 (F x).2.1) := by
  have hq : 0 ≤ q := by have := ok_true.1 hpq; omega
  refine h.step (op := fun a b => mul p q a b) (L := fun a b => fl (min4 (p * a) (p * b) (q * a) (q * b)) 4294967296) (H := fun a b => ce (max4 (p * a) (p * b) (q * a) (q * b)) 4294967296) (fun a b hab => ?_) (fun a b hab => ?_) (fun a b c d hac hbd => ?_) h0 h1
  · unfold mul; rw [hpq, hab]; rfl
  · exact fl_le_ce (by simp only [min4, max4]; omega) (by omega)
  · have m1 := mul_nn_mono hp hac
    have m2 := mul_nn_mono hp hbd
    have m3 := mul_nn_mono hq hac
    have m4 := mul_nn_mono hq hbd
    exact ⟨fl_mono (by simp only [min4]; omega) (by omega), ce_mono (by simp only [max4]; omega) (by omega)⟩
theorem step_time {F : Int → R} (h : MonoOK F) {t : Int} (ht : 0 ≤ t) (h0 : (mul (F (-4294967296)).1 (F (-4294967296)).2.1 t t).2.2 = 0) (h1 : (mul (F 4294967296).1 (F 4294967296).2.1 t t).2.2 = 0) :
    MonoOK (fun x => mul (F x).1 (F x).2.1 t t) := by
  have htt : ok t t = true := ok_true.2 (by omega)
  refine h.step (op := fun a b => mul a b t t) (L := fun a b => fl (min4 (a * t) (a * t) (b * t) (b * t)) 4294967296) (H := fun a b => ce (max4 (a * t) (a * t) (b * t) (b * t)) 4294967296) (fun a b hab => ?_) (fun a b hab => ?_) (fun a b c d hac hbd => ?_) h0 h1
  · unfold mul; rw [htt, hab]; rfl
  · exact fl_le_ce (by simp only [min4, max4]; omega) (by omega)
  · have m1 := Int.mul_le_mul_of_nonneg_right hac ht
    have m2 := Int.mul_le_mul_of_nonneg_right hbd ht
    exact ⟨fl_mono (by simp only [min4]; omega) (by omega), ce_mono (by simp only [max4]; omega) (by omega)⟩
theorem step_sub {F : Int → R} (h : MonoOK F) {c d : Int} (hcd : ok c d = true) (hd : d ≤ 9223372036854775807) (h0 : (sub (F (-4294967296)).1 (F (-4294967296)).2.1 c d).2.2 = 0) (h1 : (sub (F 4294967296).1 (F 4294967296).2.1 c d).2.2 = 0) :
    MonoOK (fun x => sub (F x).1 (F x).2.1 c d) := by
  refine h.step (op := fun a b => sub a b c d) (L := fun a b => a + -d) (H := fun a b => b + -c) (fun a b hab => ?_) (fun a b hab => ?_) (fun a b c d hac hbd => ?_) h0 h1
  · unfold sub add; rw [if_pos hcd, hab, neg_ok (a := (c, d)) hcd hd]; rfl
  · have := ok_true.1 hcd; omega
  · constructor <;> omega
theorem step_add {F : Int → R} (h : MonoOK F) {c d : Int} (hcd : ok c d = true) (h0 : (add c d (F (-4294967296)).1 (F (-4294967296)).2.1).2.2 = 0) (h1 : (add c d (F 4294967296).1 (F 4294967296).2.1).2.2 = 0) :
    MonoOK (fun x => add c d (F x).1 (F x).2.1) := by
  refine h.step (op := fun a b => add c d a b) (L := fun a b => c + a) (H := fun a b => d + b) (fun a b hab => ?_) (fun a b hab => ?_) (fun a b c d hac hbd => ?_) h0 h1
  · unfold add; rw [hcd, hab]; rfl
  · have := ok_true.1 hcd; omega
  · constructor <;> omega
theorem sin_eq {x : Int} (h1 : -4294967296 ≤ x) (h2 : x ≤ 4294967296) : (turn x x).2.2 = 0 ∧ sinR (x, x) = fit (fl (ts x) (td x)) (ce (ts x) (td x)) := by
  have hk : ok x x = true := ok_true.2 (by omega)
  unfold sinR turn
  rw [if_pos hk, if_pos ⟨h1, h2⟩]
  exact ⟨rfl, rfl⟩
theorem sqnn (x : Int) : 0 ≤ x * x := by
  rcases Int.le_total 0 x with h | h
  · exact Int.mul_nonneg h h
  · have := Int.mul_nonneg (show 0 ≤ -x by omega) (show 0 ≤ -x by omega)
    have e : -x * -x = x * x := by grind
    omega
theorem td_pos (x : Int) : 0 < td x := by have := sqnn x; unfold td; omega
theorem ts_bd (x : Int) : -4294967296 * td x ≤ ts x ∧ ts x ≤ 4294967296 * td x := by
  have h1 := sqnn (x - 4294967296)
  have h2 := sqnn (x + 4294967296)
  have e1 : (x - 4294967296) * (x - 4294967296) = x * x - 8589934592 * x + 18446744073709551616 := by grind
  have e2 : (x + 4294967296) * (x + 4294967296) = x * x + 8589934592 * x + 18446744073709551616 := by grind
  unfold ts td
  constructor <;> omega
theorem ts_cross {x y : Int} (hx : -4294967296 ≤ x) (hxy : x ≤ y) (hy : y ≤ 4294967296) : ts x * td y ≤ ts y * td x := by
  have hb := mul_bd (show Bd 4294967296 x by unfold Bd; omega) (show Bd 4294967296 y by unfold Bd; omega)
  unfold Bd at hb
  have h1 := Int.mul_nonneg (show 0 ≤ y - x by omega) (show 0 ≤ 18446744073709551616 - x * y by omega)
  have e : ts y * td x - ts x * td y = 36893488147419103232 * ((y - x) * (18446744073709551616 - x * y)) := by unfold ts td; grind
  omega
theorem quo_mono {a b c d : Int} (hb : 0 < b) (hd : 0 < d) (h : a * d ≤ c * b) : a / b ≤ c / d := by
  refine (Int.le_ediv_iff_mul_le hd).2 ?_
  have h1 := Int.ediv_mul_le a (show b ≠ 0 by omega)
  have h2 := Int.mul_le_mul_of_nonneg_right h1 (Int.le_of_lt hd)
  have e : a / b * b * d = a / b * d * b := by grind
  refine Int.le_of_mul_le_mul_right (a := b) ?_ hb
  omega
theorem sin_mono : MonoOK (fun x => sinR (x, x)) := by
  have each : ∀ x, -4294967296 ≤ x → x ≤ 4294967296 → sinR (x, x) = (fl (ts x) (td x), ce (ts x) (td x), 0) ∧ -4294967296 ≤ fl (ts x) (td x) ∧ fl (ts x) (td x) ≤ ce (ts x) (td x) ∧ ce (ts x) (td x) ≤ 4294967296 := fun x hx hy => by
    have b := ts_bd x
    have t := td_pos x
    have l1 : -4294967296 ≤ fl (ts x) (td x) := (Int.le_ediv_iff_mul_le t).2 b.1
    have e0 : -4294967296 * td x = -(4294967296 * td x) := by grind
    have l2 : ce (ts x) (td x) ≤ 4294967296 := by
      unfold ce
      have : -4294967296 ≤ -ts x / td x := (Int.le_ediv_iff_mul_le t).2 (by have := b.2; omega)
      omega
    have l3 := fl_le_ce (Int.le_refl (ts x)) t
    refine ⟨?_, l1, l3, l2⟩
    rw [(sin_eq hx hy).2]
    unfold fit
    rw [if_pos (by omega)]
  refine ⟨fun x hx hy => ?_, fun x y hx hxy hy => ?_⟩
  · obtain ⟨e, l1, l2, l3⟩ := each x hx hy
    rw [e]
    refine ⟨rfl, ok_true.2 ?_⟩
    simp only
    omega
  · rw [(each x hx (by omega)).1, (each y (by omega) hy).1]
    have c := ts_cross hx hxy hy
    refine ⟨quo_mono (td_pos x) (td_pos y) c, ?_⟩
    simp only
    unfold ce
    have : -ts y / td y ≤ -ts x / td x := quo_mono (td_pos y) (td_pos x) (by
      have e1 : -ts y * td x = -(ts y * td x) := by grind
      have e2 : -ts x * td y = -(ts x * td y) := by grind
      omega)
    omega
theorem cop_0 {e : Int} {r : R} (h : e = 0) : cop e r = r := by subst h; rfl
theorem okP_of {p : Pd} (h : okP p = true) : ok p.v.1 p.v.2 = true ∧ ok p.push.1 p.push.2 = true ∧ ok p.pull.1 p.pull.2 = true ∧ 0 ≤ p.t ∧ 0 ≤ p.push.1 := by
  unfold okP at h
  simp only [Bool.and_eq_true, decide_eq_true_eq] at h
  have := of_decide_eq_true h.1.1
  simp at this
  exact ⟨this.1, this.2.1, this.2.2, h.1.2, h.2⟩
def fs1 (p : Pd) (x : Int) : R := mul p.push.1 p.push.2 (sinR (x, x)).1 (sinR (x, x)).2.1
def fs2 (p : Pd) (x : Int) : R := sub (fs1 p x).1 (fs1 p x).2.1 p.pull.1 p.pull.2
def fs3 (p : Pd) (x : Int) : R := mul (fs2 p x).1 (fs2 p x).2.1 p.t p.t
def fs4 (p : Pd) (x : Int) : R := add p.v.1 p.v.2 (fs3 p x).1 (fs3 p x).2.1
theorem at_mono {p : Pd} (hp : PdI p) (hk : okP p = true) (h0 : (atV p (-4294967296, -4294967296)).2.2 = 0) (h1 : (atV p (4294967296, 4294967296)).2.2 = 0) : ∃ F, MonoOK F ∧ ∀ x, -4294967296 ≤ x → x ≤ 4294967296 → atV p (x, x) = F x := by
  obtain ⟨k1, k2, k3, k4, k5⟩ := okP_of hk
  have t : ∀ x, -4294967296 ≤ x → x ≤ 4294967296 → atV p (x, x) = at4 p (x, x) := fun x hx hy => by unfold atV; rw [if_pos (sin_eq hx hy).1]
  rw [t _ (by omega) (by omega)] at h0 h1
  obtain ⟨a3, a4, _⟩ := cop_ok (show (cop _ _).2.2 = 0 from h0)
  obtain ⟨a2, a5, _⟩ := cop_ok (show (cop _ _).2.2 = 0 from a3)
  obtain ⟨a1, a7, _⟩ := cop_ok (show (cop _ _).2.2 = 0 from a2)
  obtain ⟨_, a9, _⟩ := cop_ok (show (cop _ _).2.2 = 0 from a1)
  obtain ⟨b3, b4, _⟩ := cop_ok (show (cop _ _).2.2 = 0 from h1)
  obtain ⟨b2, b5, _⟩ := cop_ok (show (cop _ _).2.2 = 0 from b3)
  obtain ⟨b1, b7, _⟩ := cop_ok (show (cop _ _).2.2 = 0 from b2)
  obtain ⟨_, b9, _⟩ := cop_ok (show (cop _ _).2.2 = 0 from b1)
  have m1 : MonoOK (fs1 p) := step_mul sin_mono k5 k2 a9 b9
  have e1 : ∀ x, at1 p (x, x) = fs1 p x := fun x => rfl
  rw [e1] at a7 b7
  have m2 : MonoOK (fs2 p) := step_sub m1 k3 hp.pull.2.2 a7 b7
  have e2 : ∀ x, -4294967296 ≤ x → x ≤ 4294967296 → at2 p (x, x) = fs2 p x := fun x hx hy => by
    unfold at2; rw [e1]; exact cop_0 (m1.e x hx hy).1
  rw [e2 _ (by omega) (by omega)] at a5 b5
  have m3 : MonoOK (fs3 p) := step_time m2 k4 a5 b5
  have e3 : ∀ x, -4294967296 ≤ x → x ≤ 4294967296 → at3' p (x, x) = fs3 p x := fun x hx hy => by
    unfold at3'; rw [e2 x hx hy]; exact cop_0 (m2.e x hx hy).1
  rw [e3 _ (by omega) (by omega)] at a4 b4
  have m4 : MonoOK (fs4 p) := step_add m3 k1 a4 b4
  refine ⟨_, m4, fun x hx hy => ?_⟩
  rw [t x hx hy]
  unfold at4
  rw [e3 x hx hy]
  exact cop_0 (m3.e x hx hy).1
theorem aim_facts {p : Pd} {want : Int} : ∀ (k : Nat) (lo hi u : Int), lo ≤ hi → (lo ≤ (aimL p want k lo hi u).1 ∧ (aimL p want k lo hi u).1 ≤ (aimL p want k lo hi u).2.1 ∧ (aimL p want k lo hi u).2.1 ≤ hi) ∧ (aimL p want k lo hi u).2.2 ≤ u + (k : Int) ∧
    ((aimL p want k lo hi u).1 = lo ∨ ordW p want (aimL p want k lo hi u).1 = -1) ∧ ((aimL p want k lo hi u).2.1 = hi ∨ ordW p want (aimL p want k lo hi u).2.1 = 1)
  | 0, lo, hi, u, h => ⟨⟨Int.le_refl _, h, Int.le_refl _⟩, by simp [aimL], .inl rfl, .inl rfl⟩
  | k + 1, lo, hi, u, h => by
    unfold aimL
    split
    · split
      · rename_i h2 h3
        obtain ⟨a, b, c, d⟩ := aim_facts (p := p) (want := want) k ((lo + hi) / 2) hi (u + 1) (by omega)
        refine ⟨by omega, by omega, ?_, d⟩
        rcases c with c | c
        · right; rw [c]; exact h3
        · exact .inr c
      · split
        · rename_i h2 h3 h4
          obtain ⟨a, b, c, d⟩ := aim_facts (p := p) (want := want) k lo ((lo + hi) / 2) (u + 1) (by omega)
          refine ⟨by omega, by omega, c, ?_⟩
          rcases d with d | d
          · right; rw [d]; exact h4
          · exact .inr d
        · exact ⟨⟨Int.le_refl _, h, Int.le_refl _⟩, by simp only; omega, .inl rfl, .inl rfl⟩
    · exact ⟨⟨Int.le_refl _, h, Int.le_refl _⟩, by simp only; omega, .inl rfl, .inl rfl⟩
theorem aim_prefix {p : Pd} {want : Int} (j : Nat) : ∀ (k : Nat) (lo hi u u' : Int), lo ≤ hi → (aimL p want k lo hi u).1 ≤ (aimL p want (k + j) lo hi u').1 ∧ (aimL p want (k + j) lo hi u').2.1 ≤ (aimL p want k lo hi u).2.1
  | 0, lo, hi, u, u', h => by
    have := (aim_facts (p := p) (want := want) (0 + j) lo hi u' h).1
    exact ⟨this.1, this.2.2⟩
  | k + 1, lo, hi, u, u', h => by
    rw [show k + 1 + j = (k + j) + 1 by omega]
    unfold aimL
    split
    · split
      · exact aim_prefix j k _ hi _ _ (by omega)
      · split
        · exact aim_prefix j k lo _ _ _ (by omega)
        · exact ⟨Int.le_refl _, Int.le_refl _⟩
    · exact ⟨Int.le_refl _, Int.le_refl _⟩
theorem ord_neg {p : Pd} {want m : Int} (h : ordW p want m = -1) : (atV p (m, m)).2.1 < want := by
  unfold ordW order at h
  split at h
  · split at h
    · assumption
    · split at h <;> cases h
  · cases h
theorem ord_pos {p : Pd} {want m : Int} (h : ordW p want m = 1) : want < (atV p (m, m)).1 := by
  unfold ordW order at h
  split at h
  · split at h
    · cases h
    · split at h
      · assumption
      · cases h
  · cases h
theorem walk_steerBrackets {p : Pd} (hp : PdI p) {want rounds more by0 : Int} (hw64 : I64 want) (hr : 0 ≤ rounds ∧ rounds ≤ 255) (hm : 0 ≤ more ∧ more ≤ 255) (hb : 0 ≤ by0 ∧ by0 ≤ 18446744073709551615) (w : World) :
    Calls Try.prog 7 #[PDV p, .int .i64 want, .int .u8 rounds, .int .u8 more, .int .u64 by0] w (Vc.Ret (.bool true) w) := by
  refine vc_ullagelaw05_SteerBrackets p.v.1 p.v.2 p.push.1 p.push.2 p.pull.1 p.pull.2 p.t want rounds more by0 w _ ?_
  refine ⟨true, fun w' hw => alive_any w', ?_⟩
  rintro x11 e11 n e12
  rw [Vc.i64_id (by omega)] at e11
  subst e11
  rw [Int.tmod_eq_emod_of_nonneg hr.1] at e12
  refine ⟨_, _, _, _, fun w' hw => pAim hp hw64 (by unfold I64; omega) w', ?_⟩
  by_cases he : (aimV p want n).2.2 = 0
  rotate_left
  · exact iteI (fun h => absurd h he) (fun _ => rfl)
  refine iteI (fun _ => iteI (fun _ => ?_) (fun h => absurd rfl h)) (fun h => absurd he h)
  have c1 : okP p = true ∧ -9223372036854775807 ≤ want ∧ 0 ≤ n ∧ n ≤ 40 := by
    refine Decidable.byContradiction fun k => ?_
    unfold aimV at he; rw [if_neg k] at he; cases he
  have c2 : (atV p (4294967296, 4294967296)).2.2 = 0 := by
    refine Decidable.byContradiction fun k => ?_
    unfold aimV at he; rw [if_pos c1, if_neg k] at he; exact k he
  have c3 : (atV p (-4294967296, -4294967296)).2.2 = 0 := by
    refine Decidable.byContradiction fun k => ?_
    unfold aimV at he; rw [if_pos c1, if_pos c2, if_neg k] at he; exact k he
  have c4 : ¬ ((atV p (4294967296, 4294967296)).2.1 < want ∨ want < (atV p (-4294967296, -4294967296)).1) := fun k => by
    unfold aimV at he; rw [if_pos c1, if_pos c2, if_pos c3, if_pos k] at he; cases he
  have hv : ∀ r : Int, 0 ≤ r → r ≤ 40 → aimV p want r = (((aimL p want r.toNat (-4294967296) 4294967296 0).1, (aimL p want r.toNat (-4294967296) 4294967296 0).2.1), (aimL p want r.toNat (-4294967296) 4294967296 0).2.2, 0) := fun r h1 h2 => by
    unfold aimV; rw [if_pos ⟨c1.1, c1.2.1, h1, h2⟩, if_pos c2, if_pos c3, if_neg c4]
  rw [hv n c1.2.2.1 c1.2.2.2]
  have af := aim_facts (p := p) (want := want) n.toNat (-4294967296) 4294967296 0 (by omega)
  have px := fun j => aim_prefix (p := p) (want := want) j n.toNat (-4294967296) 4294967296 0 0 (by omega)
  generalize aimL p want n.toNat (-4294967296) 4294967296 0 = T at af px ⊢
  obtain ⟨lo, hi, used⟩ := T
  dsimp only at af px ⊢
  obtain ⟨a1, a2, a3, a4⟩ := af
  refine iteI (fun h => absurd h (by omega)) (fun _ => iteI (fun h => absurd h (by omega)) (fun _ => iteI (fun h => absurd h (by omega)) (fun _ => iteI (fun h => absurd h (by omega)) (fun _ => ?_))))
  rintro x17 e17 x18 e18
  rw [Vc.i64_id (by omega)] at e17 e18
  subst e17 e18
  refine ⟨by omega, ?_⟩
  rintro x19 e19 x20 e20
  rw [Int.tmod_eq_emod_of_nonneg hm.1] at e19
  have m0 := Int.emod_nonneg x17 (show 41 - n ≠ 0 by omega)
  have m1 := Int.emod_lt_of_pos x17 (show 0 < 41 - n by omega)
  rw [← e19] at m0 m1
  rw [Vc.i64_id (by omega)] at e20
  subst e20
  refine ⟨_, _, _, _, fun w' hw => pAim hp hw64 (by unfold I64; omega) w', ?_⟩
  rw [hv (n + x19) (by omega) (by omega)]
  refine iteI (fun _ => ?_) (fun h => absurd rfl h)
  have pp := px x19.toNat
  rw [show n.toNat + x19.toNat = (n + x19).toNat by omega] at pp
  have bf := (aim_facts (p := p) (want := want) (n + x19).toNat (-4294967296) 4294967296 0 (by omega)).1
  refine ⟨_, fun w' hw => within_any _ _ _ _ w', ?_⟩
  have hwi : within (aimL p want (n + x19).toNat (-4294967296) 4294967296 0).1 (aimL p want (n + x19).toNat (-4294967296) 4294967296 0).2.1 lo hi = true := by
    unfold within
    rw [ok_true.2 (show -9223372036854775807 ≤ (aimL p want (n + x19).toNat (-4294967296) 4294967296 0).1 ∧ -9223372036854775807 ≤ (aimL p want (n + x19).toNat (-4294967296) 4294967296 0).2.1 ∧ (aimL p want (n + x19).toNat (-4294967296) 4294967296 0).1 ≤ (aimL p want (n + x19).toNat (-4294967296) 4294967296 0).2.1 by omega), ok_true.2 (show -9223372036854775807 ≤ lo ∧ -9223372036854775807 ≤ hi ∧ lo ≤ hi by omega)]
    simp only [Bool.true_and, Bool.and_eq_true, decide_eq_true_eq]
    omega
  rw [hwi]
  refine iteI (fun _ => ?_) (fun h => absurd rfl h)
  obtain ⟨x, hx, hxc⟩ := ppick (lo := -4294967296) (hi := lo) (by0 := by0) (by omega) (by omega) (by omega) hb
  obtain ⟨y, hy, hyc⟩ := ppick (lo := hi) (hi := 4294967296) (by0 := by0) (by omega) (by omega) (by omega) hb
  obtain ⟨F, hF, hFe⟩ := at_mono hp c1.1 c3 c2
  refine ⟨_, fun w' hw => hxc w', _, fun w' hw => hyc w', ?_⟩
  refine ⟨_, _, _, fun w' hw => pLift hp (a := (x, x)) (by unfold SpI I64; simp only; omega) w', ?_⟩
  refine ⟨_, _, _, fun w' hw => pLift hp (a := (y, y)) (by unfold SpI I64; simp only; omega) w', ?_⟩
  rw [if_pos c1.1, if_pos c1.1]
  have ex := hFe x (by omega) (by omega)
  have ey := hFe y (by omega) (by omega)
  rw [ex, ey]
  refine iteI (fun _ => iteI (fun _ => ?_) (fun h => absurd (hF.e y (by omega) (by omega)).1 h)) (fun h => absurd (hF.e x (by omega) (by omega)).1 h)
  have below : ¬ lo = -4294967296 → (F x).2.1 < want := fun h => by
    rcases a3 with a3 | a3
    · exact absurd a3 h
    · have := ord_neg a3
      rw [hFe lo (by omega) (by omega)] at this
      have := (hF.m x lo (by omega) (by omega) (by omega)).2
      omega
  have above : ¬ hi = 4294967296 → want < (F y).1 := fun h => by
    rcases a4 with a4 | a4
    · exact absurd a4 h
    · have := ord_pos a4
      rw [hFe hi (by omega) (by omega)] at this
      have := (hF.m hi y (by omega) (by omega) (by omega)).1
      omega
  refine iteI (fun g1 => iteI (fun g2 => ?_) (fun g2 => ?_)) (fun g1 => iteI (fun g2 => ?_) (fun g2 => ?_))
  · exact iteI (fun _ => rfl) (fun h => absurd rfl h)
  · exact iteI (fun _ => by rw [decide_eq_true (show (F y).1 > want from above g2)]) (fun h => absurd rfl h)
  · exact iteI (fun _ => iteI (fun _ => rfl) (fun h => absurd (below g1) h)) (fun h => absurd rfl h)
  · exact iteI (fun _ => iteI (fun _ => by rw [decide_eq_true (show (F y).1 > want from above g2)]) (fun h => absurd (below g1) h)) (fun h => absurd rfl h)
end Go.Proofs.Ythmggmpgkmmfiaa
set_option linter.unusedVariables false
set_option maxRecDepth 4000
namespace Go.Proofs.Ythmggmpgkmmfiaa
open Go Go.RowKit Go.ChangeShapes Go.WideShapes Go.ChangeAt Go.Joins Go.Deep Ul Vc
theorem wf8' {n : Int} (h : (Lit.int .u8 n).wf = true) : 0 ≤ n ∧ n ≤ 255 := by
  simp only [Lit.wf, Bool.and_eq_true, decide_eq_true_eq] at h
  exact h
theorem wf64u {n : Int} (h : (Lit.int .u64 n).wf = true) : 0 ≤ n ∧ n ≤ 18446744073709551615 := by
  simp only [Lit.wf, Bool.and_eq_true, decide_eq_true_eq] at h
  exact h
section
variable {H : Type} {enc : TypeId × Value → H} {w : World} {base : Nat} {sp : Nat → Bool} {held : Bool}
set_option maxRecDepth 100000 in
theorem push_cells {fuel : Nat} {cs : List Value} {x : DataW H × List MemPlace} (h : DataW.trod enc Try.prog w base sp held fuel 54 cs = some x) : ∃ f : Pd, Value.agg cs.toArray = PDV f ∧ PdI f := by
  obtain ⟨xs, n, _, _, hl, hlen, hf⟩ := DataW.trod_struct Try.underlying54 h
  have e1 : Try.prog.cellsOf 40 = 1 := by kernel_rfl
  have e2 : Try.prog.cellsOf 42 = 2 := by kernel_rfl
  have e3 : Try.prog.cellsOf 54 = 7 := by kernel_rfl
  rw [e3] at hl
  match xs, hlen with
  | [y0, y1, y2, y3], _ =>
    match cs, hl with
    | [c0, c1, c2, c3, c4, c5, c6], _ =>
      have g0 := hf 0 _ rfl
      have g1 := hf 1 _ rfl
      have g2 := hf 2 _ rfl
      have g3 := hf 3 _ rfl
      simp [e1, e2] at g0 g1 g2 g3
      obtain ⟨s0, q0, w0⟩ := span_cells' g0
      obtain ⟨s1, q1, w1⟩ := span_cells' g1
      obtain ⟨s2, q2, w2⟩ := span_cells' g2
      obtain ⟨a, ha, _, wa⟩ := DataW.trod_int Try.underlying40 g3
      simp [spc] at q0 q1 q2 ha
      obtain ⟨rfl, rfl⟩ := q0
      obtain ⟨rfl, rfl⟩ := q1
      obtain ⟨rfl, rfl⟩ := q2
      subst ha
      exact ⟨⟨s0, s1, s2, a⟩, rfl, ⟨w0, w1, w2, wf64i wa⟩⟩
theorem open_push {P : Program} (hP : P = Try.prog) {r : Reach} {b0 : Nat} {v : Value} {d : DataW H} {ps : List MemPlace} (hval : Value.okWide P w r b0 54 v) (hd : DataW.Trod enc P w base sp held 54 v d ps) :
    ∃ f : Pd, v = PDV f ∧ PdI f := by
  obtain ⟨fs, hfs⟩ : ∃ fs, P.underlying 54 = some (.struct fs) := ⟨_, by rw [hP]; exact Try.underlying54⟩
  have hz : ∀ fuel cs x, DataW.trod enc P w base sp held fuel 54 cs = some x → ∃ f : Pd, Value.agg cs.toArray = PDV f ∧ PdI f := fun fuel cs x h => by rw [hP] at h; exact push_cells h
  clear hP
  obtain ⟨cs, rfl, _⟩ := okWide_struct hfs hval
  obtain ⟨fuel, hf⟩ := hd
  obtain ⟨z, h1, h2⟩ := hz _ _ _ hf
  exact ⟨z, h1, h2⟩
end
theorem walk_steerBrackets' {w : World} (p : Pd) (hp : PdI p) (want : Int) (hw64 : (Lit.int .i64 want).wf = true) (rounds : Int) (hr : (Lit.int .u8 rounds).wf = true) (more : Int) (hm : (Lit.int .u8 more).wf = true) (by0 : Int) (hb : (Lit.int .u64 by0).wf = true) :
    Calls Try.prog 7 #[PDV p, .int .i64 want, .int .u8 rounds, .int .u8 more, .int .u64 by0] w (Vc.Ret (.bool true) w) := walk_steerBrackets hp (wf64i hw64) (wf8' hr) (wf8' hm) (wf64u hb) w
end Go.Proofs.Ythmggmpgkmmfiaa
