/- The text of any number: what it is, and span.Text walked. -/
import Derived.Test.YtcoakpdafpclpaaGreatDoorTv
import Derived.Test.YtcoakpdafpclpaaGreatDoorTtB
set_option linter.unusedVariables false
set_option linter.unusedSimpArgs false
namespace Go.Proofs.YtcoakpdafpclpaaGreatDoor
open Go Go.RowKit Go.Sort Go.Proofs Ul
/-- The digits behind the point of rest / 2^32. -/
def tailF : Nat → Nat → List UInt8
  | 0, _ => []
  | k + 1, r => if r = 0 then [] else UInt8.ofNat (48 + r * 10 / 4294967296) :: tailF k (r * 10 % 4294967296)
/-- How often 2 divides. -/
def tz : Nat → Nat → Nat
  | 0, _ => 0
  | f + 1, r => if r % 2 = 0 then 1 + tz f (r / 2) else 0
theorem tz_dvd : ∀ (f r : Nat), 2 ^ tz f r ∣ r
  | 0, r => by simp [tz]
  | f + 1, r => by
    unfold tz
    split
    · rename_i h
      obtain ⟨q, hq⟩ := tz_dvd f (r / 2)
      refine ⟨q, ?_⟩
      rw [Nat.pow_add, Nat.pow_one, Nat.mul_assoc, ← hq]; omega
    · simp
theorem tz_ge : ∀ {f t r : Nat}, t ≤ f → 2 ^ t ∣ r → t ≤ tz f r
  | 0, t, r, h, _ => by omega
  | f + 1, 0, r, _, _ => Nat.zero_le _
  | f + 1, t + 1, r, h, hd => by
    obtain ⟨q, hq⟩ := hd
    have h2 : r = 2 * (2 ^ t * q) := by rw [hq, Nat.pow_succ, Nat.mul_comm (2 ^ t) 2, Nat.mul_assoc]
    unfold tz
    rw [if_pos (by omega)]
    have := tz_ge (f := f) (t := t) (r := r / 2) (by omega) ⟨q, by omega⟩
    omega
/-- The rest loses a factor at each digit. -/
theorem tz_step {r : Nat} (h0 : 0 < r) (h1 : r < 4294967296) : tz 32 r < 32 ∧ tz 32 r < tz 32 (r * 10 % 4294967296) ∧ tz 32 (r * 10 % 4294967296) ≤ 32 := by
  have hd := tz_dvd 32 r
  have hle : ∀ f x, tz f x ≤ f := by
    intro f
    induction f with
    | zero => intro x; simp [tz]
    | succ f ih => intro x; unfold tz; split <;> have := ih (x / 2) <;> omega
  have h32 : tz 32 r < 32 := by
    by_cases h : tz 32 r < 32
    · exact h
    · have e : tz 32 r = 32 := by have := hle 32 r; omega
      rw [e] at hd
      have := Nat.le_of_dvd h0 hd
      omega
  refine ⟨h32, tz_ge h32 ?_, hle 32 _⟩
  have h3 : 2 ^ (tz 32 r + 1) ∣ r * 10 := by
    obtain ⟨q, hq⟩ := hd
    refine ⟨q * 5, ?_⟩
    rw [Nat.pow_succ]
    conv => lhs; rw [hq]
    grind
  have h4 : 2 ^ (tz 32 r + 1) ∣ 4294967296 := ⟨2 ^ (32 - (tz 32 r + 1)), by rw [← Nat.pow_add, show tz 32 r + 1 + (32 - (tz 32 r + 1)) = 32 by omega]⟩
  exact (Nat.dvd_mod_iff h4).2 h3
/-- More fuel changes nothing. -/
theorem tailF_fuel : ∀ (k k' : Nat) {r : Nat}, r < 4294967296 → 32 - tz 32 r ≤ k → 32 - tz 32 r ≤ k' → tailF k r = tailF k' r := by
  have nil : ∀ j, tailF j 0 = [] := fun j => by cases j <;> simp [tailF]
  have zero : ∀ {r : Nat}, r < 4294967296 → 32 - tz 32 r ≤ 0 → r = 0 := fun {r} hr h => by
    have hd := tz_dvd 32 r
    have : 2 ^ 32 ∣ r := Nat.dvd_trans (Nat.pow_dvd_pow 2 (by omega)) hd
    obtain ⟨q, hq⟩ := this
    omega
  intro k
  induction k with
  | zero =>
    intro k' r hr h _
    obtain rfl := zero hr h
    rw [nil, nil]
  | succ k ih =>
    intro k' r hr h h'
    by_cases h0 : r = 0
    · subst h0; rw [nil, nil]
    · obtain ⟨h1, h2, h3⟩ := tz_step (by omega) hr
      obtain ⟨j, rfl⟩ : ∃ j, k' = j + 1 := ⟨k' - 1, by omega⟩
      unfold tailF
      rw [if_neg h0, if_neg h0]
      congr 1
      exact ih j (Nat.mod_lt _ (by decide)) (by omega) (by omega)
theorem tail_next {r : Nat} (h0 : 0 < r) (h1 : r < 4294967296) : tailF 32 r = UInt8.ofNat (48 + r * 10 / 4294967296) :: tailF 32 (r * 10 % 4294967296) := by
  have e : tailF 32 r = UInt8.ofNat (48 + r * 10 / 4294967296) :: tailF 31 (r * 10 % 4294967296) := by
    show (if r = 0 then [] else _) = _
    rw [if_neg (by omega)]
  obtain ⟨g1, g2, g3⟩ := tz_step h0 h1
  rw [e, tailF_fuel 31 32 (Nat.mod_lt _ (by decide)) (by omega) (by omega)]
theorem tail_zero (k : Nat) : tailF k 0 = [] := by cases k <;> simp [tailF]
/-- The text of a number: its sign, its whole part, its digits behind the point. -/
def textN (m : Nat) (neg : Bool) : List UInt8 := (if neg = true then [45] else []) ++ Lib.decDigits (m / 4294967296) ++ (if m % 4294967296 = 0 then [] else 46 :: tailF 32 (m % 4294967296))
def textV (n : Int) : List UInt8 := if -9223372036854775807 ≤ n then textN n.natAbs (decide (n < 0)) else []
theorem cells_app (a b : List UInt8) : Lib.byteCells a ++ Lib.byteCells b = Lib.byteCells (a ++ b) := by simp [Lib.byteCells]
set_option maxHeartbeats 4000000 in
set_option maxRecDepth 1000000 in
theorem text_no (n : Int) (hn : I64 n) (hv : ¬ -9223372036854775807 ≤ n) (w : World) : Calls Tryz.prog 7 #[.int .i64 n] w (Vc.Ret (.string ⟨(textV n).toArray⟩) w) := by
  have e : textV n = [] := if_neg hv
  rw [e]
  go_enter Tryz.func7, Tryz.ntmps7
  go_wp2_with (go_at_call 28; refine (valid_any _ _).mono ?_)
  rintro e w1 ⟨rfl, b1⟩
  rw [show decide (-9223372036854775807 ≤ n) = false from decide_eq_false (by omega)]
  go_wp2
  go_ret
  exact ⟨rfl, b1⟩
end Go.Proofs.YtcoakpdafpclpaaGreatDoor
