set_option linter.unusedVariables false
set_option linter.unusedSimpArgs false
namespace Ul
/-- The product by halves of 32 bits. -/
theorem halves (x y : Int) : x * y = (x / 4294967296) * (y / 4294967296) * 18446744073709551616 + ((x / 4294967296) * (y % 4294967296) + (x % 4294967296) * (y / 4294967296)) * 4294967296 + (x % 4294967296) * (y % 4294967296) := by
  have hx : x = 4294967296 * (x / 4294967296) + x % 4294967296 := by omega
  have hy : y = 4294967296 * (y / 4294967296) + y % 4294967296 := by omega
  generalize x / 4294967296 = x1 at *
  generalize y / 4294967296 = y1 at *
  generalize x % 4294967296 = x0 at *
  generalize y % 4294967296 = y0 at *
  subst hx hy
  grind

theorem mul_le_of (a b A B : Int) (ha : 0 ≤ a) (hb : 0 ≤ b) (hA : a ≤ A) (hB : b ≤ B) : 0 ≤ a * b ∧ a * b ≤ A * B :=
  ⟨Int.mul_nonneg ha hb, Int.mul_le_mul hA hB hb (by omega)⟩

/-- One digit of Knuth's division: the facts that the loop keeps. u: un32; v: un1; y: the divisor; q, r: the guess and its rest. -/
structure Dig (u v y q r : Int) : Prop where
  eq : u = q * (y / 4294967296) + r
  lo : (u * 4294967296 + v) / y ≤ q
  hi : q ≤ 4294967297
  pos : 0 ≤ r

theorem dig_start (u v y : Int) (hu : 0 ≤ u) (huy : u < y) (hv : 0 ≤ v) (hv' : v < 4294967296) (hy : 9223372036854775808 ≤ y) (hy' : y < 18446744073709551616) :
    Dig u v y (u / (y / 4294967296)) (u - u / (y / 4294967296) * (y / 4294967296)) := by
  have hy1 : 2147483648 ≤ y / 4294967296 := by omega
  have hy2 : y / 4294967296 < 4294967296 := by omega
  have ey : y = (y / 4294967296) * 4294967296 + y % 4294967296 := by omega
  generalize hd : y / 4294967296 = d at *
  generalize he : y % 4294967296 = e at *
  have he0 : 0 ≤ e := by omega
  have he1 : e < 4294967296 := by omega
  have hq : u = u / d * d + u % d := by have := Int.mul_ediv_add_emod u d; rw [Int.mul_comm] at this; omega
  have hm0 : 0 ≤ u % d := Int.emod_nonneg _ (by omega)
  refine ⟨by rw [hd]; omega, ?_, ?_, by omega⟩
  · rw [Int.le_ediv_iff_mul_le (by omega)]
    have h1 : (u * 4294967296 + v) / y * y ≤ u * 4294967296 + v := Int.ediv_mul_le _ (by omega)
    have h0 : 0 ≤ (u * 4294967296 + v) / y := Int.ediv_nonneg (by omega) (by omega)
    generalize (u * 4294967296 + v) / y = q1 at *
    rw [ey] at h1
    have h2 : 0 ≤ q1 * e := Int.mul_nonneg h0 he0
    have h3 : q1 * (d * 4294967296 + e) = (q1 * d) * 4294967296 + q1 * e := by grind
    omega
  · have : u / d < 4294967298 := by
      rw [Int.ediv_lt_iff_lt_mul (by omega)]
      omega
    omega

theorem dig_lt (u v y : Int) (hu : 0 ≤ u) (huy : u < y) (hv : 0 ≤ v) (hv' : v < 4294967296) (hy : 9223372036854775808 ≤ y) : (u * 4294967296 + v) / y < 4294967296 := by
  rw [Int.ediv_lt_iff_lt_mul (by omega)]
  omega

/-- The loop goes on: the guess is too great. -/
theorem dig_next (u v y q r : Int) (h : Dig u v y q r) (hu : 0 ≤ u) (huy : u < y) (hv : 0 ≤ v) (hv' : v < 4294967296) (hy : 9223372036854775808 ≤ y) (hy' : y < 18446744073709551616)
    (hc : 4294967296 ≤ q ∨ 4294967296 * r + v < q * (y % 4294967296)) : Dig u v y (q - 1) (r + y / 4294967296) ∧ q - 1 ≤ 4294967296 ∧ 1 ≤ q := by
  obtain ⟨h1, h2, h3, h4⟩ := h
  have hl := dig_lt u v y hu huy hv hv' hy
  have h0 : 0 ≤ (u * 4294967296 + v) / y := Int.ediv_nonneg (by omega) (by omega)
  have hlt : (u * 4294967296 + v) / y < q := by
    rcases hc with hc | hc
    · omega
    · rw [Int.ediv_lt_iff_lt_mul (by omega)]
      have ey : y = (y / 4294967296) * 4294967296 + y % 4294967296 := by omega
      generalize y / 4294967296 = d at *
      generalize y % 4294967296 = e at *
      rw [ey, h1]
      have : q * (d * 4294967296 + e) = (q * d) * 4294967296 + q * e := by grind
      omega
  refine ⟨⟨?_, by omega, by omega, by omega⟩, by omega, by omega⟩
  rw [h1]; grind

/-- The loop ends by its test. -/
theorem dig_end (u v y q r : Int) (h : Dig u v y q r) (hy : 9223372036854775808 ≤ y) (hc : q * (y % 4294967296) ≤ 4294967296 * r + v) : q = (u * 4294967296 + v) / y := by
  obtain ⟨h1, h2, h3, h4⟩ := h
  have : q ≤ (u * 4294967296 + v) / y := by
    rw [Int.le_ediv_iff_mul_le (by omega)]
    have ey : y = (y / 4294967296) * 4294967296 + y % 4294967296 := by omega
    generalize y / 4294967296 = d at *
    generalize y % 4294967296 = e at *
    rw [ey, h1]
    have : q * (d * 4294967296 + e) = (q * d) * 4294967296 + q * e := by grind
    omega
  omega

/-- The loop ends by its break. -/
theorem dig_break (u v y q r : Int) (h : Dig u v y q r) (hy : 9223372036854775808 ≤ y) (hv : 0 ≤ v) (hu : 0 ≤ u) (hq : q ≤ 4294967296) (hr : 4294967296 ≤ r) : q = (u * 4294967296 + v) / y := by
  refine dig_end u v y q r h hy ?_
  obtain ⟨h1, h2, h3, h4⟩ := h
  have h0 : 0 ≤ (u * 4294967296 + v) / y := Int.ediv_nonneg (by omega) (by omega)
  have := mul_le_of q (y % 4294967296) 4294967296 4294967296 (by omega) (by omega) hq (by omega)
  omega

/-- Two digits make the quotient. -/
theorem two_digits (u a b y : Int) (hy : 0 < y) : ((u * 4294967296 + a) * 4294967296 + b) / y = ((u * 4294967296 + a) / y) * 4294967296 + (((u * 4294967296 + a) % y) * 4294967296 + b) / y
    ∧ ((u * 4294967296 + a) * 4294967296 + b) % y = (((u * 4294967296 + a) % y) * 4294967296 + b) % y := by
  have h := Int.mul_ediv_add_emod (u * 4294967296 + a) y
  generalize (u * 4294967296 + a) / y = q at *
  generalize (u * 4294967296 + a) % y = r at *
  have e : (u * 4294967296 + a) * 4294967296 + b = (r * 4294967296 + b) + y * (q * 4294967296) := by rw [← h]; grind
  rw [e, Int.add_mul_ediv_left _ _ (by omega), Int.add_mul_emod_self_left]
  exact ⟨by omega, rfl⟩

/-- Scaled by a power. -/
theorem scaled (n y k : Int) (hk : 0 < k) (hy : 0 < y) : (n * k) / (y * k) = n / y ∧ (n * k) % (y * k) / k = n % y := by
  constructor
  · exact Int.mul_ediv_mul_of_pos_left _ _ hk
  · rw [Int.mul_comm n k, Int.mul_comm y k, Int.mul_emod_mul_of_pos _ _ hk, Int.mul_ediv_cancel_left _ (by omega)]
#print axioms scaled
end Ul
