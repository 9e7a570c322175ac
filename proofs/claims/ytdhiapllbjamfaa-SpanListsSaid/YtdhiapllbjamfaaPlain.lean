/-
  Plain arithmetic of layer 1 (span): what the operations on spans compute, over Int. No program in sight.
-/
namespace Ul

/-- The greatest number; the number one. -/
def M : Int := 9223372036854775807
def One : Int := 4294967296

theorem M_eq : M = 9223372036854775807 := rfl
theorem One_eq : One = 4294967296 := rfl

/-- A span is valid. -/
def ok (lo hi : Int) : Bool := decide (-9223372036854775807 ≤ lo) && decide (-9223372036854775807 ≤ hi) && decide (lo ≤ hi)

theorem ok_true {lo hi : Int} : ok lo hi = true ↔ -9223372036854775807 ≤ lo ∧ -9223372036854775807 ≤ hi ∧ lo ≤ hi := by
  unfold ok; simp [and_assoc]
theorem ok_false {lo hi : Int} : ok lo hi = false ↔ ¬ (-9223372036854775807 ≤ lo ∧ -9223372036854775807 ≤ hi ∧ lo ≤ hi) := by
  rw [← ok_true]; simp

/-- Check: the error of a span. -/
def chk (lo hi : Int) : Int := if ok lo hi then 0 else 2

/-- Lo, Hi, error. -/
abbrev R := Int × Int × Int

def fit (lo hi : Int) : R := if -9223372036854775807 ≤ lo ∧ lo ≤ 9223372036854775807 ∧ -9223372036854775807 ≤ hi ∧ hi ≤ 9223372036854775807 then (lo, hi, 0) else (0, 0, 4)

def add (a b c d : Int) : R := if ok a b && ok c d then fit (a + c) (b + d) else (0, 0, 2)
def neg (a b : Int) : R := if ok a b then (-b, -a, 0) else (0, 0, 2)
def sub (a b c d : Int) : R := if ok c d then add a b (-d) (-c) else (0, 0, 2)
def scale (a b n : Int) : R := if ok a b then fit (min (a * n) (b * n)) (max (a * n) (b * n)) else (0, 0, 2)

/-- A quotient, rounded down and up; the divisor is above 0. -/
def fl (x y : Int) : Int := x / y
def ce (x y : Int) : Int := -((-x) / y)

def min4 (a b c d : Int) : Int := min (min (min a b) c) d
def max4 (a b c d : Int) : Int := max (max (max a b) c) d

def mul (a b c d : Int) : R :=
  if ok a b && ok c d then fit (fl (min4 (a * c) (a * d) (b * c) (b * d)) 4294967296) (ce (max4 (a * c) (a * d) (b * c) (b * d)) 4294967296) else (0, 0, 2)

/-- A quotient of integers, times 2^32, rounded down and up; the divisor is not 0. -/
def rdn (x y : Int) : Int := if y < 0 then fl (-(x * 4294967296)) (-y) else fl (x * 4294967296) y
def rup (x y : Int) : Int := if y < 0 then ce (-(x * 4294967296)) (-y) else ce (x * 4294967296) y

def ratio (n m : Int) : R := if m = 0 then (0, 0, 10) else fit (rdn n m) (rup n m)

def div (a b c d : Int) : R :=
  if ok a b && ok c d then
    if c ≤ 0 ∧ 0 ≤ d then (0, 0, 10)
    else fit (min4 (rdn a c) (rdn a d) (rdn b c) (rdn b d)) (max4 (rup a c) (rup a d) (rup b c) (rup b d))
  else (0, 0, 2)

def absS (a b : Int) : R :=
  if ok a b then (if 0 ≤ a then (a, b, 0) else if b ≤ 0 then (-b, -a, 0) else (0, max (-a) b, 0)) else (0, 0, 2)

def square (a b : Int) : R := if ok a b then mul (absS a b).1 (absS a b).2.1 (absS a b).1 (absS a b).2.1 else (0, 0, 2)

/-- The greatest r whose square is not above x, found from bit k - 1 down, from r on. -/
def rootTo : Nat → Int → Int → Int
  | 0, r, _ => r
  | k + 1, r, x => if (r + 2 ^ k) * (r + 2 ^ k) ≤ x then rootTo k (r + 2 ^ k) x else rootTo k r x

def isqrt (x : Int) : Int := rootTo 49 0 x

def rootUp (x : Int) : Int := if isqrt x * isqrt x = x then isqrt x else isqrt x + 1

def root (a b : Int) : R :=
  if ok a b then (if b < 0 then (0, 0, 4) else (isqrt (max a 0 * 4294967296), rootUp (b * 4294967296), 0)) else (0, 0, 2)

def most (a b c d : Int) : R := if ok a b && ok c d then (max a c, max b d, 0) else (0, 0, 2)
def least (a b c d : Int) : R := if ok a b && ok c d then (min a c, min b d, 0) else (0, 0, 2)
def hull (a b c d : Int) : R := if ok a b && ok c d then (min a c, max b d, 0) else (0, 0, 2)
def meet (a b c d : Int) : R :=
  if ok a b && ok c d then (if min b d < max a c then (0, 0, 7) else (max a c, min b d, 0)) else (0, 0, 2)
def grow (a b n : Int) : R := if ok a b && decide (0 ≤ n) then fit (a - n) (b + n) else (0, 0, 2)
/-- A number, error. -/
def mid (a b : Int) : Int × Int := if ok a b then ((a + b) / 2, 0) else (0, 2)
def wide (a b : Int) : Int × Int := if ok a b then (if 9223372036854775807 < b - a then (0, 4) else (b - a, 0)) else (0, 2)
def inS (a b n : Int) : Bool := ok a b && decide (a ≤ n) && decide (n ≤ b)
def within (a b c d : Int) : Bool := ok a b && ok c d && decide (c ≤ a) && decide (b ≤ d)
def order (a b c d : Int) : Int := if ok a b && ok c d then (if b < c then -1 else if d < a then 1 else 0) else 0
def sign (a b : Int) : Int := order a b 0 0
def point (n : Int) : R := if -9223372036854775807 ≤ n then (n, n, 0) else (0, 0, 2)
def ofInt (n : Int) : R := fit (n * 4294967296) (n * 4294967296)

/-- A number that an int64 (a uint64) holds. -/
def I64 (n : Int) : Prop := -9223372036854775808 ≤ n ∧ n ≤ 9223372036854775807
def U64 (n : Int) : Prop := 0 ≤ n ∧ n ≤ 18446744073709551615
end Ul
