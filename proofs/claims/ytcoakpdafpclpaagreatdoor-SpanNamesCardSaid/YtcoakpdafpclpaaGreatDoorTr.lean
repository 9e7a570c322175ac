/- The span of a text: what it is (plain). -/
import Derived.Test.YtcoakpdafpclpaaGreatDoorTt
import Derived.Lib.TrimByte
import Derived.Lib.Bytealg
set_option linter.unusedVariables false
set_option linter.unusedSimpArgs false
namespace Ul
open Go Go.RowKit
def dig (c : UInt8) : Bool := decide (48 ≤ c.toNat) && decide (c.toNat ≤ 57)
def digs (l : List UInt8) : List Nat := l.map fun c => c.toNat - 48
def wholeN (l : List Nat) : Nat := l.foldl (fun n d => 10 * n + d) 0
/-- Decimal digits behind a point, doubled, and the digit before it. -/
def dbl : List Nat → List Nat × Nat
  | [] => ([], 0)
  | d :: r => (((2 * d + (dbl r).2) % 10) :: (dbl r).1, (2 * d + (dbl r).2) / 10)
def dlist : Nat → List Nat → List Nat
  | 0, l => l
  | i + 1, l => (dbl (dlist i l)).1
def dcar (i : Nat) (l : List Nat) : Nat := (dbl (dlist i l)).2
def dnum : Nat → Nat → List Nat → Nat
  | 0, n, _ => n
  | i + 1, n, l => 2 * dnum i n l + dcar i l
def someN (l : List Nat) : Bool := l.any fun d => decide (0 < d)
def cutH (t : List UInt8) : List UInt8 := t.takeWhile fun c => c != 46
def cutT (t : List UInt8) : List UInt8 := (t.dropWhile fun c => c != 46).tail
def formOk (t : List UInt8) : Bool := (cutH t).all dig && decide (0 < (cutH t).length) && (decide ((cutH t).length = 1) || decide (t.getD 0 0 ≠ 48)) && (if (46 : UInt8) ∈ t then (cutT t).all dig && decide (0 < (cutT t).length) else true)
def someT (t : List UInt8) : Bool := someN (digs (cutH t)) || someN (digs (cutT t))
def upN (n : Nat) (l : List Nat) : Nat := if someN l = true then n + 1 else n
def readT (below : Bool) (t : List UInt8) : Int × Int × Int :=
  if formOk t = false then (0, 0, 5)
  else if below = true ∧ someT t = false then (0, 0, 5)
  else if 2147483647 < wholeN (digs (cutH t)) then (0, 0, 4)
  else if below = true then fit (-((upN (dnum 32 (wholeN (digs (cutH t))) (digs (cutT t))) (dlist 32 (digs (cutT t))) : Nat) : Int)) (-((dnum 32 (wholeN (digs (cutH t))) (digs (cutT t)) : Nat) : Int))
  else fit ((dnum 32 (wholeN (digs (cutH t))) (digs (cutT t)) : Nat) : Int) ((upN (dnum 32 (wholeN (digs (cutH t))) (digs (cutT t))) (dlist 32 (digs (cutT t))) : Nat) : Int)
def readV (s : List UInt8) : Int × Int × Int :=
  if 80 < s.length then (0, 0, 3) else if s.head? = some 45 then readT true s.tail else readT false s

def D10 (l : List Nat) : Prop := ∀ d ∈ l, d < 10
theorem dbl_bd : ∀ {l : List Nat}, D10 l → D10 (dbl l).1 ∧ (dbl l).2 ≤ 1
  | [], _ => ⟨fun _ h => (List.not_mem_nil h).elim, Nat.zero_le _⟩
  | d :: r, h => by
    obtain ⟨h1, h2⟩ := dbl_bd (l := r) fun x hx => h x (List.mem_cons_of_mem _ hx)
    have hd := h d List.mem_cons_self
    refine ⟨fun x hx => ?_, ?_⟩
    · simp only [dbl, List.mem_cons] at hx
      rcases hx with rfl | hx
      · exact Nat.mod_lt _ (by decide)
      · exact h1 x hx
    · simp only [dbl]; omega
theorem dbl_len : ∀ (l : List Nat), (dbl l).1.length = l.length
  | [] => rfl
  | d :: r => by simp only [dbl, List.length_cons, dbl_len r]
theorem dlist_bd {l : List Nat} (h : D10 l) : ∀ i, D10 (dlist i l)
  | 0 => h
  | i + 1 => (dbl_bd (dlist_bd h i)).1
theorem dlist_len (l : List Nat) : ∀ i, (dlist i l).length = l.length
  | 0 => rfl
  | i + 1 => (dbl_len _).trans (dlist_len l i)
theorem dcar_bd {l : List Nat} (h : D10 l) (i : Nat) : dcar i l ≤ 1 := (dbl_bd (dlist_bd h i)).2
theorem dnum_bd {l : List Nat} (h : D10 l) (n : Nat) : ∀ i, dnum i n l + 1 ≤ (n + 1) * 2 ^ i
  | 0 => by simp [dnum]
  | i + 1 => by
    have h1 := dnum_bd h n i
    have h2 := dcar_bd h i
    simp only [dnum]
    rw [Nat.pow_succ, ← Nat.mul_assoc]
    omega
theorem dnum_ge (n : Nat) (l : List Nat) : ∀ i, n * 2 ^ i ≤ dnum i n l
  | 0 => by simp [dnum]
  | i + 1 => by
    have h1 := dnum_ge n l i
    simp only [dnum]
    rw [Nat.pow_succ, ← Nat.mul_assoc]
    omega
theorem digs_bd {l : List UInt8} (h : l.all dig = true) : D10 (digs l) := by
  intro d hd
  simp only [digs, List.mem_map] at hd
  obtain ⟨c, hc, rfl⟩ := hd
  have := List.all_eq_true.1 h c hc
  simp only [dig, Bool.and_eq_true, decide_eq_true_eq] at this
  omega
theorem whole_snoc (l : List Nat) (d : Nat) : wholeN (l ++ [d]) = 10 * wholeN l + d := by simp [wholeN]
theorem whole_ge (l : List Nat) : ∀ (k : Nat), wholeN (l.take k) ≤ wholeN l := by
  have mono : ∀ (r : List Nat) (n : Nat), n ≤ r.foldl (fun n d => 10 * n + d) n := by
    intro r
    induction r with
    | nil => intro n; exact Nat.le_refl _
    | cons d r ih => intro n; exact Nat.le_trans (by omega) (ih (10 * n + d))
  intro k
  conv => rhs; rw [← List.take_append_drop k l]
  show _ ≤ List.foldl _ 0 (l.take k ++ l.drop k)
  rw [List.foldl_append]
  exact mono _ _
theorem take_snoc {α : Type} {l : List α} {k : Nat} {a : α} (h : l[k]? = some a) : l.take (k + 1) = l.take k ++ [a] := by
  rw [List.take_add_one, h]; rfl

theorem index_cut : ∀ (l : List UInt8), Lib.indexByte l 46 = if (46 : UInt8) ∈ l then ((cutH l).length : Int) else -1
  | [] => by simp [Lib.indexByte]
  | b :: l => by
    have ih := index_cut l
    by_cases hb : b = 46
    · subst hb; simp [Lib.indexByte, cutH]
    · have h1 : (b == 46) = false := by simpa using hb
      have h3 : (b != 46) = true := by simpa using hb
      have h2 : cutH (b :: l) = b :: cutH l := by simp only [cutH, List.takeWhile_cons, h3, if_true]
      have h4 : ((46 : UInt8) ∈ b :: l) ↔ (46 : UInt8) ∈ l := by simp [List.mem_cons, show ¬ (46 : UInt8) = b from fun e => hb e.symm]
      simp only [Lib.indexByte, h1]
      rw [ih]
      by_cases hm : (46 : UInt8) ∈ l
      · have : ¬ (((cutH l).length : Int) == -1) = true := by simp <;> omega
        simp only [if_pos hm, if_pos (h4.2 hm), h2, List.length_cons]
        simp <;> omega
      · simp [if_neg hm, mt h4.1 hm]
theorem cut_none {l : List UInt8} (h : ¬ (46 : UInt8) ∈ l) : cutH l = l ∧ cutT l = [] := by
  have h1 : ∀ (l : List UInt8), ¬ (46 : UInt8) ∈ l → (l.takeWhile fun c => c != 46) = l ∧ (l.dropWhile fun c => c != 46) = [] := by
    intro l
    induction l with
    | nil => intro _; exact ⟨rfl, rfl⟩
    | cons b l ih =>
      intro h
      have hb : (b != 46) = true := by simp; intro e; exact h (by simp [e])
      obtain ⟨i1, i2⟩ := ih fun hm => h (List.mem_cons_of_mem _ hm)
      simp only [List.takeWhile_cons, List.dropWhile_cons, hb, if_true, i1, i2, and_self]
  exact ⟨(h1 l h).1, by unfold cutT; rw [(h1 l h).2]; rfl⟩
theorem cut_some {l : List UInt8} (h : (46 : UInt8) ∈ l) : l = cutH l ++ 46 :: cutT l := by
  have h1 : ∀ (l : List UInt8), (46 : UInt8) ∈ l → (l.dropWhile fun c => c != 46) = 46 :: (l.dropWhile fun c => c != 46).tail := by
    intro l
    induction l with
    | nil => intro h; cases h
    | cons b l ih =>
      intro h
      by_cases hb : b = 46
      · subst hb; simp
      · have h3 : (b != 46) = true := by simpa using hb
        simp only [List.dropWhile_cons, h3, if_true]
        exact ih ((List.mem_cons.1 h).resolve_left fun e => hb e.symm)
  unfold cutH cutT
  rw [← h1 l h, List.takeWhile_append_dropWhile]
theorem cut_len (l : List UInt8) : (cutH l).length ≤ l.length ∧ (cutT l).length ≤ l.length := by
  by_cases h : (46 : UInt8) ∈ l
  · have := congrArg List.length (cut_some h)
    simp at this; omega
  · obtain ⟨h1, h2⟩ := cut_none h
    rw [h1, h2]; simp
theorem trim_nil (l : List UInt8) (c : UInt8) : Lib.trimB l c = [] ↔ ∀ b ∈ l, b = c := by
  have h1 : ∀ l : List UInt8, (l.dropWhile (· == c)) = [] ↔ ∀ b ∈ l, b = c := by
    intro l
    induction l with
    | nil => simp
    | cons b l ih =>
      by_cases hb : b = c
      · simp [List.dropWhile_cons, hb, ih]
      · simp [List.dropWhile_cons, hb]
  unfold Lib.trimB Lib.trimLeftB Lib.trimRightB
  rw [h1]
  constructor
  · intro h
    have h3 : ∀ b ∈ l.reverse.dropWhile (· == c), b = c := fun b hb => h b (by simpa using hb)
    by_cases h4 : l.reverse.dropWhile (· == c) = []
    · intro b hb
      exact (h1 l.reverse).1 h4 b (by simpa using hb)
    · obtain ⟨x, r, h5⟩ := List.exists_cons_of_ne_nil h4
      have h6 : (x == c) = false := by
        have := List.head_dropWhile_not (p := (· == c)) (l := l.reverse) (by rw [h5]; simp)
        simpa [h5] using this
      have h7 := h3 x (by rw [h5]; simp)
      simp [h7] at h6
  · intro h b hb
    exact h b (by
      have : b ∈ l.reverse.dropWhile (· == c) := by simpa using hb
      have := List.dropWhile_suffix (p := (· == c)) (l := l.reverse) |>.subset this
      simpa using this)
end Ul
