/- Slices and rows: what a walk wants of them (Vc). -/
import Derived.Test.YtdhiapllbjamfaaCx
set_option linter.unusedVariables false
set_option linter.unusedSimpArgs false
namespace Vc
open Go Go.RowKit
theorem flat_len {α : Type} {f : α → List Value} {c : Nat} (hf : ∀ a, (f a).length = c) : ∀ l : List α, (l.flatMap f).length = l.length * c
  | [] => by simp
  | a :: l => by rw [List.flatMap_cons, List.length_append, hf, flat_len hf l, List.length_cons, Nat.add_mul]; omega
theorem flat_at {α : Type} {f : α → List Value} {c : Nat} (hf : ∀ a, (f a).length = c) : ∀ {ps : List α} {i : Nat} {q : α} {o : Nat}, ps[i]? = some q → o < c → (ps.flatMap f)[i * c + o]? = (f q)[o]?
  | [], i, q, o, h, _ => by simp at h
  | p :: ps, i, q, o, h, ho => by
    rw [List.flatMap_cons]
    cases i with
    | zero =>
      simp only [List.getElem?_cons_zero, Option.some.injEq] at h
      subst h
      rw [List.getElem?_append_left (by rw [hf]; omega)]
      simp
    | succ i =>
      have hm : (i + 1) * c = i * c + c := Nat.succ_mul i c
      rw [List.getElem?_append_right (by rw [hf]; omega), ← flat_at hf (ps := ps) (i := i) (by simpa using h) ho]
      congr 1
      rw [hf]; omega
/-- A row is a slice. -/
theorem own_sl {lo b code n base sz : Nat} {xs : List Value} {t : TypeId} {w : World} (h : RowOk lo b code n base xs sz t w) : SlAt w (ownV b code n base) sz xs := by
  obtain ⟨h1, h2, h3⟩ := h
  by_cases hn : n = 0
  · have hx : xs = [] := List.eq_nil_of_length_eq_zero (by rw [h1, hn]; omega)
    unfold ownV
    by_cases hc : code = 0
    · rw [if_pos hc]; exact .inl ⟨rfl, hx⟩
    · rw [if_neg hc]; exact .inr ⟨b, base, n, code - 1, rfl, h1, fun j u hj => by rw [hx] at hj; simp at hj⟩
  · obtain ⟨m, e1, e2, e3⟩ := row_at (lo := lo) ⟨h1, h2, h3⟩ h1 (by omega)
    exact .inr ⟨b, 0, n, m, e1, h1, fun j u hj => by rw [Nat.zero_add]; exact e3 j u hj⟩
/-- A slice in the form that a walk has of it. -/
theorem sl_form {v : Value} {sz n : Nat} {xs : List Value} {w : World} (h : SlAt w v sz xs) (hz : 0 < sz) (hn : xs.length = n * sz) :
    ∃ (b0 : Bool) (p0 : Nat × Nat) (x1 : Int), v = (if b0 = true then .slice none 0 0 else .slice (some ⟨p0.1, p0.2, none⟩) (Int.toNat (n : Int)) (Int.toNat x1)) ∧ (b0 = true → n = 0) ∧ ∀ j u, xs[j]? = some u → w.cell? ⟨p0.1, p0.2 + j, none⟩ = some u := by
  rcases h with ⟨h1, h2⟩ | ⟨b, o, len, cap, h1, h2, h3⟩
  · refine ⟨true, (0, 0), 0, by rw [if_pos rfl]; exact h1, fun _ => ?_, fun j u hj => by rw [h2] at hj; simp at hj⟩
    rw [h2] at hn
    rcases Nat.mul_eq_zero.1 hn.symm with h | h <;> omega
  · have hl : len = n := Nat.eq_of_mul_eq_mul_right hz (by rw [← h2, hn])
    subst hl
    exact ⟨false, (b, o), (cap : Int), by rw [if_neg (by decide)]; exact h1, fun h => (by cases h), h3⟩
/-- It is as it was, later. -/
theorem sl_below {v : Value} {sz : Nat} {xs : List Value} {w w' : World} (hb : Below w.heap.size w w') (h : SlAt w v sz xs) : SlAt w' v sz xs := by
  rcases h with h | ⟨b, o, len, cap, h1, h2, h3⟩
  · exact .inl h
  · exact .inr ⟨b, o, len, cap, h1, h2, fun j u hj => by
      have := h3 j u hj
      rw [hb.cell (World.block_lt_of_cell? _ _ this)]; exact this⟩
/-- Values as variables of a walk. -/
theorem ov_list {α : Type} {f : α → List Value} (hf : ∀ a, ∀ v ∈ f a, v.oneCell' = true) (l : List α) : ∃ L : List OV, L.map (·.1) = l.flatMap f := by
  have : ∀ xs : List Value, (∀ v ∈ xs, v.oneCell' = true) → ∃ L : List OV, L.map (·.1) = xs := by
    intro xs
    induction xs with
    | nil => intro _; exact ⟨[], rfl⟩
    | cons x xs ih =>
      intro h
      obtain ⟨L, hL⟩ := ih fun v hv => h v (by simp [hv])
      exact ⟨⟨x, h x (by simp)⟩ :: L, by simp [hL]⟩
  refine this _ fun v hv => ?_
  obtain ⟨a, _, ha⟩ := List.mem_flatMap.1 hv
  exact hf a v ha
end Vc
