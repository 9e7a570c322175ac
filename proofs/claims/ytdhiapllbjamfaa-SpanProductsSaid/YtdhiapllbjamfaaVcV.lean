/- Vc, part V: rows that grow. No program in sight. -/
import Derived.Test.YtdhiapllbjamfaaVcQ
set_option linter.unusedVariables false
set_option linter.unusedSimpArgs false
namespace Vc
open Go Go.RowKit
variable {P : Program} {W : World} {Q : Value → Prop} {QM : World → Value → Prop}

theorem run_loadCells_zero (a : Addr) (w : World) : (loadCells a 0).run P w = .ok #[] w := by
  have := run_loadCells_list (P := P) w a [] (fun j v hj => by simp at hj)
  simpa using this
/-- Nothing is appended. -/
theorem append_zero (w : World) {t ty el : TypeId} {i : TypeInfo} (ht : P.underlying t = some (.slice el)) (hi : P.info? el = some i) (base : Option Addr) (n c : Nat) (hc : n ≤ c) (x : Value) (hx : x = .slice none 0 0 ∨ ∃ a k, x = .slice (some a) 0 k) :
    (Builtin.append_ #[t, t] ty #[.slice base n c, x]).run P w = .ok (.slice base n c) w := by
  rcases hx with rfl | ⟨a, k, rfl⟩
  · cases base with
    | none => simp [Builtin.append_, run_underlying ht, typeInfo, hi, Go.sizeOf, Builtin.lenOf, Builtin.firstCells, hc]
    | some b => simp [Builtin.append_, run_underlying ht, typeInfo, hi, Go.sizeOf, Builtin.lenOf, Builtin.firstCells, hc, storeCells]
  · cases base with
    | none => simp [Builtin.append_, run_underlying ht, typeInfo, hi, Go.sizeOf, Builtin.lenOf, Builtin.firstCells, hc, run_loadCells_zero]
    | some b => simp [Builtin.append_, run_underlying ht, typeInfo, hi, Go.sizeOf, Builtin.lenOf, Builtin.firstCells, hc, run_loadCells_zero, storeCells]

theorem take_len {α : Type} (a b c : List α) (k : Nat) (h : (a ++ b).length = k) : (a ++ b ++ c).take k = a ++ b := by
  rw [← h, List.take_left]

/-- append, to a row of the call's own. -/
theorem append_row (w : World) {lo b code n base : Nat} {xs : List Value} {sz : Nat} {t ty el : TypeId} {i : TypeInfo} {z : Value} (ht : P.underlying t = some (.slice el)) (hi : P.info? el = some i) (hz : i.zero = some z) (hsz : i.size = sz) (hzs : z.cells.size = sz)
    (h : RowOk lo b code n base xs sz el w) (x : Value) (m : Nat) (news : List Value) (hx : (x = .slice none 0 0 ∧ m = 0) ∨ ∃ a c, x = .slice (some a) m c ∧ ∀ j u, news[j]? = some u → w.cell? (a.add j) = some u) (hl : news.length = m * sz)
    (h1 : ∀ u ∈ news, u.oneCell' = true) (h63 : n + m ≤ maxLen) (hby : (n + m) * i.bytes ≤ 140737488355328) (hlo : lo ≤ w.heap.size) :
    ∃ b' code' base' w', (Builtin.append_ #[t, t] ty #[ownV b code n base, x]).run P w = .ok (ownV b' code' (n + m) base') w' ∧ RowOk lo b' code' (n + m) base' (xs ++ news) sz el w' ∧
      (w'.os = w.os ∧ w'.tape = w.tape ∧ w'.output = w.output ∧ w.heap.size ≤ w'.heap.size) ∧ (∀ k, k < w.heap.size → (2 ≤ code → k ≠ b) → w'.heap[k]? = w.heap[k]?) ∧ (2 ≤ code' → w.heap.size ≤ b' ∨ (2 ≤ code ∧ b' = b)) := by
  subst hsz
  obtain ⟨r1, r2, r3⟩ := h
  have hml : (9223372036854775807 : Nat) = maxLen := by simp [maxLen]
  have hcap : n ≤ code - 1 ∧ (code ≤ 1 → n = 0) := by
    rcases r3 with ⟨_, h0⟩ | ⟨h2, _, _, h3, _⟩
    · exact ⟨by omega, fun _ => h0⟩
    · exact ⟨h3, fun _ => by omega⟩
  by_cases hm : m = 0
  · subst hm
    have hn : news = [] := List.eq_nil_of_length_eq_zero (by simpa using hl)
    subst hn
    have hx' : x = .slice none 0 0 ∨ ∃ a k, x = .slice (some a) 0 k := by
      rcases hx with ⟨h, _⟩ | ⟨a, c, h, _⟩
      · exact .inl h
      · exact .inr ⟨a, c, h⟩
    refine ⟨b, code, base, w, ?_, ⟨by simpa using r1, r2, by simpa using r3⟩, ⟨rfl, rfl, rfl, Nat.le_refl _⟩, fun _ _ _ => rfl, fun h => .inr ⟨h, rfl⟩⟩
    unfold ownV
    by_cases h0 : code = 0
    · have hn0 := hcap.2 (by omega)
      subst hn0
      simp only [h0, if_true, Nat.add_zero]
      exact append_zero w ht hi none 0 0 (Nat.le_refl _) x hx'
    · simp only [h0, if_false, Nat.add_zero]
      exact append_zero w ht hi _ n (code - 1) hcap.1 x hx'
  · obtain ⟨a, c, rfl, hcell⟩ : ∃ a c, x = .slice (some a) m c ∧ ∀ j u, news[j]? = some u → w.cell? (a.add j) = some u := by
      rcases hx with ⟨_, h⟩ | h
      · exact (hm h).elim
      · exact h
    have hsmall : ((n + m : Nat) : Int) ≤ 9223372036854775807 := by omega
    have hlen : (xs ++ news).length = (n + m) * i.size := by rw [List.length_append, r1, hl, Nat.add_mul]
    -- a new row
    have fresh : ∀ old, old < n + m → RowOk lo w.heap.size (grownCap w (n + m) old el + 1) (n + m) 0 (xs ++ news) i.size el
        (w.drew.alloc (.cells (xs.toArray ++ news.toArray ++ Builtin.zeroCells z.cells (grownCap w (n + m) old el - (n + m))) el)) := by
      intro old ho
      have hge := grownCap_ge w (n + m) old el
      have hcm := grownCap_le_maxLen w (n + m) old el h63
      refine ⟨hlen, r2, .inr ⟨by omega, rfl, hlo, by omega, by simpa using hcm, _, heap_alloc_new w.drew _, ?_, ?_⟩⟩
      · simp only [Array.size_append, List.size_toArray, size_zeroCells, hzs, r1, hl, ← Nat.add_mul, Nat.add_sub_cancel]
        congr 1
        omega
      · simp only [Array.toList_append]
        exact take_len xs news _ _ hlen
    have grow : ∀ (s : Value) (old : Nat), old < n + m → (∀ w0 : World, w0 = w → (Builtin.append_ #[t, t] ty #[s, .slice (some a) m c]).run P w =
        .ok (.slice (some ⟨w.heap.size, 0, none⟩) (n + m) (grownCap w (n + m) old el)) (w.drew.alloc (.cells (xs.toArray ++ news.toArray ++ Builtin.zeroCells z.cells (grownCap w (n + m) old el - (n + m))) el))) →
        ∃ b' code' base' w', (Builtin.append_ #[t, t] ty #[s, .slice (some a) m c]).run P w = .ok (ownV b' code' (n + m) base') w' ∧ RowOk lo b' code' (n + m) base' (xs ++ news) i.size el w' ∧
          (w'.os = w.os ∧ w'.tape = w.tape ∧ w'.output = w.output ∧ w.heap.size ≤ w'.heap.size) ∧ (∀ k, k < w.heap.size → (2 ≤ code → k ≠ b) → w'.heap[k]? = w.heap[k]?) ∧ (2 ≤ code' → w.heap.size ≤ b' ∨ (2 ≤ code ∧ b' = b)) := by
      intro s old ho hrun
      refine ⟨w.heap.size, grownCap w (n + m) old el + 1, 0, _, ?_, fresh old ho, ⟨rfl, rfl, rfl, by simp⟩, fun k hk _ => Below.heap_alloc w.drew _ k hk, fun _ => .inl (Nat.le_refl _)⟩
      rw [hrun w rfl]
      simp [ownV]
    by_cases h0 : code = 0
    · have hn0 := hcap.2 (by omega)
      subst hn0
      have hxs : xs = [] := List.eq_nil_of_length_eq_zero (by simpa using r1)
      subst hxs
      have hv : ownV b code 0 base = .slice none 0 0 := by simp [ownV, h0]
      rw [hv]
      refine grow _ 0 (by omega) fun w0 _ => ?_
      have := run_append_nil (P := P) w t ty el i z ht hi hz a m c news hl hcell (by omega) (by simpa using hsmall) (by simp at hby; omega)
      simpa using this
    · by_cases h1c : code = 1
      · have hn0 := hcap.2 (by omega)
        subst hn0
        have hxs : xs = [] := List.eq_nil_of_length_eq_zero (by simpa using r1)
        subst hxs
        have hv : ownV b code 0 base = .slice (some ⟨b, base, none⟩) 0 0 := by simp [ownV, h1c]
        rw [hv]
        refine grow _ 0 (by omega) fun w0 _ => ?_
        exact run_append_grow (P := P) w t ty el i z ht hi hz ⟨b, base, none⟩ 0 0 [] (by simp) (fun j v hj => by simp at hj) a m c news hl hcell (by omega) hsmall (growslice_fits (by omega) hby)
      · obtain ⟨q1, q2, q3, q4, q5, cur, q6, q7, q8⟩ : 2 ≤ code ∧ base = 0 ∧ lo ≤ b ∧ n ≤ code - 1 ∧ code - 1 ≤ maxLen ∧ ∃ cur, w.heap[b]? = some (.cells cur el (0, 0)) ∧ cur.size = (code - 1) * i.size ∧ cur.toList.take (n * i.size) = xs := by
          rcases r3 with ⟨h, _⟩ | h
          · omega
          · exact h
        have hv : ownV b code n base = .slice (some ⟨b, 0, none⟩) n (code - 1) := by simp [ownV, h0, q2]
        rw [hv]
        by_cases hroom : n + m ≤ code - 1
        · have hfit : n * i.size + news.length ≤ cur.size := by
            rw [hl, q7, ← Nat.add_mul]; exact Nat.mul_le_mul_right _ hroom
          have := run_append_room (P := P) w t ty el i ht hi b n (code - 1) cur q6 a m c news hl hcell h1 hroom hfit
          refine ⟨b, code, 0, w.setRow b (cur.toList.take (n * i.size) ++ news ++ cur.toList.drop (n * i.size + news.length)).toArray, ?_, ⟨hlen, r2, .inr ⟨q1, rfl, q3, hroom, q5, _, setRow_heap w b _ _ _ _ q6, ?_, ?_⟩⟩, ⟨rfl, rfl, rfl, by rw [setRow_size]; exact Nat.le_refl _⟩, fun k hk hne => heap_setRow_ne _ _ _ _ (hne q1), fun _ => .inr ⟨q1, rfl⟩⟩
          · rw [this]; simp [ownV, h0]
          · simp only [List.size_toArray, List.length_append, List.length_take, List.length_drop, Array.length_toList]
            omega
          · rw [q8]
            exact take_len xs news _ _ hlen
        · refine grow _ (code - 1) (by omega) fun w0 _ => ?_
          have holds : ∀ j v, xs[j]? = some v → w.cell? ((⟨b, 0, none⟩ : Addr).add j) = some v := by
            intro j v hj
            rw [addr_add, Nat.zero_add, cell_of_heap q6]
            rw [← q8, List.getElem?_take] at hj
            split at hj
            · simpa using hj
            · cases hj
          exact run_append_grow (P := P) w t ty el i z ht hi hz ⟨b, 0, none⟩ n (code - 1) xs r1 holds a m c news hl hcell (by omega) hsmall (growslice_fits (by omega) hby)
end Vc
