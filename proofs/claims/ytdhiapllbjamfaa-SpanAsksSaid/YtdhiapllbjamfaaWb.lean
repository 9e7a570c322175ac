/- Walks: span.checked .. -/
import Derived.Test.YtdhiapllbjamfaaWa
set_option linter.unusedVariables false
namespace Go.Proofs.Ytdhiapllbjamfaa
open Go.RowKit Ul

theorem checked_any (b off n cap : Nat) (lo hi : Nat → Int) (w : World) (hn : n ≤ maxLen) (h0 : ∀ j, j < n → w.cell? ⟨b, off + j * 2, none⟩ = some (.int .i64 (lo j))) (h1 : ∀ j, j < n → w.cell? ⟨b, off + j * 2 + 1, none⟩ = some (.int .i64 (hi j))) :
    Calls Try.prog 75 #[.slice (some ⟨b, off, none⟩) n cap] w (Ret (.int .i64 (if ∀ j, j < n → ok (lo j) (hi j) then 0 else 2)) w) := by
  unfold maxLen at hn
  have hb : 0 < n → b < w.heap.size := fun h => World.block_lt_of_cell? w _ (h0 0 h)
  have H0 := hid h0; have H1 := hid h1; clear h0 h1
  generalize hR : (if ∀ j, j < n → ok (lo j) (hi j) then (0 : Int) else 2) = R
  have HR := hid hR; clear hR
  go_enter Try.func75, Try.ntmps75
  go_wp2
  go_loopw [8] (fun i wr => ∃ k : Nat, k ≤ n ∧ i = .int .i64 k ∧ (∀ j, j < k → ok (lo j) (hi j)) ∧ Below w.heap.size w wr) (fun i _ => n - (intOf i).toNat)
  case atStart => exact ⟨0, Nat.zero_le _, rfl, fun _ h => absurd h (Nat.not_lt_zero _), Below.refl _ _⟩
  case round =>
    obtain ⟨k, hk, rfl, hok, hB⟩ := hrel
    have HK := hid hok; clear hok
    by_cases hlt : k < n
    · have c0 : wr.cell? ⟨b, off + k * 2, none⟩ = some (.int .i64 (lo k)) := by rw [hB.cell (p := ⟨b, _, none⟩) (hb (by omega))]; exact H0.out k hlt
      have c1 : wr.cell? ⟨b, off + k * 2 + 1, none⟩ = some (.int .i64 (hi k)) := by rw [hB.cell (p := ⟨b, _, none⟩) (hb (by omega))]; exact H1.out k hlt
      have hbw : b < wr.heap.size := World.block_lt_of_cell? wr _ c0
      have K := Kn.start wr
      go_wp2_with (go_at_call 47; refine via (by repeat (first | exact K | apply Kn.push | apply Kn.drew)) (check_any _ _ _) ?_; clear K; (try clear hO); intro wN K hO; simp only [Opened, World.size_alloc, World.size_drew, World.size_setCell] at hO)
      · go_ret
        refine Kn.ret' (v := .int .i64 R) (Kn.trans' hB (by repeat (first | exact K | apply Kn.push | apply Kn.drew))) ?_
        rw [← HR.out, if_neg (fun h => by have := h k hlt; simp_all [chk])]; simp_all [chk]
      · go_roundw
        case rel =>
          refine ⟨k + 1, by omega, by go_num, fun j hj => ?_, hB.trans (Below.mono (Kn.below (by repeat (first | exact K | apply Kn.push | apply Kn.drew))) hB.size)⟩
          by_cases hjk : j = k
          · subst hjk; simp_all [chk]
          · exact HK.out j (by omega)
        case measure => simp [intOf]; omega
    · go_wp2
      go_ret
      refine ⟨?_, hB⟩
      rw [← HR.out, if_pos (fun j hj => HK.out j (by omega))]; rfl

/-- checked of the two spans that a call wrote out. -/
theorem checked_two (b : Nat) (lo0 hi0 lo1 hi1 : Int) (w : World) (h : ∀ o, w.cell? ⟨b, o, none⟩ = #[Value.int .i64 lo0, .int .i64 hi0, .int .i64 lo1, .int .i64 hi1][o]?) :
    Calls Try.prog 75 #[.slice (some ⟨b, 0, none⟩) 2 2] w (Ret (.int .i64 (if ok lo0 hi0 && ok lo1 hi1 then 0 else 2)) w) := by
  have := checked_any b 0 2 2 (fun j => if j = 0 then lo0 else lo1) (fun j => if j = 0 then hi0 else hi1) w (by simp [maxLen])
    (fun j hj => by have : j = 0 ∨ j = 1 := by omega
                    rcases this with rfl | rfl <;> simp [h])
    (fun j hj => by have : j = 0 ∨ j = 1 := by omega
                    rcases this with rfl | rfl <;> simp [h])
  have e : (∀ j, j < 2 → ok (if j = 0 then lo0 else lo1) (if j = 0 then hi0 else hi1) = true) ↔ ok lo0 hi0 && ok lo1 hi1 := by
    constructor
    · intro h; simpa using ⟨h 0 (by omega), h 1 (by omega)⟩
    · intro h j hj
      have : j = 0 ∨ j = 1 := by omega
      rcases this with rfl | rfl <;> simp_all
  simp only [e] at this
  exact this

end Go.Proofs.Ytdhiapllbjamfaa
