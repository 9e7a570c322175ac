/- Slices of structs of numbers among the arguments, opened: kit. -/
import Derived.Test.YtdhiapllbjamfaaCq
import Derived.WalkKit
import Derived.ProofKit
import Derived.OpenShut
import Derived.Lib.SmallJoins
set_option linter.unusedVariables false
set_option linter.unusedSimpArgs false
namespace Go.Proofs.Ytdhiapllbjamfaa
open Go Go.RowKit Go.ChangeShapes Go.WideShapes Go.ChangeAt Go.Joins Ul Vc

/-- The second of a loop's variables counts up. -/
def upTo2 (n : Int) : List Vc.Vl → Nat
  | _ :: .i x :: _ => (n - x).toNat
  | _ => 0
theorem wrap_up (i : Nat) (h : i < 1000000) : IntKind.i64.wrap ((i : Int) + 1) = ((i + 1 : Nat) : Int) := by rw [Vc.i64_id (by omega)]; omega
theorem wrap_down (j : Nat) (h : j < 1000000) : IntKind.i64.wrap (((j + 1 : Nat) : Int) - 1) = (j : Int) := by rw [Vc.i64_id (by omega)]; omega
theorem list_of {α : Type} {R : Nat → α → Prop} : ∀ (n : Nat), (∀ i, i < n → ∃ a, R i a) → ∃ l : List α, l.length = n ∧ ∀ i a, l[i]? = some a → R i a
  | 0, _ => ⟨[], rfl, fun i a h => by simp at h⟩
  | n + 1, h => by
    obtain ⟨l, h1, h2⟩ := list_of n fun i hi => h i (by omega)
    obtain ⟨a, ha⟩ := h n (by omega)
    refine ⟨l ++ [a], by simp [h1], fun i b hb => ?_⟩
    by_cases hi : i < l.length
    · rw [List.getElem?_append_left hi] at hb
      exact h2 i b hb
    · rw [List.getElem?_append_right (by omega)] at hb
      have : i - l.length = 0 := by
        have := (List.getElem?_eq_some_iff.1 hb).1
        simp at this; omega
      rw [this] at hb
      simp at hb
      subst hb
      have : i = n := by omega
      subst this
      exact ha
section
variable {H : Type} {enc : TypeId × Value → H} {P : Program} {w : World} {base : Nat} {sp : Nat → Bool} {held : Bool}
theorem open_sl {α : Type} {f : α → List Value} {G : α → Prop} {c : Nat} {t e : TypeId} (ht : P.underlying t = some (.slice e)) (hc : P.cellsOf e = c) (c0 : 0 < c) (hf : ∀ a, (f a).length = c)
    (hE : ∀ fuel cs x, DataW.trod enc P w base sp held fuel e cs = some x → ∃ a, cs = f a ∧ G a) {r : Reach} {b0 : Nat} {v : Value} {d : DataW H} {ps : List MemPlace} (hval : Value.okWide P w r b0 t v) (hd : DataW.Trod enc P w base sp held t v d ps) :
    ∃ l : List α, SlAt w v c (l.flatMap f) ∧ ∀ a ∈ l, G a := by
  obtain ⟨fuel, hx⟩ := hd
  have hv := hval
  obtain ⟨a', len', cap', rfl⟩ := okWide_slice ht hval
  have hcs : (Value.slice a' len' cap').cells.toList = [.slice a' len' cap'] := rfl
  rw [hcs] at hx
  rcases DataW.trod_slice ht hx with ⟨h1, _⟩ | ⟨a, len, cap, elems, rest, n, _, h1, _, hb, hl, hm, hlen, hel, _, _⟩
  · simp only [List.cons.injEq, Value.slice.injEq, and_true] at h1
    obtain ⟨rfl, rfl, rfl⟩ := h1
    exact ⟨[], .inl ⟨rfl, rfl⟩, fun a ha => by cases ha⟩
  · simp only [List.cons.injEq, Value.slice.injEq, and_true] at h1
    obtain ⟨rfl, rfl, rfl⟩ := h1
    obtain ⟨b, o, spot⟩ := a
    have hs : spot = none := by
      simp only [Value.okWide, ht, Cell.okWide, Cell.ok] at hv
      exact hv.2.2.2.1
    subst hs
    have each : ∀ i, i < len' → ∃ y : α, G y ∧ ∀ j, j < c → w.cell? ⟨b, o + (i * c + j), none⟩ = (f y)[j]? := fun i hi => by
      have h2 := hel i hi
      rw [List.getElem?_eq_getElem (by omega), hc, Option.bind_eq_some_iff] at h2
      obtain ⟨cs, h3, h4⟩ := h2
      obtain ⟨y, rfl, hg⟩ := hE _ _ _ h4
      refine ⟨y, hg, fun j hj => ?_⟩
      rw [← (World.cells?_some h3).2.2 j hj, addr_add, addr_add, Nat.add_assoc]
    obtain ⟨l, hl1, hl2⟩ := list_of len' each
    refine ⟨l, .inr ⟨b, o, len', cap', rfl, by rw [flat_len hf, hl1], fun j u hj => ?_⟩, fun a ha => ?_⟩
    · have hjl : j < l.length * c := by
        have := (List.getElem?_eq_some_iff.1 hj).1
        rwa [flat_len hf] at this
      have hi : j / c < l.length := (Nat.div_lt_iff_lt_mul c0).2 hjl
      have hr : j % c < c := Nat.mod_lt _ c0
      have hjd : j = j / c * c + j % c := by rw [Nat.mul_comm]; exact (Nat.div_add_mod j c).symm
      have hp := List.getElem?_eq_getElem hi
      rw [hjd] at hj ⊢
      rw [flat_at hf hp hr] at hj
      rw [← hj]
      exact (hl2 _ _ hp).2 _ hr
    · obtain ⟨i, hi⟩ := List.getElem?_of_mem ha
      exact (hl2 i a hi).1
end
section
variable {H : Type} {enc : TypeId × Value → H} {w : World} {base : Nat} {sp : Nat → Bool} {held : Bool}
theorem span_cells {fuel : Nat} {cs : List Value} {x : DataW H × List MemPlace} (h : DataW.trod enc Try.prog w base sp held fuel 24 cs = some x) : ∃ p : Int × Int, cs = [.int .i64 p.1, .int .i64 p.2] ∧ I64 p.1 ∧ I64 p.2 := by
  obtain ⟨y0, y1, n, _, hl, h0, h1⟩ := trod_struct2 Try.underlying24 h
  have e1 : Try.prog.cellsOf 22 = 1 := by kernel_rfl
  have e2 : Try.prog.cellsOf 24 = 2 := by kernel_rfl
  rw [e2] at hl
  simp only [e1] at h0 h1
  match cs, hl with
  | [c0, c1], _ =>
    obtain ⟨a, ha, _, wa⟩ := DataW.trod_int Try.underlying22 h0
    obtain ⟨b, hb, _, wb⟩ := DataW.trod_int Try.underlying22 h1
    simp at ha hb
    exact ⟨(a, b), by rw [ha, hb], wf64 wa, wf64 wb⟩
end
end Go.Proofs.Ytdhiapllbjamfaa
