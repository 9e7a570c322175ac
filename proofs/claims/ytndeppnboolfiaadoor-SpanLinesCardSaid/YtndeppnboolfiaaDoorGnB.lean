/- Contracts of the layer, as far as they are wanted (written by program out of the templates). -/
import Derived.Test.YtndeppnboolfiaaDoorGnA
import Derived.Test.YtndeppnboolfiaaDoorGnG3
import Derived.Test.YtndeppnboolfiaaDoorTx
import Derived.WalkKit
import Derived.ProofKit
import Derived.OpenShut
import Derived.Lib.SmallJoins
set_option linter.unusedVariables false
set_option linter.unusedSimpArgs false
namespace Go.Proofs.YtndeppnboolfiaaDoor
open Go Go.RowKit Go.ChangeShapes Go.WideShapes Go.ChangeAt Go.Joins Ul Vc
/-- The second of a loop's variables counts up. -/
def upTo2 (n : Int) : List Vc.Vl → Nat
  | _ :: .i x :: _ => (n - x).toNat
  | _ => 0
theorem wrap_up (i : Nat) (h : i < 1000000) : IntKind.i64.wrap ((i : Int) + 1) = ((i + 1 : Nat) : Int) := by rw [Vc.i64_id (by omega)]; omega
theorem wrap_down (j : Nat) (h : j < 1000000) : IntKind.i64.wrap (((j + 1 : Nat) : Int) - 1) = (j : Int) := by rw [Vc.i64_id (by omega)]; omega
theorem list_of {α : Type} {R : Nat → α → Prop} : ∀ (n : Nat), (∀ i, i < n → ∃ a, R i a) → ∃ l : List α, l.length = n ∧ ∀ i a, l[i]? = some a → R i a
  | 0, _ => ⟨[], rfl, fun i a h => by simp at h⟩
  | n + 1, h => by
    obtain ⟨l, h1, h2⟩ := list_of n fun i hi => h i (by omega)
    obtain ⟨a, ha⟩ := h n (by omega)
    refine ⟨l ++ [a], by simp [h1], fun i b hb => ?_⟩
    by_cases hi : i < l.length
    · rw [List.getElem?_append_left hi] at hb
      exact h2 i b hb
    · rw [List.getElem?_append_right (by omega)] at hb
      have : i - l.length = 0 := by
        have := (List.getElem?_eq_some_iff.1 hb).1
        simp at this; omega
      rw [this] at hb
      simp at hb
      subst hb
      have : i = n := by omega
      subst this
      exact ha
section
variable {H : Type} {enc : TypeId × Value → H} {P : Program} {w : World} {base : Nat} {sp : Nat → Bool} {held : Bool}
theorem open_sl {α : Type} {f : α → List Value} {G : α → Prop} {c : Nat} {t e : TypeId} (ht : P.underlying t = some (.slice e)) (hc : P.cellsOf e = c) (c0 : 0 < c) (hf : ∀ a, (f a).length = c)
    (hE : ∀ fuel cs x, DataW.trod enc P w base sp held fuel e cs = some x → ∃ a, cs = f a ∧ G a) {r : Reach} {b0 : Nat} {v : Value} {d : DataW H} {ps : List MemPlace} (hval : Value.okWide P w r b0 t v) (hd : DataW.Trod enc P w base sp held t v d ps) :
    ∃ l : List α, SlAt w v c (l.flatMap f) ∧ ∀ a ∈ l, G a := by
  obtain ⟨fuel, hx⟩ := hd
  have hv := hval
  obtain ⟨a', len', cap', rfl⟩ := okWide_slice ht hval
  have hcs : (Value.slice a' len' cap').cells.toList = [.slice a' len' cap'] := rfl
  rw [hcs] at hx
  rcases DataW.trod_slice ht hx with ⟨h1, _⟩ | ⟨a, len, cap, elems, rest, n, _, h1, _, hb, hl, hm, hlen, hel, _, _⟩
  · simp only [List.cons.injEq, Value.slice.injEq, and_true] at h1
    obtain ⟨rfl, rfl, rfl⟩ := h1
    exact ⟨[], .inl ⟨rfl, rfl⟩, fun a ha => by cases ha⟩
  · simp only [List.cons.injEq, Value.slice.injEq, and_true] at h1
    obtain ⟨rfl, rfl, rfl⟩ := h1
    obtain ⟨b, o, spot⟩ := a
    have hs : spot = none := by
      simp only [Value.okWide, ht, Cell.okWide, Cell.ok] at hv
      exact hv.2.2.2.1
    subst hs
    have each : ∀ i, i < len' → ∃ y : α, G y ∧ ∀ j, j < c → w.cell? ⟨b, o + (i * c + j), none⟩ = (f y)[j]? := fun i hi => by
      have h2 := hel i hi
      rw [List.getElem?_eq_getElem (by omega), hc, Option.bind_eq_some_iff] at h2
      obtain ⟨cs, h3, h4⟩ := h2
      obtain ⟨y, rfl, hg⟩ := hE _ _ _ h4
      refine ⟨y, hg, fun j hj => ?_⟩
      rw [← (World.cells?_some h3).2.2 j hj, addr_add, addr_add, Nat.add_assoc]
    obtain ⟨l, hl1, hl2⟩ := list_of len' each
    refine ⟨l, .inr (.inr ⟨b, o, len', cap', rfl, by rw [flat_len hf, hl1], fun j u hj => ?_⟩), fun a ha => ?_⟩
    · have hjl : j < l.length * c := by
        have := (List.getElem?_eq_some_iff.1 hj).1
        rwa [flat_len hf] at this
      have hi : j / c < l.length := (Nat.div_lt_iff_lt_mul c0).2 hjl
      have hr : j % c < c := Nat.mod_lt _ c0
      have hjd : j = j / c * c + j % c := by rw [Nat.mul_comm]; exact (Nat.div_add_mod j c).symm
      have hp := List.getElem?_eq_getElem hi
      rw [hjd] at hj ⊢
      rw [flat_at hf hp hr] at hj
      rw [← hj]
      exact (hl2 _ _ hp).2 _ hr
    · obtain ⟨i, hi⟩ := List.getElem?_of_mem ha
      exact (hl2 i a hi).1
end
section
variable {H : Type} {enc : TypeId × Value → H} {w : World} {base : Nat} {sp : Nat → Bool} {held : Bool}
theorem span_cells {fuel : Nat} {cs : List Value} {x : DataW H × List MemPlace} (h : DataW.trod enc Tryd.prog w base sp held fuel 24 cs = some x) : ∃ p : Int × Int, cs = [.int .i64 p.1, .int .i64 p.2] ∧ I64 p.1 ∧ I64 p.2 := by
  obtain ⟨y0, y1, n, _, hl, h0, h1⟩ := trod_struct2 Tryd.underlying24 h
  have e1 : Tryd.prog.cellsOf 22 = 1 := by kernel_rfl
  have e2 : Tryd.prog.cellsOf 24 = 2 := by kernel_rfl
  rw [e2] at hl
  simp only [e1] at h0 h1
  match cs, hl with
  | [c0, c1], _ =>
    obtain ⟨a, ha, _, wa⟩ := DataW.trod_int Tryd.underlying22 h0
    obtain ⟨b, hb, _, wb⟩ := DataW.trod_int Tryd.underlying22 h1
    simp at ha hb
    exact ⟨(a, b), by rw [ha, hb], wf64 wa, wf64 wb⟩
end
end Go.Proofs.YtndeppnboolfiaaDoor
set_option linter.unusedVariables false
set_option maxRecDepth 100000
namespace Go.Proofs.YtndeppnboolfiaaDoor
open Go Go.RowKit Go.Proofs Vc Ul
theorem of_any (a b : Int) (x : Int) (y : Int) (hx : IntKind.i64.wrap (a * 4294967296) = x) (hy : IntKind.i64.wrap (b * 4294967296) = y) (w : World) : Calls Tryd.prog 47 #[.int .i64 a, .int .i64 b] w (Vc.Ret (Vc.S x y) w) := by
  refine vc_ullagelaw01_of a b w _ ?_
  rintro _ rfl _ rfl
  rw [hx, hy]
theorem text_q (w : World) : Calls Tryd.prog 44 #[.int .i64 (-1073741824)] w (Vc.Ret (.string ⟨([45, 48, 46, 50, 53] : List UInt8).toArray⟩) w) :=
  (text_quarter w).mono fun e w' h => h
theorem alive_any (w : World) : Calls Tryd.prog 11 #[] w (Vc.Ret (.bool true) w) := by
  refine vc_ullagelaw01_alive w _ ?_
  refine ⟨-17179869184, 34359738368, 0, fun w' hw => Ret.mono (pmul_any (-4294967296) 8589934592 12884901888 17179869184 w' (by unfold I64; decide) (by unfold I64; decide) (by unfold I64; decide) (by unfold I64; decide)) (by rw [show mul (-4294967296) 8589934592 12884901888 17179869184 = (-17179869184, 34359738368, 0) by decide +kernel]), ?_⟩
  refine ⟨1431655765, 1431655766, 0, fun w' hw => Ret.mono (pRatio_any 1 3 w' (by unfold I64; decide) (by unfold I64; decide)) (by rw [show ratio 1 3 = (1431655765, 1431655766, 0) by decide +kernel]), ?_⟩
  refine ⟨0, 8589934592, 0, fun w' hw => Ret.mono (pRoot_any (-38654705664) 17179869184 w' (by unfold I64; decide) (by unfold I64; decide)) (by rw [show root (-38654705664) 17179869184 = (0, 8589934592, 0) by decide +kernel]), ?_⟩
  refine iteI (fun _ => ?_) (fun h => absurd rfl h)
  refine ⟨-17179869184, 34359738368, fun w' hw => of_any (-4) 8 _ _ (by decide +kernel) (by decide +kernel) w', ?_⟩
  refine iteI (fun _ => ?_) (fun h => absurd ⟨rfl, rfl⟩ h)
  refine iteI (fun _ => ?_) (fun h => absurd rfl h)
  refine iteI (fun _ => ?_) (fun h => absurd ⟨rfl, rfl⟩ h)
  refine iteI (fun _ => ?_) (fun h => absurd rfl h)
  refine ⟨0, 8589934592, fun w' hw => of_any 0 2 _ _ (by decide +kernel) (by decide +kernel) w', ?_⟩
  refine iteI (fun _ => ?_) (fun h => absurd ⟨rfl, rfl⟩ h)
  exact ⟨_, fun w' hw => text_q w', rfl⟩
end Go.Proofs.YtndeppnboolfiaaDoor
set_option linter.unusedVariables false
set_option maxRecDepth 100000
namespace Go.Proofs.YtndeppnboolfiaaDoor
open Go Go.RowKit Go.Proofs Vc Ul
theorem wfI64 {n : Int} (h : (Lit.int .i64 n).wf = true) : I64 n := by
  simp [Lit.wf, IntKind.min, IntKind.max, IntKind.signed, IntKind.bits] at h; unfold I64; omega
theorem ok_3 {a b : Int} (h : ok a b = true) : -9223372036854775807 ≤ a ∧ -9223372036854775807 ≤ b ∧ a ≤ b := by
  unfold ok at h; simp at h; omega
theorem ok_of {a b : Int} (h1 : -9223372036854775807 ≤ a) (h2 : -9223372036854775807 ≤ b) (h3 : a ≤ b) : ok a b = true := by
  unfold ok; simp; omega
theorem within_ok {a b c d : Int} (h1 : ok a b = true) (h2 : ok c d = true) (h3 : c ≤ a) (h4 : b ≤ d) : within a b c d = true := by
  unfold within; simp [h1, h2, h3, h4]
end Go.Proofs.YtndeppnboolfiaaDoor
set_option linter.unusedVariables false
set_option maxRecDepth 100000
namespace Go.Proofs.YtndeppnboolfiaaDoor
open Go Go.RowKit Go.Proofs Vc Ul
theorem fl_ce {x y : Int} (h : 0 < y) : fl x y ≤ ce x y := by
  unfold fl ce
  have a := Int.ediv_mul_le x (show y ≠ 0 by omega)
  have b := Int.ediv_mul_le (-x) (show y ≠ 0 by omega)
  have : x / y * y + (-x) / y * y ≤ 0 * y := by omega
  rw [← Int.add_mul] at this
  have := Int.le_of_mul_le_mul_right this h
  omega
end Go.Proofs.YtndeppnboolfiaaDoor
set_option linter.unusedVariables false
set_option maxRecDepth 4000
namespace Go.Proofs.YtndeppnboolfiaaDoor
open Go Go.RowKit Go.ChangeShapes Go.WideShapes Go.ChangeAt Go.Joins Ul Vc
theorem wfu64 {n : Int} (h : (Lit.int .u64 n).wf = true) : 0 ≤ n := by
  simp only [Lit.wf, Bool.and_eq_true, decide_eq_true_eq] at h
  exact h.1
section
variable {H : Type} {enc : TypeId × Value → H} {w : World} {base : Nat} {sp : Nat → Bool} {held : Bool}
end
end Go.Proofs.YtndeppnboolfiaaDoor
set_option linter.unusedVariables false
set_option maxRecDepth 100000
namespace Go.Proofs.YtndeppnboolfiaaDoor
open Go Go.RowKit Go.Proofs Vc Ul
theorem pick_any (a b n : Int) (h : ok a b = true) (hn : 0 ≤ n) (hb : b ≤ 9223372036854775807) : ∃ x, a ≤ x ∧ x ≤ b ∧ ∀ w : World, Calls Tryd.prog 28 #[Vc.S a b, .int .u64 n] w (Vc.Ret (.int .i64 x) w) := by
  obtain ⟨a1, a2, a3⟩ := ok_3 h
  have hm : Int.tmod n (b - a + 1) = n % (b - a + 1) := Int.tmod_eq_emod_of_nonneg hn
  have m1 := Int.emod_nonneg n (show b - a + 1 ≠ 0 by omega)
  have m2 := Int.emod_lt_of_pos n (show 0 < b - a + 1 by omega)
  refine ⟨a + n % (b - a + 1), by omega, by omega, fun w => ?_⟩
  refine vc_ullagelaw01_pick a b n w _ ?_
  intro x3 h3 x4 h4 x5 h5
  have e5 : x5 = b - a := by rw [h5, h3, h4]; simp only [Ul.u64_eq]; omega
  refine iteI (fun h => by omega) (fun _ => ?_)
  intro x6 h6 x7 h7
  have e7 : x7 = b - a + 1 := by rw [h7, e5]; simp only [Ul.u64_eq]; omega
  refine ⟨by omega, ?_⟩
  intro x8 h8 x9 h9 x10 h10
  rw [e7, hm] at h8
  have : x10 = a + n % (b - a + 1) := by rw [h10, h9, h6, h8]; generalize n % (b - a + 1) = r at *; simp only [Ul.u64_eq, Ul.i64_eq]; omega
  rw [this]
end Go.Proofs.YtndeppnboolfiaaDoor
set_option linter.unusedVariables false
set_option maxRecDepth 100000
namespace Go.Proofs.YtndeppnboolfiaaDoor
open Go Go.RowKit Go.Proofs Vc Ul
/-- A result within another one, if that has no error. -/
def Inc (r s : R) : Prop := s.2.2 = 0 → r.2.2 = 0 ∧ Ul.within r.1 r.2.1 s.1 s.2.1 = true
theorem inc_of {l h L H : Int} (h0 : -9223372036854775807 ≤ L) (h1 : L ≤ l) (h2 : l ≤ h) (h3 : h ≤ H) : Inc (l, h, 0) (L, H, 0) :=
  fun _ => ⟨rfl, show Ul.within l h L H = true from within_ok (ok_of (by omega) (by omega) h2) (ok_of h0 (by omega) (by omega)) h1 h3⟩
end Go.Proofs.YtndeppnboolfiaaDoor
set_option linter.unusedVariables false
namespace Go.Proofs.YtndeppnboolfiaaDoor
open Go Go.RowKit Ul Vc
attribute [local irreducible] Go.Calls
abbrev Pt := Int × Int × Int
def pc (p : Pt) : List Value := [.int .i64 p.1, .int .i64 p.2.1, .int .i64 p.2.2]
theorem pc_len (p : Pt) : (pc p).length = 3 := rfl
/-- A table, at a slice. -/
def Tab (w : World) (v : Value) (l : List Pt) : Prop := SlAt w v 3 (l.flatMap pc)
theorem tab_form {w : World} {v : Value} {l : List Pt} (h : Tab w v l) : ∃ (b0 : Bool) (p0 : Nat × Nat) (x1 : Int), v = (if b0 = true then .slice none 0 0 else .slice (some (Vc.qad p0 (Int.toNat (l.length : Int)) (Int.toNat x1))) (Int.toNat (l.length : Int)) (Int.toNat x1)) ∧ (b0 = true → l.length = 0) ∧
    ∀ (i : Nat) (p : Pt), l[i]? = some p → w.cell? ⟨p0.1, p0.2 + i * 3 + 0, none⟩ = some (.int .i64 p.1) ∧ w.cell? ⟨p0.1, p0.2 + i * 3 + 1, none⟩ = some (.int .i64 p.2.1) ∧ w.cell? ⟨p0.1, p0.2 + i * 3 + 2, none⟩ = some (.int .i64 p.2.2) := by
  obtain ⟨b0, p0, x1, h1, h2, h3⟩ := sl_form h (by decide) (flat_len pc_len l)
  refine ⟨b0, p0, x1, h1, h2, fun i p hp => ?_⟩
  simp only [Nat.add_assoc]
  exact ⟨h3 (i * 3 + 0) _ (flat_at pc_len hp (by decide)), h3 (i * 3 + 1) _ (flat_at pc_len hp (by decide)), h3 (i * 3 + 2) _ (flat_at pc_len hp (by decide))⟩
def smallB (x : Int) : Bool := decide (-2305843009213693952 ≤ x) && decide (x ≤ 2305843009213693952)
def goodAt (l : List Pt) (i : Nat) : Bool :=
  match l[i]? with
  | none => true
  | some p => smallB p.1 && smallB p.2.1 && smallB p.2.2 && decide (p.2.1 ≤ p.2.2) && (match i with
    | 0 => true
    | j + 1 => match l[j]? with
      | some q => decide (q.1 < p.1)
      | none => true)
/-- CheckTable. -/
def chkT (l : List Pt) : Int := if l.length = 0 ∨ 64 < l.length then 2 else if (List.range l.length).all (goodAt l) = true then 0 else 2
theorem chkT_short {l : List Pt} (h : l.length = 0 ∨ 64 < l.length) : chkT l = 2 := if_pos h
theorem chkT_bad {l : List Pt} {i : Nat} (hi : i < l.length) (h : goodAt l i = false) : chkT l = 2 := by
  unfold chkT
  split
  · rfl
  · rw [if_neg]
    intro ha
    rw [List.all_eq_true.1 ha i (List.mem_range.2 hi)] at h
    cases h
theorem chkT_good {l : List Pt} (h1 : ¬ l.length = 0) (h2 : ¬ 64 < l.length) (h : ∀ j, j < l.length → goodAt l j = true) : chkT l = 0 := by
  unfold chkT
  rw [if_neg (by omega), if_pos (List.all_eq_true.2 fun j hj => h j (List.mem_range.1 hj))]
theorem chkT_ok {l : List Pt} (h : chkT l = 0) : 0 < l.length ∧ l.length ≤ 64 ∧ ∀ j, j < l.length → goodAt l j = true := by
  unfold chkT at h
  split at h
  · cases h
  · split at h
    · rename_i h1 h2
      exact ⟨by omega, by omega, fun j hj => List.all_eq_true.1 h2 j (List.mem_range.2 hj)⟩
    · cases h
theorem in_small (n : Int) : inS (-2305843009213693952) 2305843009213693952 n = smallB n := by
  unfold inS smallB ok; simp
theorem within_small (a b : Int) : within a b (-2305843009213693952) 2305843009213693952 = (smallB a && smallB b && decide (a ≤ b)) := by
  rw [Bool.eq_iff_iff]
  simp only [within, smallB, ok, Bool.and_eq_true, decide_eq_true_eq]
  omega
theorem pchkT {w : World} {v : Value} {l : List Pt} (h : Tab w v l) : Calls Tryd.prog 26 #[v] w (Vc.Ret (.int .i64 (chkT l)) w) := by
  obtain ⟨b0, p0, x1, rfl, hb, hc⟩ := tab_form h
  clear h
  have nb : (¬ (b0 = true)) ∨ ((l.length : Int) = 0) := by
    by_cases hb0 : b0 = true
    · right; have := hb hb0; omega
    · left; exact hb0
  refine vc_span_CheckTable p0 (l.length : Int) x1 b0 w _ ?_
  refine ⟨by omega, nb, ?_⟩
  refine iteI (fun h0 => ?_) (fun h0 => ?_)
  · rw [chkT_short (.inl (by omega))]
  · refine ⟨by omega, nb, ?_⟩
    refine iteI (fun h1 => ?_) (fun h1 => ?_)
    · rw [chkT_short (.inr (by omega))]
    · refine ⟨by omega, nb, ?_⟩
      refine ⟨fun y => ∃ (x : Int) (i : Nat), i ≤ l.length ∧ (∀ j, j < i → goodAt l j = true) ∧ y = [.i x, .i (i : Int)], upTo2 (l.length : Int), ⟨0, 0, by omega, fun j hj => by omega, rfl⟩, ?_⟩
      rintro x2 x3 ⟨x, i, hi, hg, hy⟩
      simp only [List.cons.injEq, Vc.Vl.i.injEq, and_true] at hy
      obtain ⟨rfl, rfl⟩ := hy
      refine iteI (fun h2 => ?_) (fun h2 => ?_)
      · have hlt : i < l.length := by omega
        have hp := List.getElem?_eq_getElem hlt
        generalize l[i] = p at hp
        obtain ⟨c0, c1, c2⟩ := hc i p hp
        have nb0 : ¬ (b0 = true) := fun hb0 => by have := hb hb0; omega
        refine ⟨nb0, by omega, by omega, _, c0, _, c1, _, c2, ?_⟩
        (repeat apply Exists.intro); refine And.intro (fun _ _ => in_any _ _ _ _) ?_
        rw [in_small]
        refine iteI (fun a1 => ?_) (fun a1 => ?_)
        · (repeat apply Exists.intro); refine And.intro (fun _ _ => within_any _ _ _ _ _) ?_
          rw [within_small]
          refine iteI (fun a2 => ?_) (fun a2 => ?_)
          · simp only [Bool.and_eq_true] at a2
            refine iteI (fun a3 => ?_) (fun a3 => ?_)
            · rintro _ rfl
              obtain ⟨j, rfl⟩ : ∃ j, i = j + 1 := ⟨i - 1, by omega⟩
              rw [wrap_down j (by omega)]
              have hq := List.getElem?_eq_getElem (show j < l.length by omega)
              generalize l[j] = q at hq
              refine ⟨nb0, by omega, by omega, _, (hc j q hq).1, ?_⟩
              refine iteI (fun a4 => ?_) (fun a4 => ?_)
              · rw [chkT_bad hlt (by simp only [goodAt, hp, hq]; simp; omega)]
              · rintro _ rfl
                have hgood : goodAt l (j + 1) = true := by
                  simp only [goodAt, hp, hq, a1, a2.1.1, a2.1.2, a2.2, Bool.and_true, Bool.true_and]
                  simp; omega
                have ew := wrap_up (j + 1) (by omega)
                rw [ew]
                generalize hie : j + 1 = i at *
                refine ⟨⟨_, i + 1, by omega, fun j hj => ?_, rfl⟩, by simp only [upTo2]; omega⟩
                by_cases hji : j = i
                · subst hji; exact hgood
                · exact hg j (by omega)
            · rintro _ rfl
              obtain rfl : i = 0 := by omega
              have hgood : goodAt l 0 = true := by
                simp only [goodAt, hp, a1, a2.1.1, a2.1.2, a2.2, Bool.and_true, Bool.true_and]
              rw [wrap_up 0 (by omega)]
              generalize hie : 0 = i at *
              refine ⟨⟨_, i + 1, by omega, fun j hj => ?_, rfl⟩, by simp only [upTo2]; omega⟩
              by_cases hji : j = i
              · subst hji; exact hgood
              · exact hg j (by omega)
          · rw [chkT_bad hlt (by
              cases i with
              | zero => simp only [goodAt, hp]; simp at a2 ⊢; intro g1 g2 g3; exact a2 g2 g3
              | succ j => simp only [goodAt, hp]; simp at a2 ⊢; intro g1 g2 g3 g4; have := a2 g2 g3; omega)]
        · rw [chkT_bad hlt (by
            have : smallB p.1 = false := by simpa using a1
            cases i <;> simp [goodAt, hp, this])]
      · rw [chkT_good (by omega) (by omega) fun j hj => hg j (by omega)]
end Go.Proofs.YtndeppnboolfiaaDoor
set_option linter.unusedVariables false
namespace Go.Proofs.YtndeppnboolfiaaDoor
open Go Go.RowKit Ul Vc
attribute [local irreducible] Go.Calls
def bdP (up : Bool) (p : Pt) : Int := if up then p.2.2 else p.2.1
def bdAt (l : List Pt) (up : Bool) (i : Nat) : Int := ((l[i]?).map (bdP up)).getD 0
def atX (l : List Pt) (i : Nat) : Int := ((l[i]?).map (·.1)).getD 0
/-- How many points lie ahead of a place. -/
def ahead : List Pt → Int → Nat
  | [], _ => 0
  | p :: l, x => if p.1 < x then ahead l x + 1 else 0
theorem ahead_eq : ∀ {l : List Pt} {x : Int} {i : Nat}, i ≤ l.length → (∀ j p, j < i → l[j]? = some p → p.1 < x) → (∀ p, l[i]? = some p → ¬ p.1 < x) → ahead l x = i
  | [], x, i, h, _, _ => by simp at h; simp [ahead, h]
  | p :: l, x, 0, _, _, h3 => by simp only [ahead]; rw [if_neg (h3 p rfl)]
  | p :: l, x, i + 1, h1, h2, h3 => by
    simp only [ahead]
    rw [if_pos (h2 0 p (by omega) rfl), ahead_eq (l := l) (i := i) (by simpa using h1) (fun j q hj hq => h2 (j + 1) q (by omega) (by simpa using hq)) (fun q hq => h3 q (by simpa using hq))]
def ofP (b : Int) : Bool × Int := (decide (b < 0), absI b)
theorem ofP_sv (b : Int) : svp (ofP b) = b := by
  unfold svp ofP sv absI
  by_cases h : b < 0 <;> simp [h]
/-- Between two points: as the program has it. -/
def mixD (a b f t x : Int) : Bool × Int :=
  (plN (decide (a < 0)) (absI a) (decide (b - a < 0) != decide (x - f < 0)) (qdn (decide (b - a < 0) != decide (x - f < 0)) (absI (b - a) * absI (x - f)) (absI (t - f))),
   plM (decide (a < 0)) (absI a) (decide (b - a < 0) != decide (x - f < 0)) (qdn (decide (b - a < 0) != decide (x - f < 0)) (absI (b - a) * absI (x - f)) (absI (t - f))))
def mixU (a b f t x : Int) : Bool × Int :=
  (plN (decide (a < 0)) (absI a) (decide (b - a < 0) != decide (x - f < 0)) (qup (decide (b - a < 0) != decide (x - f < 0)) (absI (b - a) * absI (x - f)) (absI (t - f))),
   plM (decide (a < 0)) (absI a) (decide (b - a < 0) != decide (x - f < 0)) (qup (decide (b - a < 0) != decide (x - f < 0)) (absI (b - a) * absI (x - f)) (absI (t - f))))
theorem absI_gt {y : Int} (h : 0 < y) : absI y = y := by unfold absI; rw [if_neg (by omega)]
theorem mix_sv (a b f t x : Int) (h : 0 < t - f) : svp (mixD a b f t x) = a + fl ((b - a) * (x - f)) (t - f) ∧ svp (mixU a b f t x) = a + ce ((b - a) * (x - f)) (t - f) := by
  have e := sv_mul (b - a) (x - f)
  have ea := ofP_sv a
  unfold svp ofP at ea
  simp only at ea
  unfold svp mixD mixU
  simp only
  rw [pl_sv, pl_sv, (q_sv _ _ _).1, (q_sv _ _ _).2, absI_gt h, ea]
  exact ⟨by rw [← e], by rw [← e]⟩
/-- What the line has at a place. -/
def lineV (l : List Pt) (up : Bool) (x : Int) : Int × Int :=
  if ahead l x = 0 then (bdAt l up 0, bdAt l up 0)
  else if ahead l x = l.length then (bdAt l up (l.length - 1), bdAt l up (l.length - 1))
  else (bdAt l up (ahead l x - 1) + fl ((bdAt l up (ahead l x) - bdAt l up (ahead l x - 1)) * (x - atX l (ahead l x - 1))) (atX l (ahead l x) - atX l (ahead l x - 1)),
        bdAt l up (ahead l x - 1) + ce ((bdAt l up (ahead l x) - bdAt l up (ahead l x - 1)) * (x - atX l (ahead l x - 1))) (atX l (ahead l x) - atX l (ahead l x - 1)))
/-- The same as the program's wide numbers. -/
def valD (l : List Pt) (up : Bool) (x : Int) : Bool × Int :=
  if ahead l x = 0 then ofP (bdAt l up 0)
  else if ahead l x = l.length then ofP (bdAt l up (l.length - 1))
  else if atX l (ahead l x) = x then ofP (bdAt l up (ahead l x))
  else mixD (bdAt l up (ahead l x - 1)) (bdAt l up (ahead l x)) (atX l (ahead l x - 1)) (atX l (ahead l x)) x
def valU (l : List Pt) (up : Bool) (x : Int) : Bool × Int :=
  if ahead l x = 0 then ofP (bdAt l up 0)
  else if ahead l x = l.length then ofP (bdAt l up (l.length - 1))
  else if atX l (ahead l x) = x then ofP (bdAt l up (ahead l x))
  else mixU (bdAt l up (ahead l x - 1)) (bdAt l up (ahead l x)) (atX l (ahead l x - 1)) (atX l (ahead l x)) x
theorem smallB_iff {x : Int} : smallB x = true ↔ -2305843009213693952 ≤ x ∧ x ≤ 2305843009213693952 := by unfold smallB; simp
theorem good_small {l : List Pt} {i : Nat} {p : Pt} (h : goodAt l i = true) (hp : l[i]? = some p) :
    (-2305843009213693952 ≤ p.1 ∧ p.1 ≤ 2305843009213693952) ∧ (-2305843009213693952 ≤ p.2.1 ∧ p.2.1 ≤ 2305843009213693952) ∧ (-2305843009213693952 ≤ p.2.2 ∧ p.2.2 ≤ 2305843009213693952) ∧ p.2.1 ≤ p.2.2 := by
  unfold goodAt at h
  rw [hp] at h
  simp only [Bool.and_eq_true, decide_eq_true_eq, smallB_iff] at h
  exact ⟨h.1.1.1.1, h.1.1.1.2, h.1.1.2, h.1.2⟩
theorem good_incr {l : List Pt} {j : Nat} {p q : Pt} (h : goodAt l (j + 1) = true) (hp : l[j + 1]? = some p) (hq : l[j]? = some q) : q.1 < p.1 := by
  unfold goodAt at h
  rw [hp] at h
  simp only [hq, Bool.and_eq_true, decide_eq_true_eq] at h
  exact h.2
theorem bdAt_some {l : List Pt} {up : Bool} {i : Nat} {p : Pt} (h : l[i]? = some p) : bdAt l up i = bdP up p := by unfold bdAt; rw [h]; rfl
theorem atX_some {l : List Pt} {i : Nat} {p : Pt} (h : l[i]? = some p) : atX l i = p.1 := by unfold atX; rw [h]; rfl
theorem bdP_small {up : Bool} {p : Pt} (h1 : -2305843009213693952 ≤ p.2.1 ∧ p.2.1 ≤ 2305843009213693952) (h2 : -2305843009213693952 ≤ p.2.2 ∧ p.2.2 ≤ 2305843009213693952) : -2305843009213693952 ≤ bdP up p ∧ bdP up p ≤ 2305843009213693952 := by
  unfold bdP; split <;> assumption
theorem fl_mul (m d : Int) (h : 0 < d) : fl (m * d) d = m ∧ ce (m * d) d = m := by
  unfold fl ce
  rw [← Int.neg_mul, Int.mul_ediv_cancel _ (by omega), Int.mul_ediv_cancel _ (by omega)]
  omega
/-- Both mean the same. -/
theorem val_sv {l : List Pt} (hk : chkT l = 0) (up : Bool) (x : Int) : svp (valD l up x) = (lineV l up x).1 ∧ svp (valU l up x) = (lineV l up x).2 := by
  obtain ⟨k0, k1, kg⟩ := chkT_ok hk
  unfold valD valU lineV
  by_cases h0 : ahead l x = 0
  · simp only [if_pos h0, ofP_sv, and_self]
  · simp only [if_neg h0]
    by_cases h1 : ahead l x = l.length
    · simp only [if_pos h1, ofP_sv, and_self]
    · simp only [if_neg h1]
      have hle : ∀ (l : List Pt), ahead l x ≤ l.length := by
        intro l
        induction l with
        | nil => simp [ahead]
        | cons p l ih => simp only [ahead]; split <;> simp <;> omega
      have hl := hle l
      obtain ⟨j, hj⟩ : ∃ j, ahead l x = j + 1 := ⟨ahead l x - 1, by omega⟩
      rw [hj] at h1 hl ⊢
      have hp := List.getElem?_eq_getElem (show j + 1 < l.length by omega)
      have hq := List.getElem?_eq_getElem (show j < l.length by omega)
      generalize l[j + 1] = p at hp
      generalize l[j] = q at hq
      have hinc := good_incr (kg (j + 1) (by omega)) hp hq
      simp only [Nat.add_sub_cancel, bdAt_some hp, bdAt_some hq, atX_some hp, atX_some hq]
      by_cases h2 : p.1 = x
      · simp only [if_pos h2, ofP_sv]
        subst h2
        obtain ⟨e1, e2⟩ := fl_mul (bdP up p - bdP up q) (p.1 - q.1) (by omega)
        rw [e1, e2]
        omega
      · simp only [if_neg h2]
        exact mix_sv _ _ _ _ _ (by omega)
theorem prod_le (u v : Int) (hu : -4611686018427387904 ≤ u ∧ u ≤ 4611686018427387904) (hv : 0 ≤ v ∧ v ≤ 4611686018427387904) : -21267647932558653966460912964485513216 ≤ u * v ∧ u * v ≤ 21267647932558653966460912964485513216 := by
  have h1 := mul_le_of (absI u) v 4611686018427387904 4611686018427387904 (by unfold absI; split <;> omega) (by omega) (by unfold absI; split <;> omega) hv.2
  have h2 : absI u * v = u * v ∨ absI u * v = -(u * v) := by
    unfold absI; split
    · right; rw [Int.neg_mul]
    · left; rfl
  have h3 : 0 ≤ absI u * v := Int.mul_nonneg (by unfold absI; split <;> omega) hv.1
  omega
theorem ahead_spec : ∀ (l : List Pt) (x : Int), ahead l x ≤ l.length ∧ (∀ j p, j < ahead l x → l[j]? = some p → p.1 < x) ∧ ∀ p, l[ahead l x]? = some p → ¬ p.1 < x
  | [], x => ⟨by simp [ahead], fun j p hj => by simp [ahead] at hj, fun p hp => by simp at hp⟩
  | q :: l, x => by
    obtain ⟨h1, h2, h3⟩ := ahead_spec l x
    simp only [ahead]
    split
    · rename_i hq
      refine ⟨by simp; omega, fun j p hj hp => ?_, fun p hp => h3 p (by simpa using hp)⟩
      cases j with
      | zero => simp at hp; subst hp; exact hq
      | succ j => exact h2 j p (by omega) (by simpa using hp)
    · rename_i hq
      exact ⟨by simp, fun j p hj => by omega, fun p hp => by simp at hp; subst hp; exact hq⟩
theorem ediv_bd (N d B : Int) (hd : 0 < d) (h1 : -B ≤ N) (h2 : N ≤ B) : -B ≤ N / d ∧ N / d ≤ B := by
  have hB : B ≤ B * d := by
    have := Int.mul_le_mul_of_nonneg_left (show 1 ≤ d by omega) (show 0 ≤ B by omega)
    omega
  constructor
  · refine (Int.le_ediv_iff_mul_le hd).2 ?_
    rw [Int.neg_mul]; omega
  · exact Int.ediv_le_of_le_mul hd (by omega)
/-- How large they are. -/
theorem val_bd {l : List Pt} (hk : chkT l = 0) (up : Bool) (x : Int) (hx : I64 x) : (0 ≤ (valD l up x).2 ∧ 0 ≤ (valU l up x).2) ∧ (-42535295865117307932921825928971026432 ≤ (lineV l up x).1 ∧ (lineV l up x).1 ≤ 42535295865117307932921825928971026432) ∧ (-42535295865117307932921825928971026432 ≤ (lineV l up x).2 ∧ (lineV l up x).2 ≤ 42535295865117307932921825928971026432) := by
  obtain ⟨k0, k1, kg⟩ := chkT_ok hk
  obtain ⟨a1, a2, a3⟩ := ahead_spec l x
  have nn : ∀ b, 0 ≤ (ofP b).2 := fun b => by unfold ofP absI; simp only; split <;> omega
  have sm : ∀ i p, l[i]? = some p → -2305843009213693952 ≤ bdP up p ∧ bdP up p ≤ 2305843009213693952 := fun i p hp => by
    have g := good_small (kg i (List.getElem?_eq_some_iff.1 hp).1) hp
    exact bdP_small g.2.1 g.2.2.1
  unfold valD valU lineV
  by_cases h0 : ahead l x = 0
  · simp only [if_pos h0]
    have hp := List.getElem?_eq_getElem k0
    have := sm 0 _ hp
    rw [bdAt_some hp]
    exact ⟨⟨nn _, nn _⟩, ⟨by omega, by omega⟩, by omega, by omega⟩
  · simp only [if_neg h0]
    by_cases h1 : ahead l x = l.length
    · simp only [if_pos h1]
      have hp := List.getElem?_eq_getElem (show l.length - 1 < l.length by omega)
      have := sm _ _ hp
      rw [bdAt_some hp]
      exact ⟨⟨nn _, nn _⟩, ⟨by omega, by omega⟩, by omega, by omega⟩
    · simp only [if_neg h1]
      obtain ⟨j, hj⟩ : ∃ j, ahead l x = j + 1 := ⟨ahead l x - 1, by omega⟩
      rw [hj] at h1 a1 a2 a3 ⊢
      have hp := List.getElem?_eq_getElem (show j + 1 < l.length by omega)
      have hq := List.getElem?_eq_getElem (show j < l.length by omega)
      generalize l[j + 1] = p at hp
      generalize l[j] = q at hq
      have hinc := good_incr (kg (j + 1) (by omega)) hp hq
      have gp := good_small (kg (j + 1) (by omega)) hp
      have gq := good_small (kg j (by omega)) hq
      have sp := sm _ _ hp
      have sq := sm _ _ hq
      have x1 := a2 j q (by omega) hq
      have x2 := a3 p hp
      simp only [Nat.add_sub_cancel, bdAt_some hp, bdAt_some hq, atX_some hp, atX_some hq]
      have pr := prod_le (bdP up p - bdP up q) (x - q.1) (by omega) (by omega)
      have e1 := ediv_bd _ (p.1 - q.1) 21267647932558653966460912964485513216 (by omega) pr.1 pr.2
      have e2 := ediv_bd (-((bdP up p - bdP up q) * (x - q.1))) (p.1 - q.1) 21267647932558653966460912964485513216 (by omega) (by omega) (by omega)
      refine ⟨?_, ⟨by unfold fl; omega, by unfold fl; omega⟩, by unfold ce; omega, by unfold ce; omega⟩
      split
      · exact ⟨nn _, nn _⟩
      · have ab : ∀ y : Int, 0 ≤ absI y := fun y => by unfold absI; split <;> omega
        have q0 := qdn_0 (decide (bdP up p - bdP up q < 0) != decide (x - q.1 < 0)) (absI (bdP up p - bdP up q) * absI (x - q.1)) (absI (p.1 - q.1)) (Int.mul_nonneg (ab _) (ab _)) (by rw [absI_gt (by omega)]; omega)
        exact ⟨pl_pos _ _ _ _ (ab _) q0.1, pl_pos _ _ _ _ (ab _) q0.2.1⟩
theorem lk_lo (p : Pt) (w : World) : Calls Tryd.prog 62 #[Vc.S p.2.1 p.2.2] w (Vc.Ret (.int .i64 (bdP false p)) w) := vc_span_Look_1_1 _ _ w _ rfl
theorem lk_hi (p : Pt) (w : World) : Calls Tryd.prog 63 #[Vc.S p.2.1 p.2.2] w (Vc.Ret (.int .i64 (bdP true p)) w) := vc_span_Look_1_2 _ _ w _ rfl
theorem pval_lo {w : World} {v : Value} {l : List Pt} (h : Tab w v l) (hk : chkT l = 0) (x : Int) (hx : I64 x) :
    Calls Tryd.prog 61 #[v, .int .i64 x, .func (.func 62) #[] #[]] w (Vc.Ret (.tuple #[VP (valD l false x), VP (valU l false x)]) w) := by
  obtain ⟨k0, k1, kg⟩ := chkT_ok hk
  obtain ⟨b0, p0, x1, rfl, hb, hc⟩ := tab_form h
  clear h
  have nb0 : ¬ (b0 = true) := fun hb0 => by have := hb hb0; omega
  have nb : (¬ (b0 = true)) ∨ ((l.length : Int) = 0) := .inl nb0
  have wl : IntKind.i64.wrap ((l.length : Int) - 1) = (l.length : Int) - 1 := Vc.i64_id (by omega)
  refine vc_span_value_lo p0 (l.length : Int) x1 x b0 w _ ?_
  refine ⟨fun y => ∃ i : Nat, i ≤ l.length ∧ (∀ j p, j < i → l[j]? = some p → p.1 < x) ∧ y = [.i (i : Int)], upTo (l.length : Int), ⟨0, by omega, fun j p hj => by omega, rfl⟩, ?_⟩
  rintro x3 ⟨i, hi, hg, hy⟩
  simp only [List.cons.injEq, Vc.Vl.i.injEq, and_true] at hy
  subst hy
  refine ⟨by omega, nb, ?_⟩
  refine iteI (fun h1 => ?_) (fun h1 => ?_)
  · have hlt : i < l.length := by omega
    have hp := List.getElem?_eq_getElem hlt
    generalize l[i] = p at hp
    obtain ⟨c0, c1, c2⟩ := hc i p hp
    refine ⟨nb0, by omega, by omega, _, c0, ?_⟩
    refine iteI (fun h2 => ?_) (fun h2 => ?_)
    · rintro _ rfl
      rw [wrap_up i (by omega)]
      refine ⟨⟨i + 1, by omega, fun j q hj hq => ?_, rfl⟩, by simp only [upTo]; omega⟩
      by_cases hji : j = i
      · subst hji; rw [hp] at hq; cases hq; exact h2
      · exact hg j q (by omega) hq
    · have hah : ahead l x = i := ahead_eq hi hg (fun q hq => by rw [hp] at hq; cases hq; exact h2)
      refine iteI (fun h3 => ?_) (fun h3 => ?_)
      · obtain ⟨k, hkl, ek, hvd, hvu⟩ : ∃ k : Nat, k < l.length ∧ (if IntKind.i64.wrap ((l.length : Int) - 1) < (i : Int) then IntKind.i64.wrap ((l.length : Int) - 1) else (i : Int)) = (k : Int) ∧ valD l false x = ofP (bdAt l false k) ∧ valU l false x = ofP (bdAt l false k) :=
          ⟨0, by omega, by rw [wl]; split <;> omega, by unfold valD; rw [if_pos (by omega)], by unfold valU; rw [if_pos (by omega)]⟩
        have hpk := List.getElem?_eq_getElem hkl
        generalize l[k] = pk at hpk
        obtain ⟨d0, d1, d2⟩ := hc k pk hpk
        have gk := good_small (kg k hkl) hpk
        have ig := bdP_small (up := false) gk.2.1 gk.2.2.1
        have ev := hvd
        have eu := hvu
        rw [bdAt_some hpk] at ev eu
        refine ⟨by omega, nb, ?_⟩
        rintro _ rfl
        rintro _ rfl
        rw [ek]
        refine ⟨nb0, by omega, by omega, _, d1, _, d2, ?_⟩
        (repeat apply Exists.intro); refine And.intro (fun _ _ => lk_lo pk _) ?_
        (repeat apply Exists.intro); refine And.intro (fun _ _ => pof_any (bdP false pk) _ (by constructor <;> omega)) ?_
        rw [ev, eu]
        rfl
      · refine ⟨by omega, nb, ?_⟩
        refine iteI (fun h4 => ?_) (fun h4 => ?_)
        · exfalso; omega
        · refine ⟨nb0, by omega, by omega, _, c0, ?_⟩
          refine iteI (fun h5 => ?_) (fun h5 => ?_)
          · obtain ⟨k, hkl, ek, hvd, hvu⟩ : ∃ k : Nat, k < l.length ∧ (if IntKind.i64.wrap ((l.length : Int) - 1) < (i : Int) then IntKind.i64.wrap ((l.length : Int) - 1) else (i : Int)) = (k : Int) ∧ valD l false x = ofP (bdAt l false k) ∧ valU l false x = ofP (bdAt l false k) :=
              ⟨i, by omega, by rw [wl]; split <;> omega, by unfold valD; rw [hah, if_neg (by omega), if_neg (by omega), if_pos (by rw [atX_some hp]; exact h5)], by unfold valU; rw [hah, if_neg (by omega), if_neg (by omega), if_pos (by rw [atX_some hp]; exact h5)]⟩
            have hpk := List.getElem?_eq_getElem hkl
            generalize l[k] = pk at hpk
            obtain ⟨d0, d1, d2⟩ := hc k pk hpk
            have gk := good_small (kg k hkl) hpk
            have ig := bdP_small (up := false) gk.2.1 gk.2.2.1
            have ev := hvd
            have eu := hvu
            rw [bdAt_some hpk] at ev eu
            refine ⟨by omega, nb, ?_⟩
            rintro _ rfl
            rintro _ rfl
            rw [ek]
            refine ⟨nb0, by omega, by omega, _, d1, _, d2, ?_⟩
            (repeat apply Exists.intro); refine And.intro (fun _ _ => lk_lo pk _) ?_
            (repeat apply Exists.intro); refine And.intro (fun _ _ => pof_any (bdP false pk) _ (by constructor <;> omega)) ?_
            rw [ev, eu]
            rfl
          · have hvd : valD l false x = mixD (bdAt l false (i - 1)) (bdAt l false i) (atX l (i - 1)) (atX l i) x := by unfold valD; rw [hah, if_neg (by omega), if_neg (by omega), if_neg (by rw [atX_some hp]; exact h5)]
            have hvu : valU l false x = mixU (bdAt l false (i - 1)) (bdAt l false i) (atX l (i - 1)) (atX l i) x := by unfold valU; rw [hah, if_neg (by omega), if_neg (by omega), if_neg (by rw [atX_some hp]; exact h5)]
            obtain ⟨j, rfl⟩ : ∃ j, i = j + 1 := ⟨i - 1, by omega⟩
            have hq := List.getElem?_eq_getElem (show j < l.length by omega)
            generalize l[j] = q at hq
            obtain ⟨e0, e1, e2⟩ := hc j q hq
            have hinc := good_incr (kg (j + 1) (by omega)) hp hq
            have gp := good_small (kg (j + 1) (by omega)) hp
            have gq := good_small (kg j (by omega)) hq
            have sp := bdP_small (up := false) gp.2.1 gp.2.2.1
            have sq := bdP_small (up := false) gq.2.1 gq.2.2.1
            have y1 := hg j q (by omega) hq
            have ab : ∀ y : Int, 0 ≤ absI y := fun y => by unfold absI; split <;> omega
            rintro _ rfl
            rw [wrap_down j (by omega)]
            refine ⟨nb0, by omega, by omega, _, e0, _, e1, _, e2, nb0, by omega, by omega, _, c0, _, c1, _, c2, ?_⟩
            (repeat apply Exists.intro); refine And.intro (fun _ _ => lk_lo q _) ?_
            (repeat apply Exists.intro); refine And.intro (fun _ _ => lk_lo p _) ?_
            rintro _ rfl
            rintro _ rfl
            have w1 : IntKind.i64.wrap (bdP false p - bdP false q) = bdP false p - bdP false q := Vc.i64_id (by omega)
            have w2 : IntKind.i64.wrap (x - q.1) = x - q.1 := Vc.i64_id (by omega)
            have w3 : IntKind.i64.wrap (p.1 - q.1) = p.1 - q.1 := Vc.i64_id (by omega)
            have xa := absI_bd (bdP false p - bdP false q) (by omega) (by omega)
            have xb := absI_bd (x - q.1) (by omega) (by omega)
            have u1 : absI (bdP false p - bdP false q) ≤ 4611686018427387904 := by unfold absI; split <;> omega
            have u2 : absI (x - q.1) ≤ 4611686018427387904 := by unfold absI; split <;> omega
            have um := mul_le_of (absI (bdP false p - bdP false q)) (absI (x - q.1)) 4611686018427387904 4611686018427387904 (ab _) (ab _) u1 u2
            have um0 := Int.mul_nonneg (ab (bdP false p - bdP false q)) (ab (x - q.1))
            have ey := absI_gt (y := p.1 - q.1) (by omega)
            have eb := hiW_small (absI (p.1 - q.1)) (by omega) (by omega)
            have ev := hvd
            have eu := hvu
            simp only [Nat.add_sub_cancel, bdAt_some hp, bdAt_some hq, atX_some hp, atX_some hq] at ev eu
            have q0 := qdn_0 (decide (bdP false p - bdP false q < 0) != decide (x - q.1 < 0)) (absI (bdP false p - bdP false q) * absI (x - q.1)) (absI (p.1 - q.1)) um0 (by omega)
            have au : absI (bdP false q) ≤ 2305843009213693952 := by unfold absI; split <;> omega
            have t1 := fun w => ptimes_any (bdP false p - bdP false q) (x - q.1) w (by constructor <;> omega) (by constructor <;> omega)
            have t2 := fun w => pof_any (p.1 - q.1) w (by constructor <;> omega)
            have t3 := fun w => divide_1 (decide (bdP false p - bdP false q < 0) != decide (x - q.1 < 0)) (decide (p.1 - q.1 < 0)) (absI (bdP false p - bdP false q) * absI (x - q.1)) (absI (p.1 - q.1)) w um0 (by omega) (by omega) (by omega)
            have t4 := fun w => pof_any (bdP false q) w (by constructor <;> omega)
            have t5 := fun w => plus_any (decide (bdP false q < 0)) (decide (bdP false p - bdP false q < 0) != decide (x - q.1 < 0)) (absI (bdP false q)) (qdn (decide (bdP false p - bdP false q < 0) != decide (x - q.1 < 0)) (absI (bdP false p - bdP false q) * absI (x - q.1)) (absI (p.1 - q.1))) w ⟨ab _, by omega⟩ ⟨q0.1, by omega⟩ (by omega)
            have t6 := fun w => plus_any (decide (bdP false q < 0)) (decide (bdP false p - bdP false q < 0) != decide (x - q.1 < 0)) (absI (bdP false q)) (qup (decide (bdP false p - bdP false q < 0) != decide (x - q.1 < 0)) (absI (bdP false p - bdP false q) * absI (x - q.1)) (absI (p.1 - q.1))) w ⟨ab _, by omega⟩ ⟨q0.2.1, by omega⟩ (by omega)
            rw [w1, w2]
            (repeat apply Exists.intro); refine And.intro (fun _ _ => t1 _) ?_
            rintro _ rfl
            rw [w3]
            (repeat apply Exists.intro); refine And.intro (fun _ _ => t2 _) ?_
            rw [eb.1, eb.2]
            (repeat apply Exists.intro); refine And.intro (fun _ _ => t3 _) ?_
            (repeat apply Exists.intro); refine And.intro (fun _ _ => t4 _) ?_
            (repeat apply Exists.intro); refine And.intro (fun _ _ => t5 _) ?_
            (repeat apply Exists.intro); refine And.intro (fun _ _ => t4 _) ?_
            (repeat apply Exists.intro); refine And.intro (fun _ _ => t6 _) ?_
            rw [ev, eu]
            rfl
  · have hah : ahead l x = i := ahead_eq hi hg (fun q hq => by have := (List.getElem?_eq_some_iff.1 hq).1; omega)
    refine iteI (fun h3 => ?_) (fun h3 => ?_)
    · exfalso; omega
    · refine ⟨by omega, nb, ?_⟩
      refine iteI (fun h4 => ?_) (fun h4 => ?_)
      · obtain ⟨k, hkl, ek, hvd, hvu⟩ : ∃ k : Nat, k < l.length ∧ (if IntKind.i64.wrap ((l.length : Int) - 1) < (i : Int) then IntKind.i64.wrap ((l.length : Int) - 1) else (i : Int)) = (k : Int) ∧ valD l false x = ofP (bdAt l false k) ∧ valU l false x = ofP (bdAt l false k) :=
          ⟨l.length - 1, by omega, by rw [wl]; split <;> omega, by unfold valD; rw [if_neg (by omega), if_pos (by omega)], by unfold valU; rw [if_neg (by omega), if_pos (by omega)]⟩
        have hpk := List.getElem?_eq_getElem hkl
        generalize l[k] = pk at hpk
        obtain ⟨d0, d1, d2⟩ := hc k pk hpk
        have gk := good_small (kg k hkl) hpk
        have ig := bdP_small (up := false) gk.2.1 gk.2.2.1
        have ev := hvd
        have eu := hvu
        rw [bdAt_some hpk] at ev eu
        refine ⟨by omega, nb, ?_⟩
        rintro _ rfl
        rintro _ rfl
        rw [ek]
        refine ⟨nb0, by omega, by omega, _, d1, _, d2, ?_⟩
        (repeat apply Exists.intro); refine And.intro (fun _ _ => lk_lo pk _) ?_
        (repeat apply Exists.intro); refine And.intro (fun _ _ => pof_any (bdP false pk) _ (by constructor <;> omega)) ?_
        rw [ev, eu]
        rfl
      · exfalso; omega
theorem pval_hi {w : World} {v : Value} {l : List Pt} (h : Tab w v l) (hk : chkT l = 0) (x : Int) (hx : I64 x) :
    Calls Tryd.prog 61 #[v, .int .i64 x, .func (.func 63) #[] #[]] w (Vc.Ret (.tuple #[VP (valD l true x), VP (valU l true x)]) w) := by
  obtain ⟨k0, k1, kg⟩ := chkT_ok hk
  obtain ⟨b0, p0, x1, rfl, hb, hc⟩ := tab_form h
  clear h
  have nb0 : ¬ (b0 = true) := fun hb0 => by have := hb hb0; omega
  have nb : (¬ (b0 = true)) ∨ ((l.length : Int) = 0) := .inl nb0
  have wl : IntKind.i64.wrap ((l.length : Int) - 1) = (l.length : Int) - 1 := Vc.i64_id (by omega)
  refine vc_span_value_hi p0 (l.length : Int) x1 x b0 w _ ?_
  refine ⟨fun y => ∃ i : Nat, i ≤ l.length ∧ (∀ j p, j < i → l[j]? = some p → p.1 < x) ∧ y = [.i (i : Int)], upTo (l.length : Int), ⟨0, by omega, fun j p hj => by omega, rfl⟩, ?_⟩
  rintro x3 ⟨i, hi, hg, hy⟩
  simp only [List.cons.injEq, Vc.Vl.i.injEq, and_true] at hy
  subst hy
  refine ⟨by omega, nb, ?_⟩
  refine iteI (fun h1 => ?_) (fun h1 => ?_)
  · have hlt : i < l.length := by omega
    have hp := List.getElem?_eq_getElem hlt
    generalize l[i] = p at hp
    obtain ⟨c0, c1, c2⟩ := hc i p hp
    refine ⟨nb0, by omega, by omega, _, c0, ?_⟩
    refine iteI (fun h2 => ?_) (fun h2 => ?_)
    · rintro _ rfl
      rw [wrap_up i (by omega)]
      refine ⟨⟨i + 1, by omega, fun j q hj hq => ?_, rfl⟩, by simp only [upTo]; omega⟩
      by_cases hji : j = i
      · subst hji; rw [hp] at hq; cases hq; exact h2
      · exact hg j q (by omega) hq
    · have hah : ahead l x = i := ahead_eq hi hg (fun q hq => by rw [hp] at hq; cases hq; exact h2)
      refine iteI (fun h3 => ?_) (fun h3 => ?_)
      · obtain ⟨k, hkl, ek, hvd, hvu⟩ : ∃ k : Nat, k < l.length ∧ (if IntKind.i64.wrap ((l.length : Int) - 1) < (i : Int) then IntKind.i64.wrap ((l.length : Int) - 1) else (i : Int)) = (k : Int) ∧ valD l true x = ofP (bdAt l true k) ∧ valU l true x = ofP (bdAt l true k) :=
          ⟨0, by omega, by rw [wl]; split <;> omega, by unfold valD; rw [if_pos (by omega)], by unfold valU; rw [if_pos (by omega)]⟩
        have hpk := List.getElem?_eq_getElem hkl
        generalize l[k] = pk at hpk
        obtain ⟨d0, d1, d2⟩ := hc k pk hpk
        have gk := good_small (kg k hkl) hpk
        have ig := bdP_small (up := true) gk.2.1 gk.2.2.1
        have ev := hvd
        have eu := hvu
        rw [bdAt_some hpk] at ev eu
        refine ⟨by omega, nb, ?_⟩
        rintro _ rfl
        rintro _ rfl
        rw [ek]
        refine ⟨nb0, by omega, by omega, _, d1, _, d2, ?_⟩
        (repeat apply Exists.intro); refine And.intro (fun _ _ => lk_hi pk _) ?_
        (repeat apply Exists.intro); refine And.intro (fun _ _ => pof_any (bdP true pk) _ (by constructor <;> omega)) ?_
        rw [ev, eu]
        rfl
      · refine ⟨by omega, nb, ?_⟩
        refine iteI (fun h4 => ?_) (fun h4 => ?_)
        · exfalso; omega
        · refine ⟨nb0, by omega, by omega, _, c0, ?_⟩
          refine iteI (fun h5 => ?_) (fun h5 => ?_)
          · obtain ⟨k, hkl, ek, hvd, hvu⟩ : ∃ k : Nat, k < l.length ∧ (if IntKind.i64.wrap ((l.length : Int) - 1) < (i : Int) then IntKind.i64.wrap ((l.length : Int) - 1) else (i : Int)) = (k : Int) ∧ valD l true x = ofP (bdAt l true k) ∧ valU l true x = ofP (bdAt l true k) :=
              ⟨i, by omega, by rw [wl]; split <;> omega, by unfold valD; rw [hah, if_neg (by omega), if_neg (by omega), if_pos (by rw [atX_some hp]; exact h5)], by unfold valU; rw [hah, if_neg (by omega), if_neg (by omega), if_pos (by rw [atX_some hp]; exact h5)]⟩
            have hpk := List.getElem?_eq_getElem hkl
            generalize l[k] = pk at hpk
            obtain ⟨d0, d1, d2⟩ := hc k pk hpk
            have gk := good_small (kg k hkl) hpk
            have ig := bdP_small (up := true) gk.2.1 gk.2.2.1
            have ev := hvd
            have eu := hvu
            rw [bdAt_some hpk] at ev eu
            refine ⟨by omega, nb, ?_⟩
            rintro _ rfl
            rintro _ rfl
            rw [ek]
            refine ⟨nb0, by omega, by omega, _, d1, _, d2, ?_⟩
            (repeat apply Exists.intro); refine And.intro (fun _ _ => lk_hi pk _) ?_
            (repeat apply Exists.intro); refine And.intro (fun _ _ => pof_any (bdP true pk) _ (by constructor <;> omega)) ?_
            rw [ev, eu]
            rfl
          · have hvd : valD l true x = mixD (bdAt l true (i - 1)) (bdAt l true i) (atX l (i - 1)) (atX l i) x := by unfold valD; rw [hah, if_neg (by omega), if_neg (by omega), if_neg (by rw [atX_some hp]; exact h5)]
            have hvu : valU l true x = mixU (bdAt l true (i - 1)) (bdAt l true i) (atX l (i - 1)) (atX l i) x := by unfold valU; rw [hah, if_neg (by omega), if_neg (by omega), if_neg (by rw [atX_some hp]; exact h5)]
            obtain ⟨j, rfl⟩ : ∃ j, i = j + 1 := ⟨i - 1, by omega⟩
            have hq := List.getElem?_eq_getElem (show j < l.length by omega)
            generalize l[j] = q at hq
            obtain ⟨e0, e1, e2⟩ := hc j q hq
            have hinc := good_incr (kg (j + 1) (by omega)) hp hq
            have gp := good_small (kg (j + 1) (by omega)) hp
            have gq := good_small (kg j (by omega)) hq
            have sp := bdP_small (up := true) gp.2.1 gp.2.2.1
            have sq := bdP_small (up := true) gq.2.1 gq.2.2.1
            have y1 := hg j q (by omega) hq
            have ab : ∀ y : Int, 0 ≤ absI y := fun y => by unfold absI; split <;> omega
            rintro _ rfl
            rw [wrap_down j (by omega)]
            refine ⟨nb0, by omega, by omega, _, e0, _, e1, _, e2, nb0, by omega, by omega, _, c0, _, c1, _, c2, ?_⟩
            (repeat apply Exists.intro); refine And.intro (fun _ _ => lk_hi q _) ?_
            (repeat apply Exists.intro); refine And.intro (fun _ _ => lk_hi p _) ?_
            rintro _ rfl
            rintro _ rfl
            have w1 : IntKind.i64.wrap (bdP true p - bdP true q) = bdP true p - bdP true q := Vc.i64_id (by omega)
            have w2 : IntKind.i64.wrap (x - q.1) = x - q.1 := Vc.i64_id (by omega)
            have w3 : IntKind.i64.wrap (p.1 - q.1) = p.1 - q.1 := Vc.i64_id (by omega)
            have xa := absI_bd (bdP true p - bdP true q) (by omega) (by omega)
            have xb := absI_bd (x - q.1) (by omega) (by omega)
            have u1 : absI (bdP true p - bdP true q) ≤ 4611686018427387904 := by unfold absI; split <;> omega
            have u2 : absI (x - q.1) ≤ 4611686018427387904 := by unfold absI; split <;> omega
            have um := mul_le_of (absI (bdP true p - bdP true q)) (absI (x - q.1)) 4611686018427387904 4611686018427387904 (ab _) (ab _) u1 u2
            have um0 := Int.mul_nonneg (ab (bdP true p - bdP true q)) (ab (x - q.1))
            have ey := absI_gt (y := p.1 - q.1) (by omega)
            have eb := hiW_small (absI (p.1 - q.1)) (by omega) (by omega)
            have ev := hvd
            have eu := hvu
            simp only [Nat.add_sub_cancel, bdAt_some hp, bdAt_some hq, atX_some hp, atX_some hq] at ev eu
            have q0 := qdn_0 (decide (bdP true p - bdP true q < 0) != decide (x - q.1 < 0)) (absI (bdP true p - bdP true q) * absI (x - q.1)) (absI (p.1 - q.1)) um0 (by omega)
            have au : absI (bdP true q) ≤ 2305843009213693952 := by unfold absI; split <;> omega
            have t1 := fun w => ptimes_any (bdP true p - bdP true q) (x - q.1) w (by constructor <;> omega) (by constructor <;> omega)
            have t2 := fun w => pof_any (p.1 - q.1) w (by constructor <;> omega)
            have t3 := fun w => divide_1 (decide (bdP true p - bdP true q < 0) != decide (x - q.1 < 0)) (decide (p.1 - q.1 < 0)) (absI (bdP true p - bdP true q) * absI (x - q.1)) (absI (p.1 - q.1)) w um0 (by omega) (by omega) (by omega)
            have t4 := fun w => pof_any (bdP true q) w (by constructor <;> omega)
            have t5 := fun w => plus_any (decide (bdP true q < 0)) (decide (bdP true p - bdP true q < 0) != decide (x - q.1 < 0)) (absI (bdP true q)) (qdn (decide (bdP true p - bdP true q < 0) != decide (x - q.1 < 0)) (absI (bdP true p - bdP true q) * absI (x - q.1)) (absI (p.1 - q.1))) w ⟨ab _, by omega⟩ ⟨q0.1, by omega⟩ (by omega)
            have t6 := fun w => plus_any (decide (bdP true q < 0)) (decide (bdP true p - bdP true q < 0) != decide (x - q.1 < 0)) (absI (bdP true q)) (qup (decide (bdP true p - bdP true q < 0) != decide (x - q.1 < 0)) (absI (bdP true p - bdP true q) * absI (x - q.1)) (absI (p.1 - q.1))) w ⟨ab _, by omega⟩ ⟨q0.2.1, by omega⟩ (by omega)
            rw [w1, w2]
            (repeat apply Exists.intro); refine And.intro (fun _ _ => t1 _) ?_
            rintro _ rfl
            rw [w3]
            (repeat apply Exists.intro); refine And.intro (fun _ _ => t2 _) ?_
            rw [eb.1, eb.2]
            (repeat apply Exists.intro); refine And.intro (fun _ _ => t3 _) ?_
            (repeat apply Exists.intro); refine And.intro (fun _ _ => t4 _) ?_
            (repeat apply Exists.intro); refine And.intro (fun _ _ => t5 _) ?_
            (repeat apply Exists.intro); refine And.intro (fun _ _ => t4 _) ?_
            (repeat apply Exists.intro); refine And.intro (fun _ _ => t6 _) ?_
            rw [ev, eu]
            rfl
  · have hah : ahead l x = i := ahead_eq hi hg (fun q hq => by have := (List.getElem?_eq_some_iff.1 hq).1; omega)
    refine iteI (fun h3 => ?_) (fun h3 => ?_)
    · exfalso; omega
    · refine ⟨by omega, nb, ?_⟩
      refine iteI (fun h4 => ?_) (fun h4 => ?_)
      · obtain ⟨k, hkl, ek, hvd, hvu⟩ : ∃ k : Nat, k < l.length ∧ (if IntKind.i64.wrap ((l.length : Int) - 1) < (i : Int) then IntKind.i64.wrap ((l.length : Int) - 1) else (i : Int)) = (k : Int) ∧ valD l true x = ofP (bdAt l true k) ∧ valU l true x = ofP (bdAt l true k) :=
          ⟨l.length - 1, by omega, by rw [wl]; split <;> omega, by unfold valD; rw [if_neg (by omega), if_pos (by omega)], by unfold valU; rw [if_neg (by omega), if_pos (by omega)]⟩
        have hpk := List.getElem?_eq_getElem hkl
        generalize l[k] = pk at hpk
        obtain ⟨d0, d1, d2⟩ := hc k pk hpk
        have gk := good_small (kg k hkl) hpk
        have ig := bdP_small (up := true) gk.2.1 gk.2.2.1
        have ev := hvd
        have eu := hvu
        rw [bdAt_some hpk] at ev eu
        refine ⟨by omega, nb, ?_⟩
        rintro _ rfl
        rintro _ rfl
        rw [ek]
        refine ⟨nb0, by omega, by omega, _, d1, _, d2, ?_⟩
        (repeat apply Exists.intro); refine And.intro (fun _ _ => lk_hi pk _) ?_
        (repeat apply Exists.intro); refine And.intro (fun _ _ => pof_any (bdP true pk) _ (by constructor <;> omega)) ?_
        rw [ev, eu]
        rfl
      · exfalso; omega
end Go.Proofs.YtndeppnboolfiaaDoor
set_option linter.unusedVariables false
namespace Go.Proofs.YtndeppnboolfiaaDoor
open Go Go.RowKit Ul Vc
attribute [local irreducible] Go.Calls
/-- The places at which a table is looked at. -/
def plc (l : List Pt) (a b : Int) (i : Nat) : List Int := a :: b :: ((l.take i).filter fun p => decide (a ≤ p.1) && decide (p.1 ≤ b)).map (·.1)
theorem plc_in {l : List Pt} {a b : Int} {i : Nat} {p : Pt} (h : l[i]? = some p) (h1 : a ≤ p.1) (h2 : p.1 ≤ b) : plc l a b (i + 1) = plc l a b i ++ [p.1] := by
  unfold plc
  rw [List.take_add_one, h]
  simp [h1, h2]
theorem plc_out {l : List Pt} {a b : Int} {i : Nat} {p : Pt} (h : l[i]? = some p) (h1 : ¬ (a ≤ p.1 ∧ p.1 ≤ b)) : plc l a b (i + 1) = plc l a b i := by
  unfold plc
  rw [List.take_add_one, h]
  simp
  omega
theorem plc_len (l : List Pt) (a b : Int) (i : Nat) : (plc l a b i).length ≤ l.length + 2 := by
  unfold plc
  have h1 := List.length_filter_le (fun p : Pt => decide (a ≤ p.1) && decide (p.1 ≤ b)) (l.take i)
  have h2 : (l.take i).length ≤ l.length := by simp; omega
  simp only [List.length_cons, List.length_map]
  omega
theorem plc_i64 {l : List Pt} {a b : Int} {i : Nat} (hl : ∀ p ∈ l, I64 p.1) (ha : I64 a) (hb : I64 b) : ∀ x ∈ plc l a b i, I64 x := by
  intro x hx
  unfold plc at hx
  rcases List.mem_cons.1 hx with rfl | hx
  · exact ha
  · rcases List.mem_cons.1 hx with rfl | hx
    · exact hb
    · obtain ⟨p, hp, rfl⟩ := List.mem_map.1 hx
      exact hl p (List.mem_of_mem_take (List.mem_filter.1 hp).1)
def minL : List Int → Int
  | [] => 0
  | x :: r => r.foldl min x
def maxL : List Int → Int
  | [] => 0
  | x :: r => r.foldl max x
theorem bmin_fold : ∀ (ps : List (Bool × Int)) (p : Bool × Int), svp (ps.foldl bmin p) = (ps.map svp).foldl min (svp p)
  | [], p => rfl
  | q :: ps, p => by rw [List.foldl_cons, bmin_fold ps, svp_bmin]; rfl
theorem bmax_fold : ∀ (ps : List (Bool × Int)) (p : Bool × Int), svp (ps.foldl bmax p) = (ps.map svp).foldl max (svp p)
  | [], p => rfl
  | q :: ps, p => by rw [List.foldl_cons, bmax_fold ps, svp_bmax]; rfl
/-- Look. -/
def look (l : List Pt) (a b : Int) : R :=
  if chkT l = 0 ∧ chk a b = 0 then fit (minL ((plc l a b l.length).map fun x => (lineV l false x).1)) (maxL ((plc l a b l.length).map fun x => (lineV l true x).2)) else (0, 0, 2)
theorem c3_len (p : Bool × Int) : (c3 p).length = 3 := rfl
theorem pLook {w : World} {v : Value} {l : List Pt} (h : Tab w v l) (hl : ∀ p ∈ l, I64 p.1) (a b : Int) (ha : I64 a) (hbb : I64 b) : Calls Tryd.prog 27 #[v, Vc.S a b] w (Vc.Ret (Vc.RV (look l a b)) w) := by
  have h0 := h
  obtain ⟨b0, p0, x1, rfl, hb, hc⟩ := tab_form h
  clear h
  refine vc_span_Look p0 (l.length : Int) x1 a b b0 w _ ?_
  (repeat apply Exists.intro); refine And.intro (fun _ _ => pchkT (sl_below (by assumption) h0)) ?_
  refine iteI (fun h1 => ?_) (fun h1 => ?_)
  · obtain ⟨k0, k1, kg⟩ := chkT_ok h1
    have nb0 : ¬ (b0 = true) := fun hb0 => by have := hb hb0; omega
    have nb : (¬ (b0 = true)) ∨ ((l.length : Int) = 0) := .inl nb0
    (repeat apply Exists.intro); refine And.intro (fun _ _ => check_any _ _ _) ?_
    refine iteI (fun h2 => ?_) (fun h2 => ?_)
    · have hab := chk_ok h2
      (repeat apply Exists.intro); refine And.intro (fun _ _ => pval_lo (sl_below (by assumption) h0) h1 a ha) ?_
      (repeat apply Exists.intro); refine And.intro (fun _ _ => pval_hi (sl_below (by assumption) h0) h1 a ha) ?_
      (repeat apply Exists.intro); refine And.intro (fun _ _ => pval_lo (sl_below (by assumption) h0) h1 b hbb) ?_
      (repeat apply Exists.intro); refine And.intro (fun _ _ => pval_hi (sl_below (by assumption) h0) h1 b hbb) ?_
      refine ⟨by omega, nb, ?_⟩
      refine ⟨fun y => ∃ i : Nat, i ≤ l.length ∧ y = [.i (i : Int), .l (((plc l a b i).map (valD l false)).flatMap c3), .l (((plc l a b i).map (valU l true)).flatMap c3)], upTo (l.length : Int), ⟨0, by omega, rfl⟩, ?_⟩
      rintro x22 l0 l1 ⟨i, hi, hy⟩
      simp only [List.cons.injEq, Vc.Vl.i.injEq, Vc.Vl.l.injEq, and_true] at hy
      obtain ⟨rfl, e0, e1⟩ := hy
      have len0 : l0.length ≤ 3 * (l.length + 2) := by
        have := congrArg List.length e0
        rw [List.length_append, List.length_map, flat_len c3_len, List.length_map] at this
        have := plc_len l a b i
        simp at *
        omega
      have len1 : l1.length ≤ 3 * (l.length + 2) := by
        have := congrArg List.length e1
        rw [List.length_append, List.length_map, flat_len c3_len, List.length_map] at this
        have := plc_len l a b i
        simp at *
        omega
      refine iteI (fun h3 => ?_) (fun h3 => ?_)
      · have hlt : i < l.length := by omega
        have hp := List.getElem?_eq_getElem hlt
        generalize l[i] = p at hp
        obtain ⟨c0, c1, c2⟩ := hc i p hp
        have hpI : I64 p.1 := hl p (List.mem_of_getElem? hp)
        refine ⟨nb0, by omega, by omega, _, c0, _, c1, _, c2, ?_⟩
        (repeat apply Exists.intro); refine And.intro (fun _ _ => in_any _ _ _ _) ?_
        have hin : inS a b p.1 = true ↔ a ≤ p.1 ∧ p.1 ≤ b := by unfold inS; rw [hab]; simp
        refine iteI (fun h4 => ?_) (fun h4 => ?_)
        · have h4' := hin.1 h4
          (repeat apply Exists.intro); refine And.intro (fun _ _ => pval_lo (sl_below (by assumption) h0) h1 p.1 hpI) ?_
          (repeat apply Exists.intro); refine And.intro (fun _ _ => pval_hi (sl_below (by assumption) h0) h1 p.1 hpI) ?_
          rintro _ rfl
          refine ⟨by omega, ?_⟩
          rintro _ rfl
          refine ⟨by omega, ?_⟩
          rintro _ rfl
          rw [wrap_up i (by omega)]
          refine ⟨⟨i + 1, by omega, ?_⟩, by simp only [upTo]; omega⟩
          rw [plc_in hp h4'.1 h4'.2]
          simp only [List.append_nil] at e0 e1
          rw [e0, e1, List.map_append, List.map_append, List.flatMap_append, List.flatMap_append]
          rfl
        · have h4' : ¬ (a ≤ p.1 ∧ p.1 ≤ b) := fun hx => h4 (hin.2 hx)
          rintro _ rfl
          rw [wrap_up i (by omega)]
          refine ⟨⟨i + 1, by omega, ?_⟩, by simp only [upTo]; omega⟩
          rw [plc_out hp h4', e0, e1]
      · obtain rfl : i = l.length := by omega
        have hI := plc_i64 (i := l.length) hl ha hbb
        have nD : ∀ q ∈ (plc l a b l.length).map (valD l false), 0 ≤ q.2 := fun q hq => by
          obtain ⟨x, hx, rfl⟩ := List.mem_map.1 hq
          exact (val_bd h1 false x (hI x hx)).1.1
        have nU : ∀ q ∈ (plc l a b l.length).map (valU l true), 0 ≤ q.2 := fun q hq => by
          obtain ⟨x, hx, rfl⟩ := List.mem_map.1 hq
          exact (val_bd h1 true x (hI x hx)).1.2
        have lD : (plc l a b l.length).length ≤ 66 := by have := plc_len l a b l.length; omega
        obtain ⟨r, hr⟩ : ∃ r, plc l a b l.length = a :: r := ⟨_, rfl⟩
        have hlook : look l a b = fit (minL ((plc l a b l.length).map fun x => (lineV l false x).1)) (maxL ((plc l a b l.length).map fun x => (lineV l true x).2)) := if_pos ⟨h1, h2⟩
        rw [hr] at e0 e1 nD nU lD hlook
        have mD := nn_fold bmin_or (r.map (valD l false)) (valD l false a) nD
        have mU := nn_fold bmax_or (r.map (valU l true)) (valU l true a) nU
        refine ⟨_, _, _, _, _, _, fun _ _ _ hm => rowhull (valD l false a) (r.map (valD l false)) nD (by simp at lD ⊢; omega) (by have := hm.1; rw [e0] at this; exact this), ?_⟩
        refine ⟨_, _, _, _, _, _, fun _ _ _ hm => rowhull (valU l true a) (r.map (valU l true)) nU (by simp at lD ⊢; omega) (by have := hm.1; rw [e1] at this; exact this), ?_⟩
        (repeat apply Exists.intro); refine And.intro (fun _ _ => fit_any _ _ _ _ _ mD mU) ?_
        rw [hlook]
        have q1 := bmin_fold (r.map (valD l false)) (valD l false a)
        have q2 := bmax_fold (r.map (valU l true)) (valU l true a)
        unfold svp at q1 q2
        refine fit_eq ?_ ?_
        · rw [q1]
          simp only [List.map_cons, minL, List.map_map]
          have : (valD l false a).1 = (valD l false a).1 := rfl
          congr 1
          · exact (val_sv h1 false a).1
          · exact List.map_congr_left fun x _ => (val_sv h1 false x).1
        · rw [q2]
          simp only [List.map_cons, maxL, List.map_map]
          congr 1
          · exact (val_sv h1 true a).2
          · exact List.map_congr_left fun x _ => (val_sv h1 true x).2
    · unfold look; rw [if_neg (fun hx => h2 hx.2)]
  · unfold look; rw [if_neg (fun hx => h1 hx.1)]
end Go.Proofs.YtndeppnboolfiaaDoor
set_option linter.unusedVariables false
namespace Go.Proofs.YtndeppnboolfiaaDoor
open Go Go.RowKit Go.ChangeShapes Go.WideShapes Go.ChangeAt Go.Joins Ul Vc
section
variable {H : Type} {enc : TypeId × Value → H} {w : World} {base : Nat} {sp : Nat → Bool} {held : Bool}
theorem point_cells {fuel : Nat} {cs : List Value} {x : DataW H × List MemPlace} (h : DataW.trod enc Tryd.prog w base sp held fuel 49 cs = some x) : ∃ p : Pt, cs = pc p ∧ I64 p.1 ∧ I64 p.2.1 ∧ I64 p.2.2 := by
  obtain ⟨y0, y1, n, _, hl, h0, h1⟩ := trod_struct2 Tryd.underlying49 h
  have e1 : Tryd.prog.cellsOf 22 = 1 := by kernel_rfl
  have e2 : Tryd.prog.cellsOf 24 = 2 := by kernel_rfl
  have e3 : Tryd.prog.cellsOf 49 = 3 := by kernel_rfl
  rw [e3] at hl
  simp only [e1, e2] at h0 h1
  match cs, hl with
  | [c0, c1, c2], _ =>
    obtain ⟨a, ha, _, wa⟩ := DataW.trod_int Tryd.underlying22 h0
    obtain ⟨p, hp, wp, wq⟩ := span_cells h1
    simp at ha hp
    exact ⟨(a, p.1, p.2), by rw [ha, hp.1, hp.2]; rfl, wf64 wa, wp, wq⟩
theorem points_u : Tryd.prog.underlying 46 = some (.slice 49) := by kernel_rfl
theorem open_points {P : Program} (hP : P = Tryd.prog) {r : Reach} {b0 : Nat} {v : Value} {d : DataW H} {ps : List MemPlace} (hval : Value.okWide P w r b0 46 v) (hd : DataW.Trod enc P w base sp held 46 v d ps) :
    ∃ l : List Pt, Tab w v l ∧ ∀ p ∈ l, I64 p.1 ∧ I64 p.2.1 ∧ I64 p.2.2 := by
  have hu : P.underlying 46 = some (.slice 49) := by rw [hP]; exact points_u
  have hc : P.cellsOf 49 = 3 := by rw [hP]; kernel_rfl
  have hE : ∀ fuel cs x, DataW.trod enc P w base sp held fuel 49 cs = some x → ∃ a, cs = pc a ∧ (fun p : Pt => I64 p.1 ∧ I64 p.2.1 ∧ I64 p.2.2) a := fun fuel cs x h => by rw [hP] at h; exact point_cells h
  clear hP
  exact open_sl hu hc (by omega) pc_len hE hval hd
end
end Go.Proofs.YtndeppnboolfiaaDoor
set_option linter.unusedVariables false
set_option maxRecDepth 100000
namespace Go.Proofs.YtndeppnboolfiaaDoor
open Go Go.RowKit Go.Proofs Vc Ul
theorem fl_up {n n' d : Int} (hd : 0 < d) (h : n ≤ n') : fl n d ≤ fl n' d := Int.ediv_le_ediv hd h
theorem ce_up {n n' d : Int} (hd : 0 < d) (h : n ≤ n') : ce n d ≤ ce n' d := by
  have := Int.ediv_le_ediv hd (show -n' ≤ -n by omega)
  unfold ce; omega
theorem mid_any {m u n v d : Int} (hd : 0 < d) (h1 : u ≤ n) (h2 : n ≤ v) : (fl (m * u) d ≤ fl (m * n) d ∨ fl (m * v) d ≤ fl (m * n) d) ∧ (ce (m * n) d ≤ ce (m * u) d ∨ ce (m * n) d ≤ ce (m * v) d) := by
  by_cases hm : 0 ≤ m
  · have a := Int.mul_le_mul_of_nonneg_left h1 hm
    have b := Int.mul_le_mul_of_nonneg_left h2 hm
    exact ⟨.inl (fl_up hd a), .inr (ce_up hd b)⟩
  · have a := Int.mul_le_mul_of_nonneg_left h1 (show 0 ≤ -m by omega)
    have b := Int.mul_le_mul_of_nonneg_left h2 (show 0 ≤ -m by omega)
    rw [Int.neg_mul, Int.neg_mul] at a b
    exact ⟨.inr (fl_up hd (by omega)), .inl (ce_up hd (by omega))⟩
theorem minL_le : ∀ {L : List Int} {y : Int}, y ∈ L → minL L ≤ y := by
  have key : ∀ (L : List Int) (x : Int), L.foldl min x ≤ x ∧ ∀ y ∈ L, L.foldl min x ≤ y := by
    intro L
    induction L with
    | nil => intro x; exact ⟨Int.le_refl _, fun y h => by cases h⟩
    | cons z L ih =>
      intro x
      rw [List.foldl_cons]
      obtain ⟨h1, h2⟩ := ih (min x z)
      refine ⟨by omega, fun y hy => ?_⟩
      rcases List.mem_cons.1 hy with rfl | hy
      · omega
      · exact h2 y hy
  intro L y h
  cases L with
  | nil => cases h
  | cons x L =>
    simp only [minL]
    rcases List.mem_cons.1 h with rfl | h
    · exact (key L y).1
    · exact (key L x).2 y h
theorem maxL_ge : ∀ {L : List Int} {y : Int}, y ∈ L → y ≤ maxL L := by
  have key : ∀ (L : List Int) (x : Int), x ≤ L.foldl max x ∧ ∀ y ∈ L, y ≤ L.foldl max x := by
    intro L
    induction L with
    | nil => intro x; exact ⟨Int.le_refl _, fun y h => by cases h⟩
    | cons z L ih =>
      intro x
      rw [List.foldl_cons]
      obtain ⟨h1, h2⟩ := ih (max x z)
      refine ⟨by omega, fun y hy => ?_⟩
      rcases List.mem_cons.1 hy with rfl | hy
      · omega
      · exact h2 y hy
  intro L y h
  cases L with
  | nil => cases h
  | cons x L =>
    simp only [maxL]
    rcases List.mem_cons.1 h with rfl | h
    · exact (key L y).1
    · exact (key L x).2 y h
theorem minL_mem : ∀ {L : List Int}, L ≠ [] → minL L ∈ L := by
  have key : ∀ (L : List Int) (x : Int), L.foldl min x = x ∨ L.foldl min x ∈ L := by
    intro L
    induction L with
    | nil => intro x; exact .inl rfl
    | cons z L ih =>
      intro x
      rw [List.foldl_cons]
      rcases ih (min x z) with h | h
      · rw [h]
        by_cases g : x ≤ z
        · left; omega
        · right; rw [show min x z = z by omega]; exact List.mem_cons_self
      · exact .inr (List.mem_cons_of_mem _ h)
  intro L h
  cases L with
  | nil => exact absurd rfl h
  | cons x L =>
    simp only [minL]
    rcases key L x with e | e
    · rw [e]; exact List.mem_cons_self
    · exact List.mem_cons_of_mem _ e
theorem maxL_mem : ∀ {L : List Int}, L ≠ [] → maxL L ∈ L := by
  have key : ∀ (L : List Int) (x : Int), L.foldl max x = x ∨ L.foldl max x ∈ L := by
    intro L
    induction L with
    | nil => intro x; exact .inl rfl
    | cons z L ih =>
      intro x
      rw [List.foldl_cons]
      rcases ih (max x z) with h | h
      · rw [h]
        by_cases g : z ≤ x
        · left; omega
        · right; rw [show max x z = z by omega]; exact List.mem_cons_self
      · exact .inr (List.mem_cons_of_mem _ h)
  intro L h
  cases L with
  | nil => exact absurd rfl h
  | cons x L =>
    simp only [maxL]
    rcases key L x with e | e
    · rw [e]; exact List.mem_cons_self
    · exact List.mem_cons_of_mem _ e
theorem incr {l : List Pt} (hk : chkT l = 0) : ∀ (k j : Nat) (p q : Pt), j < k → l[j]? = some q → l[k]? = some p → q.1 < p.1 := by
  obtain ⟨k0, k1, kg⟩ := chkT_ok hk
  intro k
  induction k with
  | zero => intro j p q h; omega
  | succ k ih =>
    intro j p q hj hq hp
    have hl := (List.getElem?_eq_some_iff.1 hp).1
    have hr := List.getElem?_eq_getElem (show k < l.length by omega)
    have h1 := good_incr (kg (k + 1) hl) hp hr
    by_cases e : j = k
    · subst e; rw [hq] at hr; obtain rfl := Option.some.inj hr; exact h1
    · have := ih j _ q (by omega) hq hr; omega
/-- The line between two points. -/
theorem line_in {l : List Pt} (hk : chkT l = 0) {i : Nat} {q p : Pt} (hq : l[i]? = some q) (hp : l[i + 1]? = some p) (up : Bool) {x : Int} (h1 : q.1 < x) (h2 : x ≤ p.1) :
    lineV l up x = (bdP up q + fl ((bdP up p - bdP up q) * (x - q.1)) (p.1 - q.1), bdP up q + ce ((bdP up p - bdP up q) * (x - q.1)) (p.1 - q.1)) := by
  have hl := (List.getElem?_eq_some_iff.1 hp).1
  have e : ahead l x = i + 1 := ahead_eq (by omega) (fun j r hj hr => by
    by_cases g : j = i
    · subst g; rw [hq] at hr; obtain rfl := Option.some.inj hr; exact h1
    · have := incr hk i j q r (by omega) hr hq; omega) (fun r hr => by rw [hp] at hr; obtain rfl := Option.some.inj hr; omega)
  unfold lineV
  rw [e, if_neg (by omega), if_neg (by omega), show i + 1 - 1 = i by omega, bdAt_some hq, bdAt_some hp, atX_some hq, atX_some hp]
theorem zero_frac (m d : Int) (u : Int) (h : u = 0) : fl (m * u) d = 0 ∧ ce (m * u) d = 0 := by
  subst h; unfold fl ce; simp
/-- The line at a point. -/
theorem line_at {l : List Pt} (hk : chkT l = 0) {i : Nat} {p : Pt} (hp : l[i]? = some p) (up : Bool) : lineV l up p.1 = (bdP up p, bdP up p) := by
  have hl := (List.getElem?_eq_some_iff.1 hp).1
  cases i with
  | zero =>
    have e : ahead l p.1 = 0 := ahead_eq (by omega) (fun j r hj => by omega) (fun r hr => by rw [hp] at hr; obtain rfl := Option.some.inj hr; omega)
    unfold lineV
    rw [e, if_pos rfl, bdAt_some hp]
  | succ i =>
    have hq := List.getElem?_eq_getElem (show i < l.length by omega)
    have h1 := incr hk (i + 1) i p _ (by omega) hq hp
    rw [line_in hk hq hp up h1 (Int.le_refl _)]
    obtain ⟨f1, f2⟩ := fl_mul (bdP up p - bdP up l[i]) (p.1 - l[i].1) (by omega)
    rw [f1, f2]
    simp only [Prod.mk.injEq]; omega
theorem mem_plc {l : List Pt} {a b : Int} : a ∈ plc l a b l.length ∧ b ∈ plc l a b l.length ∧ ∀ (i : Nat) (p : Pt), l[i]? = some p → a ≤ p.1 → p.1 ≤ b → p.1 ∈ plc l a b l.length := by
  unfold plc
  refine ⟨by simp, by simp, fun i p hp h1 h2 => ?_⟩
  have hm : p ∈ l := List.mem_of_getElem? hp
  rw [List.take_length]
  exact List.mem_cons_of_mem _ (List.mem_cons_of_mem _ (List.mem_map.2 ⟨p, List.mem_filter.2 ⟨hm, by simp [h1, h2]⟩, rfl⟩))
theorem plc_between {l : List Pt} {a b x : Int} (hab : a ≤ b) (h : x ∈ plc l a b l.length) : a ≤ x ∧ x ≤ b := by
  unfold plc at h
  rcases List.mem_cons.1 h with rfl | h
  · omega
  · rcases List.mem_cons.1 h with rfl | h
    · omega
    · obtain ⟨p, hp, rfl⟩ := List.mem_map.1 h
      have := (List.mem_filter.1 hp).2
      simpa using this
/-- At any place of a span the line has nothing that it has not at the span's places. -/
theorem places {l : List Pt} (hk : chkT l = 0) (up : Bool) {a b n : Int} (h1 : a ≤ n) (h2 : n ≤ b) :
    (∃ y ∈ plc l a b l.length, (lineV l up y).1 ≤ (lineV l up n).1) ∧ ∃ y ∈ plc l a b l.length, (lineV l up n).2 ≤ (lineV l up y).2 := by
  obtain ⟨k0, k1, kg⟩ := chkT_ok hk
  obtain ⟨s1, s2, s3⟩ := ahead_spec l n
  obtain ⟨ma, mb, mp⟩ := @mem_plc l a b
  by_cases z : ahead l n = 0
  · have e : ahead l a = 0 := ahead_eq (by omega) (fun j r hj => by omega) (fun r hr => by have := s3 r (by rw [z]; exact hr); omega)
    have : lineV l up a = lineV l up n := by unfold lineV; rw [e, z]; rfl
    exact ⟨⟨a, ma, by rw [this]; exact Int.le_refl _⟩, ⟨a, ma, by rw [this]; exact Int.le_refl _⟩⟩
  · by_cases t : ahead l n = l.length
    · have e : ahead l b = l.length := ahead_eq (by omega) (fun j r hj hr => by have := s2 j r (by omega) hr; omega) (fun r hr => by
        have := (List.getElem?_eq_some_iff.1 hr).1; omega)
      have : lineV l up b = lineV l up n := by unfold lineV; rw [e, t, if_neg (show ¬ l.length = 0 by omega), if_pos rfl, if_neg (show ¬ l.length = 0 by omega), if_pos rfl]
      exact ⟨⟨b, mb, by rw [this]; exact Int.le_refl _⟩, ⟨b, mb, by rw [this]; exact Int.le_refl _⟩⟩
    · obtain ⟨i, hi⟩ : ∃ i, ahead l n = i + 1 := ⟨ahead l n - 1, by omega⟩
      have hq := List.getElem?_eq_getElem (show i < l.length by omega)
      have hp := List.getElem?_eq_getElem (show i + 1 < l.length by omega)
      have qn := s2 i _ (by omega) hq
      have np := s3 _ (by rw [hi]; exact hp)
      have qp := incr hk (i + 1) i _ _ (by omega) hq hp
      have en := line_in hk hq hp up qn (by omega)
      have lq := line_at hk hq up
      have lo : ∃ y ∈ plc l a b l.length, l[i].1 ≤ y ∧ y ≤ n ∧ lineV l up y = (bdP up l[i] + fl ((bdP up l[i + 1] - bdP up l[i]) * (y - l[i].1)) (l[i + 1].1 - l[i].1), bdP up l[i] + ce ((bdP up l[i + 1] - bdP up l[i]) * (y - l[i].1)) (l[i + 1].1 - l[i].1)) := by
        by_cases g : l[i].1 < a
        · exact ⟨a, ma, by omega, h1, line_in hk hq hp up g (by omega)⟩
        · refine ⟨l[i].1, mp i _ hq (by omega) (by omega), by omega, by omega, ?_⟩
          obtain ⟨f1, f2⟩ := zero_frac (bdP up l[i + 1] - bdP up l[i]) (l[i + 1].1 - l[i].1) (l[i].1 - l[i].1) (by omega)
          rw [lq, f1, f2]; simp
      have hi' : ∃ y ∈ plc l a b l.length, n ≤ y ∧ lineV l up y = (bdP up l[i] + fl ((bdP up l[i + 1] - bdP up l[i]) * (y - l[i].1)) (l[i + 1].1 - l[i].1), bdP up l[i] + ce ((bdP up l[i + 1] - bdP up l[i]) * (y - l[i].1)) (l[i + 1].1 - l[i].1)) := by
        by_cases g : l[i + 1].1 ≤ b
        · exact ⟨l[i + 1].1, mp (i + 1) _ hp (by omega) g, by omega, line_in hk hq hp up qp (Int.le_refl _)⟩
        · exact ⟨b, mb, h2, line_in hk hq hp up (by omega) (by omega)⟩
      obtain ⟨y, my, y0, y1, ey⟩ := lo
      obtain ⟨v, mv, v1, ev⟩ := hi'
      obtain ⟨c1, c2⟩ := mid_any (m := bdP up l[i + 1] - bdP up l[i]) (d := l[i + 1].1 - l[i].1) (u := y - l[i].1) (n := n - l[i].1) (v := v - l[i].1) (by omega) (by omega) (by omega)
      constructor
      · rcases c1 with c | c
        · exact ⟨y, my, by rw [ey, en]; simp only; omega⟩
        · exact ⟨v, mv, by rw [ev, en]; simp only; omega⟩
      · rcases c2 with c | c
        · exact ⟨y, my, by rw [ey, en]; simp only; omega⟩
        · exact ⟨v, mv, by rw [ev, en]; simp only; omega⟩
def Sm (x : Int) : Prop := -2305843009213693952 ≤ x ∧ x ≤ 2305843009213693952
theorem pt_small {l : List Pt} (hk : chkT l = 0) {i : Nat} {p : Pt} (hp : l[i]? = some p) (up : Bool) : Sm (bdP up p) ∧ bdP false p ≤ bdP true p := by
  obtain ⟨k0, k1, kg⟩ := chkT_ok hk
  have g := good_small (kg i (List.getElem?_eq_some_iff.1 hp).1) hp
  exact ⟨bdP_small g.2.1 g.2.2.1, g.2.2.2⟩
theorem cut_le {a1 a2 m1 m2 u d : Int} (hd : 0 < d) (u0 : 0 ≤ u) (ud : u ≤ d) (h1 : a1 ≤ a2) (h2 : a1 + m1 ≤ a2 + m2) : a1 + fl (m1 * u) d ≤ a2 + ce (m2 * u) d := by
  have x1 := Int.mul_nonneg (show 0 ≤ a2 - a1 by omega) (show 0 ≤ d - u by omega)
  have x2 := Int.mul_nonneg (show 0 ≤ a2 + m2 - (a1 + m1) by omega) u0
  have e : (a2 - a1) * (d - u) + (a2 + m2 - (a1 + m1)) * u = (a2 - a1) * d + m2 * u - m1 * u := by grind
  have f : fl (m1 * u) d * d ≤ m1 * u := Int.ediv_mul_le _ (by omega)
  have c : m2 * u ≤ ce (m2 * u) d * d := by
    unfold ce
    have := Int.ediv_mul_le (-(m2 * u)) (show d ≠ 0 by omega)
    rw [Int.neg_mul]; omega
  have g : fl (m1 * u) d * d ≤ (ce (m2 * u) d + (a2 - a1)) * d := by rw [Int.add_mul]; omega
  have := Int.le_of_mul_le_mul_right g hd
  omega
/-- The line's values: in order, and within the points' values. -/
theorem line_ok {l : List Pt} (hk : chkT l = 0) (x : Int) : (∀ up, Sm (lineV l up x).1 ∧ Sm (lineV l up x).2) ∧ (lineV l false x).1 ≤ (lineV l true x).2 := by
  obtain ⟨k0, k1, kg⟩ := chkT_ok hk
  obtain ⟨s1, s2, s3⟩ := ahead_spec l x
  by_cases z : ahead l x = 0
  · have hp := List.getElem?_eq_getElem (show 0 < l.length by omega)
    have e : ∀ up, lineV l up x = (bdP up l[0], bdP up l[0]) := fun up => by unfold lineV; rw [if_pos z, bdAt_some hp]
    exact ⟨fun up => by rw [e]; exact ⟨(pt_small hk hp up).1, (pt_small hk hp up).1⟩, by rw [e, e]; exact (pt_small hk hp true).2⟩
  · by_cases t : ahead l x = l.length
    · have hp := List.getElem?_eq_getElem (show l.length - 1 < l.length by omega)
      have e : ∀ up, lineV l up x = (bdP up l[l.length - 1], bdP up l[l.length - 1]) := fun up => by unfold lineV; rw [if_neg z, if_pos t, bdAt_some hp]
      exact ⟨fun up => by rw [e]; exact ⟨(pt_small hk hp up).1, (pt_small hk hp up).1⟩, by rw [e, e]; exact (pt_small hk hp true).2⟩
    · obtain ⟨i, hi⟩ : ∃ i, ahead l x = i + 1 := ⟨ahead l x - 1, by omega⟩
      have hq := List.getElem?_eq_getElem (show i < l.length by omega)
      have hp := List.getElem?_eq_getElem (show i + 1 < l.length by omega)
      have qn := s2 i _ (by omega) hq
      have np := s3 _ (by rw [hi]; exact hp)
      have e := fun up => line_in hk hq hp up qn (by omega)
      refine ⟨fun up => ?_, ?_⟩
      · rw [e]
        obtain ⟨c1, c2⟩ := mid_any (m := bdP up l[i + 1] - bdP up l[i]) (d := l[i + 1].1 - l[i].1) (u := 0) (n := x - l[i].1) (v := l[i + 1].1 - l[i].1) (by omega) (by omega) (by omega)
        obtain ⟨f1, f2⟩ := fl_mul (bdP up l[i + 1] - bdP up l[i]) (l[i + 1].1 - l[i].1) (by omega)
        obtain ⟨z1, z2⟩ := zero_frac (bdP up l[i + 1] - bdP up l[i]) (l[i + 1].1 - l[i].1) 0 rfl
        have fc := fl_ce (x := (bdP up l[i + 1] - bdP up l[i]) * (x - l[i].1)) (y := l[i + 1].1 - l[i].1) (by omega)
        rw [z1, f1] at c1
        rw [z2, f2] at c2
        have := (pt_small hk hq up).1
        have := (pt_small hk hp up).1
        unfold Sm at *
        simp only
        omega
      · rw [e, e]
        exact cut_le (by omega) (by omega) (by omega) (pt_small hk hq true).2 (by have := (pt_small hk hp true).2; omega)
theorem look_n {l : List Pt} (hk : chkT l = 0) {n : Int} (hn : chk n n = 0) : look l n n = ((lineV l false n).1, (lineV l true n).2, 0) := by
  obtain ⟨o1, o2⟩ := line_ok hk n
  have h1 := (o1 false).1
  have h2 := (o1 true).2
  unfold Sm at h1 h2
  have all : ∀ (f : Int → Int), ((plc l n n l.length).map f) ≠ [] ∧ ∀ y ∈ (plc l n n l.length).map f, y = f n := fun f => by
    refine ⟨by unfold plc; simp, fun y hy => ?_⟩
    obtain ⟨x, hx, rfl⟩ := List.mem_map.1 hy
    have := plc_between (Int.le_refl n) hx
    rw [show x = n by omega]
  have e1 := (all fun x => (lineV l false x).1).2 _ (minL_mem (all fun x => (lineV l false x).1).1)
  have e2 := (all fun x => (lineV l true x).2).2 _ (maxL_mem (all fun x => (lineV l true x).2).1)
  unfold look
  rw [if_pos ⟨hk, hn⟩, e1, e2]
  unfold fit
  rw [if_pos (by omega)]
theorem look_at {l : List Pt} (hk : chkT l = 0) {i : Nat} {p : Pt} (hp : l[i]? = some p) (hn : chk p.1 p.1 = 0) : look l p.1 p.1 = (p.2.1, p.2.2, 0) := by
  rw [look_n hk hn, line_at hk hp, line_at hk hp]; rfl
theorem look_in {l : List Pt} (hk : chkT l = 0) {a b n : Int} (hab : chk a b = 0) (h1 : a ≤ n) (h2 : n ≤ b) (hn : chk n n = 0) : Inc (look l n n) (look l a b) ∧ (look l a b).2.2 = 0 := by
  obtain ⟨⟨y, my, hy⟩, _⟩ := places hk false h1 h2
  obtain ⟨_, ⟨v, mv, hv⟩⟩ := places hk true h1 h2
  obtain ⟨_, o2⟩ := line_ok hk n
  have m1 := minL_le (List.mem_map.2 ⟨y, my, rfl⟩ : (lineV l false y).1 ∈ (plc l a b l.length).map fun x => (lineV l false x).1)
  have m2 := maxL_ge (List.mem_map.2 ⟨v, mv, rfl⟩ : (lineV l true v).2 ∈ (plc l a b l.length).map fun x => (lineV l true x).2)
  have b1 := minL_mem (L := (plc l a b l.length).map fun x => (lineV l false x).1) (by unfold plc; simp)
  have b2 := maxL_mem (L := (plc l a b l.length).map fun x => (lineV l true x).2) (by unfold plc; simp)
  obtain ⟨x1, _, e1⟩ := List.mem_map.1 b1
  obtain ⟨x2, _, e2⟩ := List.mem_map.1 b2
  have r1 := ((line_ok hk x1).1 false).1
  have r2 := ((line_ok hk x2).1 true).2
  rw [e1] at r1
  rw [e2] at r2
  unfold Sm at r1 r2
  rw [look_n hk hn]
  have e : look l a b = (minL ((plc l a b l.length).map fun x => (lineV l false x).1), maxL ((plc l a b l.length).map fun x => (lineV l true x).2), 0) := by
    unfold look
    rw [if_pos ⟨hk, hab⟩]
    unfold fit
    rw [if_pos (by omega)]
  rw [e]
  exact ⟨inc_of (by omega) (by omega) o2 (by omega), rfl⟩
end Go.Proofs.YtndeppnboolfiaaDoor
set_option linter.unusedVariables false
set_option maxRecDepth 100000
namespace Go.Proofs.YtndeppnboolfiaaDoor
open Go Go.RowKit Go.Proofs Vc Ul
theorem chk_pt {n : Int} (h : -9223372036854775807 ≤ n) : chk n n = 0 := by
  unfold chk; rw [if_pos (ok_of h h (Int.le_refl _))]
theorem walk_spanLines {w : World} {v : Value} {l : List Pt} (h : Tab w v l) (hg : ∀ p ∈ l, I64 p.1 ∧ I64 p.2.1 ∧ I64 p.2.2) (a : Int) (ha : (Lit.int .i64 a).wf = true) (b : Int) (hbb : (Lit.int .i64 b).wf = true) (n : Int) (hn : (Lit.int .u64 n).wf = true) :
    Calls Tryd.prog 5 #[v, Vc.S a b, .int .u64 n] w (Vc.Ret (.bool true) w) := by
  have hl : ∀ p ∈ l, I64 p.1 := fun p hp => (hg p hp).1
  replace ha := wfI64 ha; replace hbb := wfI64 hbb
  have hn' := wfu64 hn
  have h0 := h
  obtain ⟨b0, p0, x1, rfl, hb, hc⟩ := tab_form h
  clear h
  have nb : (¬ (b0 = true)) ∨ ((l.length : Int) = 0) := by
    by_cases hb0 : b0 = true
    · right; have := hb hb0; omega
    · left; exact hb0
  refine vc_ullagelaw01_SpanLines p0 (l.length : Int) x1 a b n b0 w _ ?_
  refine ⟨true, fun w' hw => alive_any w', by omega, nb, ?_⟩
  refine iteI (fun _ => rfl) (fun h1 => ?_)
  refine ⟨_, fun w' hw => pchkT (sl_below hw h0), ?_⟩
  refine iteI (fun hk => ?_) (fun _ => rfl)
  refine ⟨_, fun w' hw => check_any a b w', ?_⟩
  refine iteI (fun hab => ?_) (fun _ => rfl)
  refine iteI (fun _ => ?_) (fun h => absurd rfl h)
  refine ⟨by omega, nb, ?_⟩
  have kab := chk_ok hab
  have oab := ok_3 kab
  refine ⟨fun y => ∃ (c : Bool) (i : Nat), i ≤ l.length ∧ y = [.b c, .i (i : Int)], upTo2 (l.length : Int), ⟨false, 0, by omega, rfl⟩, ?_⟩
  rintro b2 x7 ⟨c, i, hi, hy⟩
  simp only [List.cons.injEq, Vc.Vl.i.injEq, Vc.Vl.b.injEq, and_true] at hy
  obtain ⟨rfl, rfl⟩ := hy
  refine iteI (fun h2 => ?_) (fun h2 => ?_)
  · have hlt : i < l.length := by omega
    have hq := List.getElem?_eq_getElem hlt
    obtain ⟨c0, c1, c2⟩ := hc i _ hq
    have hm : l[i] ∈ l := List.getElem_mem hlt
    obtain ⟨g1, g2, g3⟩ := hg _ hm
    have sm := good_small ((chkT_ok hk).2.2 i hlt) hq
    have e := look_at hk hq (chk_pt (by omega))
    refine ⟨fun e => by have := hb e; omega, by omega, h2, _, c0, _, c1, _, c2, ?_⟩
    refine ⟨_, _, 0, fun w' hw => Ret.mono (pLook (sl_below hw h0) hl _ _ g1 g1) (by rw [e]), ?_⟩
    refine iteI (fun _ => ?_) (fun h => absurd rfl h)
    refine iteI (fun _ => ?_) (fun h => absurd ⟨rfl, rfl⟩ h)
    intro z hz
    have ez : z = ((i + 1 : Nat) : Int) := by
      have := (chkT_ok hk).2.1
      rw [hz]; simp only [Ul.i64_eq]; omega
    subst ez
    exact ⟨⟨_, i + 1, by omega, rfl⟩, by simp only [upTo2]; omega⟩
  · obtain ⟨x, xl, xh, px⟩ := pick_any a b n kab hn' hbb.2
    have ix : I64 x := by unfold I64 at *; omega
    obtain ⟨e1, e2⟩ := look_in hk hab xl xh (chk_pt (by omega))
    refine ⟨x, fun w' hw => px w', ?_⟩
    refine ⟨_, _, _, fun w' hw => pLook (sl_below hw h0) hl a b ha hbb, ?_⟩
    refine ⟨_, _, _, fun w' hw => pLook (sl_below hw h0) hl x x ix ix, ?_⟩
    refine iteI (fun _ => ?_) (fun h => absurd rfl h)
    refine iteI (fun _ => ?_) (fun h => absurd e2 h)
    refine iteI (fun _ => ?_) (fun h => absurd (e1 e2).1 h)
    exact ⟨_, fun w' hw => within_any _ _ _ _ w', by rw [(e1 e2).2]⟩
end Go.Proofs.YtndeppnboolfiaaDoor
