/- Contracts of the layer, as far as they are wanted (written by program out of the templates). -/
import Derived.Test.YtbpcdmjjdnjmbaaClA
import Derived.Test.YtbpcdmjjdnjmbaaClG3
import Derived.WalkKit
import Derived.ProofKit
import Derived.OpenShut
import Derived.Lib.SmallJoins
import Derived.Deep.Strs
set_option linter.unusedVariables false
set_option linter.unusedSimpArgs false
namespace Go.Proofs.Ytbpcdmjjdnjmbaa
open Go Go.RowKit Ul Vc
attribute [local irreducible] Go.Calls
theorem wrap_up (i : Nat) (h : i < 1000000) : IntKind.i64.wrap ((i : Int) + 1) = ((i + 1 : Nat) : Int) := by rw [Vc.i64_id (by omega)]; omega
theorem nxt (i n : Nat) (hi : i < 1000000) : Int.tmod (IntKind.i64.wrap ((i : Int) + 1)) (n : Int) = (((i + 1) % n : Nat) : Int) := by
  rw [wrap_up i hi]; exact (Int.ofNat_tmod _ _).symm
/-- The k-th of a loop's variables counts up. -/
def upK (k : Nat) (n : Int) (l : List Vc.Vl) : Nat :=
  match l[k]? with
  | some (.i x) => (n - x).toNat
  | _ => 0
abbrev Sp := Int × Int
def spc (p : Sp) : List Value := [.int .i64 p.1, .int .i64 p.2]
theorem spc_len (p : Sp) : (spc p).length = 2 := rfl
abbrev SPV (p : Sp) : Value := .agg #[.int .i64 p.1, .int .i64 p.2]
/-- A list of places, at a slice. -/
def Sps (w : World) (v : Value) (l : List Sp) : Prop := SlAt w v 2 (l.flatMap spc)
/-- The place with a number, taken round. -/
def sp (l : List Sp) (i : Nat) : Sp := l.getD (i % l.length) (0, 0)
theorem sp_at {l : List Sp} {i : Nat} (h : 0 < l.length) : l[i % l.length]? = some (sp l i) := by
  have := Nat.mod_lt i h
  unfold sp
  rw [List.getD_eq_getElem?_getD, List.getElem?_eq_getElem this]; rfl
theorem sp_per (l : List Sp) (i : Nat) : sp l (i + l.length) = sp l i := by unfold sp; rw [Nat.add_mod_right]
theorem sp_mem {l : List Sp} {i : Nat} (h : 0 < l.length) : sp l i ∈ l := List.mem_of_getElem? (sp_at h)
theorem sps_form {w : World} {v : Value} {l : List Sp} (h : Sps w v l) : ∃ (b0 : Bool) (p0 : Nat × Nat) (x1 : Int), v = (if b0 = true then .slice none 0 0 else .slice (some (Vc.qad p0 (Int.toNat (l.length : Int)) (Int.toNat x1))) (Int.toNat (l.length : Int)) (Int.toNat x1)) ∧ (b0 = true → l.length = 0) ∧
    (∀ (i : Nat) (p : Sp), l[i]? = some p → w.cell? ⟨p0.1, p0.2 + i * 2 + 0, none⟩ = some (.int .i64 p.1) ∧ w.cell? ⟨p0.1, p0.2 + i * 2 + 1, none⟩ = some (.int .i64 p.2)) := by
  obtain ⟨b0, p0, x1, h1, h2, h3⟩ := sl_form h (by decide) (flat_len spc_len l)
  refine ⟨b0, p0, x1, h1, h2, fun i p hp => ?_⟩
  simp only [Nat.add_assoc]
  exact ⟨h3 (i * 2 + 0) _ (flat_at spc_len hp (by decide)), h3 (i * 2 + 1) _ (flat_at spc_len hp (by decide))⟩
theorem sps_nb {b0 : Bool} {n : Nat} (h : b0 = true → n = 0) : (¬ (b0 = true)) ∨ ((n : Int) = 0) := by
  by_cases hb0 : b0 = true
  · right; have := h hb0; omega
  · left; exact hb0
theorem sps_nb0 {b0 : Bool} {n : Nat} (h : b0 = true → n = 0) (hn : 0 < n) : ¬ (b0 = true) := fun hb => by have := h hb; omega
theorem sps_below {v : Value} {l : List Sp} {w w' : World} (hb : Below w.heap.size w w') (h : Sps w v l) : Sps w' v l := sl_below hb h
def inR (n a b : Int) : Bool := decide (a ≤ n) && decide (n ≤ b)
theorem inR_iff {n a b : Int} : inR n a b = true ↔ a ≤ n ∧ n ≤ b := by simp [inR]
theorem pin_any (n a b : Int) (w : World) : Calls Try.prog 31 #[.int .i64 n, .int .i64 a, .int .i64 b] w (Vc.Ret (.bool (inR n a b)) w) := by
  refine vc_safety_within _ _ _ w _ ?_
  refine iteI (fun h => ?_) (fun h => ?_) <;> simp [inR, h]
/-- left, as it is reckoned. -/
def lfw (a b p : Sp) : Int :=
  IntKind.i64.wrap (IntKind.i64.wrap (IntKind.i64.wrap (b.1 - a.1) * IntKind.i64.wrap (p.2 - a.2)) - IntKind.i64.wrap (IntKind.i64.wrap (b.2 - a.2) * IntKind.i64.wrap (p.1 - a.1)))
theorem pleft_any (a b p : Sp) (w : World) : Calls Try.prog 49 #[SPV a, SPV b, SPV p] w (Vc.Ret (.int .i64 (lfw a b p)) w) := by
  refine vc_safety_left _ _ _ _ _ _ w _ ?_
  rintro _ rfl _ rfl _ rfl _ rfl _ rfl _ rfl _ rfl
  rfl
def upB (a b : Sp) : Bool := decide (a.2 < b.2) || (decide (b.2 = a.2) && decide (a.1 < b.1))
theorem pup_any (a b : Sp) (w : World) : Calls Try.prog 47 #[SPV a, SPV b] w (Vc.Ret (.bool (upB a b)) w) := by
  refine vc_safety_CheckZone_3 _ _ _ _ w _ ?_
  refine iteI (fun h => ?_) (fun h => ?_)
  · simp [upB, h]
  · refine iteI (fun h1 => ?_) (fun h1 => ?_) <;> simp [upB, h, h1]
def nearP (p : Sp) : Prop := (-268435456 ≤ p.1 ∧ p.1 ≤ 268435456) ∧ (-268435456 ≤ p.2 ∧ p.2 ≤ 268435456)
instance (p : Sp) : Decidable (nearP p) := inferInstanceAs (Decidable (_ ∧ _))
def rok (l : List Sp) (j : Nat) : Prop := 0 < lfw (sp l j) (sp l (j + 1)) (sp l (j + 2))
def rchg (l : List Sp) (j : Nat) : Nat := if upB (sp l j) (sp l (j + 1)) = upB (sp l (j + 1)) (sp l (j + 2)) then 0 else 1
def pok (l : List Sp) (j : Nat) : Prop := 0 < lfw (sp l (j + (l.length - 1))) (sp l j) (sp l (j + 1))
def pchg (l : List Sp) (j : Nat) : Nat := if upB (sp l (j + (l.length - 1))) (sp l j) = upB (sp l j) (sp l (j + 1)) then 0 else 1
instance (l : List Sp) (j : Nat) : Decidable (rok l j) := inferInstanceAs (Decidable (_ < _))
def sumTo (g : Nat → Nat) : Nat → Nat
  | 0 => 0
  | n + 1 => sumTo g n + g n
theorem sumTo_shift (g : Nat → Nat) : ∀ n, sumTo (fun i => g (i + 1)) n + g 0 = sumTo g n + g n
  | 0 => rfl
  | n + 1 => by have := sumTo_shift g n; simp only [sumTo] at *; omega
theorem sumTo_per {g : Nat → Nat} {n : Nat} (h : ∀ i, g (i + n) = g i) : ∀ k, sumTo (fun i => g (i + k)) n = sumTo g n
  | 0 => rfl
  | k + 1 => by
    have h1 := sumTo_shift (fun i => g (i + k)) n
    have h2 := sumTo_per h k
    have h3 := h k
    rw [Nat.add_comm k n] at h3
    have e : (fun i => g (i + (k + 1))) = fun i => g (i + 1 + k) := by funext i; congr 1; omega
    rw [e]
    simp only [Nat.zero_add] at h1
    omega
theorem sumTo_congr {f g : Nat → Nat} : ∀ {n : Nat}, (∀ i, i < n → f i = g i) → sumTo f n = sumTo g n
  | 0, _ => rfl
  | n + 1, h => by simp only [sumTo]; rw [sumTo_congr fun i hi => h i (by omega), h n (by omega)]
/-- Is a zone valid? -/
def ZoneP (k : Nat) (l : List Sp) : Prop := (1 ≤ k ∧ k ≤ 32) ∧ (3 ≤ l.length ∧ l.length ≤ 16) ∧ (∀ p ∈ l, nearP p) ∧ (∀ i, i < l.length → rok l i) ∧ sumTo (rchg l) l.length = 2
instance (k : Nat) (l : List Sp) : Decidable (ZoneP k l) := inferInstanceAs (Decidable (_ ∧ _ ∧ _ ∧ _ ∧ _))
def zoneB (k : Nat) (l : List Sp) : Bool := decide (ZoneP k l)
theorem zoneB_yes {k : Nat} {l : List Sp} (h : ZoneP k l) : zoneB k l = true := decide_eq_true h
theorem zoneB_no {k : Nat} {l : List Sp} (h : ¬ ZoneP k l) : zoneB k l = false := decide_eq_false h
theorem pok_iff {l : List Sp} (h : 0 < l.length) (j : Nat) : pok l j ↔ rok l (j + (l.length - 1)) := by
  have e1 : j + (l.length - 1) + 1 = j + l.length := by omega
  have e2 : j + (l.length - 1) + 2 = (j + 1) + l.length := by omega
  unfold pok rok
  rw [e1, e2, sp_per, sp_per]
theorem pchg_eq {l : List Sp} (h : 0 < l.length) (j : Nat) : pchg l j = rchg l (j + (l.length - 1)) := by
  have e1 : j + (l.length - 1) + 1 = j + l.length := by omega
  have e2 : j + (l.length - 1) + 2 = (j + 1) + l.length := by omega
  unfold pchg rchg
  rw [e1, e2, sp_per, sp_per]
theorem rchg_per (l : List Sp) (i : Nat) : rchg l (i + l.length) = rchg l i := by
  have e1 : i + l.length + 1 = i + 1 + l.length := by omega
  have e2 : i + l.length + 2 = i + 2 + l.length := by omega
  unfold rchg
  rw [e1, e2, sp_per, sp_per, sp_per]
theorem rok_mod (l : List Sp) (i : Nat) : rok l (i % l.length) ↔ rok l i := by
  have e : ∀ k, sp l (i % l.length + k) = sp l (i + k) := fun k => by unfold sp; rw [Nat.mod_add_mod]
  unfold rok
  have e0 := e 0
  simp only [Nat.add_zero] at e0
  rw [e0, e 1, e 2]
theorem pchg_sum {l : List Sp} (h : 0 < l.length) : sumTo (pchg l) l.length = sumTo (rchg l) l.length := by
  rw [sumTo_congr (g := fun i => rchg l (i + (l.length - 1))) fun i _ => pchg_eq h i]
  exact sumTo_per (rchg_per l) _
theorem pok_all {l : List Sp} (h : 0 < l.length) : (∀ i, i < l.length → pok l i) ↔ ∀ i, i < l.length → rok l i := by
  constructor
  · intro hp i hi
    have := (pok_iff h ((i + 1) % l.length)).1 (hp _ (Nat.mod_lt _ h))
    rw [← rok_mod, Nat.mod_add_mod, show i + 1 + (l.length - 1) = i + l.length by omega, Nat.add_mod_right, rok_mod] at this
    exact this
  · intro hr i hi
    rw [pok_iff h, ← rok_mod]
    exact hr _ (Nat.mod_lt _ h)
end Go.Proofs.Ytbpcdmjjdnjmbaa
set_option linter.unusedVariables false
set_option maxRecDepth 4000
namespace Go.Proofs.Ytbpcdmjjdnjmbaa
open Go Go.RowKit Ul Vc
attribute [local irreducible] Go.Calls
abbrev ZV (nm : List UInt8) (v : Value) : Value := .agg #[.string ⟨nm.toArray⟩, v]
theorem pzone {w : World} {nm : List UInt8} {v : Value} {l : List Sp} (h : Sps w v l) : Calls Try.prog 21 #[ZV nm v] w (Vc.Ret (.bool (zoneB nm.length l)) w) := by
  obtain ⟨b0, p0, x1, rfl, hb, hc⟩ := sps_form h
  clear h
  have nb := sps_nb hb
  refine vc_safety_CheckZone p0 (l.length : Int) x1 b0 nm w _ ?_
  rintro _ rfl
  refine iteI (fun h1 => ?_) (fun h1 => ?_)
  rotate_left
  · rw [zoneB_no fun hz => by have := hz.1.1; omega]
  refine iteI (fun h2 => ?_) (fun h2 => ?_)
  rotate_left
  · rw [zoneB_no fun hz => by have := hz.1.2; omega]
  refine ⟨by omega, nb, ?_⟩
  refine iteI (fun h3 => ?_) (fun h3 => ?_)
  rotate_left
  · rw [zoneB_no fun hz => by have := hz.2.1.1; omega]
  refine iteI (fun h4 => ?_) (fun h4 => ?_)
  rotate_left
  · rw [zoneB_no fun hz => by have := hz.2.1.2; omega]
  have hpos : 0 < l.length := by omega
  have nb0 := sps_nb0 hb hpos
  refine ⟨by omega, nb, ?_⟩
  refine ⟨fun y => ∃ (x : Int) (i : Nat), i ≤ l.length ∧ (∀ j p, j < i → l[j]? = some p → nearP p) ∧ y = [.i x, .i (i : Int)], upK 1 (l.length : Int), ⟨0, 0, by omega, fun j p hj => by omega, rfl⟩, ?_⟩
  rintro x3 x4 ⟨x, i, hi, hg, hy⟩
  simp only [List.cons.injEq, Vc.Vl.i.injEq, and_true] at hy
  obtain ⟨rfl, rfl⟩ := hy
  have hi0 : (0 : Int) ≤ (i : Int) := Int.natCast_nonneg _
  have bad : ∀ {p : Sp}, l[i]? = some p → ¬ nearP p → (Value.bool false : Value) = .bool (zoneB nm.length l) := fun hp hn => by
    rw [zoneB_no fun hz => hn (hz.2.2.1 _ (List.mem_of_getElem? hp))]
  refine iteI (fun h5 => ?_) (fun h5 => ?_)
  · have hlt : i < l.length := by omega
    have hp := List.getElem?_eq_getElem hlt
    generalize l[i] = p at hp
    obtain ⟨c0, c1⟩ := hc i p hp
    refine ⟨nb0, by omega, by omega, _, c0, _, c1, ?_⟩
    refine iteI (fun a1 => ?_) (fun a1 => ?_)
    rotate_left
    · exact iteI (fun _ => bad hp fun hn => a1 hn.1.1) (fun a => absurd hi0 a)
    refine iteI (fun a2 => ?_) (fun a2 => ?_)
    rotate_left
    · exact iteI (fun _ => bad hp fun hn => a2 hn.1.2) (fun a => absurd hi0 a)
    refine iteI (fun a3 => ?_) (fun a3 => ?_)
    rotate_left
    · exact iteI (fun _ => bad hp fun hn => a3 hn.2.1) (fun a => absurd hi0 a)
    refine iteI (fun a4 => ?_) (fun a4 => ?_)
    rotate_left
    · exact iteI (fun _ => bad hp fun hn => a4 hn.2.2) (fun a => absurd hi0 a)
    rintro _ rfl
    rw [wrap_up i (by omega)]
    refine ⟨⟨_, i + 1, by omega, fun j q hj hq => ?_, rfl⟩, by simp only [upK, List.getElem?_cons_zero, List.getElem?_cons_succ]; omega⟩
    by_cases hji : j = i
    · subst hji
      rw [hp] at hq
      cases hq
      exact ⟨⟨a1, a2⟩, a3, a4⟩
    · exact hg j q (by omega) hq
  · have hnear : ∀ p ∈ l, nearP p := fun p hp => by
      obtain ⟨j, hj⟩ := List.getElem?_of_mem hp
      exact hg j p (by have := (List.getElem?_eq_some_iff.1 hj).1; omega) hj
    clear bad
    refine ⟨by omega, nb, ?_⟩
    rintro _ rfl
    have ew : IntKind.i64.wrap ((l.length : Int) - 1) = ((l.length - 1 : Nat) : Int) := by rw [Vc.i64_id (by omega)]; omega
    rw [ew]
    have hl0 : l[l.length - 1]? = some (sp l (0 + (l.length - 1))) := by
      have := sp_at (i := 0 + (l.length - 1)) hpos
      rw [show (0 + (l.length - 1)) % l.length = l.length - 1 by rw [Nat.zero_add]; exact Nat.mod_eq_of_lt (by omega)] at this
      exact this
    obtain ⟨d0, d1⟩ := hc _ _ hl0
    refine ⟨nb0, by omega, by omega, _, d0, _, d1, by omega, nb, ?_⟩
    refine ⟨fun y => ∃ (i : Nat), i ≤ l.length ∧ (∀ j, j < i → pok l j) ∧ y = [.i (i : Int), .i (sp l (i + (l.length - 1))).1, .i (sp l (i + (l.length - 1))).2, .i (sumTo (pchg l) i : Nat)], upK 0 (l.length : Int), ⟨0, by omega, fun j hj => by omega, rfl⟩, ?_⟩
    rintro x10 x11 x12 x13 ⟨i, hi, hg, hy⟩
    simp only [List.cons.injEq, Vc.Vl.i.injEq, and_true] at hy
    obtain ⟨rfl, rfl, rfl, rfl⟩ := hy
    have hsb : sumTo (pchg l) i ≤ i := by
      have : ∀ n, sumTo (pchg l) n ≤ n := by
        intro n
        induction n with
        | zero => exact Nat.le_refl _
        | succ n ih => simp only [sumTo]; have : pchg l n ≤ 1 := (by unfold pchg; split <;> omega); omega
      exact this i
    refine iteI (fun h6 => ?_) (fun h6 => ?_)
    · have hlt : i < l.length := by omega
      have ha := sp_at (i := i) hpos
      rw [Nat.mod_eq_of_lt hlt] at ha
      have hn := sp_at (i := i + 1) hpos
      obtain ⟨e0, e1⟩ := hc _ _ ha
      obtain ⟨f0, f1⟩ := hc _ _ hn
      have hmod := Nat.mod_lt (i + 1) hpos
      have hlast : sp l (i + 1 + (l.length - 1)) = sp l i := by
        rw [show i + 1 + (l.length - 1) = i + l.length by omega, sp_per]
      refine ⟨nb0, by omega, by omega, _, e0, _, e1, ?_⟩
      rintro _ rfl
      refine ⟨by omega, nb, by omega, ?_⟩
      rintro _ rfl
      rw [nxt i _ (by omega)]
      refine ⟨nb0, by omega, by omega, _, f0, _, f1, ?_⟩
      (repeat apply Exists.intro); refine And.intro (fun _ _ => pleft_any (sp l (i + (l.length - 1))) (sp l i) (sp l (i + 1)) _) ?_
      refine iteI (fun h7 => ?_) (fun h7 => ?_)
      · rw [zoneB_no fun hz => by
          have := (pok_all hpos).2 hz.2.2.2.1 i hlt
          unfold pok at this
          omega]
      · have hok : pok l i := by unfold pok; omega
        (repeat apply Exists.intro); refine And.intro (fun _ _ => pup_any (sp l (i + (l.length - 1))) (sp l i) _) ?_
        have ew1 := wrap_up i (by omega)
        have ew2 := wrap_up (sumTo (pchg l) i) (by omega)
        have same : upB (sp l (i + (l.length - 1))) (sp l i) = upB (sp l i) (sp l (i + 1)) → (pchg l i : Nat) = 0 := fun e => by unfold pchg; rw [if_pos e]
        have diff : upB (sp l (i + (l.length - 1))) (sp l i) ≠ upB (sp l i) (sp l (i + 1)) → (pchg l i : Nat) = 1 := fun e => by unfold pchg; rw [if_neg e]
        have go0 : (pchg l i : Nat) = 0 → ((fun y => ∃ (i : Nat), i ≤ l.length ∧ (∀ j, j < i → pok l j) ∧ y = [Vc.Vl.i (i : Int), .i (sp l (i + (l.length - 1))).1, .i (sp l (i + (l.length - 1))).2, .i (sumTo (pchg l) i : Nat)]) [.i (IntKind.i64.wrap ((i : Int) + 1)), .i (sp l i).1, .i (sp l i).2, .i (sumTo (pchg l) i : Nat)]) ∧ upK 0 (l.length : Int) [.i (IntKind.i64.wrap ((i : Int) + 1)), .i (sp l i).1, .i (sp l i).2, .i (sumTo (pchg l) i : Nat)] < upK 0 (l.length : Int) [.i (i : Int), .i (sp l (i + (l.length - 1))).1, .i (sp l (i + (l.length - 1))).2, .i (sumTo (pchg l) i : Nat)] := fun hz => by
          rw [ew1]
          refine ⟨⟨i + 1, by omega, fun j hj => ?_, ?_⟩, by simp only [upK, List.getElem?_cons_zero]; omega⟩
          · by_cases hji : j = i
            · subst hji; exact hok
            · exact hg j (by omega)
          · rw [hlast]; simp only [sumTo, hz, Nat.add_zero]
        have go1 : (pchg l i : Nat) = 1 → ((fun y => ∃ (i : Nat), i ≤ l.length ∧ (∀ j, j < i → pok l j) ∧ y = [Vc.Vl.i (i : Int), .i (sp l (i + (l.length - 1))).1, .i (sp l (i + (l.length - 1))).2, .i (sumTo (pchg l) i : Nat)]) [.i (IntKind.i64.wrap ((i : Int) + 1)), .i (sp l i).1, .i (sp l i).2, .i (IntKind.i64.wrap (((sumTo (pchg l) i : Nat) : Int) + 1))]) ∧ upK 0 (l.length : Int) [.i (IntKind.i64.wrap ((i : Int) + 1)), .i (sp l i).1, .i (sp l i).2, .i (IntKind.i64.wrap (((sumTo (pchg l) i : Nat) : Int) + 1))] < upK 0 (l.length : Int) [.i (i : Int), .i (sp l (i + (l.length - 1))).1, .i (sp l (i + (l.length - 1))).2, .i (sumTo (pchg l) i : Nat)] := fun hz => by
          rw [ew1, ew2]
          refine ⟨⟨i + 1, by omega, fun j hj => ?_, ?_⟩, by simp only [upK, List.getElem?_cons_zero]; omega⟩
          · by_cases hji : j = i
            · subst hji; exact hok
            · exact hg j (by omega)
          · rw [hlast]; simp only [sumTo, hz]
        refine iteI (fun g1 => ?_) (fun g1 => ?_)
        · have e : upB (sp l i) (sp l (i + 1)) = true := by simp [upB, g1]
          refine iteI (fun g2 => ?_) (fun g2 => ?_)
          · rintro _ rfl; exact go0 (same (by rw [g2, e]))
          · rintro _ rfl _ rfl; exact go1 (diff (by rw [e]; exact g2))
        · refine iteI (fun g2 => ?_) (fun g2 => ?_)
          · have e : upB (sp l i) (sp l (i + 1)) = decide ((sp l i).1 < (sp l (i + 1)).1) := by simp [upB, g2]
            refine iteI (fun g3 => ?_) (fun g3 => ?_)
            · rintro _ rfl; exact go0 (same (by rw [e, Bool.eq_iff_iff]; simpa using g3))
            · rintro _ rfl _ rfl; exact go1 (diff (by rw [e]; intro h; apply g3; rw [h]; simp))
          · have e : upB (sp l i) (sp l (i + 1)) = false := by simp [upB, g1, g2]
            refine iteI (fun g3 => ?_) (fun g3 => ?_)
            · rintro _ rfl _ rfl; exact go1 (diff (by rw [g3, e]; decide))
            · rintro _ rfl; exact go0 (same (by rw [e]; simpa using g3))
    · obtain rfl : i = l.length := by omega
      have hz : zoneB nm.length l = decide (sumTo (rchg l) l.length = 2) := by
        by_cases h8 : sumTo (rchg l) l.length = 2
        · rw [decide_eq_true h8]
          exact zoneB_yes ⟨⟨by omega, by omega⟩, ⟨by omega, by omega⟩, hnear, (pok_all hpos).1 hg, h8⟩
        · rw [decide_eq_false h8]
          exact zoneB_no fun hz => h8 hz.2.2.2.2
      rw [hz, pchg_sum hpos]
      congr 1
      rw [Bool.eq_iff_iff]
      simp
      omega
end Go.Proofs.Ytbpcdmjjdnjmbaa
set_option linter.unusedVariables false
set_option maxRecDepth 4000
namespace Go.Proofs.Ytbpcdmjjdnjmbaa
open Go Go.RowKit Ul Vc
attribute [local irreducible] Go.Calls
/-- Does a valid zone contain a place? -/
def InsP (l : List Sp) (s : Sp) : Prop := ∀ i, i < l.length → 0 ≤ lfw (sp l i) (sp l (i + 1)) s
instance (l : List Sp) (s : Sp) : Decidable (InsP l s) := inferInstanceAs (Decidable (∀ i, i < l.length → _))
def insB (l : List Sp) (s : Sp) : Bool := decide (InsP l s)
theorem pcont {w : World} {nm : List UInt8} {v : Value} {l : List Sp} (s : Sp) (h : Sps w v l) (hn : l.length ≤ 1000) : Calls Try.prog 53 #[ZV nm v, SPV s] w (Vc.Ret (.bool (insB l s)) w) := by
  obtain ⟨b0, p0, x1, rfl, hb, hc⟩ := sps_form h
  clear h
  have nb := sps_nb hb
  refine vc_safety_contains p0 (l.length : Int) x1 s.1 s.2 b0 nm w _ ?_
  refine ⟨by omega, nb, ?_⟩
  refine ⟨fun y => ∃ (i : Nat), i ≤ l.length ∧ (∀ j, j < i → 0 ≤ lfw (sp l j) (sp l (j + 1)) s) ∧ y = [.i (i : Int)], upK 0 (l.length : Int), ⟨0, by omega, fun j hj => by omega, rfl⟩, ?_⟩
  rintro x4 ⟨i, hi, hg, hy⟩
  simp only [List.cons.injEq, Vc.Vl.i.injEq, and_true] at hy
  obtain rfl := hy
  refine iteI (fun h5 => ?_) (fun h5 => ?_)
  · have hlt : i < l.length := by omega
    have hpos : 0 < l.length := by omega
    have nb0 := sps_nb0 hb hpos
    have ha := sp_at (i := i) hpos
    rw [Nat.mod_eq_of_lt hlt] at ha
    obtain ⟨e0, e1⟩ := hc _ _ ha
    obtain ⟨f0, f1⟩ := hc _ _ (sp_at (i := i + 1) hpos)
    have hmod := Nat.mod_lt (i + 1) hpos
    refine ⟨nb0, by omega, by omega, _, e0, _, e1, ?_⟩
    rintro _ rfl
    refine ⟨by omega, nb, by omega, ?_⟩
    rintro _ rfl
    rw [nxt i _ (by omega)]
    refine ⟨nb0, by omega, by omega, _, f0, _, f1, ?_⟩
    (repeat apply Exists.intro); refine And.intro (fun _ _ => pleft_any (sp l i) (sp l (i + 1)) s _) ?_
    refine iteI (fun h7 => ?_) (fun h7 => ?_)
    · rw [show insB l s = false from decide_eq_false fun hz => by have := hz i hlt; omega]
    · rintro _ rfl
      rw [wrap_up i (by omega)]
      refine ⟨⟨i + 1, by omega, fun j hj => ?_, rfl⟩, by simp only [upK, List.getElem?_cons_zero]; omega⟩
      by_cases hji : j = i
      · subst hji; omega
      · exact hg j (by omega)
  · rw [show insB l s = true from decide_eq_true fun j hj => hg j (by omega)]
/-- Rects. -/
abbrev Rc := Sp × Sp
abbrev RCV (r : Rc) : Value := .agg #[.int .i64 r.1.1, .int .i64 r.1.2, .int .i64 r.2.1, .int .i64 r.2.2]
def rectB (r : Rc) : Bool := inR r.1.1 (-536870912) r.2.1 && decide (r.2.1 ≤ 536870912) && inR r.1.2 (-536870912) r.2.2 && decide (r.2.2 ≤ 536870912)
theorem rectB_iff {r : Rc} : rectB r = true ↔ (-536870912 ≤ r.1.1 ∧ r.1.1 ≤ r.2.1 ∧ r.2.1 ≤ 536870912) ∧ (-536870912 ≤ r.1.2 ∧ r.1.2 ≤ r.2.2 ∧ r.2.2 ≤ 536870912) := by
  simp only [rectB, inR, Bool.and_eq_true, decide_eq_true_eq]; omega
theorem prect (r : Rc) (w : World) : Calls Try.prog 37 #[RCV r] w (Vc.Ret (.bool (rectB r)) w) := by
  refine vc_safety_checkRect _ _ _ _ w _ ?_
  (repeat apply Exists.intro); refine And.intro (fun _ _ => pin_any _ _ _ _) ?_
  refine iteI (fun h => ?_) (fun h => ?_)
  · refine iteI (fun h1 => ?_) (fun h1 => ?_)
    · (repeat apply Exists.intro); refine And.intro (fun _ _ => pin_any _ _ _ _) ?_
      refine iteI (fun h2 => ?_) (fun h2 => ?_)
      · simp [rectB, h, h1, h2]
      · simp [rectB, h, h1, h2]
    · simp [rectB, h, h1]
  · simp [rectB, h]
/-- Numbers along a direction. -/
def al (d s : Sp) : Int := d.1 * s.1 + d.2 * s.2
def sz (x : Int) : Int := if -x > x then -x else x
theorem sz_nonneg (x : Int) : 0 ≤ sz x := by unfold sz; split <;> omega
theorem sz_le {x B : Int} (h : -B ≤ x ∧ x ≤ B) : sz x ≤ B := by unfold sz; split <;> omega
def Bd (n : Int) (x : Int) : Prop := -n ≤ x ∧ x ≤ n
theorem mul_bd {a b A B : Int} (ha : Bd A a) (hb : Bd B b) : Bd (A * B) (a * b) := by
  have hA : 0 ≤ A := by unfold Bd at ha; omega
  have hB : 0 ≤ B := by unfold Bd at hb; omega
  have h1 : (a.natAbs : Int) ≤ A := by unfold Bd at ha; omega
  have h2 : (b.natAbs : Int) ≤ B := by unfold Bd at hb; omega
  have h3 := Int.mul_le_mul h1 h2 (by omega) hA
  have h4 : ((a * b).natAbs : Int) = (a.natAbs : Int) * (b.natAbs : Int) := by rw [Int.natAbs_mul]; push_cast; rfl
  unfold Bd
  omega
def SpB (n : Int) (p : Sp) : Prop := Bd n p.1 ∧ Bd n p.2
theorem al_bd {d s : Sp} (hd : SpB 1610612736 d) (hs : SpB 805306368 s) : Bd 2594073385365405696 (al d s) ∧ Bd (1297036692682702848) (d.1 * s.1) ∧ Bd (1297036692682702848) (d.2 * s.2) := by
  have h1 := mul_bd hd.1 hs.1
  have h2 := mul_bd hd.2 hs.2
  refine ⟨?_, h1, h2⟩
  unfold Bd al at *
  omega
theorem al_wrap {d s : Sp} (hd : SpB 1610612736 d) (hs : SpB 805306368 s) : IntKind.i64.wrap (IntKind.i64.wrap (d.1 * s.1) + IntKind.i64.wrap (d.2 * s.2)) = al d s := by
  obtain ⟨h0, h1, h2⟩ := al_bd hd hs
  unfold Bd at *
  rw [Vc.i64_id (x := d.1 * s.1) (by omega), Vc.i64_id (x := d.2 * s.2) (by omega), Vc.i64_id (by unfold al at h0; omega)]
  rfl
theorem psize (x : Int) (w : World) (h : Bd 1610612736 x) : Calls Try.prog 60 #[.int .i64 x] w (Vc.Ret (.int .i64 (sz x)) w) := by
  refine vc_safety_size _ w _ ?_
  rintro _ rfl _ rfl
  unfold Bd at h
  rw [Vc.i64_id (by omega), Int.zero_sub]
  rfl
end Go.Proofs.Ytbpcdmjjdnjmbaa
set_option linter.unusedVariables false
set_option maxRecDepth 4000
namespace Go.Proofs.Ytbpcdmjjdnjmbaa
open Go Go.RowKit Ul Vc
attribute [local irreducible] Go.Calls
/-- b lies far enough behind a, seen in a direction. -/
def Sep (d : Sp) (a b : List Sp) (r : Int) : Prop := ∀ p ∈ a, ∀ q ∈ b, r * (sz d.1 + sz d.2) < al d q - al d p
instance (d : Sp) (a b : List Sp) (r : Int) : Decidable (Sep d a b r) := inferInstanceAs (Decidable (∀ p ∈ a, ∀ q ∈ b, _))
def neg2 (d : Sp) : Sp := (-d.1, -d.2)
def perp (a b : Sp) : Sp := (a.2 - b.2, b.1 - a.1)
/-- The directions at right angles to the first edges. -/
def dirsTo (l : List Sp) : Nat → List Sp
  | 0 => []
  | n + 1 => dirsTo l n ++ [perp (sp l n) (sp l (n + 1)), neg2 (perp (sp l n) (sp l (n + 1)))]
theorem dirsTo_mem {l : List Sp} {d : Sp} : ∀ {n : Nat}, d ∈ dirsTo l n ↔ ∃ i, i < n ∧ (d = perp (sp l i) (sp l (i + 1)) ∨ d = neg2 (perp (sp l i) (sp l (i + 1))))
  | 0 => by simp [dirsTo]
  | n + 1 => by
    simp only [dirsTo, List.mem_append, dirsTo_mem (n := n), List.mem_cons, List.not_mem_nil, or_false]
    constructor
    · rintro (⟨i, hi, h⟩ | h)
      · exact ⟨i, by omega, h⟩
      · exact ⟨n, by omega, h⟩
    · rintro ⟨i, hi, h⟩
      by_cases hin : i = n
      · subst hin; exact .inr h
      · exact .inl ⟨i, by omega, h⟩
def axes : List Sp := [(1, 0), (-1, 0), (0, 1), (0, -1)]
def dirs (a b : List Sp) : List Sp := dirsTo a a.length ++ dirsTo b b.length ++ axes
/-- Two areas are more than r apart. -/
def ApP (a b : List Sp) (r : Int) : Prop := ∃ d ∈ dirs a b, Sep d a b r
instance (a b : List Sp) (r : Int) : Decidable (ApP a b r) := inferInstanceAs (Decidable (∃ d ∈ _, _))
def apB (a b : List Sp) (r : Int) : Bool := decide (ApP a b r)
theorem perp_bd {p q : Sp} (hp : SpB 805306368 p) (hq : SpB 805306368 q) : SpB 1610612736 (perp p q) := by
  unfold SpB Bd perp at *; omega
theorem axes_bd {d : Sp} (h : d ∈ axes) : SpB 1610612736 d := by
  simp only [axes, List.mem_cons, List.not_mem_nil, or_false] at h
  rcases h with rfl | rfl | rfl | rfl <;> (unfold SpB Bd; decide)
theorem sz_neg (x : Int) : sz (-x) = sz x := by unfold sz; split <;> split <;> omega
theorem al_neg (d s : Sp) : al (neg2 d) s = -al d s := by unfold al neg2; simp only [Int.neg_mul]; omega
theorem need_bd {d : Sp} {r : Int} (hd : SpB 1610612736 d) (hr : 0 ≤ r ∧ r < 1073741824) : IntKind.i64.wrap (r * IntKind.i64.wrap (sz d.1 + sz d.2)) = r * (sz d.1 + sz d.2) ∧ Bd 3458764513820540928 (r * (sz d.1 + sz d.2)) := by
  have h1 := sz_le hd.1
  have h2 := sz_le hd.2
  have h3 := sz_nonneg d.1
  have h4 := sz_nonneg d.2
  have h5 := mul_bd (a := r) (b := sz d.1 + sz d.2) (A := 1073741824) (B := 3221225472) (by unfold Bd; omega) (by unfold Bd; omega)
  rw [Vc.i64_id (x := sz d.1 + sz d.2) (by omega)]
  refine ⟨Vc.i64_id (by unfold Bd at h5; omega), ?_⟩
  unfold Bd at *; omega
theorem sep_iff {d : Sp} {a b : List Sp} {r lo hi : Int} (h1 : ∀ s ∈ b, lo ≤ al d s) (h2 : ∃ s ∈ b, lo = al d s) (h3 : ∀ s ∈ a, al d s ≤ hi) (h4 : ∃ s ∈ a, hi = al d s) : Sep d a b r ↔ r * (sz d.1 + sz d.2) < lo - hi := by
  constructor
  · intro h
    obtain ⟨q, hq, e1⟩ := h2
    obtain ⟨p, hp, e2⟩ := h4
    have := h p hp q hq
    omega
  · intro h p hp q hq
    have := h1 q hq
    have := h3 p hp
    omega
theorem sep_neg {d : Sp} {a b : List Sp} {r lo hi : Int} (h1 : ∀ s ∈ a, lo ≤ al d s) (h2 : ∃ s ∈ a, lo = al d s) (h3 : ∀ s ∈ b, al d s ≤ hi) (h4 : ∃ s ∈ b, hi = al d s) : Sep (neg2 d) a b r ↔ r * (sz d.1 + sz d.2) < lo - hi := by
  unfold Sep
  have e : r * (sz (neg2 d).1 + sz (neg2 d).2) = r * (sz d.1 + sz d.2) := by unfold neg2; simp only [sz_neg]
  constructor
  · intro h
    obtain ⟨q, hq, e1⟩ := h4
    obtain ⟨p, hp, e2⟩ := h2
    have := h p hp q hq
    rw [al_neg, al_neg, e] at this
    omega
  · intro h p hp q hq
    have := h1 p hp
    have := h3 q hq
    rw [al_neg, al_neg, e]
    omega
/-- What two areas must be to be reckoned with. -/
structure Two (a b : List Sp) (r : Int) : Prop where
  a0 : 0 < a.length
  a1 : a.length ≤ 1000
  b0 : 0 < b.length
  b1 : b.length ≤ 1000
  ab : ∀ s ∈ a, SpB 805306368 s
  bb : ∀ s ∈ b, SpB 805306368 s
  r0 : 0 ≤ r ∧ r < 1073741824
end Go.Proofs.Ytbpcdmjjdnjmbaa
set_option linter.unusedVariables false
set_option maxRecDepth 4000
namespace Go.Proofs.Ytbpcdmjjdnjmbaa
open Go Go.RowKit Ul Vc
attribute [local irreducible] Go.Calls
theorem palong {w : World} {d s : Sp} {k0 k1 t0 t1 : Nat} (h0 : w.heap[k0]? = some (.cells #[.int .i64 d.1] t0)) (h1 : w.heap[k1]? = some (.cells #[.int .i64 d.2] t1)) (hd : SpB 1610612736 d) (hs : SpB 805306368 s) :
    Calls Try.prog 58 #[SPV s, Vc.ptr k0 0, Vc.ptr k1 0] w (Vc.Ret (.int .i64 (al d s)) w) := by
  refine vc_safety_apart_1_1 (k0, 0) (k1, 0) s.1 s.2 w _ ?_
  refine ⟨d.1, ?_, ?_⟩
  · rw [cell_of_heap h0]; rfl
  rintro _ rfl
  refine ⟨d.2, ?_, ?_⟩
  · rw [cell_of_heap h1]; rfl
  rintro _ rfl _ rfl
  rw [al_wrap hd hs]
theorem psep {w : World} {va vb : Value} {a b : List Sp} {r : Int} {d : Sp} {k0 k1 k2 t0 t1 t2 : Nat} (ha : Sps w va a) (hb : Sps w vb b) (h2 : Two a b r) (hd : SpB 1610612736 d)
    (g0 : w.heap[k0]? = some (.cells #[va] t0)) (g1 : w.heap[k1]? = some (.cells #[vb] t1)) (g2 : w.heap[k2]? = some (.cells #[.int .i64 r] t2)) :
    Calls Try.prog 57 #[.int .i64 d.1, .int .i64 d.2, Vc.ptr k0 0, Vc.ptr k1 0, Vc.ptr k2 0] w (Vc.Ret (.bool (decide (Sep d a b r ∨ Sep (neg2 d) a b r))) w) := by
  obtain ⟨b0, p0, x1, rfl, ab, ac⟩ := sps_form ha
  obtain ⟨b1, p1, x3, rfl, bb, bc⟩ := sps_form hb
  obtain ⟨a0, a1, c0, c1, ha2, hb2, hr⟩ := h2
  have na := sps_nb ab
  have nc := sps_nb bb
  have na0 := sps_nb0 ab a0
  have nc0 := sps_nb0 bb c0
  refine vc_safety_apart_1 (k0, 0) (k1, 0) (k2, 0) d.1 d.2 w _ ?_
  refine ⟨b0, p0, (a.length : Int), x1, by rw [cell_of_heap g0]; rfl, ?_⟩
  have nn := List.getElem?_eq_getElem a0
  have q2 := ha2 _ (List.getElem_mem a0)
  have q1 : a[0] ∈ a := List.getElem_mem a0
  generalize a[0] = s0 at nn q2 q1
  refine ⟨na0, by omega, _, (ac 0 s0 nn).1, _, (ac 0 s0 nn).2, al d s0, fun β w' hw hm => palong hm.1.2 hm.2.1.2 hd q2, na0, by omega, _, (ac 0 s0 nn).1, _, (ac 0 s0 nn).2, al d s0, fun β w' hw hm => palong hm.1.2 hm.2.1.2 hd q2, by omega, na, ?_⟩
  refine ⟨fun y => ∃ (lo hi : Int) (i : Nat), i ≤ a.length ∧ (∃ s ∈ a, lo = al d s) ∧ (∃ s ∈ a, hi = al d s) ∧ (∀ j p, j < i → a[j]? = some p → lo ≤ al d p ∧ al d p ≤ hi) ∧ y = [.i lo, .i hi, .i (i : Int)], upK 2 (a.length : Int), ⟨_, _, 0, by omega, ⟨s0, q1, rfl⟩, ⟨s0, q1, rfl⟩, fun j p hj => by omega, rfl⟩, ?_⟩
  clear nn q2 q1
  rintro alo ahi x12 ⟨lo1, hi1, i, hi, hal, hah, ga, hy⟩
  simp only [List.cons.injEq, Vc.Vl.i.injEq, and_true] at hy
  obtain ⟨rfl, rfl, rfl⟩ := hy
  refine iteI (fun h5 => ?_) (fun h5 => ?_)
  · have hlt : i < a.length := by omega
    have hp := List.getElem?_eq_getElem hlt
    have hs := ha2 _ (List.getElem_mem hlt)
    have hm' : a[i] ∈ a := List.getElem_mem hlt
    generalize a[i] = s at hp hs hm'
    refine ⟨na0, by omega, by omega, _, (ac i s hp).1, _, (ac i s hp).2, al d s, fun β w' hw hm => palong hm.1.2 hm.2.1.2 hd hs, ?_⟩
    rintro _ rfl
    refine ⟨al d s, fun β w' hw hm => palong hm.1.2 hm.2.1.2 hd hs, ?_⟩
    rintro _ rfl _ rfl
    rw [wrap_up i (by omega)]
    refine ⟨⟨_, _, i + 1, by omega, ?_, ?_, fun j p hj hpj => ?_, rfl⟩, by simp only [upK, List.getElem?_cons_zero, List.getElem?_cons_succ]; omega⟩
    · split
      · exact ⟨s, hm', rfl⟩
      · exact hal
    · split
      · exact ⟨s, hm', rfl⟩
      · exact hah
    · by_cases hji : j = i
      · subst hji
        rw [hp] at hpj
        cases hpj
        constructor <;> split <;> omega
      · have := ga j p (by omega) hpj
        constructor <;> split <;> omega
  have hga : (∀ s ∈ a, alo ≤ al d s) ∧ ∀ s ∈ a, al d s ≤ ahi := by
    constructor <;> intro s hs <;> (obtain ⟨j, hj⟩ := List.getElem?_of_mem hs; have := ga j s (by have := (List.getElem?_eq_some_iff.1 hj).1; omega) hj; omega)
  have bal : Bd 2594073385365405696 alo := by obtain ⟨s, hs, e⟩ := hal; rw [e]; exact (al_bd hd (ha2 s hs)).1
  have bah : Bd 2594073385365405696 ahi := by obtain ⟨s, hs, e⟩ := hah; rw [e]; exact (al_bd hd (ha2 s hs)).1
  clear ga h5 hi
  refine ⟨b1, p1, (b.length : Int), x3, by rw [cell_of_heap g1]; rfl, ?_⟩
  have nn := List.getElem?_eq_getElem c0
  have q2 := hb2 _ (List.getElem_mem c0)
  have q1 : b[0] ∈ b := List.getElem_mem c0
  generalize b[0] = s0 at nn q2 q1
  refine ⟨nc0, by omega, _, (bc 0 s0 nn).1, _, (bc 0 s0 nn).2, al d s0, fun β w' hw hm => palong hm.1.2 hm.2.1.2 hd q2, nc0, by omega, _, (bc 0 s0 nn).1, _, (bc 0 s0 nn).2, al d s0, fun β w' hw hm => palong hm.1.2 hm.2.1.2 hd q2, by omega, nc, ?_⟩
  refine ⟨fun y => ∃ (lo hi : Int) (i : Nat), i ≤ b.length ∧ (∃ s ∈ b, lo = al d s) ∧ (∃ s ∈ b, hi = al d s) ∧ (∀ j p, j < i → b[j]? = some p → lo ≤ al d p ∧ al d p ≤ hi) ∧ y = [.i lo, .i hi, .i (i : Int)], upK 2 (b.length : Int), ⟨_, _, 0, by omega, ⟨s0, q1, rfl⟩, ⟨s0, q1, rfl⟩, fun j p hj => by omega, rfl⟩, ?_⟩
  clear nn q2 q1
  rintro blo bhi x12 ⟨lo1, hi1, i, hi, hbl, hbh, gb, hy⟩
  simp only [List.cons.injEq, Vc.Vl.i.injEq, and_true] at hy
  obtain ⟨rfl, rfl, rfl⟩ := hy
  refine iteI (fun h5 => ?_) (fun h5 => ?_)
  · have hlt : i < b.length := by omega
    have hp := List.getElem?_eq_getElem hlt
    have hs := hb2 _ (List.getElem_mem hlt)
    have hm' : b[i] ∈ b := List.getElem_mem hlt
    generalize b[i] = s at hp hs hm'
    refine ⟨nc0, by omega, by omega, _, (bc i s hp).1, _, (bc i s hp).2, al d s, fun β w' hw hm => palong hm.1.2 hm.2.1.2 hd hs, ?_⟩
    rintro _ rfl
    refine ⟨al d s, fun β w' hw hm => palong hm.1.2 hm.2.1.2 hd hs, ?_⟩
    rintro _ rfl _ rfl
    rw [wrap_up i (by omega)]
    refine ⟨⟨_, _, i + 1, by omega, ?_, ?_, fun j p hj hpj => ?_, rfl⟩, by simp only [upK, List.getElem?_cons_zero, List.getElem?_cons_succ]; omega⟩
    · split
      · exact ⟨s, hm', rfl⟩
      · exact hbl
    · split
      · exact ⟨s, hm', rfl⟩
      · exact hbh
    · by_cases hji : j = i
      · subst hji
        rw [hp] at hpj
        cases hpj
        constructor <;> split <;> omega
      · have := gb j p (by omega) hpj
        constructor <;> split <;> omega
  have hgb : (∀ s ∈ b, blo ≤ al d s) ∧ ∀ s ∈ b, al d s ≤ bhi := by
    constructor <;> intro s hs <;> (obtain ⟨j, hj⟩ := List.getElem?_of_mem hs; have := gb j s (by have := (List.getElem?_eq_some_iff.1 hj).1; omega) hj; omega)
  have bbl : Bd 2594073385365405696 blo := by obtain ⟨s, hs, e⟩ := hbl; rw [e]; exact (al_bd hd (hb2 s hs)).1
  have bbh : Bd 2594073385365405696 bhi := by obtain ⟨s, hs, e⟩ := hbh; rw [e]; exact (al_bd hd (hb2 s hs)).1
  clear gb h5 hi
  have s1 := sep_iff (r := r) hgb.1 hbl hga.2 hah
  have s2 := sep_neg (r := r) hga.1 hal hgb.2 hbh
  obtain ⟨n1, n2⟩ := need_bd hd hr
  unfold Bd at bal bah bbl bbh
  refine ⟨r, by rw [cell_of_heap g2]; rfl, ?_⟩
  (repeat apply Exists.intro); refine And.intro (fun _ _ => psize d.1 _ hd.1) ?_
  (repeat apply Exists.intro); refine And.intro (fun _ _ => psize d.2 _ hd.2) ?_
  rintro _ rfl _ rfl _ rfl
  rw [n1, Vc.i64_id (x := blo - ahi) (by omega)]
  refine iteI (fun h => ?_) (fun h => ?_)
  · rw [decide_eq_true (.inl (s1.2 h))]
  · rintro _ rfl
    rw [Vc.i64_id (x := alo - bhi) (by omega)]
    congr 1
    rw [Bool.eq_iff_iff, decide_eq_true_eq, decide_eq_true_eq, s1, s2]
    constructor
    · exact fun h' => .inr h'
    · exact fun h' => h'.resolve_left h
theorem papart {w : World} {va vb : Value} {a b : List Sp} {r : Int} (ha : Sps w va a) (hb : Sps w vb b) (h2 : Two a b r) : Calls Try.prog 32 #[va, vb, .int .i64 r] w (Vc.Ret (.bool (apB a b r)) w) := by
  have ha0 := ha
  have hb0 := hb
  have h20 := h2
  obtain ⟨b0, p0, x1, rfl, ab, ac⟩ := sps_form ha
  obtain ⟨b1, p1, x3, rfl, bb, bc⟩ := sps_form hb
  obtain ⟨a0, a1, c0, c1, ha2, hb2, hr⟩ := h2
  have na := sps_nb ab
  have nc := sps_nb bb
  have na0 := sps_nb0 ab a0
  have nc0 := sps_nb0 bb c0
  refine vc_safety_apart p0 p1 (a.length : Int) x1 (b.length : Int) x3 r b0 b1 w _ ?_
  have yes : ∀ {d : Sp}, (d ∈ dirs a b ∧ neg2 d ∈ dirs a b) → decide (Sep d a b r ∨ Sep (neg2 d) a b r) = true → (Value.bool true : Value) = .bool (apB a b r) := fun hd h => by
    rw [show apB a b r = true from decide_eq_true (by
      rcases of_decide_eq_true h with h | h
      · exact ⟨_, hd.1, h⟩
      · exact ⟨_, hd.2, h⟩)]
  have ax : ∀ d ∈ axes, d ∈ dirs a b := fun d h => by unfold dirs; exact List.mem_append.2 (.inr h)
  have ex : ((1, 0) : Sp) ∈ dirs a b ∧ neg2 (1, 0) ∈ dirs a b := ⟨ax _ (by decide), ax _ (by decide)⟩
  have ey : ((0, 1) : Sp) ∈ dirs a b ∧ neg2 (0, 1) ∈ dirs a b := ⟨ax _ (by decide), ax _ (by decide)⟩
  refine ⟨_, fun β w' hw hm => psep (d := (1, 0)) (sps_below hw ha0) (sps_below hw hb0) h20 (axes_bd (by decide)) hm.1.2 hm.2.1.2 hm.2.2.1.2, ?_⟩
  refine iteI (fun h => yes ex h) (fun h1 => ?_)
  refine ⟨_, fun β w' hw hm => psep (d := (0, 1)) (sps_below hw ha0) (sps_below hw hb0) h20 (axes_bd (by decide)) hm.1.2 hm.2.1.2 hm.2.2.1.2, ?_⟩
  refine iteI (fun h => yes ey h) (fun h2 => ?_)
  refine ⟨by omega, na, ?_⟩
  refine ⟨fun y => ∃ (i : Nat), i ≤ a.length ∧ (∀ j, j < i → ¬ (Sep (perp (sp a j) (sp a (j + 1))) a b r ∨ Sep (neg2 (perp (sp a j) (sp a (j + 1)))) a b r)) ∧ y = [.i (i : Int)], upK 0 (a.length : Int), ⟨0, by omega, fun j hj => by omega, rfl⟩, ?_⟩
  rintro x5 ⟨i, hi, hga, hy⟩
  simp only [List.cons.injEq, Vc.Vl.i.injEq, and_true] at hy
  obtain rfl := hy
  refine iteI (fun h5 => ?_) (fun h5 => ?_)
  · have hlt : i < a.length := by omega
    have hp := sp_at (i := i) a0
    rw [Nat.mod_eq_of_lt hlt] at hp
    obtain ⟨d0, d1⟩ := ac _ _ hp
    obtain ⟨f0, f1⟩ := ac _ _ (sp_at (i := i + 1) a0)
    have hmod := Nat.mod_lt (i + 1) a0
    have k0 := ha2 _ (sp_mem (i := i) a0)
    have k1 := ha2 _ (sp_mem (i := i + 1) a0)
    have hd := perp_bd k0 k1
    refine ⟨na0, by omega, by omega, _, d0, _, d1, ?_⟩
    rintro _ rfl
    refine ⟨by omega, na, by omega, ?_⟩
    rintro _ rfl
    rw [nxt i _ (by omega)]
    refine ⟨na0, by omega, by omega, _, f0, _, f1, ?_⟩
    unfold SpB Bd at k0 k1
    rintro _ rfl _ rfl
    rw [Vc.i64_id (x := (sp a i).2 - (sp a (i + 1)).2) (by omega), Vc.i64_id (x := (sp a (i + 1)).1 - (sp a i).1) (by omega)]
    refine ⟨_, fun β w' hw hm => psep (d := perp (sp a i) (sp a (i + 1))) (sps_below hw ha0) (sps_below hw hb0) h20 hd hm.1.2 hm.2.1.2 hm.2.2.1.2, ?_⟩
    refine iteI (fun h => yes ?_ h) (fun h => ?_)
    · unfold dirs
      exact ⟨List.mem_append.2 (.inl (List.mem_append.2 (.inl (dirsTo_mem.2 ⟨i, hlt, .inl rfl⟩)))), List.mem_append.2 (.inl (List.mem_append.2 (.inl (dirsTo_mem.2 ⟨i, hlt, .inr rfl⟩))))⟩
    · rintro _ rfl
      rw [wrap_up i (by omega)]
      refine ⟨⟨i + 1, by omega, fun j hj => ?_, rfl⟩, by simp only [upK, List.getElem?_cons_zero, List.getElem?_cons_succ]; omega⟩
      by_cases hji : j = i
      · subst hji; exact fun h' => h (decide_eq_true h')
      · exact hga j (by omega)
  · have hga : ∀ j, j < a.length → ¬ (Sep (perp (sp a j) (sp a (j + 1))) a b r ∨ Sep (neg2 (perp (sp a j) (sp a (j + 1)))) a b r) := fun j hj => hga j (by omega)
    clear h5 hi
    refine ⟨by omega, nc, ?_⟩
    refine ⟨fun y => ∃ (i : Nat), i ≤ b.length ∧ (∀ j, j < i → ¬ (Sep (perp (sp b j) (sp b (j + 1))) a b r ∨ Sep (neg2 (perp (sp b j) (sp b (j + 1)))) a b r)) ∧ y = [.i (i : Int)], upK 0 (b.length : Int), ⟨0, by omega, fun j hj => by omega, rfl⟩, ?_⟩
    rintro x5 ⟨i, hi, hgb, hy⟩
    simp only [List.cons.injEq, Vc.Vl.i.injEq, and_true] at hy
    obtain rfl := hy
    refine iteI (fun h5 => ?_) (fun h5 => ?_)
    · have hlt : i < b.length := by omega
      have hp := sp_at (i := i) c0
      rw [Nat.mod_eq_of_lt hlt] at hp
      obtain ⟨d0, d1⟩ := bc _ _ hp
      obtain ⟨f0, f1⟩ := bc _ _ (sp_at (i := i + 1) c0)
      have hmod := Nat.mod_lt (i + 1) c0
      have k0 := hb2 _ (sp_mem (i := i) c0)
      have k1 := hb2 _ (sp_mem (i := i + 1) c0)
      have hd := perp_bd k0 k1
      refine ⟨nc0, by omega, by omega, _, d0, _, d1, ?_⟩
      rintro _ rfl
      refine ⟨by omega, nc, by omega, ?_⟩
      rintro _ rfl
      rw [nxt i _ (by omega)]
      refine ⟨nc0, by omega, by omega, _, f0, _, f1, ?_⟩
      unfold SpB Bd at k0 k1
      rintro _ rfl _ rfl
      rw [Vc.i64_id (x := (sp b i).2 - (sp b (i + 1)).2) (by omega), Vc.i64_id (x := (sp b (i + 1)).1 - (sp b i).1) (by omega)]
      refine ⟨_, fun β w' hw hm => psep (d := perp (sp b i) (sp b (i + 1))) (sps_below hw ha0) (sps_below hw hb0) h20 hd hm.1.2 hm.2.1.2 hm.2.2.1.2, ?_⟩
      refine iteI (fun h => yes ?_ h) (fun h => ?_)
      · unfold dirs
        exact ⟨List.mem_append.2 (.inl (List.mem_append.2 (.inr (dirsTo_mem.2 ⟨i, hlt, .inl rfl⟩)))), List.mem_append.2 (.inl (List.mem_append.2 (.inr (dirsTo_mem.2 ⟨i, hlt, .inr rfl⟩))))⟩
      · rintro _ rfl
        rw [wrap_up i (by omega)]
        refine ⟨⟨i + 1, by omega, fun j hj => ?_, rfl⟩, by simp only [upK, List.getElem?_cons_zero, List.getElem?_cons_succ]; omega⟩
        by_cases hji : j = i
        · subst hji; exact fun h' => h (decide_eq_true h')
        · exact hgb j (by omega)
    · rw [show apB a b r = false from decide_eq_false fun ⟨d, hd, hs⟩ => by
        simp only [dirs, List.mem_append] at hd
        rcases hd with (hd | hd) | hd
        · obtain ⟨j, hj, e⟩ := dirsTo_mem.1 hd
          rcases e with rfl | rfl
          · exact hga j hj (.inl hs)
          · exact hga j hj (.inr hs)
        · obtain ⟨j, hj, e⟩ := dirsTo_mem.1 hd
          rcases e with rfl | rfl
          · exact hgb j (by omega) (.inl hs)
          · exact hgb j (by omega) (.inr hs)
        · simp only [axes, List.mem_cons, List.not_mem_nil, or_false] at hd
          rcases hd with rfl | rfl | rfl | rfl
          · exact h1 (decide_eq_true (.inl hs))
          · exact h1 (decide_eq_true (.inr hs))
          · exact h2 (decide_eq_true (.inl hs))
          · exact h2 (decide_eq_true (.inr hs))]
end Go.Proofs.Ytbpcdmjjdnjmbaa
set_option linter.unusedVariables false
set_option maxRecDepth 4000
namespace Go.Proofs.Ytbpcdmjjdnjmbaa
open Go Go.RowKit Ul Vc
attribute [local irreducible] Go.Calls
theorem sps_heap {w : World} {k t n : Nat} {l : List Sp} {xs : Array Value} (h : w.heap[k]? = some (.cells xs t)) (hx : xs.toList = l.flatMap spc) (hn : l.length = n) : Sps w (.slice (some ⟨k, 0, none⟩) n n) l := by
  subst hn
  refine .inr (.inr ⟨k, 0, _, _, rfl, flat_len spc_len l, fun j u hj => ?_⟩)
  rw [Nat.zero_add, cell_of_heap h, ← Array.getElem?_toList, hx]
  exact hj
def crn (r : Rc) : List Sp := [r.1, (r.2.1, r.1.2), r.2, (r.1.1, r.2.2)]
def RcB (r : Rc) : Prop := SpB 805306368 r.1 ∧ SpB 805306368 r.2
theorem crn_bd {r : Rc} (h : RcB r) : ∀ s ∈ crn r, SpB 805306368 s := by
  intro s hs
  simp only [crn, List.mem_cons, List.not_mem_nil, or_false] at hs
  rcases hs with rfl | rfl | rfl | rfl
  · exact h.1
  · exact ⟨h.2.1, h.1.2⟩
  · exact h.2
  · exact ⟨h.1.1, h.2.2⟩
theorem rectB_bd {r : Rc} (h : rectB r = true) : RcB r := by
  have := rectB_iff.1 h
  unfold RcB SpB Bd; omega
/-- The side of a rect to a valid zone. -/
def sideI (l : List Sp) (r : Rc) : Int :=
  if insB l r.1 = true ∧ insB l (r.2.1, r.1.2) = true ∧ insB l r.2 = true ∧ insB l (r.1.1, r.2.2) = true then 1 else if apB l (crn r) 0 = true then -1 else 0
theorem zone_two {k : Nat} {l m : List Sp} {r : Int} (h : ZoneP k l) (hm : 0 < m.length ∧ m.length ≤ 1000) (hb : ∀ s ∈ m, SpB 805306368 s) (hr : 0 ≤ r ∧ r < 1073741824) : Two l m r :=
  ⟨by have := h.2.1; omega, by have := h.2.1; omega, hm.1, hm.2, fun s hs => by have := h.2.2.1 s hs; unfold nearP at this; unfold SpB Bd; omega, hb, hr⟩
theorem pside {w : World} {nm : List UInt8} {v : Value} {l : List Sp} {k : Nat} (r : Rc) (h : Sps w v l) (hz : ZoneP k l) (hr : RcB r) : Calls Try.prog 43 #[ZV nm v, RCV r] w (Vc.Ret (.int .i64 (sideI l r)) w) := by
  have h0 := h
  obtain ⟨b0, p0, x1, rfl, hb, hc⟩ := sps_form h
  have two : Two l (crn r) 0 := zone_two hz (by simp [crn]) (crn_bd hr) (by omega)
  have hl : l.length ≤ 1000 := two.a1
  have sn : ¬ (insB l r.1 = true ∧ insB l (r.2.1, r.1.2) = true ∧ insB l r.2 = true ∧ insB l (r.1.1, r.2.2) = true) → sideI l r = if apB l (crn r) 0 = true then -1 else 0 := fun hn => if_neg hn
  have ap : ¬ (insB l r.1 = true ∧ insB l (r.2.1, r.1.2) = true ∧ insB l r.2 = true ∧ insB l (r.1.1, r.2.2) = true) → ((apB l (crn r) 0 = true → (Value.int .i64 (-1) : Value) = .int .i64 (sideI l r)) ∧ (¬ apB l (crn r) 0 = true → (Value.int .i64 0 : Value) = .int .i64 (sideI l r))) := fun hno =>
    ⟨fun h => by rw [sn hno, if_pos h], fun h => by rw [sn hno, if_neg h]⟩
  have pap := fun (t : TypeId) (k : Nat) (w' : World) (hw : Below w.heap.size w w') (hm : w'.heap[k]? = some (.cells #[.int .i64 r.1.1, .int .i64 r.1.2, .int .i64 r.2.1, .int .i64 r.1.2, .int .i64 r.2.1, .int .i64 r.2.2, .int .i64 r.1.1, .int .i64 r.2.2] t)) =>
    papart (sps_below hw h0) (sps_heap (l := crn r) (n := 4) hm rfl rfl) two
  refine vc_safety_side p0 (l.length : Int) x1 r.1.1 r.1.2 r.2.1 r.2.2 b0 nm w _ ?_
  refine ⟨_, fun w' hw => pcont r.1 (sps_below hw h0) hl, ?_⟩
  refine iteI (fun h1 => ?_) (fun h1 => ?_)
  rotate_left
  · exact ⟨_, fun β w' hw hm => pap _ _ w' hw hm.1.2, ap fun h => h1 h.1⟩
  refine ⟨_, fun w' hw => pcont (r.2.1, r.1.2) (sps_below hw h0) hl, ?_⟩
  refine iteI (fun h2 => ?_) (fun h2 => ?_)
  rotate_left
  · exact ⟨_, fun β w' hw hm => pap _ _ w' hw hm.1.2, ap fun h => h2 h.2.1⟩
  refine ⟨_, fun w' hw => pcont r.2 (sps_below hw h0) hl, ?_⟩
  refine iteI (fun h3 => ?_) (fun h3 => ?_)
  rotate_left
  · exact ⟨_, fun β w' hw hm => pap _ _ w' hw hm.1.2, ap fun h => h3 h.2.2.1⟩
  refine ⟨_, fun w' hw => pcont (r.1.1, r.2.2) (sps_below hw h0) hl, ?_⟩
  refine iteI (fun h4 => ?_) (fun h4 => ?_)
  · rw [show sideI l r = 1 from if_pos ⟨h1, h2, h3, h4⟩]
  · exact ⟨_, fun β w' hw hm => pap _ _ w' hw hm.1.2, ap fun h => h4 h.2.2.2⟩
abbrev PV2 (r : Int × Int) : Value := .tuple #[.int .i64 r.1, .int .i64 r.2]
def sideV (k : Nat) (l : List Sp) (r : Rc) : Int × Int := if zoneB k l = true ∧ rectB r = true then (sideI l r, 0) else (0, 2)
theorem pSide {w : World} {nm : List UInt8} {v : Value} {l : List Sp} (r : Rc) (h : Sps w v l) : Calls Try.prog 20 #[ZV nm v, RCV r] w (Vc.Ret (PV2 (sideV nm.length l r)) w) := by
  have h0 := h
  obtain ⟨b0, p0, x1, rfl, hb, hc⟩ := sps_form h
  refine vc_safety_Side p0 (l.length : Int) x1 r.1.1 r.1.2 r.2.1 r.2.2 b0 nm w _ ?_
  refine ⟨_, fun w' hw => pzone (sps_below hw h0), ?_⟩
  refine iteI (fun h1 => ?_) (fun h1 => ?_)
  rotate_left
  · rw [show sideV nm.length l r = (0, 2) from if_neg fun h => h1 h.1]
  refine ⟨_, fun w' hw => prect r _, ?_⟩
  refine iteI (fun h2 => ?_) (fun h2 => ?_)
  rotate_left
  · rw [show sideV nm.length l r = (0, 2) from if_neg fun h => h2 h.2]
  refine ⟨_, fun w' hw => pside r (sps_below hw h0) (of_decide_eq_true h1) (rectB_bd h2), ?_⟩
  rw [show sideV nm.length l r = (sideI l r, 0) from if_pos ⟨h1, h2⟩]
def apV (k : Nat) (a : List Sp) (m : Nat) (b : List Sp) (r : Int) : Bool × Int :=
  if zoneB k a = true ∧ zoneB m b = true then if inR r 0 1099511627776 = true then (decide (r < 536870912) && apB a b r, 0) else (false, 4) else (false, 2)
abbrev BV (r : Bool × Int) : Value := .tuple #[.bool r.1, .int .i64 r.2]
theorem bv {a : Bool} {e : Int} {r : Bool × Int} (h : (a, e) = r) : (.tuple #[.bool a, .int .i64 e] : Value) = BV r := by rw [← h]
theorem near_bd {k : Nat} {l : List Sp} (h : ZoneP k l) : ∀ s ∈ l, SpB 805306368 s := fun s hs => by have := h.2.2.1 s hs; unfold nearP at this; unfold SpB Bd; omega
theorem pApart {w : World} {na nb : List UInt8} {va vb : Value} {a b : List Sp} (r : Int) (ha : Sps w va a) (hb : Sps w vb b) : Calls Try.prog 12 #[ZV na va, ZV nb vb, .int .i64 r] w (Vc.Ret (BV (apV na.length a nb.length b r)) w) := by
  have ha0 := ha
  have hb0 := hb
  obtain ⟨b0, p0, x1, rfl, _, _⟩ := sps_form ha
  obtain ⟨b1, p1, x3, rfl, _, _⟩ := sps_form hb
  refine vc_safety_Apart p0 p1 (a.length : Int) x1 (b.length : Int) x3 r b0 b1 na nb w _ ?_
  refine ⟨_, fun w' hw => pzone (sps_below hw ha0), ?_⟩
  refine iteI (fun h1 => ?_) (fun h1 => ?_)
  rotate_left
  · exact bv (if_neg fun h => h1 h.1).symm
  refine ⟨_, fun w' hw => pzone (sps_below hw hb0), ?_⟩
  refine iteI (fun h2 => ?_) (fun h2 => ?_)
  rotate_left
  · exact bv (if_neg fun h => h2 h.2).symm
  refine ⟨_, fun w' hw => pin_any _ _ _ _, ?_⟩
  refine iteI (fun h3 => ?_) (fun h3 => ?_)
  rotate_left
  · refine bv ?_
    unfold apV
    rw [if_pos ⟨h1, h2⟩, if_neg h3]
  have h4 := inR_iff.1 h3
  refine iteI (fun h5 => ?_) (fun h5 => ?_)
  · refine bv ?_
    unfold apV
    rw [if_pos ⟨h1, h2⟩, if_pos h3, decide_eq_false (by omega)]
    rfl
  · refine ⟨_, fun w' hw => papart (sps_below hw ha0) (sps_below hw hb0) (zone_two (of_decide_eq_true h1) (by have := (of_decide_eq_true h2).2.1; omega) (near_bd (of_decide_eq_true h2)) (by omega)), ?_⟩
    refine bv ?_
    unfold apV
    rw [if_pos ⟨h1, h2⟩, if_pos h3, decide_eq_true (by omega)]
    rfl
end Go.Proofs.Ytbpcdmjjdnjmbaa
set_option linter.unusedVariables false
set_option maxRecDepth 4000
namespace Go.Proofs.Ytbpcdmjjdnjmbaa
open Go Go.RowKit Ul Vc
attribute [local irreducible] Go.Calls
structure Zn where
  nm : List UInt8
  v : Value
  cs : List Sp
structure Tn where
  z : Zn
  people : Int
  area : Int
def znc (z : Zn) : List Value := [.string ⟨z.nm.toArray⟩, z.v]
def tnc (t : Tn) : List Value := [.string ⟨t.z.nm.toArray⟩, t.z.v, .int .i64 t.people, .int .i64 t.area]
theorem znc_len (z : Zn) : (znc z).length = 2 := rfl
theorem tnc_len (t : Tn) : (tnc t).length = 4 := rfl
structure Pl where
  al : Zn
  pv : Value
  prot : List Zn
  tv : Value
  towns : List Tn
  rate : Int
  pat : Int
  scat : Int
  hits : Int
def PLV (p : Pl) : Value := .agg #[.string ⟨p.al.nm.toArray⟩, p.al.v, p.pv, p.tv, .int .i64 p.rate, .int .i64 p.pat, .int .i64 p.scat, .int .i64 p.hits]
/-- A plan, as it lies in memory. -/
structure PlAt (w : World) (p : Pl) : Prop where
  al : Sps w p.al.v p.al.cs
  pr : SlAt w p.pv 2 (p.prot.flatMap znc)
  prs : ∀ z ∈ p.prot, Sps w z.v z.cs
  tn : SlAt w p.tv 4 (p.towns.flatMap tnc)
  tns : ∀ t ∈ p.towns, Sps w t.z.v t.z.cs
theorem plAt_below {w w' : World} {p : Pl} (hb : Below w.heap.size w w') (h : PlAt w p) : PlAt w' p :=
  ⟨sps_below hb h.al, sl_below hb h.pr, fun z hz => sps_below hb (h.prs z hz), sl_below hb h.tn, fun t ht => sps_below hb (h.tns t ht)⟩
def zB (z : Zn) : Bool := zoneB z.nm.length z.cs
def tB (t : Tn) : Bool := zB t.z && inR t.people 0 1073741824 && inR t.area 1 1073741824
def PlanP (p : Pl) : Prop := zB p.al = true ∧ (p.prot.length ≤ 16 ∧ p.towns.length ≤ 16) ∧ (∀ z ∈ p.prot, zB z = true) ∧ (∀ t ∈ p.towns, tB t = true) ∧
  (inR p.rate 0 268435456 = true ∧ inR p.scat 0 268435456 = true ∧ inR p.hits 0 268435456 = true ∧ inR p.pat 0 1000 = true)
instance (p : Pl) : Decidable (PlanP p) := inferInstanceAs (Decidable (_ ∧ _ ∧ _ ∧ _ ∧ _))
def planB (p : Pl) : Bool := decide (PlanP p)
theorem zns_form {w : World} {v : Value} {l : List Zn} (h : SlAt w v 2 (l.flatMap znc)) : ∃ (b0 : Bool) (p0 : Nat × Nat) (x1 : Int), v = (if b0 = true then .slice none 0 0 else .slice (some (Vc.qad p0 (Int.toNat (l.length : Int)) (Int.toNat x1))) (Int.toNat (l.length : Int)) (Int.toNat x1)) ∧ (b0 = true → l.length = 0) ∧
    (∀ (i : Nat) (z : Zn), l[i]? = some z → w.cell? ⟨p0.1, p0.2 + i * 2 + 0, none⟩ = some (.string ⟨z.nm.toArray⟩) ∧ w.cell? ⟨p0.1, p0.2 + i * 2 + 1, none⟩ = some z.v) := by
  obtain ⟨b0, p0, x1, h1, h2, h3⟩ := sl_form h (by decide) (flat_len znc_len l)
  refine ⟨b0, p0, x1, h1, h2, fun i p hp => ?_⟩
  simp only [Nat.add_assoc]
  exact ⟨h3 (i * 2 + 0) _ (flat_at znc_len hp (by decide)), h3 (i * 2 + 1) _ (flat_at znc_len hp (by decide))⟩
theorem tns_form {w : World} {v : Value} {l : List Tn} (h : SlAt w v 4 (l.flatMap tnc)) : ∃ (b0 : Bool) (p0 : Nat × Nat) (x1 : Int), v = (if b0 = true then .slice none 0 0 else .slice (some (Vc.qad p0 (Int.toNat (l.length : Int)) (Int.toNat x1))) (Int.toNat (l.length : Int)) (Int.toNat x1)) ∧ (b0 = true → l.length = 0) ∧
    (∀ (i : Nat) (t : Tn), l[i]? = some t → w.cell? ⟨p0.1, p0.2 + i * 4 + 0, none⟩ = some (.string ⟨t.z.nm.toArray⟩) ∧ w.cell? ⟨p0.1, p0.2 + i * 4 + 1, none⟩ = some t.z.v ∧
      w.cell? ⟨p0.1, p0.2 + i * 4 + 2, none⟩ = some (.int .i64 t.people) ∧ w.cell? ⟨p0.1, p0.2 + i * 4 + 3, none⟩ = some (.int .i64 t.area)) := by
  obtain ⟨b0, p0, x1, h1, h2, h3⟩ := sl_form h (by decide) (flat_len tnc_len l)
  refine ⟨b0, p0, x1, h1, h2, fun i p hp => ?_⟩
  simp only [Nat.add_assoc]
  exact ⟨h3 (i * 4 + 0) _ (flat_at tnc_len hp (by decide)), h3 (i * 4 + 1) _ (flat_at tnc_len hp (by decide)), h3 (i * 4 + 2) _ (flat_at tnc_len hp (by decide)), h3 (i * 4 + 3) _ (flat_at tnc_len hp (by decide))⟩
theorem zform {w : World} {z : Zn} (h : Sps w z.v z.cs) : ∃ (b0 : Bool) (p0 : Nat × Nat) (x0 x1 : Int), z.v = (if b0 = true then .slice none 0 0 else .slice (some (Vc.qad p0 (Int.toNat x0) (Int.toNat x1))) (Int.toNat x0) (Int.toNat x1)) := by
  obtain ⟨b0, p0, x1, h1, _⟩ := sps_form h
  exact ⟨b0, p0, _, x1, h1⟩
theorem planB_no {p : Pl} (h : ¬ PlanP p) : (Value.bool false : Value) = .bool (planB p) := by rw [show planB p = false from decide_eq_false h]
theorem pplan {w : World} {p : Pl} (h : PlAt w p) : Calls Try.prog 38 #[PLV p] w (Vc.Ret (.bool (planB p)) w) := by
  have h0 := h
  obtain ⟨⟨anm, av, acs⟩, pv, prot, tv, towns, rate, pat, scat, hits⟩ := p
  obtain ⟨ha, hp, hps, ht, hts⟩ := h
  simp only at ha hp hps ht hts
  obtain ⟨b0, p0, x1, rfl, _, _⟩ := sps_form ha
  obtain ⟨b1, p1, x3, rfl, pb, pc⟩ := zns_form hp
  obtain ⟨b2, p2, x5, rfl, tb, tc⟩ := tns_form ht
  have pn : (¬ (b1 = true)) ∨ ((prot.length : Int) = 0) := sps_nb pb
  have tn : (¬ (b2 = true)) ∨ ((towns.length : Int) = 0) := sps_nb tb
  refine vc_safety_CheckPlan p0 p1 p2 (acs.length : Int) x1 (prot.length : Int) x3 (towns.length : Int) x5 rate pat scat hits b0 b1 b2 anm w _ ?_
  refine ⟨_, fun w' hw => pzone (sps_below hw ha), ?_⟩
  refine iteI (fun h1 => ?_) (fun h1 => planB_no fun hz => h1 hz.1)
  refine ⟨by omega, pn, ?_⟩
  refine iteI (fun h2 => planB_no fun hz => by have := hz.2.1.1; simp only at this; omega) (fun h2 => ?_)
  refine ⟨by omega, tn, ?_⟩
  refine iteI (fun h3 => planB_no fun hz => by have := hz.2.1.2; simp only at this; omega) (fun h3 => ?_)
  refine ⟨by omega, pn, ?_⟩
  refine ⟨fun y => ∃ (x : Int) (i : Nat), i ≤ prot.length ∧ (∀ j z, j < i → prot[j]? = some z → zB z = true) ∧ y = [.i x, .i (i : Int)], upK 1 (prot.length : Int), ⟨0, 0, by omega, fun j z hj => by omega, rfl⟩, ?_⟩
  rintro x10 x11 ⟨x, i, hi, hg, hy⟩
  simp only [List.cons.injEq, Vc.Vl.i.injEq, and_true] at hy
  obtain ⟨rfl, rfl⟩ := hy
  have hi0 : (0 : Int) ≤ (i : Int) := Int.natCast_nonneg _
  refine iteI (fun h4 => ?_) (fun h4 => ?_)
  · have hlt : i < prot.length := by omega
    have hq := List.getElem?_eq_getElem hlt
    have hm : prot[i] ∈ prot := List.getElem_mem hlt
    generalize prot[i] = z at hq hm
    have hz := hps z hm
    obtain ⟨c0, c1⟩ := pc i z hq
    obtain ⟨zb, zp, zx, zy, hv⟩ := zform hz
    rw [hv] at c1
    have pb0 : ¬ (b1 = true) := sps_nb0 pb (by omega)
    refine ⟨pb0, by omega, by omega, _, c0, _, _, _, _, c1, _, fun w' hw => by rw [← hv]; exact pzone (sps_below hw hz), ?_⟩
    refine iteI (fun h5 => ?_) (fun h5 => ?_)
    · rintro _ rfl
      rw [wrap_up i (by omega)]
      refine ⟨⟨_, i + 1, by omega, fun j y hj hyj => ?_, rfl⟩, by simp only [upK, List.getElem?_cons_zero, List.getElem?_cons_succ]; omega⟩
      by_cases hji : j = i
      · subst hji
        rw [hq] at hyj
        cases hyj
        exact h5
      · exact hg j y (by omega) hyj
    · exact iteI (fun _ => planB_no fun hz => h5 (hz.2.2.1 z hm)) (fun a => absurd hi0 a)
  · have hprot : ∀ z ∈ prot, zB z = true := fun z hz => by
      obtain ⟨j, hj⟩ := List.getElem?_of_mem hz
      exact hg j z (by have := (List.getElem?_eq_some_iff.1 hj).1; omega) hj
    clear h4 hg hi0 hi
    refine ⟨by omega, tn, ?_⟩
    refine ⟨fun y => ∃ (x : Int) (i : Nat), i ≤ towns.length ∧ (∀ j z, j < i → towns[j]? = some z → tB z = true) ∧ y = [.i x, .i (i : Int)], upK 1 (towns.length : Int), ⟨0, 0, by omega, fun j z hj => by omega, rfl⟩, ?_⟩
    rintro x12 x13 ⟨x, i, hi, hg, hy⟩
    simp only [List.cons.injEq, Vc.Vl.i.injEq, and_true] at hy
    obtain ⟨rfl, rfl⟩ := hy
    have hi0 : (0 : Int) ≤ (i : Int) := Int.natCast_nonneg _
    refine iteI (fun h4 => ?_) (fun h4 => ?_)
    · have hlt : i < towns.length := by omega
      have hq := List.getElem?_eq_getElem hlt
      have hm : towns[i] ∈ towns := List.getElem_mem hlt
      generalize towns[i] = z at hq hm
      have hz := hts z hm
      obtain ⟨c0, c1, c2, c3⟩ := tc i z hq
      obtain ⟨zb, zp, zx, zy, hv⟩ := zform hz
      rw [hv] at c1
      have tb0 : ¬ (b2 = true) := sps_nb0 tb (by omega)
      refine ⟨tb0, by omega, by omega, _, c0, _, _, _, _, c1, _, c2, _, c3, _, fun w' hw => by rw [← hv]; exact pzone (sps_below hw hz), ?_⟩
      have bad : ¬ tB z = true → (Value.bool false : Value) = .bool (planB ⟨⟨anm, .nilFunc, acs⟩, .nilFunc, prot, .nilFunc, towns, rate, pat, scat, hits⟩) := fun hn => planB_no fun hz => hn (hz.2.2.2.1 z hm)
      refine iteI (fun h5 => ?_) (fun h5 => ?_)
      rotate_left
      · exact iteI (fun _ => bad fun ht => h5 (by simp only [tB, Bool.and_eq_true] at ht; exact ht.1.1)) (fun a => absurd hi0 a)
      refine ⟨_, fun w' hw => pin_any _ _ _ _, ?_⟩
      refine iteI (fun h6 => ?_) (fun h6 => ?_)
      rotate_left
      · exact iteI (fun _ => bad fun ht => h6 (by simp only [tB, Bool.and_eq_true] at ht; exact ht.1.2)) (fun a => absurd hi0 a)
      refine ⟨_, fun w' hw => pin_any _ _ _ _, ?_⟩
      refine iteI (fun h7 => ?_) (fun h7 => ?_)
      rotate_left
      · exact iteI (fun _ => bad fun ht => h7 (by simp only [tB, Bool.and_eq_true] at ht; exact ht.2)) (fun a => absurd hi0 a)
      rintro _ rfl
      rw [wrap_up i (by omega)]
      refine ⟨⟨_, i + 1, by omega, fun j y hj hyj => ?_, rfl⟩, by simp only [upK, List.getElem?_cons_zero, List.getElem?_cons_succ]; omega⟩
      by_cases hji : j = i
      · subst hji
        rw [hq] at hyj
        cases hyj
        simp only [tB, Bool.and_eq_true]
        exact ⟨⟨h5, h6⟩, h7⟩
      · exact hg j y (by omega) hyj
    · have htowns : ∀ z ∈ towns, tB z = true := fun z hz => by
        obtain ⟨j, hj⟩ := List.getElem?_of_mem hz
        exact hg j z (by have := (List.getElem?_eq_some_iff.1 hj).1; omega) hj
      refine ⟨_, fun w' hw => pin_any _ _ _ _, ?_⟩
      refine iteI (fun g1 => ?_) (fun g1 => planB_no fun hz => g1 hz.2.2.2.2.1)
      refine ⟨_, fun w' hw => pin_any _ _ _ _, ?_⟩
      refine iteI (fun g2 => ?_) (fun g2 => planB_no fun hz => g2 hz.2.2.2.2.2.1)
      refine ⟨_, fun w' hw => pin_any _ _ _ _, ?_⟩
      refine iteI (fun g3 => ?_) (fun g3 => planB_no fun hz => g3 hz.2.2.2.2.2.2.1)
      refine ⟨_, fun w' hw => pin_any _ _ _ _, ?_⟩
      congr 1
      by_cases g4 : inR pat 0 1000 = true
      · rw [g4]
        exact (decide_eq_true (show PlanP ⟨⟨anm, .nilFunc, acs⟩, .nilFunc, prot, .nilFunc, towns, rate, pat, scat, hits⟩ from ⟨h1, ⟨show prot.length ≤ 16 by omega, show towns.length ≤ 16 by omega⟩, hprot, htowns, g1, g2, g3, g4⟩)).symm
      · rw [(Bool.not_eq_true _).mp g4]
        exact (decide_eq_false fun hz => g4 hz.2.2.2.2.2.2.2).symm
end Go.Proofs.Ytbpcdmjjdnjmbaa
set_option linter.unusedVariables false
set_option maxRecDepth 4000
namespace Go.Proofs.Ytbpcdmjjdnjmbaa
open Go Go.RowKit Ul Vc
attribute [local irreducible] Go.Calls
def grown (r : Rc) (b : Int) : Rc := ((r.1.1 - b, r.1.2 - b), (r.2.1 + b, r.2.2 + b))
def GrB (r : Rc) (b : Int) : Prop := (SpB 536870912 r.1 ∧ SpB 536870912 r.2) ∧ (0 ≤ b ∧ b ≤ 268435456)
theorem pgrown {r : Rc} {b : Int} (h : GrB r b) (w : World) : Calls Try.prog 41 #[RCV r, .int .i64 b] w (Vc.Ret (RCV (grown r b)) w) := by
  refine vc_safety_grown _ _ _ _ _ w _ ?_
  unfold GrB SpB Bd at h
  rintro _ rfl _ rfl _ rfl _ rfl
  rw [Vc.i64_id (by omega), Vc.i64_id (by omega), Vc.i64_id (by omega), Vc.i64_id (by omega)]
  rfl
theorem grown_bd {r : Rc} {b : Int} (h : GrB r b) : RcB (grown r b) := by
  unfold GrB SpB Bd at h
  unfold RcB SpB Bd grown; simp only; omega
theorem rectB_gr {r : Rc} {b : Int} (h : rectB r = true) (hb : 0 ≤ b ∧ b ≤ 268435456) : GrB r b := by
  have := rectB_iff.1 h
  unfold GrB SpB Bd; omega
def reach (p : Pl) : Int := IntKind.i64.wrap (IntKind.i64.wrap (p.rate * IntKind.i64.wrap (p.pat + 1)) + p.scat)
def clearV (p : Pl) : Bool × Int := if planB p = true then (decide (∀ z ∈ p.prot, (apV p.al.nm.length p.al.cs z.nm.length z.cs (reach p)).1 = true), 0) else (false, 2)
def riskT (t : Tn) (hits : Int) : Int :=
  if IntKind.i64.wrap (Int.tdiv (IntKind.i64.wrap (IntKind.i64.wrap (IntKind.i64.wrap (t.people * hits) + t.area) - 1)) t.area) < t.people then
    IntKind.i64.wrap (Int.tdiv (IntKind.i64.wrap (IntKind.i64.wrap (IntKind.i64.wrap (t.people * hits) + t.area) - 1)) t.area) else t.people
def riskF (r : Rc) (hits : Int) (l : List Tn) : Int := l.foldl (fun n t => if sideI t.z.cs r = -1 then n else IntKind.i64.wrap (n + riskT t hits)) 0
def riskV (p : Pl) (r : Rc) : Int × Int := if planB p = true ∧ rectB r = true then (riskF (grown r p.scat) p.hits p.towns, 0) else (0, 2)
theorem sideI_cases (l : List Sp) (r : Rc) : sideI l r = 1 ∨ sideI l r = -1 ∨ sideI l r = 0 := by
  unfold sideI; split
  · exact .inl rfl
  · split
    · exact .inr (.inl rfl)
    · exact .inr (.inr rfl)
abbrev plit (anm : List UInt8) (av : Value) (acs : List Sp) (pv : Value) (prot : List Zn) (tv : Value) (towns : List Tn) (rate pat scat hits : Int) : Pl := ⟨⟨anm, av, acs⟩, pv, prot, tv, towns, rate, pat, scat, hits⟩
theorem pclear {w : World} {p : Pl} (h : PlAt w p) : Calls Try.prog 25 #[PLV p] w (Vc.Ret (BV (clearV p)) w) := by
  have h0 := h
  obtain ⟨⟨anm, av, acs⟩, pv, prot, tv, towns, rate, pat, scat, hits⟩ := p
  obtain ⟨ha, hp, hps, ht, hts⟩ := h
  simp only at ha hp hps ht hts
  obtain ⟨b0, p0, x1, rfl, _, _⟩ := sps_form ha
  obtain ⟨b1, p1, x3, rfl, pb, pc⟩ := zns_form hp
  obtain ⟨b2, p2, x5, rfl, tb, tc⟩ := tns_form ht
  have pn : (¬ (b1 = true)) ∨ ((prot.length : Int) = 0) := sps_nb pb
  have tn : (¬ (b2 = true)) ∨ ((towns.length : Int) = 0) := sps_nb tb
  refine vc_safety_Clear p0 p1 p2 (acs.length : Int) x1 (prot.length : Int) x3 (towns.length : Int) x5 rate pat scat hits b0 b1 b2 anm w _ ?_
  refine ⟨_, fun w' hw => pplan (plAt_below hw h0), ?_⟩
  refine iteI (fun h1 => ?_) (fun h1 => bv (if_neg h1).symm)
  have hb : planB (plit anm .nilFunc acs .nilFunc prot .nilFunc towns rate pat scat hits) = true := h1
  have c0e : ∀ b, (decide (∀ z ∈ prot, (apV anm.length acs z.nm.length z.cs (reach (plit anm .nilFunc acs .nilFunc prot .nilFunc towns rate pat scat hits))).1 = true)) = b → (Value.tuple #[.bool b, .int .i64 0] : Value) = BV (clearV (plit anm .nilFunc acs .nilFunc prot .nilFunc towns rate pat scat hits)) := fun b hbb => by
    subst hbb
    exact bv (if_pos hb).symm
  have hlen : prot.length ≤ 16 := (of_decide_eq_true hb : PlanP _).2.1.1
  rintro _ rfl _ rfl _ rfl
  refine ⟨by omega, pn, ?_⟩
  refine ⟨fun y => ∃ (x : Int) (i : Nat), i ≤ prot.length ∧ (∀ j z, j < i → prot[j]? = some z → (apV anm.length acs z.nm.length z.cs (reach (plit anm .nilFunc acs .nilFunc prot .nilFunc towns rate pat scat hits))).1 = true) ∧ y = [.i x, .i (i : Int)], upK 1 (prot.length : Int), ⟨0, 0, by omega, fun j z hj => by omega, rfl⟩, ?_⟩
  rintro x10 x11 ⟨x, i, hi, hg, hy⟩
  simp only [List.cons.injEq, Vc.Vl.i.injEq, and_true] at hy
  obtain ⟨rfl, rfl⟩ := hy
  refine iteI (fun h4 => ?_) (fun h4 => ?_)
  · have hlt : i < prot.length := by omega
    have hq := List.getElem?_eq_getElem hlt
    have hm : prot[i] ∈ prot := List.getElem_mem hlt
    generalize prot[i] = z at hq hm
    have hz := hps z hm
    obtain ⟨c0, c1⟩ := pc i z hq
    obtain ⟨zb, zp, zx, zy, hv⟩ := zform hz
    rw [hv] at c1
    have pb0 : ¬ (b1 = true) := sps_nb0 pb (by omega)
    refine ⟨pb0, by omega, by omega, _, c0, _, _, _, _, c1, _, _, fun w' hw => by rw [← hv]; exact pApart _ (sps_below hw ha) (sps_below hw hz), ?_⟩
    refine iteI (fun h5 => ?_) (fun h5 => ?_)
    · rintro _ rfl
      rw [wrap_up i (by omega)]
      refine ⟨⟨_, i + 1, by omega, fun j y hj hyj => ?_, rfl⟩, by simp only [upK, List.getElem?_cons_zero, List.getElem?_cons_succ]; omega⟩
      by_cases hji : j = i
      · subst hji
        rw [hq] at hyj
        cases hyj
        exact h5
      · exact hg j y (by omega) hyj
    · rw [show (!(decide ((i : Int) ≥ 0))) = false by simp]
      exact c0e false (decide_eq_false fun hz => h5 (hz z hm))
  · exact c0e true (decide_eq_true fun z hz => by
      obtain ⟨j, hj⟩ := List.getElem?_of_mem hz
      exact hg j z (by have := (List.getElem?_eq_some_iff.1 hj).1; omega) hj)
theorem pv2 {a e : Int} {r : Int × Int} (h : (a, e) = r) : (.tuple #[.int .i64 a, .int .i64 e] : Value) = PV2 r := by rw [← h]
theorem prisk {w : World} {p : Pl} (r : Rc) (h : PlAt w p) : Calls Try.prog 30 #[PLV p, RCV r] w (Vc.Ret (PV2 (riskV p r)) w) := by
  have h0 := h
  obtain ⟨⟨anm, av, acs⟩, pv, prot, tv, towns, rate, pat, scat, hits⟩ := p
  obtain ⟨ha, hp, hps, ht, hts⟩ := h
  simp only at ha hp hps ht hts
  obtain ⟨b0, p0, x1, rfl, _, _⟩ := sps_form ha
  obtain ⟨b1, p1, x3, rfl, pb, pc⟩ := zns_form hp
  obtain ⟨b2, p2, x5, rfl, tb, tc⟩ := tns_form ht
  have pn : (¬ (b1 = true)) ∨ ((prot.length : Int) = 0) := sps_nb pb
  have tn : (¬ (b2 = true)) ∨ ((towns.length : Int) = 0) := sps_nb tb
  refine vc_safety_Risk p0 p1 p2 (acs.length : Int) x1 (prot.length : Int) x3 (towns.length : Int) x5 rate pat scat hits r.1.1 r.1.2 r.2.1 r.2.2 b0 b1 b2 anm w _ ?_
  refine ⟨_, fun w' hw => pplan (plAt_below hw h0), ?_⟩
  refine iteI (fun h1 => ?_) (fun h1 => pv2 (if_neg fun h => h1 h.1).symm)
  refine ⟨_, fun w' hw => prect r _, ?_⟩
  refine iteI (fun h2 => ?_) (fun h2 => pv2 (if_neg fun h => h2 h.2).symm)
  have hb : planB (plit anm .nilFunc acs .nilFunc prot .nilFunc towns rate pat scat hits) = true := h1
  have hP : PlanP (plit anm .nilFunc acs .nilFunc prot .nilFunc towns rate pat scat hits) := of_decide_eq_true hb
  have hlen : towns.length ≤ 16 := hP.2.1.2
  have hsc := inR_iff.1 hP.2.2.2.2.2.1
  have hgr : GrB r scat := rectB_gr h2 hsc
  refine ⟨by omega, tn, ?_⟩
  refine ⟨fun y => ∃ (i : Nat), i ≤ towns.length ∧ y = [.i (riskF (grown r scat) hits (towns.take i)), .i (i : Int)], upK 1 (towns.length : Int), ⟨0, by omega, rfl⟩, ?_⟩
  rintro x10 x11 ⟨i, hi, hy⟩
  simp only [List.cons.injEq, Vc.Vl.i.injEq, and_true] at hy
  obtain ⟨rfl, rfl⟩ := hy
  refine iteI (fun h4 => ?_) (fun h4 => ?_)
  · have hlt : i < towns.length := by omega
    have et : towns.take (i + 1) = towns.take i ++ [towns[i]] := by rw [List.take_add_one, List.getElem?_eq_getElem hlt]; rfl
    have hm0 : towns[i] ∈ towns := List.getElem_mem hlt
    have hq0 := List.getElem?_eq_getElem hlt
    generalize towns[i] = z at et hm0 hq0
    have hz := hts z hm0
    obtain ⟨c0, c1, c2, c3⟩ := tc i z hq0
    obtain ⟨zb, zp, zx, zy, hv⟩ := zform hz
    rw [hv] at c1
    have tb0 : ¬ (b2 = true) := sps_nb0 tb (by omega)
    have hzp := hP.2.2.2.1 z hm0
    simp only [tB, Bool.and_eq_true] at hzp
    have har := inR_iff.1 hzp.2
    refine ⟨tb0, by omega, by omega, _, c0, _, _, _, _, c1, _, c2, _, c3, _, _, _, _, fun w' hw => pgrown hgr _, ?_⟩
    refine ⟨_, fun w' hw => by rw [← hv]; exact pside _ (sps_below hw hz) (of_decide_eq_true hzp.1.1) (grown_bd hgr), ?_⟩
    refine iteI (fun h5 => ?_) (fun h5 => ?_)
    · rintro _ rfl _ rfl _ rfl
      refine ⟨by omega, ?_⟩
      rintro _ rfl _ rfl _ rfl _ rfl
      rw [wrap_up i (by omega)]
      refine ⟨⟨i + 1, by omega, ?_⟩, by simp only [upK, List.getElem?_cons_zero, List.getElem?_cons_succ]; omega⟩
      rw [et]
      simp only [riskF, List.foldl_append, List.foldl_cons, List.foldl_nil]
      rw [if_neg (show ¬ sideI z.z.cs (grown r scat) = -1 by omega)]
      rfl
    · rintro _ rfl
      rw [wrap_up i (by omega)]
      refine ⟨⟨i + 1, by omega, ?_⟩, by simp only [upK, List.getElem?_cons_zero, List.getElem?_cons_succ]; omega⟩
      rw [et]
      simp only [riskF, List.foldl_append, List.foldl_cons, List.foldl_nil]
      rw [if_pos (show sideI z.z.cs (grown r scat) = -1 by have := sideI_cases z.z.cs (grown r scat); omega)]
  · refine pv2 ?_
    rw [List.take_of_length_le (by omega)]
    exact (if_pos ⟨hb, h2⟩).symm
end Go.Proofs.Ytbpcdmjjdnjmbaa
set_option linter.unusedVariables false
set_option maxRecDepth 4000
namespace Go.Proofs.Ytbpcdmjjdnjmbaa
open Go Go.RowKit Ul Vc
attribute [local irreducible] Go.Calls
structure Fl where
  x : Sp
  y : Sp
  h : Sp
  vx : Sp
  vy : Sp
  vz : Sp
  pull : Sp
  wx : Sp
  wy : Sp
def FLV (f : Fl) : Value := .agg #[.int .i64 f.x.1, .int .i64 f.x.2, .int .i64 f.y.1, .int .i64 f.y.2, .int .i64 f.h.1, .int .i64 f.h.2, .int .i64 f.vx.1, .int .i64 f.vx.2, .int .i64 f.vy.1, .int .i64 f.vy.2, .int .i64 f.vz.1, .int .i64 f.vz.2, .int .i64 f.pull.1, .int .i64 f.pull.2, .int .i64 f.wx.1, .int .i64 f.wx.2, .int .i64 f.wy.1, .int .i64 f.wy.2]
def SpI (p : Sp) : Prop := I64 p.1 ∧ I64 p.2
structure FlI (f : Fl) : Prop where
  x : SpI f.x
  y : SpI f.y
  h : SpI f.h
  vx : SpI f.vx
  vy : SpI f.vy
  vz : SpI f.vz
  pull : SpI f.pull
  wx : SpI f.wx
  wy : SpI f.wy
def I63 (x : Int) : Prop := -9223372036854775807 ≤ x ∧ x ≤ 9223372036854775807
theorem I63.i {x : Int} (h : I63 x) : I64 x := by unfold I63 at h; unfold I64; omega
def R63 (r : R) : Prop := I63 r.1 ∧ I63 r.2.1
theorem R63.z (e : Int) : R63 (0, 0, e) := by exact ⟨show I63 0 by unfold I63; decide, show I63 0 by unfold I63; decide⟩
theorem R63.l {r : R} (h : R63 r) : I64 r.1 := h.1.i
theorem R63.h {r : R} (h : R63 r) : I64 r.2.1 := h.2.i
theorem fit_63 (lo hi : Int) : R63 (fit lo hi) := by
  unfold fit
  split
  · rename_i h; unfold R63 I63; simp only; omega
  · exact R63.z _
theorem add_63 (a b c d : Int) : R63 (add a b c d) := by
  unfold add; split
  · exact fit_63 _ _
  · exact R63.z _
theorem mul_63 (a b c d : Int) : R63 (mul a b c d) := by
  unfold mul; split
  · exact fit_63 _ _
  · exact R63.z _
theorem scale_63 (a b n : Int) : R63 (scale a b n) := by
  unfold scale; split
  · exact fit_63 _ _
  · exact R63.z _
theorem div_63 (a b c d : Int) : R63 (div a b c d) := by
  unfold div; split
  · split
    · exact R63.z _
    · exact fit_63 _ _
  · exact R63.z _
theorem square_63 (a b : Int) : R63 (square a b) := by
  unfold square; split
  · exact mul_63 _ _ _ _
  · exact R63.z _
theorem root_63 (a b : Int) : R63 (root a b) := by
  unfold root; split
  · split
    · exact R63.z _
    · have h1 := isqrt_bd (max a 0 * 4294967296)
      have h2 := isqrt_bd (b * 4294967296)
      have h3 : rootUp (b * 4294967296) = isqrt (b * 4294967296) ∨ rootUp (b * 4294967296) = isqrt (b * 4294967296) + 1 := by unfold rootUp; split <;> omega
      unfold R63 I63; simp only; omega
  · exact R63.z _
def max0 (x : Int) : Int := if x > 0 then x else 0
def fwd (a b c d : Int) : R := (max0 (div a b c d).1, (div a b c d).2.1, (div a b c d).2.2)
theorem fwd_63 (a b c d : Int) : R63 (fwd a b c d) := by
  obtain ⟨h1, h2⟩ := div_63 a b c d
  refine ⟨?_, h2⟩
  unfold fwd max0
  simp only
  split
  · exact h1
  · unfold I63; decide
def zr : Rc := ((0, 0), (0, 0))
def ch (r : R) (k : Sp → Rc × Int) : Rc × Int := if r.2.2 = 0 then k (r.1, r.2.1) else (zr, r.2.2)
def dn (n : Int) : Int := if n < -4503599627370496 then 536870913 else if 4503599627370496 < n then 536870913 else n * 1000 / 4294967296
def lastR (x y : Sp) : Rc := ((dn x.1, dn y.1), (-dn (-x.2), -dn (-y.2)))
def last (x y : Sp) : Rc × Int := if rectB (lastR x y) = true then (lastR x y, 0) else (zr, 4)
def flB (f : Fl) : Bool := decide (chk f.x.1 f.x.2 = 0 ∧ chk f.y.1 f.y.2 = 0 ∧ chk f.h.1 f.h.2 = 0 ∧ chk f.vx.1 f.vx.2 = 0 ∧ chk f.vy.1 f.vy.2 = 0 ∧ chk f.vz.1 f.vz.2 = 0 ∧ chk f.pull.1 f.pull.2 = 0 ∧ chk f.wx.1 f.wx.2 = 0 ∧ chk f.wy.1 f.wy.2 = 0 ∧ 0 < f.pull.1 ∧ 0 ≤ f.h.1)
abbrev RIV (r : Rc × Int) : Value := .tuple #[RCV r.1, .int .i64 r.2]
theorem ri {v r : Rc × Int} (h : r = v) : RIV v = RIV r := by rw [h]
/-- Where what falls hits the ground. -/
def impV (f : Fl) : Rc × Int :=
  if flB f = true then
    ch (square f.vz.1 f.vz.2) fun a =>
    ch (scale f.pull.1 f.pull.2 2) fun b =>
    ch (mul b.1 b.2 f.h.1 f.h.2) fun c =>
    ch (add a.1 a.2 c.1 c.2) fun d =>
    ch (root d.1 d.2) fun e =>
    ch (add f.vz.1 f.vz.2 e.1 e.2) fun g =>
    ch (fwd g.1 g.2 f.pull.1 f.pull.2) fun t =>
    ch (mul f.vx.1 f.vx.2 t.1 t.2) fun d1 =>
    ch (add f.x.1 f.x.2 d1.1 d1.2) fun x1 =>
    ch (mul f.wx.1 f.wx.2 t.1 t.2) fun d2 =>
    ch (add x1.1 x1.2 d2.1 d2.2) fun x2 =>
    ch (mul f.vy.1 f.vy.2 t.1 t.2) fun d3 =>
    ch (add f.y.1 f.y.2 d3.1 d3.2) fun y1 =>
    ch (mul f.wy.1 f.wy.2 t.1 t.2) fun d4 =>
    ch (add y1.1 y1.2 d4.1 d4.2) fun y2 =>
    last x2 y2
  else (zr, 2)
theorem psq (a b : Sp) (w : World) (h : SpI a) : Calls Try.prog 62 #[SPV a, SPV b] w (Vc.Ret (RV (square a.1 a.2)) w) := by
  refine vc_safety_square _ _ _ _ w _ ?_
  (repeat apply Exists.intro); refine And.intro (fun _ _ => psquare_any _ _ _ h.1 h.2) ?_
  rfl
theorem pdouble (a b : Sp) (w : World) (h : SpI a) : Calls Try.prog 63 #[SPV a, SPV b] w (Vc.Ret (RV (scale a.1 a.2 2)) w) := by
  refine vc_safety_double _ _ _ _ w _ ?_
  (repeat apply Exists.intro); refine And.intro (fun _ _ => pscale_any _ _ _ _ h.1 h.2 (by unfold I64; decide)) ?_
  rfl
theorem proot' (a b c d : Int) (w : World) (h1 : I64 a) (h2 : I64 b) : Calls Try.prog 66 #[.agg #[.int .i64 a, .int .i64 b], .agg #[.int .i64 c, .int .i64 d]] w (Vc.Ret (RV (root a b)) w) := by
  refine vc_safety_root _ _ _ _ w _ ?_
  (repeat apply Exists.intro); refine And.intro (fun _ _ => pRoot_any _ _ _ h1 h2) ?_
  rfl
theorem pfwd (a b c d : Int) (w : World) (h1 : I64 a) (h2 : I64 b) (h3 : I64 c) (h4 : I64 d) : Calls Try.prog 67 #[.agg #[.int .i64 a, .int .i64 b], .agg #[.int .i64 c, .int .i64 d]] w (Vc.Ret (RV (fwd a b c d)) w) := by
  refine vc_safety_forward _ _ _ _ w _ ?_
  (repeat apply Exists.intro); refine And.intro (fun _ _ => pdiv_any _ _ _ _ _ h1 h2 h3 h4) ?_
  rintro _ rfl
  rfl
theorem dn_bd (n : Int) (h : I64 n) : -1048576000 ≤ dn n ∧ dn n ≤ 1048576000 := by
  unfold dn
  split
  · decide
  · split
    · decide
    · omega
theorem pdown (n : Int) (w : World) (h : I64 n) : Calls Try.prog 35 #[.int .i64 n] w (Vc.Ret (.int .i64 (dn n)) w) := by
  refine vc_safety_down _ w _ ?_
  refine iteI (fun h1 => ?_) (fun h1 => ?_)
  · rw [show dn n = 536870913 from if_pos h1]
  · refine iteI (fun h2 => ?_) (fun h2 => ?_)
    · rw [show dn n = 536870913 by unfold dn; rw [if_neg h1, if_pos h2]]
    · rintro _ rfl _ rfl
      rw [Vc.i64_id (by omega), show dn n = n * 1000 / 4294967296 by unfold dn; rw [if_neg h1, if_neg h2]]
theorem pup' (n : Int) (w : World) (h : I63 n) : Calls Try.prog 36 #[.int .i64 n] w (Vc.Ret (.int .i64 (-dn (-n))) w) := by
  refine vc_safety_up _ w _ ?_
  unfold I63 at h
  rintro _ rfl
  rw [Vc.i64_id (by omega), Int.zero_sub]
  have hn : I64 (-n) := by unfold I64; omega
  have := dn_bd (-n) hn
  refine ⟨_, fun w' hw => pdown _ _ hn, ?_⟩
  rintro _ rfl
  rw [Vc.i64_id (by omega), Int.zero_sub]
theorem pvalid (f : Fl) (w : World) : Calls Try.prog 33 #[FLV f] w (Vc.Ret (.bool (flB f)) w) := by
  refine vc_safety_valid _ _ _ _ _ _ _ _ _ _ _ _ _ _ _ _ _ _ w _ ?_
  refine ⟨_, fun w' hw => check_any _ _ _, ?_⟩
  refine iteI (fun h0 => ?_) (fun h0 => ?_)
  rotate_left
  · rw [show flB f = false from decide_eq_false fun hz => h0 hz.1]
  refine ⟨_, fun w' hw => check_any _ _ _, ?_⟩
  refine iteI (fun h1 => ?_) (fun h1 => ?_)
  rotate_left
  · rw [show flB f = false from decide_eq_false fun hz => h1 hz.2.1]
  refine ⟨_, fun w' hw => check_any _ _ _, ?_⟩
  refine iteI (fun h2 => ?_) (fun h2 => ?_)
  rotate_left
  · rw [show flB f = false from decide_eq_false fun hz => h2 hz.2.2.1]
  refine ⟨_, fun w' hw => check_any _ _ _, ?_⟩
  refine iteI (fun h3 => ?_) (fun h3 => ?_)
  rotate_left
  · rw [show flB f = false from decide_eq_false fun hz => h3 hz.2.2.2.1]
  refine ⟨_, fun w' hw => check_any _ _ _, ?_⟩
  refine iteI (fun h4 => ?_) (fun h4 => ?_)
  rotate_left
  · rw [show flB f = false from decide_eq_false fun hz => h4 hz.2.2.2.2.1]
  refine ⟨_, fun w' hw => check_any _ _ _, ?_⟩
  refine iteI (fun h5 => ?_) (fun h5 => ?_)
  rotate_left
  · rw [show flB f = false from decide_eq_false fun hz => h5 hz.2.2.2.2.2.1]
  refine ⟨_, fun w' hw => check_any _ _ _, ?_⟩
  refine iteI (fun h6 => ?_) (fun h6 => ?_)
  rotate_left
  · rw [show flB f = false from decide_eq_false fun hz => h6 hz.2.2.2.2.2.2.1]
  refine ⟨_, fun w' hw => check_any _ _ _, ?_⟩
  refine iteI (fun h7 => ?_) (fun h7 => ?_)
  rotate_left
  · rw [show flB f = false from decide_eq_false fun hz => h7 hz.2.2.2.2.2.2.2.1]
  refine ⟨_, fun w' hw => check_any _ _ _, ?_⟩
  refine iteI (fun h8 => ?_) (fun h8 => ?_)
  rotate_left
  · rw [show flB f = false from decide_eq_false fun hz => h8 hz.2.2.2.2.2.2.2.2.1]
  refine iteI (fun h9 => ?_) (fun h9 => ?_)
  · congr 1
    rw [Bool.eq_iff_iff]
    simp only [flB, decide_eq_true_eq]
    exact ⟨fun h => ⟨h0, h1, h2, h3, h4, h5, h6, h7, h8, h9, h⟩, fun h => h.2.2.2.2.2.2.2.2.2.2⟩
  · rw [show flB f = false from decide_eq_false fun hz => h9 hz.2.2.2.2.2.2.2.2.2.1]
theorem pimpact (f : Fl) (w : World) (hf : FlI f) : Calls Try.prog 15 #[FLV f] w (Vc.Ret (RIV (impV f)) w) := by
  obtain ⟨hx, hy, hh, hvx, hvy, hvz, hpull, hwx, hwy⟩ := hf
  refine vc_safety_Impact _ _ _ _ _ _ _ _ _ _ _ _ _ _ _ _ _ _ w _ ?_
  refine ⟨_, fun w' hw => pvalid f _, ?_⟩
  refine iteI (fun h => ?_) (fun h => ri (show impV f = (zr, 2) from if_neg h))
  obtain ⟨V, hV⟩ : ∃ V, V = impV f := ⟨_, rfl⟩
  rw [← hV]
  have hE := hV.trans (if_pos h)
  clear hV
  refine ⟨_, _, _, fun w' hw => psq f.vz f.vz _ hvz, ?_⟩
  refine iteI (fun h => ?_) (fun h => ?_)
  rotate_left
  · exact iteI (fun h' => absurd h' h) (fun _ => ri (hE.trans (if_neg h)))
  replace hE := hE.trans (if_pos h)
  have A1 : I64 (square f.vz.1 f.vz.2).1 := (square_63 _ _).l
  have A2 : I64 (square f.vz.1 f.vz.2).2.1 := (square_63 _ _).h
  generalize square f.vz.1 f.vz.2 = ra at *
  refine ⟨_, _, _, fun w' hw => pdouble f.pull f.pull _ hpull, ?_⟩
  refine iteI (fun h => ?_) (fun h => ?_)
  rotate_left
  · exact iteI (fun h' => absurd h' h) (fun _ => ri (hE.trans (if_neg h)))
  replace hE := hE.trans (if_pos h)
  have B1 : I64 (scale f.pull.1 f.pull.2 2).1 := (scale_63 _ _ _).l
  have B2 : I64 (scale f.pull.1 f.pull.2 2).2.1 := (scale_63 _ _ _).h
  generalize scale f.pull.1 f.pull.2 2 = rb at *
  refine ⟨_, _, _, fun w' hw => pmul_any _ _ _ _ _ B1 B2 hh.1 hh.2, ?_⟩
  refine iteI (fun h => ?_) (fun h => ?_)
  rotate_left
  · exact iteI (fun h' => absurd h' h) (fun _ => ri (hE.trans (if_neg h)))
  replace hE := hE.trans (if_pos h)
  have C1 : I64 (mul (rb).1 (rb).2.1 f.h.1 f.h.2).1 := (mul_63 _ _ _ _).l
  have C2 : I64 (mul (rb).1 (rb).2.1 f.h.1 f.h.2).2.1 := (mul_63 _ _ _ _).h
  generalize mul (rb).1 (rb).2.1 f.h.1 f.h.2 = rc at *
  refine ⟨_, _, _, fun w' hw => padd_any _ _ _ _ _ A1 A2 C1 C2, ?_⟩
  refine iteI (fun h => ?_) (fun h => ?_)
  rotate_left
  · exact iteI (fun h' => absurd h' h) (fun _ => ri (hE.trans (if_neg h)))
  replace hE := hE.trans (if_pos h)
  have D1 : I64 (add (ra).1 (ra).2.1 (rc).1 (rc).2.1).1 := (add_63 _ _ _ _).l
  have D2 : I64 (add (ra).1 (ra).2.1 (rc).1 (rc).2.1).2.1 := (add_63 _ _ _ _).h
  generalize add (ra).1 (ra).2.1 (rc).1 (rc).2.1 = rd at *
  refine ⟨_, _, _, fun w' hw => proot' _ _ _ _ _ D1 D2, ?_⟩
  refine iteI (fun h => ?_) (fun h => ?_)
  rotate_left
  · exact iteI (fun h' => absurd h' h) (fun _ => ri (hE.trans (if_neg h)))
  replace hE := hE.trans (if_pos h)
  have E1 : I64 (root (rd).1 (rd).2.1).1 := (root_63 _ _).l
  have E2 : I64 (root (rd).1 (rd).2.1).2.1 := (root_63 _ _).h
  generalize root (rd).1 (rd).2.1 = re at *
  refine ⟨_, _, _, fun w' hw => padd_any _ _ _ _ _ hvz.1 hvz.2 E1 E2, ?_⟩
  refine iteI (fun h => ?_) (fun h => ?_)
  rotate_left
  · exact iteI (fun h' => absurd h' h) (fun _ => ri (hE.trans (if_neg h)))
  replace hE := hE.trans (if_pos h)
  have G1 : I64 (add f.vz.1 f.vz.2 (re).1 (re).2.1).1 := (add_63 _ _ _ _).l
  have G2 : I64 (add f.vz.1 f.vz.2 (re).1 (re).2.1).2.1 := (add_63 _ _ _ _).h
  generalize add f.vz.1 f.vz.2 (re).1 (re).2.1 = rg at *
  refine ⟨_, _, _, fun w' hw => pfwd _ _ _ _ _ G1 G2 hpull.1 hpull.2, ?_⟩
  refine iteI (fun h => ?_) (fun h => ?_)
  rotate_left
  · exact iteI (fun h' => absurd h' h) (fun _ => ri (hE.trans (if_neg h)))
  replace hE := hE.trans (if_pos h)
  have T1 : I64 (fwd (rg).1 (rg).2.1 f.pull.1 f.pull.2).1 := (fwd_63 _ _ _ _).l
  have T2 : I64 (fwd (rg).1 (rg).2.1 f.pull.1 f.pull.2).2.1 := (fwd_63 _ _ _ _).h
  generalize fwd (rg).1 (rg).2.1 f.pull.1 f.pull.2 = rt at *
  refine ⟨_, _, _, fun w' hw => pmul_any _ _ _ _ _ hvx.1 hvx.2 T1 T2, ?_⟩
  refine iteI (fun h => ?_) (fun h => ?_)
  rotate_left
  · exact iteI (fun h' => absurd h' h) (fun _ => ri (hE.trans (if_neg h)))
  replace hE := hE.trans (if_pos h)
  have DA1 : I64 (mul f.vx.1 f.vx.2 (rt).1 (rt).2.1).1 := (mul_63 _ _ _ _).l
  have DA2 : I64 (mul f.vx.1 f.vx.2 (rt).1 (rt).2.1).2.1 := (mul_63 _ _ _ _).h
  generalize mul f.vx.1 f.vx.2 (rt).1 (rt).2.1 = rd1 at *
  refine ⟨_, _, _, fun w' hw => padd_any _ _ _ _ _ hx.1 hx.2 DA1 DA2, ?_⟩
  refine iteI (fun h => ?_) (fun h => ?_)
  rotate_left
  · exact iteI (fun h' => absurd h' h) (fun _ => ri (hE.trans (if_neg h)))
  replace hE := hE.trans (if_pos h)
  have XA1 : I64 (add f.x.1 f.x.2 (rd1).1 (rd1).2.1).1 := (add_63 _ _ _ _).l
  have XA2 : I64 (add f.x.1 f.x.2 (rd1).1 (rd1).2.1).2.1 := (add_63 _ _ _ _).h
  generalize add f.x.1 f.x.2 (rd1).1 (rd1).2.1 = rx1 at *
  refine ⟨_, _, _, fun w' hw => pmul_any _ _ _ _ _ hwx.1 hwx.2 T1 T2, ?_⟩
  refine iteI (fun h => ?_) (fun h => ?_)
  rotate_left
  · exact iteI (fun h' => absurd h' h) (fun _ => ri (hE.trans (if_neg h)))
  replace hE := hE.trans (if_pos h)
  have DB1 : I64 (mul f.wx.1 f.wx.2 (rt).1 (rt).2.1).1 := (mul_63 _ _ _ _).l
  have DB2 : I64 (mul f.wx.1 f.wx.2 (rt).1 (rt).2.1).2.1 := (mul_63 _ _ _ _).h
  generalize mul f.wx.1 f.wx.2 (rt).1 (rt).2.1 = rd2 at *
  refine ⟨_, _, _, fun w' hw => padd_any _ _ _ _ _ XA1 XA2 DB1 DB2, ?_⟩
  refine iteI (fun h => ?_) (fun h => ?_)
  rotate_left
  · exact iteI (fun h' => absurd h' h) (fun _ => ri (hE.trans (if_neg h)))
  replace hE := hE.trans (if_pos h)
  have XB1 : I64 (add (rx1).1 (rx1).2.1 (rd2).1 (rd2).2.1).1 := (add_63 _ _ _ _).l
  have XB2 : I64 (add (rx1).1 (rx1).2.1 (rd2).1 (rd2).2.1).2.1 := (add_63 _ _ _ _).h
  have XB3 : I63 (add (rx1).1 (rx1).2.1 (rd2).1 (rd2).2.1).2.1 := (add_63 _ _ _ _).2
  generalize add (rx1).1 (rx1).2.1 (rd2).1 (rd2).2.1 = rx2 at *
  refine ⟨_, _, _, fun w' hw => pmul_any _ _ _ _ _ hvy.1 hvy.2 T1 T2, ?_⟩
  refine iteI (fun h => ?_) (fun h => ?_)
  rotate_left
  · exact iteI (fun h' => absurd h' h) (fun _ => ri (hE.trans (if_neg h)))
  replace hE := hE.trans (if_pos h)
  have DC1 : I64 (mul f.vy.1 f.vy.2 (rt).1 (rt).2.1).1 := (mul_63 _ _ _ _).l
  have DC2 : I64 (mul f.vy.1 f.vy.2 (rt).1 (rt).2.1).2.1 := (mul_63 _ _ _ _).h
  generalize mul f.vy.1 f.vy.2 (rt).1 (rt).2.1 = rd3 at *
  refine ⟨_, _, _, fun w' hw => padd_any _ _ _ _ _ hy.1 hy.2 DC1 DC2, ?_⟩
  refine iteI (fun h => ?_) (fun h => ?_)
  rotate_left
  · exact iteI (fun h' => absurd h' h) (fun _ => ri (hE.trans (if_neg h)))
  replace hE := hE.trans (if_pos h)
  have YA1 : I64 (add f.y.1 f.y.2 (rd3).1 (rd3).2.1).1 := (add_63 _ _ _ _).l
  have YA2 : I64 (add f.y.1 f.y.2 (rd3).1 (rd3).2.1).2.1 := (add_63 _ _ _ _).h
  generalize add f.y.1 f.y.2 (rd3).1 (rd3).2.1 = ry1 at *
  refine ⟨_, _, _, fun w' hw => pmul_any _ _ _ _ _ hwy.1 hwy.2 T1 T2, ?_⟩
  refine iteI (fun h => ?_) (fun h => ?_)
  rotate_left
  · exact iteI (fun h' => absurd h' h) (fun _ => ri (hE.trans (if_neg h)))
  replace hE := hE.trans (if_pos h)
  have DD1 : I64 (mul f.wy.1 f.wy.2 (rt).1 (rt).2.1).1 := (mul_63 _ _ _ _).l
  have DD2 : I64 (mul f.wy.1 f.wy.2 (rt).1 (rt).2.1).2.1 := (mul_63 _ _ _ _).h
  generalize mul f.wy.1 f.wy.2 (rt).1 (rt).2.1 = rd4 at *
  refine ⟨_, _, _, fun w' hw => padd_any _ _ _ _ _ YA1 YA2 DD1 DD2, ?_⟩
  refine iteI (fun h => ?_) (fun h => ?_)
  rotate_left
  · exact iteI (fun h' => absurd h' h) (fun _ => ri (hE.trans (if_neg h)))
  replace hE := hE.trans (if_pos h)
  have YB1 : I64 (add (ry1).1 (ry1).2.1 (rd4).1 (rd4).2.1).1 := (add_63 _ _ _ _).l
  have YB2 : I64 (add (ry1).1 (ry1).2.1 (rd4).1 (rd4).2.1).2.1 := (add_63 _ _ _ _).h
  have YB3 : I63 (add (ry1).1 (ry1).2.1 (rd4).1 (rd4).2.1).2.1 := (add_63 _ _ _ _).2
  generalize add (ry1).1 (ry1).2.1 (rd4).1 (rd4).2.1 = ry2 at *
  refine iteI (fun h => ?_) (fun h' => absurd h h')
  refine ⟨_, fun w' hw => pdown _ _ XB1, ?_⟩
  refine ⟨_, fun w' hw => pdown _ _ YB1, ?_⟩
  refine ⟨_, fun w' hw => pup' _ _ XB3, ?_⟩
  refine ⟨_, fun w' hw => pup' _ _ YB3, ?_⟩
  refine ⟨_, fun w' hw => prect (lastR (rx2.1, rx2.2.1) (ry2.1, ry2.2.1)) _, ?_⟩
  refine iteI (fun h => ?_) (fun h => ?_)
  · exact ri (hE.trans (if_pos h))
  · exact ri (hE.trans (if_neg h))
end Go.Proofs.Ytbpcdmjjdnjmbaa
set_option linter.unusedVariables false
set_option maxRecDepth 4000
namespace Go.Proofs.Ytbpcdmjjdnjmbaa
open Go Go.RowKit Ul Vc
attribute [local irreducible] Go.Calls
def clip (n : Int) : Int := if (if 536870912 < n then 536870912 else n) > (-536870912) then (if 536870912 < n then 536870912 else n) else (-536870912)
theorem pnear1 (n : Int) (w : World) : Calls Try.prog 72 #[.int .i64 n] w (Vc.Ret (.int .i64 (clip n)) w) := by
  refine vc_safety_near_1 _ w _ ?_
  rintro _ rfl _ rfl
  rfl
def nearS (s : Sp) : Sp := (clip s.1, clip s.2)
theorem pnear (s : Sp) (w : World) : Calls Try.prog 42 #[SPV s] w (Vc.Ret (SPV (nearS s)) w) := by
  refine vc_safety_near _ _ w _ ?_
  refine ⟨_, fun w' hw => pnear1 _ _, ?_⟩
  rintro _ rfl _ rfl
  rfl
theorem lrect (a b c d : Int) (w : World) : Calls Try.prog 28 #[.int .i64 a, .int .i64 b, .int .i64 c, .int .i64 d] w (Vc.Ret (.agg #[.int .i64 a, .int .i64 b, .int .i64 c, .int .i64 d]) w) := by
  refine vc_ullagelaw09_rect _ _ _ _ w _ ?_
  rfl
theorem sl_heap {w : World} {k t n c : Nat} {L : List Value} {xs : Array Value} (h : w.heap[k]? = some (.cells xs t)) (hx : xs.toList = L) (hn : L.length = n * c) : SlAt w (.slice (some ⟨k, 0, none⟩) n n) c L := by
  refine .inr (.inr ⟨k, 0, _, _, rfl, hn, fun j u hj => ?_⟩)
  rw [Nat.zero_add, cell_of_heap h, ← Array.getElem?_toList, hx]
  exact hj
theorem own_sps {lo b code n base : Nat} {l : List Sp} {t : TypeId} {w : World} {xs : List Value} (h : RowOk lo b code n base xs 2 t w) (hx : xs = l.flatMap spc) : Sps w (ownV b code n base) l := by
  subst hx
  exact own_sl h
def sq0 : List Sp := [(0, 0), (100, 0), (100, 100), (0, 100)]
def sq1 : List Sp := [(0, 110), (100, 110), (100, 210), (0, 210)]
def tri : List Sp := [(0, 0), (10, 0), (0, 10)]
def pl1 (k j m : Nat) : Pl := ⟨⟨[113], .slice (some ⟨k, 0, none⟩) 4 4, sq0⟩, .slice none 0 0, [], .slice (some ⟨m, 0, none⟩) 1 1, [⟨⟨[113], .slice (some ⟨j, 0, none⟩) 4 4, sq0⟩, 1000, 400⟩], 1, 1, 5, 3⟩
theorem plan_pl1 (k j m : Nat) : planB (pl1 k j m) = true := by
  refine decide_eq_true ⟨show zoneB 1 sq0 = true by decide +kernel, ⟨show 0 ≤ 16 by omega, show 1 ≤ 16 by omega⟩, (fun z hz => by cases hz), (fun t ht => ?_), (by decide +kernel : inR 1 0 268435456 = true), (by decide +kernel : inR 5 0 268435456 = true), (by decide +kernel : inR 3 0 268435456 = true), (by decide +kernel : inR 1 0 1000 = true)⟩
  simp only [pl1, List.mem_cons, List.not_mem_nil, or_false] at ht
  subst ht
  simp only [tB, zB]
  decide +kernel
theorem risk_pl1 (k j m : Nat) : riskV (pl1 k j m) ((0, 0), (1, 1)) = (8, 0) := by
  unfold riskV
  rw [plan_pl1, if_pos ⟨rfl, by decide +kernel⟩]
  simp only [pl1, riskF, List.foldl_cons, List.foldl_nil]
  exact Prod.ext ((if_neg (show ¬ sideI sq0 (grown ((0, 0), (1, 1)) 5) = -1 by decide +kernel)).trans rfl) rfl
theorem zone_sq0 : ZoneP 1 sq0 := by decide +kernel
theorem fall0 : FlI ⟨(4294967296, 4294967296), (0, 0), (0, 0), (4294967296, 4294967296), (0, 0), (21474836480, 21474836480), (42949672960, 42949672960), (0, 0), (0, 0)⟩ := by
  constructor <;> (unfold SpI I64; decide)
theorem awake_any (w : World) : Calls Try.prog 11 #[] w (Vc.Ret (.bool true) w) := by
  refine vc_ullagelaw09_awake w _ ?_
  refine ⟨1, 0, fun β w' hw hm => Ret.mono (pSide (nm := [113]) ((10, 10), (90, 100)) (sps_heap (l := sq0) hm.1.2 rfl rfl)) (by rw [show sideV ([113] : List UInt8).length sq0 ((10, 10), (90, 100)) = (1, 0) by decide +kernel]), ?_⟩
  refine ⟨0, 0, fun β w' hw hm => Ret.mono (pSide (nm := [113]) ((10, 10), (90, 101)) (sps_heap (l := sq0) hm.1.2 rfl rfl)) (by rw [show sideV ([113] : List UInt8).length sq0 ((10, 10), (90, 101)) = (0, 0) by decide +kernel]), ?_⟩
  refine ⟨-1, 0, fun β w' hw hm => Ret.mono (pSide (nm := [116]) ((6, 6), (9, 9)) (sps_heap (l := tri) hm.1.2 rfl rfl)) (by rw [show sideV ([116] : List UInt8).length tri ((6, 6), (9, 9)) = (-1, 0) by decide +kernel]), ?_⟩
  refine ⟨true, 0, fun β w' hw hm => Ret.mono (pApart (na := [113]) (nb := [113]) 9 (sps_heap (l := sq0) hm.1.2 rfl rfl) (sps_heap (l := sq1) hm.2.1.2 rfl rfl)) (by rw [show apV ([113] : List UInt8).length sq0 ([113] : List UInt8).length sq1 9 = (true, 0) by decide +kernel]), ?_⟩
  refine ⟨false, 0, fun β w' hw hm => Ret.mono (pApart (na := [113]) (nb := [113]) 10 (sps_heap (l := sq0) hm.1.2 rfl rfl) (sps_heap (l := sq1) hm.2.1.2 rfl rfl)) (by rw [show apV ([113] : List UInt8).length sq0 ([113] : List UInt8).length sq1 10 = (false, 0) by decide +kernel]), ?_⟩
  refine ⟨2000, 0, 2000, 0, 0, fun w' hw => Ret.mono (pimpact _ w' fall0) (by rw [show impV ⟨(4294967296, 4294967296), (0, 0), (0, 0), (4294967296, 4294967296), (0, 0), (21474836480, 21474836480), (42949672960, 42949672960), (0, 0), (0, 0)⟩ = (((2000, 0), (2000, 0)), 0) by decide +kernel]), ?_⟩
  refine ⟨0, 0, 1, 1, fun w' hw => lrect _ _ _ _ _, ?_⟩
  have plan : ∀ {β : Nat → Nat} {w' : World} {t0 t1 t2 : TypeId} {k j m : Nat}, w'.heap[k]? = some (.cells #[.int .i64 0, .int .i64 0, .int .i64 100, .int .i64 0, .int .i64 100, .int .i64 100, .int .i64 0, .int .i64 100] t0) →
      w'.heap[m]? = some (.cells #[.string ⟨(([113] : List UInt8)).toArray⟩, .slice (some ⟨j, 0, none⟩) 4 4, .int .i64 1000, .int .i64 400] t1) →
      w'.heap[j]? = some (.cells #[.int .i64 0, .int .i64 0, .int .i64 100, .int .i64 0, .int .i64 100, .int .i64 100, .int .i64 0, .int .i64 100] t2) → PlAt w' (pl1 k j m) := fun h1 h2 h3 =>
    ⟨sps_heap (l := sq0) h1 rfl rfl, .inl ⟨rfl, rfl⟩, (fun z hz => by cases hz), sl_heap (n := 1) (c := 4) h2 rfl rfl, (fun t ht => by
      simp only [pl1, List.mem_cons, List.not_mem_nil, or_false] at ht
      subst ht
      exact sps_heap (l := sq0) h3 rfl rfl)⟩
  refine ⟨8, 0, fun β w' hw hm => Ret.mono (prisk ((0, 0), (1, 1)) (plan (β := β) hm.1.2 hm.2.1.2 hm.2.2.1.2)) (by rw [risk_pl1]), ?_⟩
  refine ⟨true, fun β w' hw hm => Ret.mono (pplan (plan (β := β) hm.1.2 hm.2.1.2 hm.2.2.1.2)) (by rw [plan_pl1]), ?_⟩
  refine iteI (fun _ => ?_) (fun h => absurd (by decide) h)
  refine ⟨true, fun w' hw => Ret.mono (prect ((10, 10), (20, 20)) w') (by rw [show rectB ((10, 10), (20, 20)) = true by decide +kernel]), ?_⟩
  refine iteI (fun _ => ?_) (fun h => absurd (by decide) h)
  refine ⟨1, fun β w' hw hm => Ret.mono (pside ((10, 10), (20, 20)) (own_sps (l := sq0) hm.1 rfl) zone_sq0 (by unfold RcB SpB Bd; decide)) (by rw [show sideI sq0 ((10, 10), (20, 20)) = 1 by decide +kernel]), ?_⟩
  refine iteI (fun _ => ?_) (fun h => absurd (by decide) h)
  refine ⟨true, fun w' hw => Ret.mono (prect ((95, 0), (101, 5)) w') (by rw [show rectB ((95, 0), (101, 5)) = true by decide +kernel]), ?_⟩
  refine iteI (fun _ => ?_) (fun h => absurd (by decide) h)
  refine ⟨0, fun β w' hw hm => Ret.mono (pside ((95, 0), (101, 5)) (own_sps (l := sq0) hm.1 rfl) zone_sq0 (by unfold RcB SpB Bd; decide)) (by rw [show sideI sq0 ((95, 0), (101, 5)) = 0 by decide +kernel]), ?_⟩
  refine iteI (fun h => absurd h (by decide)) (fun _ => ?_)
  refine iteI (fun _ => ?_) (fun h => absurd (by decide) h)
  refine ⟨94, -1, 102, 6, fun w' hw => Ret.mono (pgrown (r := ((95, 0), (101, 5))) (b := 1) (by unfold GrB SpB Bd; decide) w') rfl, ?_⟩
  refine ⟨94, -1, fun w' hw => Ret.mono (pnear (94, -1) w') rfl, ?_⟩
  refine ⟨102, 6, fun w' hw => Ret.mono (pnear (102, 6) w') rfl, ?_⟩
  refine ⟨0, fun β w' hw hm => Ret.mono (pside ((94, -1), (102, 6)) (own_sps (l := sq0) hm.1 rfl) zone_sq0 (by unfold RcB SpB Bd; decide)) (by rw [show sideI sq0 ((94, -1), (102, 6)) = 0 by decide +kernel]), ?_⟩
  refine iteI (fun h => absurd h (by decide)) (fun _ => ?_)
  refine iteI (fun _ => ?_) (fun h => absurd (by decide) h)
  refine iteI (fun _ => ?_) (fun h => absurd (by decide) h)
  refine iteI (fun _ => ?_) (fun h => absurd (by decide) h)
  refine iteI (fun _ => ?_) (fun h => absurd (by decide) h)
  refine iteI (fun _ => ?_) (fun h => absurd (by decide) h)
  refine iteI (fun h => absurd h (by decide)) (fun _ => ?_)
  refine iteI (fun _ => ?_) (fun h => absurd (by decide) h)
  refine ⟨2000, 0, 2000, 0, fun w' hw => lrect _ _ _ _ _, ?_⟩
  refine iteI (fun _ => ?_) (fun h => absurd (by decide) h)
  refine iteI (fun _ => ?_) (fun h => absurd (by decide) h)
  refine iteI (fun _ => ?_) (fun h => absurd (by decide) h)
  refine ⟨94, -1, 102, 6, fun w' hw => lrect _ _ _ _ _, ?_⟩
  rfl
end Go.Proofs.Ytbpcdmjjdnjmbaa
set_option linter.unusedVariables false
namespace Go.Proofs.Ytbpcdmjjdnjmbaa
open Go Go.RowKit Go.ChangeShapes Go.WideShapes Go.ChangeAt Go.Joins Go.Deep Ul Vc
theorem list_of {α : Type} {R : Nat → α → Prop} : ∀ (n : Nat), (∀ i, i < n → ∃ a, R i a) → ∃ l : List α, l.length = n ∧ ∀ i a, l[i]? = some a → R i a
  | 0, _ => ⟨[], rfl, fun i a h => by simp at h⟩
  | n + 1, h => by
    obtain ⟨l, h1, h2⟩ := list_of n fun i hi => h i (by omega)
    obtain ⟨a, ha⟩ := h n (by omega)
    refine ⟨l ++ [a], by simp [h1], fun i b hb => ?_⟩
    by_cases hi : i < l.length
    · rw [List.getElem?_append_left hi] at hb
      exact h2 i b hb
    · rw [List.getElem?_append_right (by omega)] at hb
      have : i - l.length = 0 := by
        have := (List.getElem?_eq_some_iff.1 hb).1
        simp at this; omega
      rw [this] at hb
      simp at hb
      subst hb
      have : i = n := by omega
      subst this
      exact ha
theorem wf64i {n : Int} (h : (Lit.int .i64 n).wf = true) : I64 n := by
  simp only [Lit.wf, Bool.and_eq_true, decide_eq_true_eq] at h
  exact h
section
variable {H : Type} {enc : TypeId × Value → H} {P : Program} {w : World} {base : Nat} {sp : Nat → Bool} {held : Bool}
theorem sl_of {α : Type} {f : α → List Value} {G : α → Prop} {c : Nat} {t e : TypeId} (hsp : ∀ b, sp b = true) (ht : P.underlying t = some (.slice e)) (hc : P.cellsOf e = c) (c0 : 0 < c) (hf : ∀ a, (f a).length = c)
    (hE : ∀ fuel cs x, DataW.trod enc P w base sp held fuel e cs = some x → ∃ a, cs = f a ∧ G a) {v : Value} {fuel : Nat} {x : DataW H × List MemPlace} (hx : DataW.trod enc P w base sp held fuel t [v] = some x) :
    ∃ l : List α, SlAt w v c (l.flatMap f) ∧ ∀ a ∈ l, G a := by
  rcases DataW.trod_slice ht hx with ⟨h1, _⟩ | ⟨a, len, cap, elems, rest, n, _, h1, _, hb, hl, hm, hlen, hel, hspare, _⟩
  · simp only [List.cons.injEq, and_true] at h1
    exact ⟨[], .inl ⟨h1, rfl⟩, fun a ha => by cases ha⟩
  · simp only [List.cons.injEq, and_true] at h1
    subst h1
    obtain ⟨b, o, spot⟩ := a
    by_cases hcap : cap = 0
    · obtain rfl : len = 0 := by omega
      subst hcap
      exact ⟨[], .inr (.inl ⟨_, rfl, rfl⟩), fun a ha => by cases ha⟩
    have hs : spot = none := by
      have some_cell : ∀ k cs, k * c = k * c → w.cells? base ((⟨b, o, spot⟩ : Addr).add (k * c)) c = some cs → k = 0 → spot = none := fun k cs _ h hk => by
        subst hk
        have h2 := (World.cells?_some h).2
        have h3 := h2.2 0 c0
        rw [List.getElem?_eq_getElem (by omega)] at h3
        simpa [Addr.add] using World.cell?_spot h3
      by_cases hlen0 : len = 0
      · obtain ⟨hr1, hr2⟩ := hspare (hsp b)
        have h2 := hr2 0 (by omega)
        rw [List.getElem?_eq_getElem (by omega), hc, Option.bind_eq_some_iff] at h2
        obtain ⟨cs, h3, _⟩ := h2
        rw [hlen0] at h3
        exact some_cell 0 cs rfl (by simpa using h3) rfl
      · have h2 := hel 0 (by omega)
        rw [List.getElem?_eq_getElem (by omega), hc, Option.bind_eq_some_iff] at h2
        obtain ⟨cs, h3, _⟩ := h2
        exact some_cell 0 cs rfl h3 rfl
    subst hs
    have each : ∀ i, i < len → ∃ y : α, G y ∧ ∀ j, j < c → w.cell? ⟨b, o + (i * c + j), none⟩ = (f y)[j]? := fun i hi => by
      have h2 := hel i hi
      rw [List.getElem?_eq_getElem (by omega), hc, Option.bind_eq_some_iff] at h2
      obtain ⟨cs, h3, h4⟩ := h2
      obtain ⟨y, rfl, hg⟩ := hE _ _ _ h4
      refine ⟨y, hg, fun j hj => ?_⟩
      rw [← (World.cells?_some h3).2.2 j hj, addr_add, addr_add, Nat.add_assoc]
    obtain ⟨l, hl1, hl2⟩ := list_of len each
    refine ⟨l, .inr (.inr ⟨b, o, len, cap, rfl, by rw [flat_len hf, hl1], fun j u hj => ?_⟩), fun a ha => ?_⟩
    · have hjl : j < l.length * c := by
        have := (List.getElem?_eq_some_iff.1 hj).1
        rwa [flat_len hf] at this
      have hi : j / c < l.length := (Nat.div_lt_iff_lt_mul c0).2 hjl
      have hr : j % c < c := Nat.mod_lt _ c0
      have hjd : j = j / c * c + j % c := by rw [Nat.mul_comm]; exact (Nat.div_add_mod j c).symm
      have hp := List.getElem?_eq_getElem hi
      rw [hjd] at hj ⊢
      rw [flat_at hf hp hr] at hj
      rw [← hj]
      exact (hl2 _ _ hp).2 _ hr
    · obtain ⟨i, hi⟩ := List.getElem?_of_mem ha
      exact (hl2 i a hi).1
end
section
variable {H : Type} {enc : TypeId × Value → H} {w : World} {base : Nat} {sp : Nat → Bool} {held : Bool}
theorem spot_cells {fuel : Nat} {cs : List Value} {x : DataW H × List MemPlace} (h : DataW.trod enc Try.prog w base sp held fuel 34 cs = some x) : ∃ p : Sp, cs = spc p ∧ SpI p := by
  obtain ⟨y0, y1, n, _, hl, h0, h1⟩ := trod_struct2 Try.underlying34 h
  have e1 : Try.prog.cellsOf 3 = 1 := by kernel_rfl
  have e2 : Try.prog.cellsOf 34 = 2 := by kernel_rfl
  rw [e2] at hl
  simp only [e1] at h0 h1
  match cs, hl with
  | [c0, c1], _ =>
    obtain ⟨a, ha, _, wa⟩ := DataW.trod_int Try.underlying3 h0
    obtain ⟨b, hb, _, wb⟩ := DataW.trod_int Try.underlying3 h1
    simp at ha hb
    exact ⟨(a, b), by rw [ha, hb]; rfl, wf64i wa, wf64i wb⟩
theorem spots_sl {P : Program} (hsp : ∀ b, sp b = true) (hP : P = Try.prog) {fuel : Nat} {v : Value} {cs : List Value} {x : DataW H × List MemPlace} (h : DataW.trod enc P w base sp held fuel 22 cs = some x) (hcs : cs = [v]) : ∃ l : List Sp, Sps w v l ∧ ∀ a ∈ l, SpI a := by
  subst hcs
  have hu : P.underlying 22 = some (.slice 34) := by rw [hP]; kernel_rfl
  have hc : P.cellsOf 34 = 2 := by rw [hP]; kernel_rfl
  have hE : ∀ fuel cs x, DataW.trod enc P w base sp held fuel 34 cs = some x → ∃ a, cs = spc a ∧ SpI a := fun fuel cs x h => by rw [hP] at h; exact spot_cells h
  clear hP
  exact sl_of hsp hu hc (by omega) spc_len hE h
theorem zone_cells (hsp : ∀ b, sp b = true) {fuel : Nat} {cs : List Value} {x : DataW H × List MemPlace} (h : DataW.trod enc Try.prog w base sp held fuel 24 cs = some x) : ∃ z : Zn, cs = znc z ∧ Sps w z.v z.cs := by
  obtain ⟨y0, y1, n, _, hl, h0, h1⟩ := trod_struct2 Try.underlying24 h
  have e1 : Try.prog.cellsOf 9 = 1 := by kernel_rfl
  have e2 : Try.prog.cellsOf 22 = 1 := by kernel_rfl
  have e3 : Try.prog.cellsOf 24 = 2 := by kernel_rfl
  rw [e3] at hl
  simp only [e1, e2] at h0 h1
  match cs, hl with
  | [c0, c1], _ =>
    obtain ⟨s, hs, _, _⟩ := DataW.trod_string Try.underlying9 h0
    simp at hs
    obtain ⟨l, hl, _⟩ := spots_sl hsp rfl h1 rfl
    exact ⟨⟨s.data.toList, c1, l⟩, by rw [hs]; rfl, hl⟩
theorem town_cells (hsp : ∀ b, sp b = true) {fuel : Nat} {cs : List Value} {x : DataW H × List MemPlace} (h : DataW.trod enc Try.prog w base sp held fuel 90 cs = some x) : ∃ t : Tn, cs = tnc t ∧ Sps w t.z.v t.z.cs := by
  obtain ⟨y0, y1, y2, n, _, hl, h0, h1, h2⟩ := trod_struct3 Try.underlying90 h
  have e1 : Try.prog.cellsOf 3 = 1 := by kernel_rfl
  have e2 : Try.prog.cellsOf 24 = 2 := by kernel_rfl
  have e3 : Try.prog.cellsOf 90 = 4 := by kernel_rfl
  rw [e3] at hl
  simp only [e1, e2] at h0 h1 h2
  match cs, hl with
  | [c0, c1, c2, c3], _ =>
    obtain ⟨z, hz, wz⟩ := zone_cells hsp h0
    obtain ⟨a, ha, _, _⟩ := DataW.trod_int Try.underlying3 h1
    obtain ⟨b, hb, _, _⟩ := DataW.trod_int Try.underlying3 h2
    simp [znc] at hz ha hb
    obtain ⟨rfl, rfl⟩ := hz
    exact ⟨⟨z, a, b⟩, by rw [ha, hb]; rfl, wz⟩
theorem zones_sl {P : Program} (hsp : ∀ b, sp b = true) (hP : P = Try.prog) {fuel : Nat} {v : Value} {cs : List Value} {x : DataW H × List MemPlace} (h : DataW.trod enc P w base sp held fuel 53 cs = some x) (hcs : cs = [v]) : ∃ l : List Zn, SlAt w v 2 (l.flatMap znc) ∧ ∀ z ∈ l, Sps w z.v z.cs := by
  subst hcs
  have hu : P.underlying 53 = some (.slice 24) := by rw [hP]; kernel_rfl
  have hc : P.cellsOf 24 = 2 := by rw [hP]; kernel_rfl
  have hE : ∀ fuel cs x, DataW.trod enc P w base sp held fuel 24 cs = some x → ∃ z : Zn, cs = znc z ∧ Sps w z.v z.cs := fun fuel cs x h => by rw [hP] at h; exact zone_cells hsp h
  clear hP
  exact sl_of hsp hu hc (by omega) znc_len hE h
theorem towns_sl {P : Program} (hsp : ∀ b, sp b = true) (hP : P = Try.prog) {fuel : Nat} {v : Value} {cs : List Value} {x : DataW H × List MemPlace} (h : DataW.trod enc P w base sp held fuel 54 cs = some x) (hcs : cs = [v]) : ∃ l : List Tn, SlAt w v 4 (l.flatMap tnc) ∧ ∀ t ∈ l, Sps w t.z.v t.z.cs := by
  subst hcs
  have hu : P.underlying 54 = some (.slice 90) := by rw [hP]; kernel_rfl
  have hc : P.cellsOf 90 = 4 := by rw [hP]; kernel_rfl
  have hE : ∀ fuel cs x, DataW.trod enc P w base sp held fuel 90 cs = some x → ∃ t : Tn, cs = tnc t ∧ Sps w t.z.v t.z.cs := fun fuel cs x h => by rw [hP] at h; exact town_cells hsp h
  clear hP
  exact sl_of hsp hu hc (by omega) tnc_len hE h
set_option maxRecDepth 100000 in
theorem plan_cells (hsp : ∀ b, sp b = true) {fuel : Nat} {cs : List Value} {x : DataW H × List MemPlace} (h : DataW.trod enc Try.prog w base sp held fuel 56 cs = some x) : ∃ p : Pl, Value.agg cs.toArray = PLV p ∧ PlAt w p := by
  obtain ⟨xs, n, _, _, hl, hlen, hf⟩ := DataW.trod_struct Try.underlying56 h
  have e1 : Try.prog.cellsOf 3 = 1 := by kernel_rfl
  have e2 : Try.prog.cellsOf 24 = 2 := by kernel_rfl
  have e3 : Try.prog.cellsOf 56 = 8 := by kernel_rfl
  have e4 : Try.prog.cellsOf 53 = 1 := by kernel_rfl
  have e5 : Try.prog.cellsOf 54 = 1 := by kernel_rfl
  rw [e3] at hl
  match xs, hlen with
  | [y0, y1, y2, y3, y4, y5, y6], _ =>
    match cs, hl with
    | [c0, c1, c2, c3, c4, c5, c6, c7], _ =>
      have g0 := hf 0 _ rfl
      have g1 := hf 1 _ rfl
      have g2 := hf 2 _ rfl
      have g3 := hf 3 _ rfl
      have g4 := hf 4 _ rfl
      have g5 := hf 5 _ rfl
      have g6 := hf 6 _ rfl
      simp [e1, e2, e4, e5] at g0 g1 g2 g3 g4 g5 g6
      obtain ⟨z, hz, wz⟩ := zone_cells hsp g0
      obtain ⟨pr, w1, w2⟩ := zones_sl hsp rfl g1 rfl
      obtain ⟨tn, w3, w4⟩ := towns_sl hsp rfl g2 rfl
      obtain ⟨a, ha, _, _⟩ := DataW.trod_int Try.underlying3 g3
      obtain ⟨b, hb, _, _⟩ := DataW.trod_int Try.underlying3 g4
      obtain ⟨c, hc, _, _⟩ := DataW.trod_int Try.underlying3 g5
      obtain ⟨d, hd, _, _⟩ := DataW.trod_int Try.underlying3 g6
      simp [znc] at hz ha hb hc hd
      obtain ⟨rfl, rfl⟩ := hz
      subst ha hb hc hd
      exact ⟨⟨z, c2, pr, c3, tn, a, b, c, d⟩, rfl, ⟨wz, w1, w2, w3, w4⟩⟩
theorem open_plan {P : Program} (hsp : ∀ b, sp b = true) (hP : P = Try.prog) {r : Reach} {b0 : Nat} {v : Value} {d : DataW H} {ps : List MemPlace} (hval : Value.okWide P w r b0 56 v) (hd : DataW.Trod enc P w base sp held 56 v d ps) :
    ∃ p : Pl, v = PLV p ∧ PlAt w p := by
  obtain ⟨fs, hfs⟩ : ∃ fs, P.underlying 56 = some (.struct fs) := ⟨_, by rw [hP]; exact Try.underlying56⟩
  have hz : ∀ fuel cs x, DataW.trod enc P w base sp held fuel 56 cs = some x → ∃ p : Pl, Value.agg cs.toArray = PLV p ∧ PlAt w p := fun fuel cs x h => by rw [hP] at h; exact plan_cells hsp h
  clear hP
  obtain ⟨cs, rfl, _⟩ := okWide_struct hfs hval
  obtain ⟨fuel, hf⟩ := hd
  obtain ⟨z, h1, h2⟩ := hz _ _ _ hf
  exact ⟨z, h1, h2⟩
end
end Go.Proofs.Ytbpcdmjjdnjmbaa
set_option linter.unusedVariables false
set_option maxRecDepth 4000
namespace Go.Proofs.Ytbpcdmjjdnjmbaa
open Go Go.RowKit Ul Vc
attribute [local irreducible] Go.Calls
def manyI (z : Zn) : Int := IntKind.i64.wrap ((z.cs.length : Int) + (z.nm.length : Int))
theorem many_any {w : World} {z : Zn} (h : Sps w z.v z.cs) : Calls Try.prog 26 #[ZV z.nm z.v] w (Vc.Ret (.int .i64 (manyI z)) w) := by
  obtain ⟨nm, v, cs⟩ := z
  simp only at h
  obtain ⟨b0, p0, x1, rfl, hb, hc⟩ := sps_form h
  refine vc_ullageref09_many p0 (cs.length : Int) x1 b0 nm w _ ?_
  refine ⟨by omega, sps_nb hb, ?_⟩
  rintro _ rfl _ rfl
  rfl
def grF {α : Type} (f : α → Int) (n0 : Int) (l : List α) : Int := l.foldl (fun n z => IntKind.i64.wrap (n + f z)) n0
def greatB (p : Pl) : Bool := decide (20 < p.prot.length) || decide (20 < p.towns.length) || decide (grF (fun t : Tn => manyI t.z) (grF manyI (manyI p.al) (p.prot.take 20)) (p.towns.take 20) > 2000)
theorem grF_step {α : Type} (f : α → Int) (n0 : Int) (l : List α) {i : Nat} {z : α} (hq : l[i]? = some z) : grF f n0 (l.take (i + 1)) = IntKind.i64.wrap (grF f n0 (l.take i) + f z) := by
  have et : l.take (i + 1) = l.take i ++ [z] := by rw [List.take_add_one, hq]; rfl
  rw [et]
  simp only [grF, List.foldl_append, List.foldl_cons, List.foldl_nil]
theorem great_any {w : World} {p : Pl} (h : PlAt w p) : Calls Try.prog 17 #[PLV p] w (Vc.Ret (.bool (greatB p)) w) := by
  have h0 := h
  obtain ⟨⟨anm, av, acs⟩, pv, prot, tv, towns, rate, pat, scat, hits⟩ := p
  obtain ⟨ha, hp, hps, ht, hts⟩ := h
  simp only at ha hp hps ht hts
  obtain ⟨b0, p0, x1, rfl, _, _⟩ := sps_form ha
  obtain ⟨b1, p1, x3, rfl, pb, pc⟩ := zns_form hp
  obtain ⟨b2, p2, x5, rfl, tb, tc⟩ := tns_form ht
  have pn : (¬ (b1 = true)) ∨ ((prot.length : Int) = 0) := sps_nb pb
  have tn : (¬ (b2 = true)) ∨ ((towns.length : Int) = 0) := sps_nb tb
  have leaf : ∀ x : Int, x = grF (fun t : Tn => manyI t.z) (grF manyI (manyI ⟨anm, .nilFunc, acs⟩) (prot.take 20)) (towns.take 20) →
      (0 ≤ (prot.length : Int)) ∧ ((¬ (b1 = true)) ∨ ((prot.length : Int) = 0)) ∧ ((20 < (prot.length : Int)) → ((.bool true : Value) = .bool (greatB (plit anm .nilFunc acs .nilFunc prot .nilFunc towns rate pat scat hits)))) ∧ (¬ (20 < (prot.length : Int)) → (
      (0 ≤ (towns.length : Int)) ∧ ((¬ (b2 = true)) ∨ ((towns.length : Int) = 0)) ∧ ((20 < (towns.length : Int)) → ((.bool true : Value) = .bool (greatB (plit anm .nilFunc acs .nilFunc prot .nilFunc towns rate pat scat hits)))) ∧ (¬ (20 < (towns.length : Int)) → (
      (.bool (decide (x > 2000)) : Value) = .bool (greatB (plit anm .nilFunc acs .nilFunc prot .nilFunc towns rate pat scat hits)))))) := by
    rintro x rfl
    refine ⟨by omega, pn, ?_⟩
    refine iteI (fun g => ?_) (fun g => ⟨by omega, tn, ?_⟩)
    · rw [show greatB (plit anm .nilFunc acs .nilFunc prot .nilFunc towns rate pat scat hits) = true by unfold greatB; rw [decide_eq_true (show 20 < prot.length by omega)]; rfl]
    refine iteI (fun g' => ?_) (fun g' => ?_)
    · rw [show greatB (plit anm .nilFunc acs .nilFunc prot .nilFunc towns rate pat scat hits) = true by unfold greatB; rw [decide_eq_true (show 20 < towns.length by omega)]; simp]
    · congr 1
      unfold greatB
      rw [decide_eq_false (show ¬ 20 < prot.length by omega), decide_eq_false (show ¬ 20 < towns.length by omega)]
      rfl
  refine vc_ullageref09_Great p0 p1 p2 (acs.length : Int) x1 (prot.length : Int) x3 (towns.length : Int) x5 rate pat scat hits b0 b1 b2 anm w _ ?_
  refine ⟨manyI ⟨anm, .nilFunc, acs⟩, fun w' hw => many_any (z := ⟨anm, _, acs⟩) (sps_below hw ha), ?_⟩
  -- the second loop
  have second : ∀ x : Int, x = grF manyI (manyI ⟨anm, .nilFunc, acs⟩) (prot.take 20) → ∃ (I : List Vc.Vl → Prop) (m : List Vc.Vl → Nat), I [.i x, .i 0] ∧ ∀ (x13 : Int) (x14 : Int), I [.i x13, .i x14] → (
      (0 ≤ (towns.length : Int)) ∧ ((¬ (b2 = true)) ∨ ((towns.length : Int) = 0)) ∧
      ((x14 < (towns.length : Int)) → (
      ((x14 < 20) → (
      (¬ (b2 = true)) ∧ (0 ≤ x14) ∧ (x14 < (towns.length : Int)) ∧
      ∃ (s1 : List UInt8), w.cell? ⟨p2.1, p2.2 + (Int.toNat x14) * 4 + 0, none⟩ = some (.string ⟨s1.toArray⟩) ∧
      ∃ (b3 : Bool) (p3 : Nat × Nat) (x15 x16 : Int), w.cell? ⟨p2.1, p2.2 + (Int.toNat x14) * 4 + 1, none⟩ = some ((if b3 = true then .slice none 0 0 else .slice (some (Vc.qad p3 (Int.toNat x15) (Int.toNat x16))) (Int.toNat x15) (Int.toNat x16) : Value)) ∧
      ∃ (x17 : Int), (∀ w' : World, Below w.heap.size w w' → Calls Try.prog 26 #[.agg #[.string ⟨s1.toArray⟩, (if b3 = true then .slice none 0 0 else .slice (some (Vc.qad p3 (Int.toNat x15) (Int.toNat x16))) (Int.toNat x15) (Int.toNat x16) : Value)]] w' (Vc.Ret (.int .i64 x17) w')) ∧
      ∀ x18 : Int, x18 = IntKind.i64.wrap (x13 + x17) →
      ∀ x19 : Int, x19 = IntKind.i64.wrap (x14 + 1) →
      I [.i x18, .i x19] ∧ m [.i x18, .i x19] < m [.i x13, .i x14])) ∧ (¬ (x14 < 20) → (
      (0 ≤ (prot.length : Int)) ∧ ((¬ (b1 = true)) ∨ ((prot.length : Int) = 0)) ∧ ((20 < (prot.length : Int)) → ((.bool true : Value) = .bool (greatB (plit anm .nilFunc acs .nilFunc prot .nilFunc towns rate pat scat hits)))) ∧ (¬ (20 < (prot.length : Int)) → (
      (0 ≤ (towns.length : Int)) ∧ ((¬ (b2 = true)) ∨ ((towns.length : Int) = 0)) ∧ ((20 < (towns.length : Int)) → ((.bool true : Value) = .bool (greatB (plit anm .nilFunc acs .nilFunc prot .nilFunc towns rate pat scat hits)))) ∧ (¬ (20 < (towns.length : Int)) → (
      (.bool (decide (x13 > 2000)) : Value) = .bool (greatB (plit anm .nilFunc acs .nilFunc prot .nilFunc towns rate pat scat hits)))))))))) ∧ (¬ (x14 < (towns.length : Int)) → (
      (0 ≤ (prot.length : Int)) ∧ ((¬ (b1 = true)) ∨ ((prot.length : Int) = 0)) ∧ ((20 < (prot.length : Int)) → ((.bool true : Value) = .bool (greatB (plit anm .nilFunc acs .nilFunc prot .nilFunc towns rate pat scat hits)))) ∧ (¬ (20 < (prot.length : Int)) → (
      (0 ≤ (towns.length : Int)) ∧ ((¬ (b2 = true)) ∨ ((towns.length : Int) = 0)) ∧ ((20 < (towns.length : Int)) → ((.bool true : Value) = .bool (greatB (plit anm .nilFunc acs .nilFunc prot .nilFunc towns rate pat scat hits)))) ∧ (¬ (20 < (towns.length : Int)) → (
      (.bool (decide (x13 > 2000)) : Value) = .bool (greatB (plit anm .nilFunc acs .nilFunc prot .nilFunc towns rate pat scat hits))))))))) := by
    rintro x rfl
    refine ⟨fun y => ∃ (i : Nat), i ≤ towns.length ∧ i ≤ 20 ∧ y = [.i (grF (fun t : Tn => manyI t.z) (grF manyI (manyI ⟨anm, .nilFunc, acs⟩) (prot.take 20)) (towns.take i)), .i (i : Int)], upK 1 (towns.length : Int), ⟨0, by omega, by omega, rfl⟩, ?_⟩
    rintro x13 x14 ⟨i, hi, hi20, hy⟩
    simp only [List.cons.injEq, Vc.Vl.i.injEq, and_true] at hy
    obtain ⟨rfl, rfl⟩ := hy
    refine ⟨by omega, tn, ?_⟩
    refine iteI (fun h5 => ?_) (fun h5 => leaf _ ?_)
    · refine iteI (fun h6 => ?_) (fun h6 => leaf _ ?_)
      · have hlt : i < towns.length := by omega
        have hq := List.getElem?_eq_getElem hlt
        have hm : towns[i] ∈ towns := List.getElem_mem hlt
        generalize towns[i] = z at hq hm
        have hz := hts z hm
        obtain ⟨c0, c1, c2, c3⟩ := tc i z hq
        obtain ⟨zb, zp, zx, zy, hv⟩ := zform hz
        rw [hv] at c1
        have tb0 : ¬ (b2 = true) := sps_nb0 tb (by omega)
        refine ⟨tb0, by omega, by omega, _, c0, _, _, _, _, c1, _, fun w' hw => by rw [← hv]; exact many_any (z := z.z) (sps_below hw hz), ?_⟩
        rintro _ rfl _ rfl
        rw [wrap_up i (by omega)]
        refine ⟨⟨i + 1, by omega, by omega, ?_⟩, by simp only [upK, List.getElem?_cons_zero, List.getElem?_cons_succ]; omega⟩
        rw [grF_step _ _ _ hq]
      · obtain rfl : i = 20 := by omega
        rfl
    · obtain rfl : i = towns.length := by omega
      rw [List.take_of_length_le (Nat.le_refl _), List.take_of_length_le hi20]
  refine ⟨fun y => ∃ (i : Nat), i ≤ prot.length ∧ i ≤ 20 ∧ y = [.i (grF manyI (manyI ⟨anm, .nilFunc, acs⟩) (prot.take i)), .i (i : Int)], upK 1 (prot.length : Int), ⟨0, by omega, by omega, rfl⟩, ?_⟩
  rintro x11 x12 ⟨i, hi, hi20, hy⟩
  simp only [List.cons.injEq, Vc.Vl.i.injEq, and_true] at hy
  obtain ⟨rfl, rfl⟩ := hy
  refine ⟨by omega, pn, ?_⟩
  refine iteI (fun h5 => ?_) (fun h5 => second _ ?_)
  · refine iteI (fun h6 => ?_) (fun h6 => second _ ?_)
    · have hlt : i < prot.length := by omega
      have hq := List.getElem?_eq_getElem hlt
      have hm : prot[i] ∈ prot := List.getElem_mem hlt
      generalize prot[i] = z at hq hm
      have hz := hps z hm
      obtain ⟨c0, c1⟩ := pc i z hq
      obtain ⟨zb, zp, zx, zy, hv⟩ := zform hz
      rw [hv] at c1
      have pb0 : ¬ (b1 = true) := sps_nb0 pb (by omega)
      refine ⟨pb0, by omega, by omega, _, c0, _, _, _, _, c1, _, fun w' hw => by rw [← hv]; exact many_any (z := z) (sps_below hw hz), ?_⟩
      rintro _ rfl _ rfl
      rw [wrap_up i (by omega)]
      refine ⟨⟨i + 1, by omega, by omega, ?_⟩, by simp only [upK, List.getElem?_cons_zero, List.getElem?_cons_succ]; omega⟩
      rw [grF_step _ _ _ hq]
    · obtain rfl : i = 20 := by omega
      rfl
  · obtain rfl : i = prot.length := by omega
    rw [List.take_of_length_le (Nat.le_refl _), List.take_of_length_le hi20]
end Go.Proofs.Ytbpcdmjjdnjmbaa
set_option linter.unusedVariables false
set_option maxRecDepth 4000
namespace Go.Proofs.Ytbpcdmjjdnjmbaa
open Go Go.RowKit Ul Vc
/-- left, exactly. -/
def lf (a b p : Sp) : Int := (b.1 - a.1) * (p.2 - a.2) - (b.2 - a.2) * (p.1 - a.1)
theorem lfw_eq {a b p : Sp} (ha : nearP a) (hb : nearP b) (hp : SpB 805306368 p) : lfw a b p = lf a b p := by
  unfold nearP at ha hb
  unfold SpB Bd at hp
  have m1 := mul_bd (a := b.1 - a.1) (b := p.2 - a.2) (A := 536870912) (B := 1073741824) (by unfold Bd; omega) (by unfold Bd; omega)
  have m2 := mul_bd (a := b.2 - a.2) (b := p.1 - a.1) (A := 536870912) (B := 1073741824) (by unfold Bd; omega) (by unfold Bd; omega)
  unfold Bd at m1 m2
  unfold lfw lf
  rw [Vc.i64_id (x := b.1 - a.1) (by omega), Vc.i64_id (x := p.2 - a.2) (by omega), Vc.i64_id (x := b.2 - a.2) (by omega), Vc.i64_id (x := p.1 - a.1) (by omega), Vc.i64_id (x := (b.1 - a.1) * (p.2 - a.2)) (by omega), Vc.i64_id (x := (b.2 - a.2) * (p.1 - a.1)) (by omega), Vc.i64_id (by omega)]
theorem spB_up {m n : Int} (h : m ≤ n) {s : Sp} (hs : SpB m s) : SpB n s := by unfold SpB Bd at *; omega
/-- A place in a rect. -/
def InRc (r : Rc) (s : Sp) : Prop := (r.1.1 ≤ s.1 ∧ s.1 ≤ r.2.1) ∧ (r.1.2 ≤ s.2 ∧ s.2 ≤ r.2.2)
/-- A linear number of a place in a rect is not less than that of one of its corners. -/
theorem lin_min (u v : Int) {lo hi x lo' hi' y : Int} (hx : lo ≤ x ∧ x ≤ hi) (hy : lo' ≤ y ∧ y ≤ hi') :
    (u * lo + v * lo' ≤ u * x + v * y) ∨ (u * hi + v * lo' ≤ u * x + v * y) ∨ (u * hi + v * hi' ≤ u * x + v * y) ∨ (u * lo + v * hi' ≤ u * x + v * y) := by
  by_cases hu : 0 ≤ u <;> by_cases hv : 0 ≤ v
  · have a := Int.mul_le_mul_of_nonneg_left hx.1 hu
    have b := Int.mul_le_mul_of_nonneg_left hy.1 hv
    exact .inl (by omega)
  · have a := Int.mul_le_mul_of_nonneg_left hx.1 hu
    have b := Int.mul_le_mul_of_nonpos_left (show v ≤ 0 by omega) hy.2
    exact .inr (.inr (.inr (by omega)))
  · have a := Int.mul_le_mul_of_nonpos_left (show u ≤ 0 by omega) hx.2
    have b := Int.mul_le_mul_of_nonneg_left hy.1 hv
    exact .inr (.inl (by omega))
  · have a := Int.mul_le_mul_of_nonpos_left (show u ≤ 0 by omega) hx.2
    have b := Int.mul_le_mul_of_nonpos_left (show v ≤ 0 by omega) hy.2
    exact .inr (.inr (.inl (by omega)))
theorem lf_lin (a b p : Sp) : lf a b p = (b.1 - a.1) * p.2 + (-(b.2 - a.2)) * p.1 + ((b.2 - a.2) * a.1 - (b.1 - a.1) * a.2) := by unfold lf; grind
/-- Where a number along a direction is greatest among the corners of a zone. -/
theorem max_at (f : Nat → Int) : ∀ n, 0 < n → ∃ m, m < n ∧ ∀ i, i < n → f i ≤ f m
  | 1, _ => ⟨0, by omega, fun i hi => by have : i = 0 := by omega
                                         subst this; omega⟩
  | n + 2, _ => by
    obtain ⟨m, hm, h⟩ := max_at f (n + 1) (by omega)
    by_cases hc : f m ≤ f (n + 1)
    · refine ⟨n + 1, by omega, fun i hi => ?_⟩
      by_cases hin : i = n + 1
      · subst hin; omega
      · have := h i (by omega); omega
    · refine ⟨m, by omega, fun i hi => ?_⟩
      by_cases hin : i = n + 1
      · subst hin; omega
      · exact h i (by omega)
/-- A place that a zone contains is not beyond all of its corners in any direction. -/
theorem ins_dir {k : Nat} {l : List Sp} (hz : ZoneP k l) {s : Sp} (hb : SpB 805306368 s) (hi : insB l s = true) (d : Sp) : ∃ p ∈ l, al d s ≤ al d p := by
  have hn := hz.2.1
  have hpos : 0 < l.length := by omega
  obtain ⟨m, hm, hmax⟩ := max_at (fun i => al d (sp l i)) l.length hpos
  have hmax' : ∀ i, al d (sp l i) ≤ al d (sp l m) := fun i => by
    have := hmax (i % l.length) (Nat.mod_lt _ hpos)
    have e : sp l (i % l.length) = sp l i := by unfold sp; rw [Nat.mod_mod]
    rwa [e] at this
  refine ⟨sp l m, sp_mem hpos, ?_⟩
  -- the edges before and behind it
  have e1 : m + (l.length - 1) + 1 = m + l.length := by omega
  have e2 : m + (l.length - 1) + 2 = m + 1 + l.length := by omega
  have hin := (of_decide_eq_true hi : InsP l s)
  have per : ∀ i, 0 ≤ lfw (sp l i) (sp l (i + 1)) s := fun i => by
    have := hin (i % l.length) (Nat.mod_lt _ hpos)
    have e : sp l (i % l.length) = sp l i := by unfold sp; rw [Nat.mod_mod]
    have e' : sp l (i % l.length + 1) = sp l (i + 1) := by unfold sp; rw [Nat.mod_add_mod]
    rwa [e, e'] at this
  have near : ∀ i, nearP (sp l i) := fun i => hz.2.2.1 _ (sp_mem hpos)
  have nbd : ∀ i, SpB 805306368 (sp l i) := fun i => by have := near i; unfold nearP at this; unfold SpB Bd; omega
  have t0 : rok l (m + (l.length - 1)) := (rok_mod l _).1 (hz.2.2.2.1 _ (Nat.mod_lt _ hpos))
  unfold rok at t0
  have p1 := per (m + (l.length - 1))
  have p2 := per m
  rw [e1, e2, sp_per, sp_per] at t0
  rw [e1, sp_per] at p1
  rw [lfw_eq (near _) (near _) (nbd _)] at t0
  rw [lfw_eq (near _) (near _) hb] at p1 p2
  have d1 := hmax' (m + (l.length - 1))
  have d2 := hmax' (m + 1)
  generalize sp l (m + (l.length - 1)) = a at *
  generalize sp l m = b at *
  generalize sp l (m + 1) = c at *
  -- u = b - a, v = c - b, x = s - b
  have key : ((b.1 - a.1) * (c.2 - b.2) - (b.2 - a.2) * (c.1 - b.1)) * (al d s - al d b) =
      ((s.1 - b.1) * (c.2 - b.2) - (s.2 - b.2) * (c.1 - b.1)) * (al d b - al d a) + ((b.1 - a.1) * (s.2 - b.2) - (b.2 - a.2) * (s.1 - b.1)) * (al d c - al d b) := by unfold al; grind
  have q0 : lf a b c = (b.1 - a.1) * (c.2 - b.2) - (b.2 - a.2) * (c.1 - b.1) := by unfold lf; grind
  have q1 : lf a b s = (b.1 - a.1) * (s.2 - b.2) - (b.2 - a.2) * (s.1 - b.1) := by unfold lf; grind
  have q2 : lf b c s = -((s.1 - b.1) * (c.2 - b.2) - (s.2 - b.2) * (c.1 - b.1)) := by unfold lf; grind
  rw [← q0, ← q1] at key
  have q3 : (s.1 - b.1) * (c.2 - b.2) - (s.2 - b.2) * (c.1 - b.1) = -lf b c s := by omega
  rw [q3] at key
  have m1 := Int.mul_nonneg p2 (show 0 ≤ al d b - al d a by omega)
  have m2 := Int.mul_nonneg p1 (show 0 ≤ al d b - al d c by omega)
  have m3 : lf a b s * (al d c - al d b) = -(lf a b s * (al d b - al d c)) := by grind
  rw [m3, Int.neg_mul] at key
  refine Decidable.byContradiction fun hn => ?_
  have := Int.mul_pos t0 (show 0 < al d s - al d b by omega)
  omega
theorem lin_crn {l : List Sp} {r : Rc} {d : Sp} (h : Sep d l (crn r) 0) {s : Sp} (hs : InRc r s) : ∀ p ∈ l, al d p < al d s := by
  intro p hp
  have q := fun c hc => h p hp c hc
  simp only [Int.zero_mul] at q
  have c1 := q r.1 (by simp [crn])
  have c2 := q (r.2.1, r.1.2) (by simp [crn])
  have c3 := q r.2 (by simp [crn])
  have c4 := q (r.1.1, r.2.2) (by simp [crn])
  unfold al at *
  simp only at c1 c2 c3 c4
  rcases lin_min d.1 d.2 hs.1 hs.2 with h | h | h | h <;> omega
/-- Apart: no place of the rect is in the zone. -/
theorem out_zone {k : Nat} {l : List Sp} {r : Rc} (hz : ZoneP k l) (ha : apB l (crn r) 0 = true) {s : Sp} (hb : SpB 805306368 s) (hs : InRc r s) : insB l s = false := by
  rw [Bool.eq_false_iff]
  intro hi
  obtain ⟨d, _, hd⟩ := (of_decide_eq_true ha : ApP l (crn r) 0)
  obtain ⟨p, hp, hle⟩ := ins_dir hz hb hi d
  have := lin_crn hd hs p hp
  omega
end Go.Proofs.Ytbpcdmjjdnjmbaa
set_option linter.unusedVariables false
set_option maxRecDepth 4000
namespace Go.Proofs.Ytbpcdmjjdnjmbaa
open Go Go.RowKit Ul Vc
attribute [local irreducible] Go.Calls
theorem cell_x {x : Nat} {w w' : World} {a : Addr} {u : Value} (hb : BelX x w w') (h : (hideB x w).cell? a = some u) : w'.cell? a = some u := by
  obtain ⟨h1, h2⟩ := hide_cell h
  rw [← h2]
  unfold World.cell?
  rw [hb.block a.block (World.block_lt_of_cell? _ _ h2) h1]
theorem sl_x {x sz : Nat} {w w' : World} {v : Value} {xs : List Value} (hb : BelX x w w') (h : SlAt (hideB x w) v sz xs) : SlAt w' v sz xs := by
  rcases h with h | h | ⟨b, o, len, cap, h1, h2, h3⟩
  · exact .inl h
  · exact .inr (.inl h)
  · exact .inr (.inr ⟨b, o, len, cap, h1, h2, fun j u hj => cell_x hb (h3 j u hj)⟩)
theorem sps_x {x : Nat} {w w' : World} {v : Value} {l : List Sp} (hb : BelX x w w') (h : Sps (hideB x w) v l) : Sps w' v l := sl_x hb h
structure Us where
  over : Bool
  known : Bool
  a : Rc
  d : Int
abbrev Vd := (Bool × Int × Bool × Rc) × Int
def noV (e : Int) : Vd := ((false, 0, false, ((0, 0), (0, 0))), e)
def judgeU (pat : Int) (u : Us) (k : Bool) (a : Rc) (wh : Int) : Vd × Us :=
  if wh = 1 then (((false, 0, k, a), 0), ⟨false, k, a, 0⟩)
  else if wh = 0 then (if pat < IntKind.i64.wrap (u.d + 1) then (((true, 2, k, a), 0), ⟨true, k, a, IntKind.i64.wrap (u.d + 1)⟩) else (((false, 0, k, a), 0), ⟨false, k, a, IntKind.i64.wrap (u.d + 1)⟩))
  else (((true, 1, k, a), 0), ⟨true, k, a, u.d⟩)
def nearR (r : Rc) : Rc := (nearS r.1, nearS r.2)
def stepU (rate pat : Int) (cs : List Sp) (u : Us) (r : Rc) (there : Bool) : Vd × Us :=
  if u.over = true then (noV 9, u)
  else if there = true then (if rectB r = true then judgeU pat u true r (sideI cs r) else (noV 2, u))
  else if u.known = true then judgeU pat u true (nearR (grown u.a rate)) (sideI cs (nearR (grown u.a rate)))
  else judgeU pat u false u.a 0
abbrev VdA (v : Vd) : Value := .agg #[.bool v.1.1, .int .i64 v.1.2.1, .bool v.1.2.2.1, .int .i64 v.1.2.2.2.1.1, .int .i64 v.1.2.2.2.1.2, .int .i64 v.1.2.2.2.2.1, .int .i64 v.1.2.2.2.2.2]
abbrev VdV (v : Vd) : Value := .tuple #[VdA v, .int .i64 v.2]
abbrev ucells (nm : List UInt8) (av : Value) (rate pat : Int) (made : Bool) (u : Us) : Array Value :=
  #[.string ⟨nm.toArray⟩, av, .int .i64 rate, .int .i64 pat, .bool made, .bool u.over, .bool u.known, .int .i64 u.a.1.1, .int .i64 u.a.1.2, .int .i64 u.a.2.1, .int .i64 u.a.2.2, .int .i64 u.d]
def UsB (u : Us) : Prop := u.known = true → SpB 536870912 u.a.1 ∧ SpB 536870912 u.a.2
theorem clip_bd (n : Int) : -536870912 ≤ clip n ∧ clip n ≤ 536870912 := by unfold clip; repeat' split <;> omega
theorem near_rc (r : Rc) : SpB 536870912 (nearR r).1 ∧ SpB 536870912 (nearR r).2 := by
  have a := clip_bd r.1.1
  have b := clip_bd r.1.2
  have c := clip_bd r.2.1
  have d := clip_bd r.2.2
  unfold nearR nearS SpB Bd; simp only; omega
theorem rc_up {r : Rc} (h : SpB 536870912 r.1 ∧ SpB 536870912 r.2) : RcB r := by
  unfold RcB SpB Bd at *; omega
theorem pTick {w : World} {xl k : Nat} {nm : List UInt8} {av : Value} {cs : List Sp} {rate pat : Int} (u : Us) (r : Rc) (there : Bool) (hx : w.heap[xl]? = some (.cells (ucells nm av rate pat true u) 112)) (hs : Sps (hideB xl w) av cs) (hz : ZoneP k cs)
    (hr : 0 ≤ rate ∧ rate ≤ 268435456) (hu : UsB u) :
    Calls Try.prog 19 #[Vc.ptr xl 0, RCV r, .bool there] w (Vc.Eff (VdV (stepU rate pat cs u r there).1) xl (ucells nm av rate pat true (stepU rate pat cs u r there).2) 112 w) := by
  have hs0 := hs
  obtain ⟨b0, p0, x1, rfl, _, _⟩ := sps_form hs
  obtain ⟨over, known, a, d⟩ := u
  refine vc___safety_Unit__Tick p0 (cs.length : Int) x1 rate pat a.1.1 a.1.2 a.2.1 a.2.2 d r.1.1 r.1.2 r.2.1 r.2.2 b0 true over known there nm xl w _ _ hx ?_
  refine iteI (fun _ => ?_) (fun h => absurd (by decide) h)
  cases over
  rotate_left
  · refine iteI (fun _ => ?_) (fun h => absurd (by decide) h)
    simp [stepU, noV]
  refine iteI (fun h => absurd h (by decide)) (fun _ => ?_)
  cases there
  · refine iteI (fun h => absurd h (by decide)) (fun _ => ?_)
    refine iteI (fun h => absurd h (by decide)) (fun _ => ?_)
    cases known
    · refine iteI (fun h => absurd h (by decide)) (fun _ => ?_)
      refine iteI (fun h => absurd h (by decide)) (fun _ => ?_)
      rintro _ rfl
      refine iteI (fun h1 => ?_) (fun h1 => ?_)
      · simp [stepU, judgeU, h1]
      · simp [stepU, judgeU, h1]
    · refine iteI (fun _ => ?_) (fun h => absurd (by decide) h)
      have hg : GrB a rate := ⟨hu rfl, hr⟩
      refine ⟨_, _, _, _, fun w' hw => pgrown hg w', ?_⟩
      refine ⟨_, _, fun w' hw => pnear (grown a rate).1 w', ?_⟩
      refine ⟨_, _, fun w' hw => pnear (grown a rate).2 w', ?_⟩
      refine iteI (fun _ => ?_) (fun h => absurd (by decide) h)
      refine ⟨_, fun w' hw => pside (nearR (grown a rate)) (sps_x hw hs) hz (rc_up (near_rc _)), ?_⟩
      refine iteI (fun h1 => ?_) (fun h1 => iteI (fun h2 => ?_) (fun h2 => ?_))
      · simp [stepU, judgeU, h1]
        exact ⟨rfl, rfl, rfl, rfl⟩
      · rintro _ rfl
        refine iteI (fun h3 => ?_) (fun h3 => ?_)
        · simp [stepU, judgeU, h1, h2, h3]
          exact ⟨rfl, rfl, rfl, rfl⟩
        · simp [stepU, judgeU, h1, h2, h3]
          exact ⟨rfl, rfl, rfl, rfl⟩
      · simp [stepU, judgeU, h1, h2]
        exact ⟨rfl, rfl, rfl, rfl⟩
  · refine iteI (fun _ => ?_) (fun h => absurd (by decide) h)
    refine ⟨_, fun w' hw => prect r w', ?_⟩
    refine iteI (fun hb => ?_) (fun hb => ?_)
    rotate_left
    · simp [stepU, hb, noV]
    refine iteI (fun _ => ?_) (fun h => absurd (by decide) h)
    refine ⟨_, fun w' hw => pside r (sps_x hw hs) hz (rectB_bd hb), ?_⟩
    refine iteI (fun h1 => ?_) (fun h1 => iteI (fun h2 => ?_) (fun h2 => ?_))
    · simp [stepU, judgeU, hb, h1]
    · rintro _ rfl
      refine iteI (fun h3 => ?_) (fun h3 => ?_)
      · simp [stepU, judgeU, hb, h1, h2, h3]
      · simp [stepU, judgeU, hb, h1, h2, h3]
    · simp [stepU, judgeU, hb, h1, h2]
theorem step_bd {rate pat : Int} {cs : List Sp} {u : Us} {r : Rc} {there : Bool} (hu : UsB u) : UsB (stepU rate pat cs u r there).2 := by
  have jb : ∀ k a wh, (k = true → SpB 536870912 a.1 ∧ SpB 536870912 a.2) → UsB (judgeU pat u k a wh).2 := fun k a wh h => by
    unfold judgeU
    repeat' split
    all_goals exact h
  unfold stepU
  repeat' split
  · exact hu
  · rename_i hb
    exact jb _ _ _ fun _ => by
      have := rectB_iff.1 hb
      unfold SpB Bd; omega
  · exact hu
  · exact jb _ _ _ fun _ => near_rc _
  · rename_i hk
    exact jb _ _ _ fun h => by cases h
end Go.Proofs.Ytbpcdmjjdnjmbaa
set_option linter.unusedVariables false
set_option maxRecDepth 8000
namespace Go.Proofs.Ytbpcdmjjdnjmbaa
open Go Go.RowKit Ul Vc
attribute [local irreducible] Go.Calls
theorem hide_ne {x b : Nat} {w : World} (h : b ≠ x) : (hideB x w).heap[b]? = w.heap[b]? := by
  unfold hideB
  exact Array.getElem?_setIfInBounds_ne (by omega)
theorem own_sps_x {lo b code n base x : Nat} {l : List Sp} {t t' : TypeId} {w : World} {xs : List Value} {c : Array Value} (h : RowOk lo b code n base xs 2 t w) (hx : xs = l.flatMap spc) (hc : w.heap[x]? = some (.cells c t')) (ht : t ≠ t') : Sps (hideB x w) (ownV b code n base) l := by
  refine own_sps (lo := lo) (t := t) (xs := xs) ?_ hx
  obtain ⟨h1, h2, h3⟩ := h
  refine ⟨h1, h2, ?_⟩
  rcases h3 with h3 | ⟨a1, a2, a3, a4, a5, cur, a6, a7, a8⟩
  · exact .inl h3
  · refine .inr ⟨a1, a2, a3, a4, a5, cur, ?_, a7, a8⟩
    rw [hide_ne]
    · exact a6
    · intro e
      subst e
      rw [a6] at hc
      simp only [Option.some.injEq, Obj.cells.injEq] at hc
      exact ht hc.2.1
def us0 : Us := ⟨false, false, ((0, 0), (0, 0)), 0⟩
theorem us0_bd : UsB us0 := fun h => by cases h
end Go.Proofs.Ytbpcdmjjdnjmbaa
set_option linter.unusedVariables false
set_option maxRecDepth 4000
namespace Go.Proofs.Ytbpcdmjjdnjmbaa
open Go Go.RowKit Ul Vc
attribute [local irreducible] Go.Calls
def contV (k : Nat) (l : List Sp) (s : Sp) : Bool := zoneB k l && inR s.1 (-536870912) 536870912 && inR s.2 (-536870912) 536870912 && insB l s
theorem pContains {w : World} {nm : List UInt8} {v : Value} {l : List Sp} (s : Sp) (h : Sps w v l) : Calls Try.prog 23 #[ZV nm v, SPV s] w (Vc.Ret (.bool (contV nm.length l s)) w) := by
  have h0 := h
  obtain ⟨b0, p0, x1, rfl, hb, hc⟩ := sps_form h
  refine vc_safety_Contains p0 (l.length : Int) x1 s.1 s.2 b0 nm w _ ?_
  refine ⟨_, fun w' hw => pzone (sps_below hw h0), ?_⟩
  refine iteI (fun h1 => ?_) (fun h1 => by simp [contV, h1])
  refine ⟨_, fun w' hw => pin_any _ _ _ _, ?_⟩
  refine iteI (fun h2 => ?_) (fun h2 => by simp [contV, h2])
  refine ⟨_, fun w' hw => pin_any _ _ _ _, ?_⟩
  refine iteI (fun h3 => ?_) (fun h3 => by simp [contV, h3])
  refine ⟨_, fun w' hw => pcont s (sps_below hw h0) (by have := (of_decide_eq_true h1 : ZoneP _ _).2.1; omega), ?_⟩
  simp [contV, h1, h2, h3]
theorem crn_in {r : Rc} (h : rectB r = true) : ∀ s ∈ crn r, InRc r s := by
  have h := rectB_iff.1 h
  intro s hs
  simp only [crn, List.mem_cons, List.not_mem_nil, or_false] at hs
  unfold InRc
  rcases hs with rfl | rfl | rfl | rfl <;> ((try simp only); omega)
theorem inRc_bd {r : Rc} {s : Sp} (h : rectB r = true) (hs : InRc r s) : SpB 536870912 s := by
  have := rectB_iff.1 h
  unfold InRc at hs
  unfold SpB Bd; omega
/-- All corners inside: each place inside. -/
theorem ins_all {k : Nat} {l : List Sp} {r : Rc} (hz : ZoneP k l) (hr : rectB r = true) (hc : ∀ c ∈ crn r, insB l c = true) {s : Sp} (hs : InRc r s) : insB l s = true := by
  refine decide_eq_true fun i hi => ?_
  have hpos : 0 < l.length := by omega
  have na := hz.2.2.1 _ (sp_mem (i := i) hpos)
  have nb := hz.2.2.1 _ (sp_mem (i := i + 1) hpos)
  rw [lfw_eq na nb (spB_up (by omega) (inRc_bd hr hs)), lf_lin]
  have corner : ∀ c ∈ crn r, 0 ≤ ((sp l (i + 1)).1 - (sp l i).1) * c.2 + (-((sp l (i + 1)).2 - (sp l i).2)) * c.1 + (((sp l (i + 1)).2 - (sp l i).2) * (sp l i).1 - ((sp l (i + 1)).1 - (sp l i).1) * (sp l i).2) := fun c hcm => by
    have := (of_decide_eq_true (hc c hcm) : InsP l c) i hi
    rwa [lfw_eq na nb (spB_up (by omega) (inRc_bd hr (crn_in hr c hcm))), lf_lin] at this
  have c1 := corner r.1 (by simp [crn])
  have c2 := corner (r.2.1, r.1.2) (by simp [crn])
  have c3 := corner r.2 (by simp [crn])
  have c4 := corner (r.1.1, r.2.2) (by simp [crn])
  simp only at c1 c2 c3 c4
  rcases lin_min ((sp l (i + 1)).1 - (sp l i).1) (-((sp l (i + 1)).2 - (sp l i).2)) hs.2 hs.1 with h | h | h | h <;> omega
/-- Outside: no place inside. -/
theorem out_all {k : Nat} {l : List Sp} {r : Rc} (hz : ZoneP k l) (hr : rectB r = true) (ha : apB l (crn r) 0 = true) {s : Sp} (hs : InRc r s) : insB l s = false :=
  out_zone hz ha (spB_up (by omega) (inRc_bd hr hs)) hs
theorem cont_side {k : Nat} {l : List Sp} {r : Rc} (hz : zoneB k l = true) (hr : rectB r = true) {s : Sp} (hs : InRc r s) : (sideI l r = 1 → contV k l s = true) ∧ (sideI l r = -1 → contV k l s = false) := by
  have hb := inRc_bd hr hs
  unfold SpB Bd at hb
  have e : contV k l s = insB l s := by
    unfold contV
    rw [hz, inR_iff.2 hb.1, inR_iff.2 hb.2]; rfl
  rw [e]
  unfold sideI
  split
  · rename_i h
    refine ⟨fun _ => ins_all (of_decide_eq_true hz) hr (fun c hc => ?_) hs, fun h => by cases h⟩
    simp only [crn, List.mem_cons, List.not_mem_nil, or_false] at hc
    rcases hc with rfl | rfl | rfl | rfl
    · exact h.1
    · exact h.2.1
    · exact h.2.2.1
    · exact h.2.2.2
  · split
    · rename_i ha
      exact ⟨(fun h => by cases h), fun _ => out_all (of_decide_eq_true hz) hr ha hs⟩
    · exact ⟨(fun h => by cases h), fun h => by cases h⟩
end Go.Proofs.Ytbpcdmjjdnjmbaa
set_option linter.unusedVariables false
set_option maxRecDepth 8000
namespace Go.Proofs.Ytbpcdmjjdnjmbaa
open Go Go.RowKit Ul Vc
attribute [local irreducible] Go.Calls
structure Mv where
  dx : Int
  dy : Int
  o0 : Int
  o1 : Int
  o2 : Int
  o3 : Int
  there : Bool
def mvc (m : Mv) : List Value := [.int .i64 m.dx, .int .i64 m.dy, .int .u16 m.o0, .int .u16 m.o1, .int .u16 m.o2, .int .u16 m.o3, .bool m.there]
theorem mvc_len (m : Mv) : (mvc m).length = 7 := rfl
def U16 (n : Int) : Prop := 0 ≤ n ∧ n ≤ 65535
def MvI (m : Mv) : Prop := (U16 m.o0 ∧ U16 m.o1) ∧ (U16 m.o2 ∧ U16 m.o3)
def stepP (rate : Int) (s : Sp) (m : Mv) : Sp := (s.1 + Int.tmod m.dx (rate + 1), s.2 + Int.tmod m.dy (rate + 1))
def recP (s : Sp) (m : Mv) : Rc := ((s.1 - m.o0, s.2 - m.o1), (s.1 + m.o2, s.2 + m.o3))
def posP (rate : Int) (at0 : Sp) (ms : List Mv) : Sp := ms.foldl (stepP rate) at0
def ptsP (rate : Int) : Sp → List Mv → List Sp
  | _, [] => []
  | s, m :: r => stepP rate s m :: ptsP rate (stepP rate s m) r
def rcsP (rate : Int) : Sp → List Mv → List Rc
  | _, [] => []
  | s, m :: r => recP (stepP rate s m) m :: rcsP rate (stepP rate s m) r
def rcc (r : Rc) : List Value := spc r.1 ++ spc r.2
theorem rcc_len (r : Rc) : (rcc r).length = 4 := rfl
theorem pts_len (rate : Int) : ∀ (ms : List Mv) (s : Sp), (ptsP rate s ms).length = ms.length
  | [], _ => rfl
  | m :: r, s => by simp [ptsP, pts_len rate r]
theorem rcs_len (rate : Int) : ∀ (ms : List Mv) (s : Sp), (rcsP rate s ms).length = ms.length
  | [], _ => rfl
  | m :: r, s => by simp [rcsP, rcs_len rate r]
theorem pts_snoc (rate : Int) (m : Mv) : ∀ (ms : List Mv) (s : Sp), ptsP rate s (ms ++ [m]) = ptsP rate s ms ++ [stepP rate (posP rate s ms) m]
  | [], _ => rfl
  | a :: r, s => by simp only [List.cons_append, ptsP, pts_snoc rate m r, posP, List.foldl_cons]
theorem rcs_snoc (rate : Int) (m : Mv) : ∀ (ms : List Mv) (s : Sp), rcsP rate s (ms ++ [m]) = rcsP rate s ms ++ [recP (stepP rate (posP rate s ms) m) m]
  | [], _ => rfl
  | a :: r, s => by simp only [List.cons_append, rcsP, rcs_snoc rate m r, posP, List.foldl_cons]
theorem pos_next {rate : Int} {at0 : Sp} {ms : List Mv} {i : Nat} {m : Mv} (h : ms[i]? = some m) : posP rate at0 (ms.take (i + 1)) = stepP rate (posP rate at0 (ms.take i)) m := by
  have : ms.take (i + 1) = ms.take i ++ [m] := by rw [List.take_add_one, h]; rfl
  rw [this]
  simp only [posP, List.foldl_append, List.foldl_cons, List.foldl_nil]
theorem pts_at {rate : Int} : ∀ {ms : List Mv} {at0 : Sp} {i : Nat} {m : Mv}, ms[i]? = some m → (ptsP rate at0 ms)[i]? = some (posP rate at0 (ms.take (i + 1)))
  | a :: r, s, 0, m, h => by simp [ptsP, posP]
  | a :: r, s, i + 1, m, h => by
    simp only [List.getElem?_cons_succ] at h
    simp only [ptsP, List.getElem?_cons_succ, List.take_succ_cons, posP, List.foldl_cons]
    exact pts_at h
theorem rcs_at {rate : Int} : ∀ {ms : List Mv} {at0 : Sp} {i : Nat} {m : Mv}, ms[i]? = some m → (rcsP rate at0 ms)[i]? = some (recP (posP rate at0 (ms.take (i + 1))) m)
  | a :: r, s, 0, m, h => by
    simp only [List.getElem?_cons_zero, Option.some.injEq] at h
    subst h
    simp [rcsP, posP]
  | a :: r, s, i + 1, m, h => by
    simp only [List.getElem?_cons_succ] at h
    simp only [rcsP, List.getElem?_cons_succ, List.take_succ_cons, posP, List.foldl_cons]
    exact rcs_at h
theorem tmod_bd {a n : Int} (h : 0 ≤ n) : Bd n (Int.tmod a (n + 1)) := by
  have h1 := Int.tmod_lt_of_pos a (show 0 < n + 1 by omega)
  have h2 := Int.tmod_lt_of_pos (-a) (show 0 < n + 1 by omega)
  rw [Int.neg_tmod] at h2
  unfold Bd; omega
theorem pos_bd {rate : Int} {at0 : Sp} (hr : 0 ≤ rate ∧ rate ≤ 1048576) (h0 : SpB 268435456 at0) {ms : List Mv} (hn : ms.length ≤ 100) : ∀ i : Nat, i ≤ ms.length → SpB (268435456 + 1048576 * (i : Int)) (posP rate at0 (ms.take i))
  | 0, _ => by simpa [posP] using h0
  | i + 1, hi => by
    have hq := List.getElem?_eq_getElem (show i < ms.length by omega)
    rw [pos_next hq]
    have ih := pos_bd hr h0 hn i (by omega)
    have a := tmod_bd (a := ms[i].dx) hr.1
    have b := tmod_bd (a := ms[i].dy) hr.1
    unfold SpB Bd stepP at *
    simp only
    push_cast
    omega
theorem rec_in {s : Sp} {m : Mv} (h : MvI m) : InRc (recP s m) s := by
  unfold MvI U16 at h
  unfold InRc recP; simp only; omega
theorem rec_ok {s : Sp} {m : Mv} (hb : SpB 536805376 s) (h : MvI m) : rectB (recP s m) = true := by
  refine rectB_iff.2 ?_
  unfold MvI U16 at h
  unfold SpB Bd at hb
  unfold recP; simp only; omega
theorem near_ok {a : Rc} {rate : Int} (ha : rectB a = true) (hr : 0 ≤ rate ∧ rate ≤ 268435456) : rectB (nearR (grown a rate)) = true := by
  have h := rectB_iff.1 ha
  refine rectB_iff.2 ?_
  unfold nearR nearS grown clip; simp only
  refine ⟨?_, ?_⟩ <;> (repeat' split) <;> omega
theorem near_in {a : Rc} {rate : Int} {s t : Sp} (hi : InRc a s) (hd : Bd rate (t.1 - s.1) ∧ Bd rate (t.2 - s.2)) (hb : SpB 536870912 t) : InRc (nearR (grown a rate)) t := by
  unfold InRc SpB Bd at *
  unfold nearR nearS grown clip; simp only
  refine ⟨?_, ?_⟩ <;> (repeat' split) <;> omega
theorem step_there {rate pat : Int} {cs : List Sp} {u : Us} {r : Rc} (ho : u.over = false) (hr : rectB r = true) : stepU rate pat cs u r true = judgeU pat u true r (sideI cs r) := by
  simp [stepU, ho, hr]
theorem step_blind {rate pat : Int} {cs : List Sp} {u : Us} {r : Rc} (ho : u.over = false) (hk : u.known = true) : stepU rate pat cs u r false = judgeU pat u true (nearR (grown u.a rate)) (sideI cs (nearR (grown u.a rate))) := by
  simp [stepU, ho, hk]
/-- What a tick says of what it knows. -/
def Told (pat : Int) (cs : List Sp) (u : Us) (a : Rc) (R : Vd × Us) : Prop :=
  (R.1.2 = 0 ∧ R.1.1.2.2.1 = true ∧ R.1.1.2.2.2 = a) ∧ (R.2.known = true ∧ R.2.a = a) ∧
  (R.1.1.1 = false → R.2.over = false ∧ (sideI cs a = 1 ∧ R.2.d = 0 ∨ sideI cs a = 0 ∧ R.2.d = IntKind.i64.wrap (u.d + 1) ∧ R.2.d ≤ pat)) ∧ (R.1.1.1 = true → sideI cs a ≠ 1)
theorem judge_told {pat : Int} {cs : List Sp} {u : Us} {a : Rc} : Told pat cs u a (judgeU pat u true a (sideI cs a)) := by
  unfold Told judgeU
  rcases sideI_cases cs a with h | h | h
  · simp [h]
  · simp [h]
  · simp only [h]
    by_cases hp : pat < IntKind.i64.wrap (u.d + 1)
    · simp [hp]
    · simp [hp]; omega
/-- What a unit knows of a true point. -/
structure Knw (u : Us) (s : Sp) : Prop where
  o : u.over = false
  k : u.known = true
  r : rectB u.a = true
  i : InRc u.a s
theorem told {rate pat : Int} {cs : List Sp} {u : Us} {s : Sp} {m : Mv} {there : Bool} (hr : 0 ≤ rate ∧ rate ≤ 268435456) (hm : MvI m) (hb : SpB 536805376 (stepP rate s m)) (ho : u.over = false) (hk : there = false → Knw u s) :
    ∃ a, rectB a = true ∧ InRc a (stepP rate s m) ∧ Told pat cs u a (stepU rate pat cs u (recP (stepP rate s m) m) there) := by
  cases there
  · have k := hk rfl
    refine ⟨nearR (grown u.a rate), near_ok k.r hr, near_in k.i ⟨?_, ?_⟩ (by unfold SpB Bd at *; omega), by rw [step_blind ho k.k]; exact judge_told⟩
    · have := tmod_bd (a := m.dx) hr.1
      unfold stepP Bd at *; simp only; omega
    · have := tmod_bd (a := m.dy) hr.1
      unfold stepP Bd at *; simp only; omega
  · exact ⟨_, rec_ok hb hm, rec_in hm, by rw [step_there ho (rec_ok hb hm)]; exact judge_told⟩
theorem told_knw {pat : Int} {cs : List Sp} {u : Us} {a : Rc} {R : Vd × Us} {s : Sp} (hr : rectB a = true) (hi : InRc a s) (h : Told pat cs u a R) (hd : R.1.1.1 = false) : Knw R.2 s := by
  obtain ⟨_, ⟨h1, h2⟩, h3, _⟩ := h
  exact ⟨(h3 hd).1, h1, by rw [h2]; exact hr, by rw [h2]; exact hi⟩
end Go.Proofs.Ytbpcdmjjdnjmbaa
set_option linter.unusedVariables false
set_option maxRecDepth 8000
namespace Go.Proofs.Ytbpcdmjjdnjmbaa
open Go Go.RowKit Ul Vc
attribute [local irreducible] Go.Calls
theorem mvs_form {w : World} {v : Value} {l : List Mv} (h : SlAt w v 7 (l.flatMap mvc)) : ∃ (b0 : Bool) (p0 : Nat × Nat) (x1 : Int), v = (if b0 = true then .slice none 0 0 else .slice (some (Vc.qad p0 (Int.toNat (l.length : Int)) (Int.toNat x1))) (Int.toNat (l.length : Int)) (Int.toNat x1)) ∧ (b0 = true → l.length = 0) ∧
    (∀ (i : Nat) (t : Mv), l[i]? = some t → w.cell? ⟨p0.1, p0.2 + i * 7 + 0, none⟩ = some (.int .i64 t.dx) ∧ w.cell? ⟨p0.1, p0.2 + i * 7 + 1, none⟩ = some (.int .i64 t.dy) ∧ w.cell? ⟨p0.1, p0.2 + i * 7 + 2, none⟩ = some (.int .u16 t.o0) ∧
      w.cell? ⟨p0.1, p0.2 + i * 7 + 3, none⟩ = some (.int .u16 t.o1) ∧ w.cell? ⟨p0.1, p0.2 + i * 7 + 4, none⟩ = some (.int .u16 t.o2) ∧ w.cell? ⟨p0.1, p0.2 + i * 7 + 5, none⟩ = some (.int .u16 t.o3) ∧ w.cell? ⟨p0.1, p0.2 + i * 7 + 6, none⟩ = some (.bool t.there)) := by
  obtain ⟨b0, p0, x1, h1, h2, h3⟩ := sl_form h (by decide) (flat_len mvc_len l)
  refine ⟨b0, p0, x1, h1, h2, fun i p hp => ?_⟩
  simp only [Nat.add_assoc]
  exact ⟨h3 (i * 7 + 0) _ (flat_at mvc_len hp (by decide)), h3 (i * 7 + 1) _ (flat_at mvc_len hp (by decide)), h3 (i * 7 + 2) _ (flat_at mvc_len hp (by decide)), h3 (i * 7 + 3) _ (flat_at mvc_len hp (by decide)), h3 (i * 7 + 4) _ (flat_at mvc_len hp (by decide)), h3 (i * 7 + 5) _ (flat_at mvc_len hp (by decide)), h3 (i * 7 + 6) _ (flat_at mvc_len hp (by decide))⟩
structure Wy where
  a : Sp
  v : Value
  ms : List Mv
def WyAt (w : World) (y : Wy) : Prop := SpI y.a ∧ SlAt w y.v 7 (y.ms.flatMap mvc) ∧ ∀ m ∈ y.ms, MvI m
abbrev WYV (y : Wy) : Value := .agg #[.int .i64 y.a.1, .int .i64 y.a.2, y.v]
end Go.Proofs.Ytbpcdmjjdnjmbaa
set_option linter.unusedVariables false
set_option maxRecDepth 8000
namespace Go.Proofs.Ytbpcdmjjdnjmbaa
open Go Go.RowKit Ul Vc
attribute [local irreducible] Go.Calls
theorem far_pts {k m : Nat} {a b : List Sp} {r : Int} (ha : ZoneP k a) (hb : ZoneP m b) (h : apB a b r = true) {q z : Sp} (bq : SpB 805306368 q) (bz : SpB 805306368 z) (iq : insB a q = true) (iz : insB b z = true) : ¬ (Bd r (z.1 - q.1) ∧ Bd r (z.2 - q.2)) := by
  rintro ⟨w1, w2⟩
  obtain ⟨d, hd, hs⟩ := (of_decide_eq_true h : ApP a b r)
  obtain ⟨p, hp, h1⟩ := ins_dir ha bq iq d
  obtain ⟨p', hp', h2⟩ := ins_dir hb bz iz (neg2 d)
  have h3 := hs p hp p' hp'
  have hbd : ∀ x : Int, Bd (sz x) x := fun x => by unfold Bd sz; split <;> omega
  have m1 := mul_bd (hbd d.1) w1
  have m2 := mul_bd (hbd d.2) w2
  unfold Bd at m1 m2
  unfold al neg2 at *
  simp only at h2
  have e1 : d.1 * (z.1 - q.1) + d.2 * (z.2 - q.2) = (d.1 * z.1 + d.2 * z.2) - (d.1 * q.1 + d.2 * q.2) := by grind
  have e2 : sz d.1 * r + sz d.2 * r = r * (sz d.1 + sz d.2) := by grind
  have e3 : ∀ t : Sp, -d.1 * t.1 + -d.2 * t.2 = -(d.1 * t.1 + d.2 * t.2) := fun t => by grind
  rw [e3, e3] at h2
  omega
theorem reach_eq {p : Pl} (hr : 0 ≤ p.rate ∧ p.rate ≤ 1048576) (hp : 0 ≤ p.pat ∧ p.pat ≤ 1000) (hs : 0 ≤ p.scat ∧ p.scat ≤ 268435456) : reach p = p.rate * (p.pat + 1) + p.scat := by
  have h1 : 0 ≤ p.rate * (p.pat + 1) := Int.mul_nonneg hr.1 (by omega)
  have h2 : p.rate * (p.pat + 1) ≤ 1048576 * 1001 := Int.mul_le_mul hr.2 (by omega) (by omega) (by omega)
  unfold reach
  rw [Vc.i64_id (x := p.pat + 1) (by omega), Vc.i64_id (x := p.rate * (p.pat + 1)) (by omega), Vc.i64_id (by omega)]
theorem clear_pt {p : Pl} (hP : PlanP p) (hc : (clearV p).1 = true) (hr : 0 ≤ p.rate ∧ p.rate ≤ 1048576) {q t : Sp} (bq : SpB 805306368 q) (bt : SpB 805306368 t) (iq : insB p.al.cs q = true)
    (hd : Bd (p.rate * (p.pat + 1) + p.scat) (t.1 - q.1) ∧ Bd (p.rate * (p.pat + 1) + p.scat) (t.2 - q.2)) {z : Zn} (hz : z ∈ p.prot) : contV z.nm.length z.cs t = false := by
  have hs := inR_iff.1 hP.2.2.2.2.2.1
  have hpp := inR_iff.1 hP.2.2.2.2.2.2.2
  rw [Bool.eq_false_iff]
  intro hi
  simp only [contV, Bool.and_eq_true] at hi
  unfold clearV at hc
  rw [if_pos (show planB p = true from decide_eq_true hP)] at hc
  have h1 := (of_decide_eq_true hc) z hz
  rw [reach_eq hr hpp hs] at h1
  unfold apV at h1
  rw [if_pos ⟨hP.1, hi.1.1.1⟩] at h1
  split at h1
  · simp only [Bool.and_eq_true] at h1
    exact far_pts (of_decide_eq_true hP.1 : ZoneP _ _) (of_decide_eq_true hi.1.1.1 : ZoneP _ _) h1.2 bq bt iq hi.2 hd
  · cases h1
set_option maxHeartbeats 2000000 in
theorem walk_safetyClears {w : World} {p : Pl} (h : PlAt w p) {y : Wy} (hy0 : WyAt w y) {dv : Value} {dl : List Sp} (hd0 : Sps w dv dl) : Calls Try.prog 9 #[PLV p, WYV y, dv] w (Vc.Ret (.bool true) w) := by
  have h0 := h
  obtain ⟨⟨anm, av, acs⟩, pv, prot, tv, towns, rate, pat, scat, hits⟩ := p
  obtain ⟨ha, hp, hps, ht, hts⟩ := h
  simp only at ha hp hps ht hts
  obtain ⟨b0, p0, x1, rfl, hb0, _⟩ := sps_form ha
  obtain ⟨b1, p1, x3, rfl, pb, pc⟩ := zns_form hp
  obtain ⟨b2, p2, x5, rfl, tb, tc⟩ := tns_form ht
  obtain ⟨⟨ax, ay⟩, yv, ms⟩ := y
  obtain ⟨hya, hyl, hym⟩ := hy0
  simp only at hya hyl hym
  obtain ⟨b3, p3, x13, rfl, hb3, hc3⟩ := mvs_form hyl
  have n3 : (¬ (b3 = true)) ∨ ((ms.length : Int) = 0) := sps_nb hb3
  obtain ⟨b4, p4, x15, rfl, hb4, hc4⟩ := sps_form hd0
  have n4 : (¬ (b4 = true)) ∨ ((dl.length : Int) = 0) := sps_nb hb4
  have pn1 : (¬ (b1 = true)) ∨ ((prot.length : Int) = 0) := sps_nb pb
  refine vc_ullagelaw09_SafetyClears p0 p1 p2 p3 p4 (acs.length : Int) x1 (prot.length : Int) x3 (towns.length : Int) x5 rate pat scat hits ax ay (ms.length : Int) x13 (dl.length : Int) x15 b0 b1 b2 b3 b4 anm w _ ?_
  refine ⟨_, fun w' hw => pplan (plAt_below hw h0), ?_⟩
  refine iteI (fun h5 => ?_) (fun _ => ?_)
  rotate_left
  · refine ⟨_, _, fun w' hw => pclear (plAt_below hw h0), _, fun w' hw => great_any (plAt_below hw h0), ?_⟩
    refine iteI (fun h => ⟨_, fun w' hw => awake_any _, rfl⟩) (fun h => ⟨by omega, n4, ?_⟩)
    exact iteI (fun h => ⟨_, fun w' hw => awake_any _, rfl⟩) (fun h => ⟨_, fun w' hw => awake_any _, rfl⟩)
  have hP := (of_decide_eq_true h5 : PlanP _)
  have hz := (of_decide_eq_true hP.1 : ZoneP _ _)
  have hr := inR_iff.1 hP.2.2.2.2.1
  have hpp := inR_iff.1 hP.2.2.2.2.2.2.2
  have hscat := inR_iff.1 hP.2.2.2.2.2.1
  have hpl := hP.2.1.1
  simp only at hz hr hpp hscat hpl
  have hlen : 3 ≤ acs.length ∧ acs.length ≤ 1000 := by have := hz.2.1; omega
  refine iteI (fun hb => absurd (hb0 hb) (by omega)) (fun hb => ?_)
  obtain ⟨L0, hL0⟩ := ov_list (f := spc) (fun a v hv => by
    simp only [spc, List.mem_cons, List.not_mem_nil, or_false] at hv
    rcases hv with rfl | rfl <;> rfl) acs
  refine ⟨L0, by rw [hL0]; exact ha, ?_⟩
  rintro x14 e14
  have hL1 : L0.length = acs.length * 2 := by
    have := congrArg List.length hL0
    rwa [List.length_map, flat_len spc_len] at this
  have hxs : (L0.map (·.1) ++ ([] : List Value)) = acs.flatMap spc := by rw [List.append_nil, hL0]
  refine ⟨by omega, ?_⟩
  refine ⟨_, _, fun w' hw => pclear (plAt_below hw h0), _, fun w' hw => great_any (plAt_below hw h0), ?_⟩
  refine iteI (fun h => ⟨_, fun w' hw => awake_any _, rfl⟩) (fun h1 => ⟨by omega, n4, ?_⟩)
  refine iteI (fun h => ⟨_, fun w' hw => awake_any _, rfl⟩) (fun h2 => ?_)
  refine iteI (fun _ => ?_) (fun h => ⟨_, fun w' hw => awake_any _, rfl⟩)
  refine iteI (fun hclear => ?_) (fun h => ⟨_, fun w' hw => awake_any _, rfl⟩)
  refine ⟨_, fun w' hw => pContains (nm := anm) (ax, ay) (sps_below hw ha), ?_⟩
  refine iteI (fun hin => ?_) (fun h => ⟨_, fun w' hw => awake_any _, rfl⟩)
  refine iteI (fun h => ?_) (fun g1 => iteI (fun h => ?_) (fun g2 => iteI (fun h => ?_) (fun g3 => iteI (fun h => ?_) (fun g4 => ⟨by omega, n3, iteI (fun h => ?_) (fun g5 => iteI (fun h => ?_) (fun g6 => ?_))⟩))))
  · refine ⟨fun y => y = [.b false, .i 0, .b false, .b false, .i 0, .i 0, .i 0, .i 0, .i 0], fun _ => 0, rfl, ?_⟩
    rintro b6 x15 b7 b8 x16 x17 x18 x19 x20 hy
    simp only [List.cons.injEq, Vc.Vl.i.injEq, Vc.Vl.b.injEq, and_true] at hy
    obtain ⟨rfl, rfl, rfl, rfl, rfl, rfl, rfl, rfl, rfl⟩ := hy
    exact iteI (fun h => absurd h (by decide)) (fun _ => ⟨_, fun w' hw => awake_any _, rfl⟩)
  · refine ⟨fun y => y = [.b false, .i 0, .b false, .b false, .i 0, .i 0, .i 0, .i 0, .i 0], fun _ => 0, rfl, ?_⟩
    rintro b6 x15 b7 b8 x16 x17 x18 x19 x20 hy
    simp only [List.cons.injEq, Vc.Vl.i.injEq, Vc.Vl.b.injEq, and_true] at hy
    obtain ⟨rfl, rfl, rfl, rfl, rfl, rfl, rfl, rfl, rfl⟩ := hy
    exact iteI (fun h => absurd h (by decide)) (fun _ => ⟨_, fun w' hw => awake_any _, rfl⟩)
  · refine ⟨fun y => y = [.b false, .i 0, .b false, .b false, .i 0, .i 0, .i 0, .i 0, .i 0], fun _ => 0, rfl, ?_⟩
    rintro b6 x15 b7 b8 x16 x17 x18 x19 x20 hy
    simp only [List.cons.injEq, Vc.Vl.i.injEq, Vc.Vl.b.injEq, and_true] at hy
    obtain ⟨rfl, rfl, rfl, rfl, rfl, rfl, rfl, rfl, rfl⟩ := hy
    exact iteI (fun h => absurd h (by decide)) (fun _ => ⟨_, fun w' hw => awake_any _, rfl⟩)
  · refine ⟨fun y => y = [.b false, .i 0, .b false, .b false, .i 0, .i 0, .i 0, .i 0, .i 0], fun _ => 0, rfl, ?_⟩
    rintro b6 x15 b7 b8 x16 x17 x18 x19 x20 hy
    simp only [List.cons.injEq, Vc.Vl.i.injEq, Vc.Vl.b.injEq, and_true] at hy
    obtain ⟨rfl, rfl, rfl, rfl, rfl, rfl, rfl, rfl, rfl⟩ := hy
    exact iteI (fun h => absurd h (by decide)) (fun _ => ⟨_, fun w' hw => awake_any _, rfl⟩)
  · refine ⟨fun y => y = [.b false, .i 0, .b false, .b false, .i 0, .i 0, .i 0, .i 0, .i 0], fun _ => 0, rfl, ?_⟩
    rintro b6 x15 b7 b8 x16 x17 x18 x19 x20 hy
    simp only [List.cons.injEq, Vc.Vl.i.injEq, Vc.Vl.b.injEq, and_true] at hy
    obtain ⟨rfl, rfl, rfl, rfl, rfl, rfl, rfl, rfl, rfl⟩ := hy
    exact iteI (fun h => absurd h (by decide)) (fun _ => ⟨_, fun w' hw => awake_any _, rfl⟩)
  · refine ⟨fun y => y = [.b false, .i 0, .b false, .b false, .i 0, .i 0, .i 0, .i 0, .i 0], fun _ => 0, rfl, ?_⟩
    rintro b6 x15 b7 b8 x16 x17 x18 x19 x20 hy
    simp only [List.cons.injEq, Vc.Vl.i.injEq, Vc.Vl.b.injEq, and_true] at hy
    obtain ⟨rfl, rfl, rfl, rfl, rfl, rfl, rfl, rfl, rfl⟩ := hy
    exact iteI (fun h => absurd h (by decide)) (fun _ => ⟨_, fun w' hw => awake_any _, rfl⟩)
  have hrate : 0 ≤ rate ∧ rate ≤ 1048576 := by omega
  have hrate' : 0 ≤ rate ∧ rate ≤ 268435456 := by omega
  have hat : SpB 268435456 (ax, ay) := by unfold SpB Bd; simp only; omega
  refine ⟨fun y => ∃ i : Nat, i ≤ ms.length ∧ y = [.l ((ptsP rate (ax, ay) (ms.take i)).flatMap spc), .l ((rcsP rate (ax, ay) (ms.take i)).flatMap rcc), .i (i : Int), .i (posP rate (ax, ay) (ms.take i)).1, .i (posP rate (ax, ay) (ms.take i)).2], upK 2 (ms.length : Int), ⟨0, by omega, rfl⟩, ?_⟩
  rintro l1 l2 x15 x16 x17 ⟨i, hi, hy⟩
  simp only [List.cons.injEq, Vc.Vl.i.injEq, Vc.Vl.l.injEq, and_true] at hy
  obtain ⟨e1, e2, rfl, rfl, rfl⟩ := hy
  rw [List.append_nil] at e1 e2
  have le1 : l1.length = i * 2 := by
    have := congrArg List.length e1
    rwa [List.length_map, flat_len spc_len, pts_len, List.length_take, Nat.min_eq_left hi] at this
  have le2 : l2.length = i * 4 := by
    have := congrArg List.length e2
    rwa [List.length_map, flat_len rcc_len, rcs_len, List.length_take, Nat.min_eq_left hi] at this
  refine ⟨by omega, n3, ?_⟩
  refine iteI (fun hlt => ?_) (fun hge => ?_)
  · have hq := List.getElem?_eq_getElem (show i < ms.length by omega)
    generalize ms[i] = m at hq
    obtain ⟨c0, c1, c2, c3, c4, c5, c6⟩ := hc3 i m hq
    have nb3 : ¬ (b3 = true) := sps_nb0 hb3 (by omega)
    have hm : MvI m := hym m (List.mem_of_getElem? hq)
    have sb := pos_bd (ms := ms) hrate hat (by omega) i (by omega)
    have sb' := pos_bd (ms := ms) hrate hat (by omega) (i + 1) (by omega)
    rw [pos_next hq] at sb'
    have et : ms.take (i + 1) = ms.take i ++ [m] := by rw [List.take_add_one, hq]; rfl
    have tx := tmod_bd (a := m.dx) hrate.1
    have ty := tmod_bd (a := m.dy) hrate.1
    unfold SpB Bd stepP at sb'
    unfold SpB Bd at sb
    unfold Bd at tx ty
    unfold MvI U16 at hm
    simp only at sb'
    refine ⟨nb3, by omega, by omega, _, c0, _, c1, _, c2, _, c3, _, c4, _, c5, _, c6, ?_⟩
    rintro x24 e24
    rw [Vc.i64_id (by omega)] at e24
    subst e24
    refine ⟨by omega, ?_⟩
    rintro x25 e25 x26 e26 x27 e27
    rw [Vc.i64_id (by omega)] at e27
    subst e27
    refine ⟨by omega, ?_⟩
    rintro x28 e28 x29 e29 x30 e30
    subst e25 e28
    rw [Vc.i64_id (by omega)] at e26 e29
    subst e26 e29
    refine ⟨by omega, ?_⟩
    rintro x31 e31 x32 e32 x33 e33 x34 e34 x35 e35 x36 e36 x37 e37 x38 e38 x39 e39
    rw [Vc.i64_id (by omega)] at e31 e33 e35 e37
    subst e31 e33 e35 e37
    rw [Vc.i64_id (by omega)] at e32 e34 e36 e38
    subst e32 e34 e36 e38
    refine ⟨by omega, ?_⟩
    rintro x40 e40
    rw [Vc.i64_id (by omega)] at e40
    subst e40
    refine ⟨⟨i + 1, by omega, ?_⟩, by simp only [upK, List.getElem?_cons_succ, List.getElem?_cons_zero]; omega⟩
    rw [e1, e2, pos_next hq, et, pts_snoc, rcs_snoc, List.flatMap_append, List.flatMap_append]
    rfl
  obtain rfl : i = ms.length := by omega
  rw [List.take_of_length_le (Nat.le_refl _)] at e1 e2
  rw [List.append_nil, List.append_nil, List.append_nil]
  simp only [contV, Bool.and_eq_true] at hin
  refine ⟨fun y => ∃ (j : Nat) (u : Us), j ≤ ms.length ∧ UsB u ∧ u.over = false ∧ (0 < j → Knw u (posP rate (ax, ay) (ms.take j))) ∧ (0 ≤ u.d ∧ u.d ≤ pat) ∧ (∃ q, insB acs q = true ∧ SpB 536870912 q ∧ Bd (rate * u.d) ((posP rate (ax, ay) (ms.take j)).1 - q.1) ∧ Bd (rate * u.d) ((posP rate (ax, ay) (ms.take j)).2 - q.2)) ∧ y = [.b false, .i (j : Int), .b u.over, .b u.known, .i u.a.1.1, .i u.a.1.2, .i u.a.2.1, .i u.a.2.2, .i u.d], upK 1 (ms.length : Int), ⟨0, us0, by omega, us0_bd, rfl, fun h => absurd h (by omega), ⟨Int.le_refl _, hpp.1⟩, ⟨(ax, ay), hin.2, by unfold SpB Bd at *; omega, by unfold Bd posP us0; simp⟩, rfl⟩, ?_⟩
  rintro b6 x18 b7 b8 x19 x20 x21 x22 x23 ⟨j, u, hj, hub, huo, huk, hud, ⟨q, iq, bq, hqd⟩, hy⟩
  simp only [List.cons.injEq, Vc.Vl.i.injEq, Vc.Vl.b.injEq, and_true] at hy
  obtain ⟨rfl, rfl, rfl, rfl, rfl, rfl, rfl, rfl, rfl⟩ := hy
  rintro x24 e24
  refine iteI (fun hlt => ?_) (fun _ => ⟨_, fun w' hw => awake_any _, rfl⟩)
  rintro x25 e25
  have hjl : j < ms.length := by omega
  have hq := List.getElem?_eq_getElem hjl
  generalize ms[j] = m at hq
  obtain ⟨c0, c1, c2, c3, c4, c5, c6⟩ := hc3 j m hq
  have nb3 : ¬ (b3 = true) := sps_nb0 hb3 (by omega)
  have hm : MvI m := hym m (List.mem_of_getElem? hq)
  have hrc := rcs_at (rate := rate) (at0 := (ax, ay)) hq
  have hpt := pts_at (rate := rate) (at0 := (ax, ay)) hq
  have sb' := pos_bd (ms := ms) hrate hat (by omega) (j + 1) (by omega)
  have hpn := pos_next (rate := rate) (at0 := (ax, ay)) hq
  have hsb : SpB 536805376 (stepP rate (posP rate (ax, ay) (ms.take j)) m) := by
    rw [← hpn]
    unfold SpB Bd at *; omega
  rw [hpn] at hrc hpt
  rw [e2]
  refine ⟨by omega, by omega, _, flat_at rcc_len hrc (by decide), _, flat_at rcc_len hrc (by decide), _, flat_at rcc_len hrc (by decide), _, flat_at rcc_len hrc (by decide), ?_⟩
  refine iteI (fun hj0 => ?_) (fun hj0 => ?_)
  · have hT := told (rate := rate) (pat := pat) (cs := acs) (u := u) (s := posP rate (ax, ay) (ms.take j)) (m := m) (there := true) hrate' hm hsb huo (by first | exact fun h => absurd h (by decide) | exact fun _ => huk (by omega))
    obtain ⟨a, hra, hia, hT⟩ := hT
    have hub' := step_bd (rate := rate) (pat := pat) (cs := acs) (r := recP (stepP rate (posP rate (ax, ay) (ms.take j)) m) m) (there := true) hub
    refine ⟨_, _, _, _, _, _, _, _, _, _, _, _, _, _, _, fun β w' hw hm' => pTick (nm := anm) (cs := acs) (rate := rate) (pat := pat) u (recP (stepP rate (posP rate (ax, ay) (ms.take j)) m) m) true hm'.1.2 (own_sps_x (l := acs) hm'.2.1 hL0 hm'.1.2 (by decide)) hz hr hub, ?_⟩
    generalize stepU rate pat acs u (recP (stepP rate (posP rate (ax, ay) (ms.take j)) m) m) true = R at hT hub' ⊢
    have hkn := fun hd => told_knw hra hia hT hd
    obtain ⟨⟨t1, t2, t3⟩, ⟨t4, t5⟩, t6, t7⟩ := hT
    refine iteI (fun _ => ?_) (fun h => absurd t1 h)
    by_cases hd : R.1.1.1 = true
    · refine iteI (fun _ => ?_) (fun h => absurd hd h)
      have hqn : Bd (rate * (pat + 1)) ((stepP rate (posP rate (ax, ay) (ms.take j)) m).1 - q.1) ∧ Bd (rate * (pat + 1)) ((stepP rate (posP rate (ax, ay) (ms.take j)) m).2 - q.2) := by
        have tx := tmod_bd (a := m.dx) hrate.1
        have ty := tmod_bd (a := m.dy) hrate.1
        have e1 : rate * (u.d + 1) = rate * u.d + rate := by grind
        have e2 : rate * (u.d + 1) ≤ rate * (pat + 1) := Int.mul_le_mul_of_nonneg_left (by omega) hrate.1
        unfold Bd stepP at *
        simp only
        omega
      refine ⟨fun y => ∃ k : Nat, k ≤ dl.length ∧ y = [.b false, .i (k : Int)], upK 1 (dl.length : Int), ⟨0, by omega, rfl⟩, ?_⟩
      rintro b16 x43 ⟨k, hk, hy⟩
      simp only [List.cons.injEq, Vc.Vl.i.injEq, Vc.Vl.b.injEq, and_true] at hy
      obtain ⟨rfl, rfl⟩ := hy
      refine ⟨by omega, n4, iteI (fun hkl => ?_) (fun _ => ⟨_, fun w' hw => awake_any _, rfl⟩)⟩
      rintro x44 e44
      rw [e1]
      have hdq := List.getElem?_eq_getElem (show k < dl.length by omega)
      generalize dl[k] = db at hdq
      obtain ⟨d0, d1⟩ := hc4 k db hdq
      have nb4 : ¬ (b4 = true) := sps_nb0 hb4 (by omega)
      refine ⟨by omega, by omega, _, flat_at spc_len hpt (by decide), nb4, by omega, by omega, _, d0, ?_⟩
      rintro x47 e47
      rw [Vc.i64_id (by omega)] at e47
      subst e47
      refine ⟨by omega, ?_⟩
      rintro x48 e48 x49 e49 x50 e50
      refine ⟨by omega, by omega, _, flat_at spc_len hpt (by decide), nb4, by omega, by omega, _, d1, ?_⟩
      rintro x53 e53
      rw [Vc.i64_id (by omega)] at e53
      subst e53
      refine ⟨by omega, ?_⟩
      rintro x54 e54 x55 e55
      have tx := tmod_bd (a := db.1) hscat.1
      have ty := tmod_bd (a := db.2) hscat.1
      have bs1 := hsb.1
      have bs2 := hsb.2
      rw [← e48] at tx
      rw [← e54] at ty
      have hx : x49 = (stepP rate (posP rate (ax, ay) (ms.take j)) m).1 + x48 := by
        rw [e49]; unfold Bd at *; exact Vc.i64_id (by omega)
      have hy : x55 = (stepP rate (posP rate (ax, ay) (ms.take j)) m).2 + x54 := by
        rw [e55]; unfold Bd at *; exact Vc.i64_id (by omega)
      have btt : SpB 805306368 (x49, x55) := by unfold SpB Bd at *; simp only; omega
      have hdt : Bd (rate * (pat + 1) + scat) (x49 - q.1) ∧ Bd (rate * (pat + 1) + scat) (x55 - q.2) := by unfold Bd at *; omega
      refine ⟨fun y => ∃ n : Nat, n ≤ prot.length ∧ y = [.b false, .i (n : Int)], upK 1 (prot.length : Int), ⟨0, by omega, rfl⟩, ?_⟩
      rintro b17 x56 ⟨n, hn, hy'⟩
      simp only [List.cons.injEq, Vc.Vl.i.injEq, Vc.Vl.b.injEq, and_true] at hy'
      obtain ⟨rfl, rfl⟩ := hy'
      refine ⟨by omega, pn1, iteI (fun hnl => ?_) (fun _ => ?_)⟩
      · have hzq := List.getElem?_eq_getElem (show n < prot.length by omega)
        have hzm : prot[n] ∈ prot := List.getElem_mem (by omega)
        generalize prot[n] = z at hzq hzm
        have hzz := hps z hzm
        obtain ⟨z0, z1⟩ := pc n z hzq
        obtain ⟨zb, zp, zx, zy, hzv⟩ := zform hzz
        rw [hzv] at z1
        have pb0 : ¬ (b1 = true) := sps_nb0 pb (by omega)
        refine ⟨pb0, by omega, by omega, _, z0, _, _, _, _, z1, ?_⟩
        refine ⟨_, fun w' hw => by rw [← hzv]; exact pContains (nm := z.nm) (x49, x55) (sps_below hw hzz), ?_⟩
        have hcz := clear_pt (p := ⟨⟨anm, .nilFunc, acs⟩, .nilFunc, prot, .nilFunc, towns, rate, pat, scat, hits⟩) hP hclear hrate (by unfold SpB Bd at *; omega) btt iq hdt hzm
        rw [hcz]
        refine iteI (fun h => absurd h (by decide)) (fun _ => ?_)
        rintro x59 e59
        rw [Vc.i64_id (by omega)] at e59
        subst e59
        exact ⟨⟨n + 1, by omega, rfl⟩, by simp only [upK, List.getElem?_cons_succ, List.getElem?_cons_zero]; omega⟩
      · rintro x57 e57
        rw [Vc.i64_id (by omega)] at e57
        subst e57
        exact ⟨⟨k + 1, by omega, rfl⟩, by simp only [upK, List.getElem?_cons_succ, List.getElem?_cons_zero]; omega⟩
    have hd' : R.1.1.1 = false := by simpa using hd
    obtain ⟨tov, tdd⟩ := t6 hd'
    have hcs := cont_side (l := acs) hP.1 hra hia
    have hdw : IntKind.i64.wrap (u.d + 1) = u.d + 1 := Vc.i64_id (by omega)
    rw [hdw] at tdd
    refine iteI (fun h => absurd h hd) (fun _ => ?_)
    rintro x43 e43
    rw [Vc.i64_id (by omega)] at e43
    subst e43
    refine ⟨⟨j + 1, R.2, by omega, hub', tov, fun _ => by rw [hpn]; exact hkn hd', ?_, ?_, rfl⟩, ?_⟩
    · rcases tdd with ⟨_, h2⟩ | ⟨_, h2, h3⟩ <;> omega
    · rw [hpn]
      rcases tdd with ⟨h1, h2⟩ | ⟨h1, h2, h3⟩
      · have hc := hcs.1 h1
        simp only [contV, Bool.and_eq_true] at hc
        refine ⟨_, hc.2, by unfold SpB Bd at *; omega, ?_⟩
        rw [h2]
        unfold Bd; omega
      · refine ⟨q, iq, bq, ?_⟩
        have tx := tmod_bd (a := m.dx) hrate.1
        have ty := tmod_bd (a := m.dy) hrate.1
        have e1 : rate * (u.d + 1) = rate * u.d + rate := by grind
        rw [h2]
        unfold Bd stepP at *
        simp only
        omega
    · simp only [upK, List.getElem?_cons_succ, List.getElem?_cons_zero]; omega
  · refine ⟨nb3, by omega, by omega, _, c6, ?_⟩
    have hT := told (rate := rate) (pat := pat) (cs := acs) (u := u) (s := posP rate (ax, ay) (ms.take j)) (m := m) (there := m.there) hrate' hm hsb huo (by first | exact fun h => absurd h (by decide) | exact fun _ => huk (by omega))
    obtain ⟨a, hra, hia, hT⟩ := hT
    have hub' := step_bd (rate := rate) (pat := pat) (cs := acs) (r := recP (stepP rate (posP rate (ax, ay) (ms.take j)) m) m) (there := m.there) hub
    refine ⟨_, _, _, _, _, _, _, _, _, _, _, _, _, _, _, fun β w' hw hm' => pTick (nm := anm) (cs := acs) (rate := rate) (pat := pat) u (recP (stepP rate (posP rate (ax, ay) (ms.take j)) m) m) m.there hm'.1.2 (own_sps_x (l := acs) hm'.2.1 hL0 hm'.1.2 (by decide)) hz hr hub, ?_⟩
    generalize stepU rate pat acs u (recP (stepP rate (posP rate (ax, ay) (ms.take j)) m) m) m.there = R at hT hub' ⊢
    have hkn := fun hd => told_knw hra hia hT hd
    obtain ⟨⟨t1, t2, t3⟩, ⟨t4, t5⟩, t6, t7⟩ := hT
    refine iteI (fun _ => ?_) (fun h => absurd t1 h)
    by_cases hd : R.1.1.1 = true
    · refine iteI (fun _ => ?_) (fun h => absurd hd h)
      have hqn : Bd (rate * (pat + 1)) ((stepP rate (posP rate (ax, ay) (ms.take j)) m).1 - q.1) ∧ Bd (rate * (pat + 1)) ((stepP rate (posP rate (ax, ay) (ms.take j)) m).2 - q.2) := by
        have tx := tmod_bd (a := m.dx) hrate.1
        have ty := tmod_bd (a := m.dy) hrate.1
        have e1 : rate * (u.d + 1) = rate * u.d + rate := by grind
        have e2 : rate * (u.d + 1) ≤ rate * (pat + 1) := Int.mul_le_mul_of_nonneg_left (by omega) hrate.1
        unfold Bd stepP at *
        simp only
        omega
      refine ⟨fun y => ∃ k : Nat, k ≤ dl.length ∧ y = [.b false, .i (k : Int)], upK 1 (dl.length : Int), ⟨0, by omega, rfl⟩, ?_⟩
      rintro b16 x43 ⟨k, hk, hy⟩
      simp only [List.cons.injEq, Vc.Vl.i.injEq, Vc.Vl.b.injEq, and_true] at hy
      obtain ⟨rfl, rfl⟩ := hy
      refine ⟨by omega, n4, iteI (fun hkl => ?_) (fun _ => ⟨_, fun w' hw => awake_any _, rfl⟩)⟩
      rintro x44 e44
      rw [e1]
      have hdq := List.getElem?_eq_getElem (show k < dl.length by omega)
      generalize dl[k] = db at hdq
      obtain ⟨d0, d1⟩ := hc4 k db hdq
      have nb4 : ¬ (b4 = true) := sps_nb0 hb4 (by omega)
      refine ⟨by omega, by omega, _, flat_at spc_len hpt (by decide), nb4, by omega, by omega, _, d0, ?_⟩
      rintro x47 e47
      rw [Vc.i64_id (by omega)] at e47
      subst e47
      refine ⟨by omega, ?_⟩
      rintro x48 e48 x49 e49 x50 e50
      refine ⟨by omega, by omega, _, flat_at spc_len hpt (by decide), nb4, by omega, by omega, _, d1, ?_⟩
      rintro x53 e53
      rw [Vc.i64_id (by omega)] at e53
      subst e53
      refine ⟨by omega, ?_⟩
      rintro x54 e54 x55 e55
      have tx := tmod_bd (a := db.1) hscat.1
      have ty := tmod_bd (a := db.2) hscat.1
      have bs1 := hsb.1
      have bs2 := hsb.2
      rw [← e48] at tx
      rw [← e54] at ty
      have hx : x49 = (stepP rate (posP rate (ax, ay) (ms.take j)) m).1 + x48 := by
        rw [e49]; unfold Bd at *; exact Vc.i64_id (by omega)
      have hy : x55 = (stepP rate (posP rate (ax, ay) (ms.take j)) m).2 + x54 := by
        rw [e55]; unfold Bd at *; exact Vc.i64_id (by omega)
      have btt : SpB 805306368 (x49, x55) := by unfold SpB Bd at *; simp only; omega
      have hdt : Bd (rate * (pat + 1) + scat) (x49 - q.1) ∧ Bd (rate * (pat + 1) + scat) (x55 - q.2) := by unfold Bd at *; omega
      refine ⟨fun y => ∃ n : Nat, n ≤ prot.length ∧ y = [.b false, .i (n : Int)], upK 1 (prot.length : Int), ⟨0, by omega, rfl⟩, ?_⟩
      rintro b17 x56 ⟨n, hn, hy'⟩
      simp only [List.cons.injEq, Vc.Vl.i.injEq, Vc.Vl.b.injEq, and_true] at hy'
      obtain ⟨rfl, rfl⟩ := hy'
      refine ⟨by omega, pn1, iteI (fun hnl => ?_) (fun _ => ?_)⟩
      · have hzq := List.getElem?_eq_getElem (show n < prot.length by omega)
        have hzm : prot[n] ∈ prot := List.getElem_mem (by omega)
        generalize prot[n] = z at hzq hzm
        have hzz := hps z hzm
        obtain ⟨z0, z1⟩ := pc n z hzq
        obtain ⟨zb, zp, zx, zy, hzv⟩ := zform hzz
        rw [hzv] at z1
        have pb0 : ¬ (b1 = true) := sps_nb0 pb (by omega)
        refine ⟨pb0, by omega, by omega, _, z0, _, _, _, _, z1, ?_⟩
        refine ⟨_, fun w' hw => by rw [← hzv]; exact pContains (nm := z.nm) (x49, x55) (sps_below hw hzz), ?_⟩
        have hcz := clear_pt (p := ⟨⟨anm, .nilFunc, acs⟩, .nilFunc, prot, .nilFunc, towns, rate, pat, scat, hits⟩) hP hclear hrate (by unfold SpB Bd at *; omega) btt iq hdt hzm
        rw [hcz]
        refine iteI (fun h => absurd h (by decide)) (fun _ => ?_)
        rintro x59 e59
        rw [Vc.i64_id (by omega)] at e59
        subst e59
        exact ⟨⟨n + 1, by omega, rfl⟩, by simp only [upK, List.getElem?_cons_succ, List.getElem?_cons_zero]; omega⟩
      · rintro x57 e57
        rw [Vc.i64_id (by omega)] at e57
        subst e57
        exact ⟨⟨k + 1, by omega, rfl⟩, by simp only [upK, List.getElem?_cons_succ, List.getElem?_cons_zero]; omega⟩
    have hd' : R.1.1.1 = false := by simpa using hd
    obtain ⟨tov, tdd⟩ := t6 hd'
    have hcs := cont_side (l := acs) hP.1 hra hia
    have hdw : IntKind.i64.wrap (u.d + 1) = u.d + 1 := Vc.i64_id (by omega)
    rw [hdw] at tdd
    refine iteI (fun h => absurd h hd) (fun _ => ?_)
    rintro x43 e43
    rw [Vc.i64_id (by omega)] at e43
    subst e43
    refine ⟨⟨j + 1, R.2, by omega, hub', tov, fun _ => by rw [hpn]; exact hkn hd', ?_, ?_, rfl⟩, ?_⟩
    · rcases tdd with ⟨_, h2⟩ | ⟨_, h2, h3⟩ <;> omega
    · rw [hpn]
      rcases tdd with ⟨h1, h2⟩ | ⟨h1, h2, h3⟩
      · have hc := hcs.1 h1
        simp only [contV, Bool.and_eq_true] at hc
        refine ⟨_, hc.2, by unfold SpB Bd at *; omega, ?_⟩
        rw [h2]
        unfold Bd; omega
      · refine ⟨q, iq, bq, ?_⟩
        have tx := tmod_bd (a := m.dx) hrate.1
        have ty := tmod_bd (a := m.dy) hrate.1
        have e1 : rate * (u.d + 1) = rate * u.d + rate := by grind
        rw [h2]
        unfold Bd stepP at *
        simp only
        omega
    · simp only [upK, List.getElem?_cons_succ, List.getElem?_cons_zero]; omega
end Go.Proofs.Ytbpcdmjjdnjmbaa
set_option linter.unusedVariables false
set_option maxRecDepth 4000
namespace Go.Proofs.Ytbpcdmjjdnjmbaa
open Go Go.RowKit Go.ChangeShapes Go.WideShapes Go.ChangeAt Go.Joins Go.Deep Ul Vc
theorem wf16 {n : Int} (h : (Lit.int .u16 n).wf = true) : U16 n := by
  simp only [Lit.wf, Bool.and_eq_true, decide_eq_true_eq] at h
  exact h
section
variable {H : Type} {enc : TypeId × Value → H} {w : World} {base : Nat} {sp : Nat → Bool} {held : Bool}
theorem off_cells {fuel : Nat} {cs : List Value} {x : DataW H × List MemPlace} (h : DataW.trod enc Try.prog w base sp held fuel 71 cs = some x) : ∃ a b c d : Int, cs = [.int .u16 a, .int .u16 b, .int .u16 c, .int .u16 d] ∧ (U16 a ∧ U16 b) ∧ U16 c ∧ U16 d := by
  obtain ⟨xs, m, _, _, hl, hlen, hf⟩ := DataW.trod_array Try.underlying71 h
  have e1 : Try.prog.cellsOf 38 = 1 := by kernel_rfl
  have e2 : Try.prog.cellsOf 71 = 4 := by kernel_rfl
  rw [e2] at hl
  simp only [e1] at hf
  match cs, hl with
  | [c0, c1, c2, c3], _ =>
    match xs, hlen with
    | [y0, y1, y2, y3], _ =>
      have h0 := hf 0 (by omega)
      have h1 := hf 1 (by omega)
      have h2 := hf 2 (by omega)
      have h3 := hf 3 (by omega)
      simp only [List.getElem?_cons_zero, List.getElem?_cons_succ] at h0 h1 h2 h3
      obtain ⟨a, ha, _, wa⟩ := DataW.trod_int Try.underlying38 h0
      obtain ⟨b, hb, _, wb⟩ := DataW.trod_int Try.underlying38 h1
      obtain ⟨c, hc, _, wc⟩ := DataW.trod_int Try.underlying38 h2
      obtain ⟨d, hd, _, wd⟩ := DataW.trod_int Try.underlying38 h3
      simp at ha hb hc hd
      exact ⟨a, b, c, d, by rw [ha, hb, hc, hd], ⟨wf16 wa, wf16 wb⟩, wf16 wc, wf16 wd⟩
theorem move_cells {fuel : Nat} {cs : List Value} {x : DataW H × List MemPlace} (h : DataW.trod enc Try.prog w base sp held fuel 73 cs = some x) : ∃ m : Mv, cs = mvc m ∧ MvI m := by
  obtain ⟨xs, n, _, _, hl, hlen, hf⟩ := DataW.trod_struct Try.underlying73 h
  have e1 : Try.prog.cellsOf 3 = 1 := by kernel_rfl
  have e2 : Try.prog.cellsOf 71 = 4 := by kernel_rfl
  have e3 : Try.prog.cellsOf 73 = 7 := by kernel_rfl
  have e4 : Try.prog.cellsOf 4 = 1 := by kernel_rfl
  rw [e3] at hl
  match xs, hlen with
  | [y0, y1, y2, y3], _ =>
    match cs, hl with
    | [c0, c1, c2, c3, c4, c5, c6], _ =>
      have g0 := hf 0 _ rfl
      have g1 := hf 1 _ rfl
      have g2 := hf 2 _ rfl
      have g3 := hf 3 _ rfl
      simp [e1, e2, e4] at g0 g1 g2 g3
      obtain ⟨a, ha, _, _⟩ := DataW.trod_int Try.underlying3 g0
      obtain ⟨b, hb, _, _⟩ := DataW.trod_int Try.underlying3 g1
      obtain ⟨o0, o1, o2, o3, ho, hu⟩ := off_cells g2
      obtain ⟨t, ht, _⟩ := DataW.trod_bool Try.underlying4 g3
      simp at ha hb ho ht
      obtain ⟨rfl, rfl, rfl, rfl⟩ := ho
      subst ha hb ht
      exact ⟨⟨a, b, o0, o1, o2, o3, t⟩, rfl, hu⟩
theorem moves_sl {P : Program} (hsp : ∀ b, sp b = true) (hP : P = Try.prog) {fuel : Nat} {v : Value} {cs : List Value} {x : DataW H × List MemPlace} (h : DataW.trod enc P w base sp held fuel 57 cs = some x) (hcs : cs = [v]) : ∃ l : List Mv, SlAt w v 7 (l.flatMap mvc) ∧ ∀ m ∈ l, MvI m := by
  subst hcs
  have hu : P.underlying 57 = some (.slice 73) := by rw [hP]; kernel_rfl
  have hc : P.cellsOf 73 = 7 := by rw [hP]; kernel_rfl
  have hE : ∀ fuel cs x, DataW.trod enc P w base sp held fuel 73 cs = some x → ∃ a, cs = mvc a ∧ MvI a := fun fuel cs x h => by rw [hP] at h; exact move_cells h
  clear hP
  exact sl_of hsp hu hc (by omega) mvc_len hE h
theorem way_cells (hsp : ∀ b, sp b = true) {fuel : Nat} {cs : List Value} {x : DataW H × List MemPlace} (h : DataW.trod enc Try.prog w base sp held fuel 59 cs = some x) : ∃ y : Wy, cs = [.int .i64 y.a.1, .int .i64 y.a.2, y.v] ∧ WyAt w y := by
  obtain ⟨y0, y1, n, _, hl, h0, h1⟩ := trod_struct2 Try.underlying59 h
  have e1 : Try.prog.cellsOf 57 = 1 := by kernel_rfl
  have e2 : Try.prog.cellsOf 34 = 2 := by kernel_rfl
  have e3 : Try.prog.cellsOf 59 = 3 := by kernel_rfl
  rw [e3] at hl
  simp only [e1, e2] at h0 h1
  match cs, hl with
  | [c0, c1, c2], _ =>
    obtain ⟨a, ha, wa⟩ := spot_cells h0
    obtain ⟨l, w1, w2⟩ := moves_sl hsp rfl h1 rfl
    simp [spc] at ha
    obtain ⟨rfl, rfl⟩ := ha
    exact ⟨⟨a, c2, l⟩, rfl, wa, w1, w2⟩
theorem open_way {P : Program} (hsp : ∀ b, sp b = true) (hP : P = Try.prog) {r : Reach} {b0 : Nat} {v : Value} {d : DataW H} {ps : List MemPlace} (hval : Value.okWide P w r b0 59 v) (hd : DataW.Trod enc P w base sp held 59 v d ps) :
    ∃ y : Wy, v = WYV y ∧ WyAt w y := by
  obtain ⟨fs, hfs⟩ : ∃ fs, P.underlying 59 = some (.struct fs) := ⟨_, by rw [hP]; exact Try.underlying59⟩
  have hz : ∀ fuel cs x, DataW.trod enc P w base sp held fuel 59 cs = some x → ∃ y : Wy, cs = [.int .i64 y.a.1, .int .i64 y.a.2, y.v] ∧ WyAt w y := fun fuel cs x h => by rw [hP] at h; exact way_cells hsp h
  clear hP
  obtain ⟨cs, rfl, _⟩ := okWide_struct hfs hval
  obtain ⟨fuel, hf⟩ := hd
  obtain ⟨z, h1, h2⟩ := hz _ _ _ hf
  refine ⟨z, ?_, h2⟩
  have : cs = #[.int .i64 z.a.1, .int .i64 z.a.2, z.v] := by
    apply Array.ext'
    exact h1
  rw [this]
end
end Go.Proofs.Ytbpcdmjjdnjmbaa
set_option linter.unusedVariables false
set_option maxRecDepth 4000
namespace Go.Proofs.Ytbpcdmjjdnjmbaa
open Go Go.RowKit Go.ChangeShapes Go.WideShapes Go.ChangeAt Go.Joins Go.Deep Ul Vc
section
variable {H : Type} {enc : TypeId × Value → H} {w : World} {base : Nat} {sp : Nat → Bool} {held : Bool}
theorem pair_cells {fuel : Nat} {cs : List Value} {x : DataW H × List MemPlace} (h : DataW.trod enc Try.prog w base sp held fuel 83 cs = some x) : ∃ p : Sp, cs = spc p ∧ True := by
  obtain ⟨xs, m, _, _, hl, hlen, hf⟩ := DataW.trod_array Try.underlying83 h
  have e1 : Try.prog.cellsOf 3 = 1 := by kernel_rfl
  have e2 : Try.prog.cellsOf 83 = 2 := by kernel_rfl
  rw [e2] at hl
  simp only [e1] at hf
  match cs, hl with
  | [c0, c1], _ =>
    match xs, hlen with
    | [y0, y1], _ =>
      have h0 := hf 0 (by omega)
      have h1 := hf 1 (by omega)
      simp only [List.getElem?_cons_zero, List.getElem?_cons_succ] at h0 h1
      obtain ⟨a, ha, _, wa⟩ := DataW.trod_int Try.underlying3 h0
      obtain ⟨b, hb, _, wb⟩ := DataW.trod_int Try.underlying3 h1
      simp at ha hb
      exact ⟨(a, b), by rw [ha, hb]; rfl, trivial⟩
theorem pairs_sl {P : Program} (hsp : ∀ b, sp b = true) (hP : P = Try.prog) {fuel : Nat} {v : Value} {cs : List Value} {x : DataW H × List MemPlace} (h : DataW.trod enc P w base sp held fuel 81 cs = some x) (hcs : cs = [v]) : ∃ l : List Sp, Sps w v l := by
  subst hcs
  have hu : P.underlying 81 = some (.slice 83) := by rw [hP]; kernel_rfl
  have hc : P.cellsOf 83 = 2 := by rw [hP]; kernel_rfl
  have hE : ∀ fuel cs x, DataW.trod enc P w base sp held fuel 83 cs = some x → ∃ a, cs = spc a ∧ True := fun fuel cs x h => by rw [hP] at h; exact pair_cells h
  clear hP
  obtain ⟨l, h1, _⟩ := sl_of hsp hu hc (by omega) spc_len hE h
  exact ⟨l, h1⟩
theorem open_debris {P : Program} (hsp : ∀ b, sp b = true) (hP : P = Try.prog) {r : Reach} {b0 : Nat} {v : Value} {d : DataW H} {ps : List MemPlace} (hval : Value.okWide P w r b0 81 v) (hd : DataW.Trod enc P w base sp held 81 v d ps) :
    ∃ l : List Sp, Sps w v l := by
  have hu : P.underlying 81 = some (.slice 83) := by rw [hP]; kernel_rfl
  obtain ⟨a', len', cap', rfl⟩ := okWide_slice hu hval
  obtain ⟨fuel, hf⟩ := hd
  exact pairs_sl hsp hP hf rfl
end
end Go.Proofs.Ytbpcdmjjdnjmbaa
