/- Contracts of the layer, as far as they are wanted (written by program out of the templates). -/
import Derived.Test.YtpjajgeajncdgaaFkA
import Derived.Test.YtpjajgeajncdgaaFkG3
import Derived.WalkKit
import Derived.ProofKit
import Derived.OpenShut
import Derived.Lib.SmallJoins
set_option linter.unusedVariables false
set_option linter.unusedSimpArgs false
namespace Go.Proofs.Ytpjajgeajncdgaa
open Go Go.RowKit Ul Vc
attribute [local irreducible] Go.Calls
theorem wrap_up (i : Nat) (h : i < 1000000) : IntKind.i64.wrap ((i : Int) + 1) = ((i + 1 : Nat) : Int) := by rw [Vc.i64_id (by omega)]; omega
theorem nxt (i n : Nat) (hi : i < 1000000) : Int.tmod (IntKind.i64.wrap ((i : Int) + 1)) (n : Int) = (((i + 1) % n : Nat) : Int) := by
  rw [wrap_up i hi]; exact (Int.ofNat_tmod _ _).symm
/-- The k-th of a loop's variables counts up. -/
def upK (k : Nat) (n : Int) (l : List Vc.Vl) : Nat :=
  match l[k]? with
  | some (.i x) => (n - x).toNat
  | _ => 0
abbrev Sp := Int × Int
def spc (p : Sp) : List Value := [.int .i64 p.1, .int .i64 p.2]
theorem spc_len (p : Sp) : (spc p).length = 2 := rfl
abbrev SPV (p : Sp) : Value := .agg #[.int .i64 p.1, .int .i64 p.2]
/-- A list of places, at a slice. -/
def Sps (w : World) (v : Value) (l : List Sp) : Prop := SlAt w v 2 (l.flatMap spc)
/-- The place with a number, taken round. -/
def sp (l : List Sp) (i : Nat) : Sp := l.getD (i % l.length) (0, 0)
theorem sp_at {l : List Sp} {i : Nat} (h : 0 < l.length) : l[i % l.length]? = some (sp l i) := by
  have := Nat.mod_lt i h
  unfold sp
  rw [List.getD_eq_getElem?_getD, List.getElem?_eq_getElem this]; rfl
theorem sp_per (l : List Sp) (i : Nat) : sp l (i + l.length) = sp l i := by unfold sp; rw [Nat.add_mod_right]
theorem sp_mem {l : List Sp} {i : Nat} (h : 0 < l.length) : sp l i ∈ l := List.mem_of_getElem? (sp_at h)
theorem sps_form {w : World} {v : Value} {l : List Sp} (h : Sps w v l) : ∃ (b0 : Bool) (p0 : Nat × Nat) (x1 : Int), v = (if b0 = true then .slice none 0 0 else .slice (some (Vc.qad p0 (Int.toNat (l.length : Int)) (Int.toNat x1))) (Int.toNat (l.length : Int)) (Int.toNat x1)) ∧ (b0 = true → l.length = 0) ∧
    (∀ (i : Nat) (p : Sp), l[i]? = some p → w.cell? ⟨p0.1, p0.2 + i * 2 + 0, none⟩ = some (.int .i64 p.1) ∧ w.cell? ⟨p0.1, p0.2 + i * 2 + 1, none⟩ = some (.int .i64 p.2)) := by
  obtain ⟨b0, p0, x1, h1, h2, h3⟩ := sl_form h (by decide) (flat_len spc_len l)
  refine ⟨b0, p0, x1, h1, h2, fun i p hp => ?_⟩
  simp only [Nat.add_assoc]
  exact ⟨h3 (i * 2 + 0) _ (flat_at spc_len hp (by decide)), h3 (i * 2 + 1) _ (flat_at spc_len hp (by decide))⟩
theorem sps_nb {b0 : Bool} {n : Nat} (h : b0 = true → n = 0) : (¬ (b0 = true)) ∨ ((n : Int) = 0) := by
  by_cases hb0 : b0 = true
  · right; have := h hb0; omega
  · left; exact hb0
theorem sps_nb0 {b0 : Bool} {n : Nat} (h : b0 = true → n = 0) (hn : 0 < n) : ¬ (b0 = true) := fun hb => by have := h hb; omega
theorem sps_below {v : Value} {l : List Sp} {w w' : World} (hb : Below w.heap.size w w') (h : Sps w v l) : Sps w' v l := sl_below hb h
def inR (n a b : Int) : Bool := decide (a ≤ n) && decide (n ≤ b)
theorem inR_iff {n a b : Int} : inR n a b = true ↔ a ≤ n ∧ n ≤ b := by simp [inR]
theorem pin_any (n a b : Int) (w : World) : Calls Try.prog 22 #[.int .i64 n, .int .i64 a, .int .i64 b] w (Vc.Ret (.bool (inR n a b)) w) := by
  refine vc_safety_within _ _ _ w _ ?_
  refine iteI (fun h => ?_) (fun h => ?_) <;> simp [inR, h]
/-- left, as it is reckoned. -/
def lfw (a b p : Sp) : Int :=
  IntKind.i64.wrap (IntKind.i64.wrap (IntKind.i64.wrap (b.1 - a.1) * IntKind.i64.wrap (p.2 - a.2)) - IntKind.i64.wrap (IntKind.i64.wrap (b.2 - a.2) * IntKind.i64.wrap (p.1 - a.1)))
theorem pleft_any (a b p : Sp) (w : World) : Calls Try.prog 41 #[SPV a, SPV b, SPV p] w (Vc.Ret (.int .i64 (lfw a b p)) w) := by
  refine vc_safety_left _ _ _ _ _ _ w _ ?_
  rintro _ rfl _ rfl _ rfl _ rfl _ rfl _ rfl _ rfl
  rfl
def upB (a b : Sp) : Bool := decide (a.2 < b.2) || (decide (b.2 = a.2) && decide (a.1 < b.1))
theorem pup_any (a b : Sp) (w : World) : Calls Try.prog 39 #[SPV a, SPV b] w (Vc.Ret (.bool (upB a b)) w) := by
  refine vc_safety_CheckZone_3 _ _ _ _ w _ ?_
  refine iteI (fun h => ?_) (fun h => ?_)
  · simp [upB, h]
  · refine iteI (fun h1 => ?_) (fun h1 => ?_) <;> simp [upB, h, h1]
def nearP (p : Sp) : Prop := (-268435456 ≤ p.1 ∧ p.1 ≤ 268435456) ∧ (-268435456 ≤ p.2 ∧ p.2 ≤ 268435456)
instance (p : Sp) : Decidable (nearP p) := inferInstanceAs (Decidable (_ ∧ _))
def rok (l : List Sp) (j : Nat) : Prop := 0 < lfw (sp l j) (sp l (j + 1)) (sp l (j + 2))
def rchg (l : List Sp) (j : Nat) : Nat := if upB (sp l j) (sp l (j + 1)) = upB (sp l (j + 1)) (sp l (j + 2)) then 0 else 1
def pok (l : List Sp) (j : Nat) : Prop := 0 < lfw (sp l (j + (l.length - 1))) (sp l j) (sp l (j + 1))
def pchg (l : List Sp) (j : Nat) : Nat := if upB (sp l (j + (l.length - 1))) (sp l j) = upB (sp l j) (sp l (j + 1)) then 0 else 1
instance (l : List Sp) (j : Nat) : Decidable (rok l j) := inferInstanceAs (Decidable (_ < _))
def sumTo (g : Nat → Nat) : Nat → Nat
  | 0 => 0
  | n + 1 => sumTo g n + g n
theorem sumTo_shift (g : Nat → Nat) : ∀ n, sumTo (fun i => g (i + 1)) n + g 0 = sumTo g n + g n
  | 0 => rfl
  | n + 1 => by have := sumTo_shift g n; simp only [sumTo] at *; omega
theorem sumTo_per {g : Nat → Nat} {n : Nat} (h : ∀ i, g (i + n) = g i) : ∀ k, sumTo (fun i => g (i + k)) n = sumTo g n
  | 0 => rfl
  | k + 1 => by
    have h1 := sumTo_shift (fun i => g (i + k)) n
    have h2 := sumTo_per h k
    have h3 := h k
    rw [Nat.add_comm k n] at h3
    have e : (fun i => g (i + (k + 1))) = fun i => g (i + 1 + k) := by funext i; congr 1; omega
    rw [e]
    simp only [Nat.zero_add] at h1
    omega
theorem sumTo_congr {f g : Nat → Nat} : ∀ {n : Nat}, (∀ i, i < n → f i = g i) → sumTo f n = sumTo g n
  | 0, _ => rfl
  | n + 1, h => by simp only [sumTo]; rw [sumTo_congr fun i hi => h i (by omega), h n (by omega)]
/-- Is a zone valid? -/
def ZoneP (k : Nat) (l : List Sp) : Prop := (1 ≤ k ∧ k ≤ 32) ∧ (3 ≤ l.length ∧ l.length ≤ 16) ∧ (∀ p ∈ l, nearP p) ∧ (∀ i, i < l.length → rok l i) ∧ sumTo (rchg l) l.length = 2
instance (k : Nat) (l : List Sp) : Decidable (ZoneP k l) := inferInstanceAs (Decidable (_ ∧ _ ∧ _ ∧ _ ∧ _))
def zoneB (k : Nat) (l : List Sp) : Bool := decide (ZoneP k l)
theorem zoneB_yes {k : Nat} {l : List Sp} (h : ZoneP k l) : zoneB k l = true := decide_eq_true h
theorem zoneB_no {k : Nat} {l : List Sp} (h : ¬ ZoneP k l) : zoneB k l = false := decide_eq_false h
theorem pok_iff {l : List Sp} (h : 0 < l.length) (j : Nat) : pok l j ↔ rok l (j + (l.length - 1)) := by
  have e1 : j + (l.length - 1) + 1 = j + l.length := by omega
  have e2 : j + (l.length - 1) + 2 = (j + 1) + l.length := by omega
  unfold pok rok
  rw [e1, e2, sp_per, sp_per]
theorem pchg_eq {l : List Sp} (h : 0 < l.length) (j : Nat) : pchg l j = rchg l (j + (l.length - 1)) := by
  have e1 : j + (l.length - 1) + 1 = j + l.length := by omega
  have e2 : j + (l.length - 1) + 2 = (j + 1) + l.length := by omega
  unfold pchg rchg
  rw [e1, e2, sp_per, sp_per]
theorem rchg_per (l : List Sp) (i : Nat) : rchg l (i + l.length) = rchg l i := by
  have e1 : i + l.length + 1 = i + 1 + l.length := by omega
  have e2 : i + l.length + 2 = i + 2 + l.length := by omega
  unfold rchg
  rw [e1, e2, sp_per, sp_per, sp_per]
theorem rok_mod (l : List Sp) (i : Nat) : rok l (i % l.length) ↔ rok l i := by
  have e : ∀ k, sp l (i % l.length + k) = sp l (i + k) := fun k => by unfold sp; rw [Nat.mod_add_mod]
  unfold rok
  have e0 := e 0
  simp only [Nat.add_zero] at e0
  rw [e0, e 1, e 2]
theorem pchg_sum {l : List Sp} (h : 0 < l.length) : sumTo (pchg l) l.length = sumTo (rchg l) l.length := by
  rw [sumTo_congr (g := fun i => rchg l (i + (l.length - 1))) fun i _ => pchg_eq h i]
  exact sumTo_per (rchg_per l) _
theorem pok_all {l : List Sp} (h : 0 < l.length) : (∀ i, i < l.length → pok l i) ↔ ∀ i, i < l.length → rok l i := by
  constructor
  · intro hp i hi
    have := (pok_iff h ((i + 1) % l.length)).1 (hp _ (Nat.mod_lt _ h))
    rw [← rok_mod, Nat.mod_add_mod, show i + 1 + (l.length - 1) = i + l.length by omega, Nat.add_mod_right, rok_mod] at this
    exact this
  · intro hr i hi
    rw [pok_iff h, ← rok_mod]
    exact hr _ (Nat.mod_lt _ h)
end Go.Proofs.Ytpjajgeajncdgaa
set_option linter.unusedVariables false
set_option maxRecDepth 4000
namespace Go.Proofs.Ytpjajgeajncdgaa
open Go Go.RowKit Ul Vc
attribute [local irreducible] Go.Calls
abbrev ZV (nm : List UInt8) (v : Value) : Value := .agg #[.string ⟨nm.toArray⟩, v]
theorem pzone {w : World} {nm : List UInt8} {v : Value} {l : List Sp} (h : Sps w v l) : Calls Try.prog 20 #[ZV nm v] w (Vc.Ret (.bool (zoneB nm.length l)) w) := by
  obtain ⟨b0, p0, x1, rfl, hb, hc⟩ := sps_form h
  clear h
  have nb := sps_nb hb
  refine vc_safety_CheckZone p0 (l.length : Int) x1 b0 nm w _ ?_
  rintro _ rfl
  refine iteI (fun h1 => ?_) (fun h1 => ?_)
  rotate_left
  · rw [zoneB_no fun hz => by have := hz.1.1; omega]
  refine iteI (fun h2 => ?_) (fun h2 => ?_)
  rotate_left
  · rw [zoneB_no fun hz => by have := hz.1.2; omega]
  refine ⟨by omega, nb, ?_⟩
  refine iteI (fun h3 => ?_) (fun h3 => ?_)
  rotate_left
  · rw [zoneB_no fun hz => by have := hz.2.1.1; omega]
  refine iteI (fun h4 => ?_) (fun h4 => ?_)
  rotate_left
  · rw [zoneB_no fun hz => by have := hz.2.1.2; omega]
  have hpos : 0 < l.length := by omega
  have nb0 := sps_nb0 hb hpos
  refine ⟨by omega, nb, ?_⟩
  refine ⟨fun y => ∃ (x : Int) (i : Nat), i ≤ l.length ∧ (∀ j p, j < i → l[j]? = some p → nearP p) ∧ y = [.i x, .i (i : Int)], upK 1 (l.length : Int), ⟨0, 0, by omega, fun j p hj => by omega, rfl⟩, ?_⟩
  rintro x3 x4 ⟨x, i, hi, hg, hy⟩
  simp only [List.cons.injEq, Vc.Vl.i.injEq, and_true] at hy
  obtain ⟨rfl, rfl⟩ := hy
  have hi0 : (0 : Int) ≤ (i : Int) := Int.natCast_nonneg _
  have bad : ∀ {p : Sp}, l[i]? = some p → ¬ nearP p → (Value.bool false : Value) = .bool (zoneB nm.length l) := fun hp hn => by
    rw [zoneB_no fun hz => hn (hz.2.2.1 _ (List.mem_of_getElem? hp))]
  refine iteI (fun h5 => ?_) (fun h5 => ?_)
  · have hlt : i < l.length := by omega
    have hp := List.getElem?_eq_getElem hlt
    generalize l[i] = p at hp
    obtain ⟨c0, c1⟩ := hc i p hp
    refine ⟨nb0, by omega, by omega, _, c0, _, c1, ?_⟩
    refine iteI (fun a1 => ?_) (fun a1 => ?_)
    rotate_left
    · exact iteI (fun _ => bad hp fun hn => a1 hn.1.1) (fun a => absurd hi0 a)
    refine iteI (fun a2 => ?_) (fun a2 => ?_)
    rotate_left
    · exact iteI (fun _ => bad hp fun hn => a2 hn.1.2) (fun a => absurd hi0 a)
    refine iteI (fun a3 => ?_) (fun a3 => ?_)
    rotate_left
    · exact iteI (fun _ => bad hp fun hn => a3 hn.2.1) (fun a => absurd hi0 a)
    refine iteI (fun a4 => ?_) (fun a4 => ?_)
    rotate_left
    · exact iteI (fun _ => bad hp fun hn => a4 hn.2.2) (fun a => absurd hi0 a)
    rintro _ rfl
    rw [wrap_up i (by omega)]
    refine ⟨⟨_, i + 1, by omega, fun j q hj hq => ?_, rfl⟩, by simp only [upK, List.getElem?_cons_zero, List.getElem?_cons_succ]; omega⟩
    by_cases hji : j = i
    · subst hji
      rw [hp] at hq
      cases hq
      exact ⟨⟨a1, a2⟩, a3, a4⟩
    · exact hg j q (by omega) hq
  · have hnear : ∀ p ∈ l, nearP p := fun p hp => by
      obtain ⟨j, hj⟩ := List.getElem?_of_mem hp
      exact hg j p (by have := (List.getElem?_eq_some_iff.1 hj).1; omega) hj
    clear bad
    refine ⟨by omega, nb, ?_⟩
    rintro _ rfl
    have ew : IntKind.i64.wrap ((l.length : Int) - 1) = ((l.length - 1 : Nat) : Int) := by rw [Vc.i64_id (by omega)]; omega
    rw [ew]
    have hl0 : l[l.length - 1]? = some (sp l (0 + (l.length - 1))) := by
      have := sp_at (i := 0 + (l.length - 1)) hpos
      rw [show (0 + (l.length - 1)) % l.length = l.length - 1 by rw [Nat.zero_add]; exact Nat.mod_eq_of_lt (by omega)] at this
      exact this
    obtain ⟨d0, d1⟩ := hc _ _ hl0
    refine ⟨nb0, by omega, by omega, _, d0, _, d1, by omega, nb, ?_⟩
    refine ⟨fun y => ∃ (i : Nat), i ≤ l.length ∧ (∀ j, j < i → pok l j) ∧ y = [.i (i : Int), .i (sp l (i + (l.length - 1))).1, .i (sp l (i + (l.length - 1))).2, .i (sumTo (pchg l) i : Nat)], upK 0 (l.length : Int), ⟨0, by omega, fun j hj => by omega, rfl⟩, ?_⟩
    rintro x10 x11 x12 x13 ⟨i, hi, hg, hy⟩
    simp only [List.cons.injEq, Vc.Vl.i.injEq, and_true] at hy
    obtain ⟨rfl, rfl, rfl, rfl⟩ := hy
    have hsb : sumTo (pchg l) i ≤ i := by
      have : ∀ n, sumTo (pchg l) n ≤ n := by
        intro n
        induction n with
        | zero => exact Nat.le_refl _
        | succ n ih => simp only [sumTo]; have : pchg l n ≤ 1 := (by unfold pchg; split <;> omega); omega
      exact this i
    refine iteI (fun h6 => ?_) (fun h6 => ?_)
    · have hlt : i < l.length := by omega
      have ha := sp_at (i := i) hpos
      rw [Nat.mod_eq_of_lt hlt] at ha
      have hn := sp_at (i := i + 1) hpos
      obtain ⟨e0, e1⟩ := hc _ _ ha
      obtain ⟨f0, f1⟩ := hc _ _ hn
      have hmod := Nat.mod_lt (i + 1) hpos
      have hlast : sp l (i + 1 + (l.length - 1)) = sp l i := by
        rw [show i + 1 + (l.length - 1) = i + l.length by omega, sp_per]
      refine ⟨nb0, by omega, by omega, _, e0, _, e1, ?_⟩
      rintro _ rfl
      refine ⟨by omega, nb, by omega, ?_⟩
      rintro _ rfl
      rw [nxt i _ (by omega)]
      refine ⟨nb0, by omega, by omega, _, f0, _, f1, ?_⟩
      (repeat apply Exists.intro); refine And.intro (fun _ _ => pleft_any (sp l (i + (l.length - 1))) (sp l i) (sp l (i + 1)) _) ?_
      refine iteI (fun h7 => ?_) (fun h7 => ?_)
      · rw [zoneB_no fun hz => by
          have := (pok_all hpos).2 hz.2.2.2.1 i hlt
          unfold pok at this
          omega]
      · have hok : pok l i := by unfold pok; omega
        (repeat apply Exists.intro); refine And.intro (fun _ _ => pup_any (sp l (i + (l.length - 1))) (sp l i) _) ?_
        have ew1 := wrap_up i (by omega)
        have ew2 := wrap_up (sumTo (pchg l) i) (by omega)
        have same : upB (sp l (i + (l.length - 1))) (sp l i) = upB (sp l i) (sp l (i + 1)) → (pchg l i : Nat) = 0 := fun e => by unfold pchg; rw [if_pos e]
        have diff : upB (sp l (i + (l.length - 1))) (sp l i) ≠ upB (sp l i) (sp l (i + 1)) → (pchg l i : Nat) = 1 := fun e => by unfold pchg; rw [if_neg e]
        have go0 : (pchg l i : Nat) = 0 → ((fun y => ∃ (i : Nat), i ≤ l.length ∧ (∀ j, j < i → pok l j) ∧ y = [Vc.Vl.i (i : Int), .i (sp l (i + (l.length - 1))).1, .i (sp l (i + (l.length - 1))).2, .i (sumTo (pchg l) i : Nat)]) [.i (IntKind.i64.wrap ((i : Int) + 1)), .i (sp l i).1, .i (sp l i).2, .i (sumTo (pchg l) i : Nat)]) ∧ upK 0 (l.length : Int) [.i (IntKind.i64.wrap ((i : Int) + 1)), .i (sp l i).1, .i (sp l i).2, .i (sumTo (pchg l) i : Nat)] < upK 0 (l.length : Int) [.i (i : Int), .i (sp l (i + (l.length - 1))).1, .i (sp l (i + (l.length - 1))).2, .i (sumTo (pchg l) i : Nat)] := fun hz => by
          rw [ew1]
          refine ⟨⟨i + 1, by omega, fun j hj => ?_, ?_⟩, by simp only [upK, List.getElem?_cons_zero]; omega⟩
          · by_cases hji : j = i
            · subst hji; exact hok
            · exact hg j (by omega)
          · rw [hlast]; simp only [sumTo, hz, Nat.add_zero]
        have go1 : (pchg l i : Nat) = 1 → ((fun y => ∃ (i : Nat), i ≤ l.length ∧ (∀ j, j < i → pok l j) ∧ y = [Vc.Vl.i (i : Int), .i (sp l (i + (l.length - 1))).1, .i (sp l (i + (l.length - 1))).2, .i (sumTo (pchg l) i : Nat)]) [.i (IntKind.i64.wrap ((i : Int) + 1)), .i (sp l i).1, .i (sp l i).2, .i (IntKind.i64.wrap (((sumTo (pchg l) i : Nat) : Int) + 1))]) ∧ upK 0 (l.length : Int) [.i (IntKind.i64.wrap ((i : Int) + 1)), .i (sp l i).1, .i (sp l i).2, .i (IntKind.i64.wrap (((sumTo (pchg l) i : Nat) : Int) + 1))] < upK 0 (l.length : Int) [.i (i : Int), .i (sp l (i + (l.length - 1))).1, .i (sp l (i + (l.length - 1))).2, .i (sumTo (pchg l) i : Nat)] := fun hz => by
          rw [ew1, ew2]
          refine ⟨⟨i + 1, by omega, fun j hj => ?_, ?_⟩, by simp only [upK, List.getElem?_cons_zero]; omega⟩
          · by_cases hji : j = i
            · subst hji; exact hok
            · exact hg j (by omega)
          · rw [hlast]; simp only [sumTo, hz]
        refine iteI (fun g1 => ?_) (fun g1 => ?_)
        · have e : upB (sp l i) (sp l (i + 1)) = true := by simp [upB, g1]
          refine iteI (fun g2 => ?_) (fun g2 => ?_)
          · rintro _ rfl; exact go0 (same (by rw [g2, e]))
          · rintro _ rfl _ rfl; exact go1 (diff (by rw [e]; exact g2))
        · refine iteI (fun g2 => ?_) (fun g2 => ?_)
          · have e : upB (sp l i) (sp l (i + 1)) = decide ((sp l i).1 < (sp l (i + 1)).1) := by simp [upB, g2]
            refine iteI (fun g3 => ?_) (fun g3 => ?_)
            · rintro _ rfl; exact go0 (same (by rw [e, Bool.eq_iff_iff]; simpa using g3))
            · rintro _ rfl _ rfl; exact go1 (diff (by rw [e]; intro h; apply g3; rw [h]; simp))
          · have e : upB (sp l i) (sp l (i + 1)) = false := by simp [upB, g1, g2]
            refine iteI (fun g3 => ?_) (fun g3 => ?_)
            · rintro _ rfl _ rfl; exact go1 (diff (by rw [g3, e]; decide))
            · rintro _ rfl; exact go0 (same (by rw [e]; simpa using g3))
    · obtain rfl : i = l.length := by omega
      have hz : zoneB nm.length l = decide (sumTo (rchg l) l.length = 2) := by
        by_cases h8 : sumTo (rchg l) l.length = 2
        · rw [decide_eq_true h8]
          exact zoneB_yes ⟨⟨by omega, by omega⟩, ⟨by omega, by omega⟩, hnear, (pok_all hpos).1 hg, h8⟩
        · rw [decide_eq_false h8]
          exact zoneB_no fun hz => h8 hz.2.2.2.2
      rw [hz, pchg_sum hpos]
      congr 1
      rw [Bool.eq_iff_iff]
      simp
      omega
end Go.Proofs.Ytpjajgeajncdgaa
set_option linter.unusedVariables false
set_option maxRecDepth 4000
namespace Go.Proofs.Ytpjajgeajncdgaa
open Go Go.RowKit Ul Vc
attribute [local irreducible] Go.Calls
/-- Does a valid zone contain a place? -/
def InsP (l : List Sp) (s : Sp) : Prop := ∀ i, i < l.length → 0 ≤ lfw (sp l i) (sp l (i + 1)) s
instance (l : List Sp) (s : Sp) : Decidable (InsP l s) := inferInstanceAs (Decidable (∀ i, i < l.length → _))
def insB (l : List Sp) (s : Sp) : Bool := decide (InsP l s)
theorem pcont {w : World} {nm : List UInt8} {v : Value} {l : List Sp} (s : Sp) (h : Sps w v l) (hn : l.length ≤ 1000) : Calls Try.prog 44 #[ZV nm v, SPV s] w (Vc.Ret (.bool (insB l s)) w) := by
  obtain ⟨b0, p0, x1, rfl, hb, hc⟩ := sps_form h
  clear h
  have nb := sps_nb hb
  refine vc_safety_contains p0 (l.length : Int) x1 s.1 s.2 b0 nm w _ ?_
  refine ⟨by omega, nb, ?_⟩
  refine ⟨fun y => ∃ (i : Nat), i ≤ l.length ∧ (∀ j, j < i → 0 ≤ lfw (sp l j) (sp l (j + 1)) s) ∧ y = [.i (i : Int)], upK 0 (l.length : Int), ⟨0, by omega, fun j hj => by omega, rfl⟩, ?_⟩
  rintro x4 ⟨i, hi, hg, hy⟩
  simp only [List.cons.injEq, Vc.Vl.i.injEq, and_true] at hy
  obtain rfl := hy
  refine iteI (fun h5 => ?_) (fun h5 => ?_)
  · have hlt : i < l.length := by omega
    have hpos : 0 < l.length := by omega
    have nb0 := sps_nb0 hb hpos
    have ha := sp_at (i := i) hpos
    rw [Nat.mod_eq_of_lt hlt] at ha
    obtain ⟨e0, e1⟩ := hc _ _ ha
    obtain ⟨f0, f1⟩ := hc _ _ (sp_at (i := i + 1) hpos)
    have hmod := Nat.mod_lt (i + 1) hpos
    refine ⟨nb0, by omega, by omega, _, e0, _, e1, ?_⟩
    rintro _ rfl
    refine ⟨by omega, nb, by omega, ?_⟩
    rintro _ rfl
    rw [nxt i _ (by omega)]
    refine ⟨nb0, by omega, by omega, _, f0, _, f1, ?_⟩
    (repeat apply Exists.intro); refine And.intro (fun _ _ => pleft_any (sp l i) (sp l (i + 1)) s _) ?_
    refine iteI (fun h7 => ?_) (fun h7 => ?_)
    · rw [show insB l s = false from decide_eq_false fun hz => by have := hz i hlt; omega]
    · rintro _ rfl
      rw [wrap_up i (by omega)]
      refine ⟨⟨i + 1, by omega, fun j hj => ?_, rfl⟩, by simp only [upK, List.getElem?_cons_zero]; omega⟩
      by_cases hji : j = i
      · subst hji; omega
      · exact hg j (by omega)
  · rw [show insB l s = true from decide_eq_true fun j hj => hg j (by omega)]
/-- Rects. -/
abbrev Rc := Sp × Sp
abbrev RCV (r : Rc) : Value := .agg #[.int .i64 r.1.1, .int .i64 r.1.2, .int .i64 r.2.1, .int .i64 r.2.2]
def rectB (r : Rc) : Bool := inR r.1.1 (-536870912) r.2.1 && decide (r.2.1 ≤ 536870912) && inR r.1.2 (-536870912) r.2.2 && decide (r.2.2 ≤ 536870912)
theorem rectB_iff {r : Rc} : rectB r = true ↔ (-536870912 ≤ r.1.1 ∧ r.1.1 ≤ r.2.1 ∧ r.2.1 ≤ 536870912) ∧ (-536870912 ≤ r.1.2 ∧ r.1.2 ≤ r.2.2 ∧ r.2.2 ≤ 536870912) := by
  simp only [rectB, inR, Bool.and_eq_true, decide_eq_true_eq]; omega
theorem prect (r : Rc) (w : World) : Calls Try.prog 19 #[RCV r] w (Vc.Ret (.bool (rectB r)) w) := by
  refine vc_safety_checkRect _ _ _ _ w _ ?_
  (repeat apply Exists.intro); refine And.intro (fun _ _ => pin_any _ _ _ _) ?_
  refine iteI (fun h => ?_) (fun h => ?_)
  · refine iteI (fun h1 => ?_) (fun h1 => ?_)
    · (repeat apply Exists.intro); refine And.intro (fun _ _ => pin_any _ _ _ _) ?_
      refine iteI (fun h2 => ?_) (fun h2 => ?_)
      · simp [rectB, h, h1, h2]
      · simp [rectB, h, h1, h2]
    · simp [rectB, h, h1]
  · simp [rectB, h]
/-- Numbers along a direction. -/
def al (d s : Sp) : Int := d.1 * s.1 + d.2 * s.2
def sz (x : Int) : Int := if -x > x then -x else x
theorem sz_nonneg (x : Int) : 0 ≤ sz x := by unfold sz; split <;> omega
theorem sz_le {x B : Int} (h : -B ≤ x ∧ x ≤ B) : sz x ≤ B := by unfold sz; split <;> omega
def Bd (n : Int) (x : Int) : Prop := -n ≤ x ∧ x ≤ n
theorem mul_bd {a b A B : Int} (ha : Bd A a) (hb : Bd B b) : Bd (A * B) (a * b) := by
  have hA : 0 ≤ A := by unfold Bd at ha; omega
  have hB : 0 ≤ B := by unfold Bd at hb; omega
  have h1 : (a.natAbs : Int) ≤ A := by unfold Bd at ha; omega
  have h2 : (b.natAbs : Int) ≤ B := by unfold Bd at hb; omega
  have h3 := Int.mul_le_mul h1 h2 (by omega) hA
  have h4 : ((a * b).natAbs : Int) = (a.natAbs : Int) * (b.natAbs : Int) := by rw [Int.natAbs_mul]; push_cast; rfl
  unfold Bd
  omega
def SpB (n : Int) (p : Sp) : Prop := Bd n p.1 ∧ Bd n p.2
theorem al_bd {d s : Sp} (hd : SpB 1610612736 d) (hs : SpB 805306368 s) : Bd 2594073385365405696 (al d s) ∧ Bd (1297036692682702848) (d.1 * s.1) ∧ Bd (1297036692682702848) (d.2 * s.2) := by
  have h1 := mul_bd hd.1 hs.1
  have h2 := mul_bd hd.2 hs.2
  refine ⟨?_, h1, h2⟩
  unfold Bd al at *
  omega
theorem al_wrap {d s : Sp} (hd : SpB 1610612736 d) (hs : SpB 805306368 s) : IntKind.i64.wrap (IntKind.i64.wrap (d.1 * s.1) + IntKind.i64.wrap (d.2 * s.2)) = al d s := by
  obtain ⟨h0, h1, h2⟩ := al_bd hd hs
  unfold Bd at *
  rw [Vc.i64_id (x := d.1 * s.1) (by omega), Vc.i64_id (x := d.2 * s.2) (by omega), Vc.i64_id (by unfold al at h0; omega)]
  rfl
theorem psize (x : Int) (w : World) (h : Bd 1610612736 x) : Calls Try.prog 48 #[.int .i64 x] w (Vc.Ret (.int .i64 (sz x)) w) := by
  refine vc_safety_size _ w _ ?_
  rintro _ rfl _ rfl
  unfold Bd at h
  rw [Vc.i64_id (by omega), Int.zero_sub]
  rfl
end Go.Proofs.Ytpjajgeajncdgaa
set_option linter.unusedVariables false
set_option maxRecDepth 4000
namespace Go.Proofs.Ytpjajgeajncdgaa
open Go Go.RowKit Ul Vc
attribute [local irreducible] Go.Calls
/-- b lies far enough behind a, seen in a direction. -/
def Sep (d : Sp) (a b : List Sp) (r : Int) : Prop := ∀ p ∈ a, ∀ q ∈ b, r * (sz d.1 + sz d.2) < al d q - al d p
instance (d : Sp) (a b : List Sp) (r : Int) : Decidable (Sep d a b r) := inferInstanceAs (Decidable (∀ p ∈ a, ∀ q ∈ b, _))
def neg2 (d : Sp) : Sp := (-d.1, -d.2)
def perp (a b : Sp) : Sp := (a.2 - b.2, b.1 - a.1)
/-- The directions at right angles to the first edges. -/
def dirsTo (l : List Sp) : Nat → List Sp
  | 0 => []
  | n + 1 => dirsTo l n ++ [perp (sp l n) (sp l (n + 1)), neg2 (perp (sp l n) (sp l (n + 1)))]
theorem dirsTo_mem {l : List Sp} {d : Sp} : ∀ {n : Nat}, d ∈ dirsTo l n ↔ ∃ i, i < n ∧ (d = perp (sp l i) (sp l (i + 1)) ∨ d = neg2 (perp (sp l i) (sp l (i + 1))))
  | 0 => by simp [dirsTo]
  | n + 1 => by
    simp only [dirsTo, List.mem_append, dirsTo_mem (n := n), List.mem_cons, List.not_mem_nil, or_false]
    constructor
    · rintro (⟨i, hi, h⟩ | h)
      · exact ⟨i, by omega, h⟩
      · exact ⟨n, by omega, h⟩
    · rintro ⟨i, hi, h⟩
      by_cases hin : i = n
      · subst hin; exact .inr h
      · exact .inl ⟨i, by omega, h⟩
def axes : List Sp := [(1, 0), (-1, 0), (0, 1), (0, -1)]
def dirs (a b : List Sp) : List Sp := dirsTo a a.length ++ dirsTo b b.length ++ axes
/-- Two areas are more than r apart. -/
def ApP (a b : List Sp) (r : Int) : Prop := ∃ d ∈ dirs a b, Sep d a b r
instance (a b : List Sp) (r : Int) : Decidable (ApP a b r) := inferInstanceAs (Decidable (∃ d ∈ _, _))
def apB (a b : List Sp) (r : Int) : Bool := decide (ApP a b r)
theorem perp_bd {p q : Sp} (hp : SpB 805306368 p) (hq : SpB 805306368 q) : SpB 1610612736 (perp p q) := by
  unfold SpB Bd perp at *; omega
theorem axes_bd {d : Sp} (h : d ∈ axes) : SpB 1610612736 d := by
  simp only [axes, List.mem_cons, List.not_mem_nil, or_false] at h
  rcases h with rfl | rfl | rfl | rfl <;> (unfold SpB Bd; decide)
theorem sz_neg (x : Int) : sz (-x) = sz x := by unfold sz; split <;> split <;> omega
theorem al_neg (d s : Sp) : al (neg2 d) s = -al d s := by unfold al neg2; simp only [Int.neg_mul]; omega
theorem need_bd {d : Sp} {r : Int} (hd : SpB 1610612736 d) (hr : 0 ≤ r ∧ r < 1073741824) : IntKind.i64.wrap (r * IntKind.i64.wrap (sz d.1 + sz d.2)) = r * (sz d.1 + sz d.2) ∧ Bd 3458764513820540928 (r * (sz d.1 + sz d.2)) := by
  have h1 := sz_le hd.1
  have h2 := sz_le hd.2
  have h3 := sz_nonneg d.1
  have h4 := sz_nonneg d.2
  have h5 := mul_bd (a := r) (b := sz d.1 + sz d.2) (A := 1073741824) (B := 3221225472) (by unfold Bd; omega) (by unfold Bd; omega)
  rw [Vc.i64_id (x := sz d.1 + sz d.2) (by omega)]
  refine ⟨Vc.i64_id (by unfold Bd at h5; omega), ?_⟩
  unfold Bd at *; omega
theorem sep_iff {d : Sp} {a b : List Sp} {r lo hi : Int} (h1 : ∀ s ∈ b, lo ≤ al d s) (h2 : ∃ s ∈ b, lo = al d s) (h3 : ∀ s ∈ a, al d s ≤ hi) (h4 : ∃ s ∈ a, hi = al d s) : Sep d a b r ↔ r * (sz d.1 + sz d.2) < lo - hi := by
  constructor
  · intro h
    obtain ⟨q, hq, e1⟩ := h2
    obtain ⟨p, hp, e2⟩ := h4
    have := h p hp q hq
    omega
  · intro h p hp q hq
    have := h1 q hq
    have := h3 p hp
    omega
theorem sep_neg {d : Sp} {a b : List Sp} {r lo hi : Int} (h1 : ∀ s ∈ a, lo ≤ al d s) (h2 : ∃ s ∈ a, lo = al d s) (h3 : ∀ s ∈ b, al d s ≤ hi) (h4 : ∃ s ∈ b, hi = al d s) : Sep (neg2 d) a b r ↔ r * (sz d.1 + sz d.2) < lo - hi := by
  unfold Sep
  have e : r * (sz (neg2 d).1 + sz (neg2 d).2) = r * (sz d.1 + sz d.2) := by unfold neg2; simp only [sz_neg]
  constructor
  · intro h
    obtain ⟨q, hq, e1⟩ := h4
    obtain ⟨p, hp, e2⟩ := h2
    have := h p hp q hq
    rw [al_neg, al_neg, e] at this
    omega
  · intro h p hp q hq
    have := h1 p hp
    have := h3 q hq
    rw [al_neg, al_neg, e]
    omega
/-- What two areas must be to be reckoned with. -/
structure Two (a b : List Sp) (r : Int) : Prop where
  a0 : 0 < a.length
  a1 : a.length ≤ 1000
  b0 : 0 < b.length
  b1 : b.length ≤ 1000
  ab : ∀ s ∈ a, SpB 805306368 s
  bb : ∀ s ∈ b, SpB 805306368 s
  r0 : 0 ≤ r ∧ r < 1073741824
end Go.Proofs.Ytpjajgeajncdgaa
set_option linter.unusedVariables false
set_option maxRecDepth 4000
namespace Go.Proofs.Ytpjajgeajncdgaa
open Go Go.RowKit Ul Vc
attribute [local irreducible] Go.Calls
theorem palong {w : World} {d s : Sp} {k0 k1 t0 t1 : Nat} (h0 : w.heap[k0]? = some (.cells #[.int .i64 d.1] t0)) (h1 : w.heap[k1]? = some (.cells #[.int .i64 d.2] t1)) (hd : SpB 1610612736 d) (hs : SpB 805306368 s) :
    Calls Try.prog 46 #[SPV s, Vc.ptr k0 0, Vc.ptr k1 0] w (Vc.Ret (.int .i64 (al d s)) w) := by
  refine vc_safety_apart_1_1 (k0, 0) (k1, 0) s.1 s.2 w _ ?_
  refine ⟨d.1, ?_, ?_⟩
  · rw [cell_of_heap h0]; rfl
  rintro _ rfl
  refine ⟨d.2, ?_, ?_⟩
  · rw [cell_of_heap h1]; rfl
  rintro _ rfl _ rfl
  rw [al_wrap hd hs]
theorem psep {w : World} {va vb : Value} {a b : List Sp} {r : Int} {d : Sp} {k0 k1 k2 t0 t1 t2 : Nat} (ha : Sps w va a) (hb : Sps w vb b) (h2 : Two a b r) (hd : SpB 1610612736 d)
    (g0 : w.heap[k0]? = some (.cells #[va] t0)) (g1 : w.heap[k1]? = some (.cells #[vb] t1)) (g2 : w.heap[k2]? = some (.cells #[.int .i64 r] t2)) :
    Calls Try.prog 45 #[.int .i64 d.1, .int .i64 d.2, Vc.ptr k0 0, Vc.ptr k1 0, Vc.ptr k2 0] w (Vc.Ret (.bool (decide (Sep d a b r ∨ Sep (neg2 d) a b r))) w) := by
  obtain ⟨b0, p0, x1, rfl, ab, ac⟩ := sps_form ha
  obtain ⟨b1, p1, x3, rfl, bb, bc⟩ := sps_form hb
  obtain ⟨a0, a1, c0, c1, ha2, hb2, hr⟩ := h2
  have na := sps_nb ab
  have nc := sps_nb bb
  have na0 := sps_nb0 ab a0
  have nc0 := sps_nb0 bb c0
  refine vc_safety_apart_1 (k0, 0) (k1, 0) (k2, 0) d.1 d.2 w _ ?_
  refine ⟨b0, p0, (a.length : Int), x1, by rw [cell_of_heap g0]; rfl, ?_⟩
  have nn := List.getElem?_eq_getElem a0
  have q2 := ha2 _ (List.getElem_mem a0)
  have q1 : a[0] ∈ a := List.getElem_mem a0
  generalize a[0] = s0 at nn q2 q1
  refine ⟨na0, by omega, _, (ac 0 s0 nn).1, _, (ac 0 s0 nn).2, al d s0, fun β w' hw hm => palong hm.1.2 hm.2.1.2 hd q2, na0, by omega, _, (ac 0 s0 nn).1, _, (ac 0 s0 nn).2, al d s0, fun β w' hw hm => palong hm.1.2 hm.2.1.2 hd q2, by omega, na, ?_⟩
  refine ⟨fun y => ∃ (lo hi : Int) (i : Nat), i ≤ a.length ∧ (∃ s ∈ a, lo = al d s) ∧ (∃ s ∈ a, hi = al d s) ∧ (∀ j p, j < i → a[j]? = some p → lo ≤ al d p ∧ al d p ≤ hi) ∧ y = [.i lo, .i hi, .i (i : Int)], upK 2 (a.length : Int), ⟨_, _, 0, by omega, ⟨s0, q1, rfl⟩, ⟨s0, q1, rfl⟩, fun j p hj => by omega, rfl⟩, ?_⟩
  clear nn q2 q1
  rintro alo ahi x12 ⟨lo1, hi1, i, hi, hal, hah, ga, hy⟩
  simp only [List.cons.injEq, Vc.Vl.i.injEq, and_true] at hy
  obtain ⟨rfl, rfl, rfl⟩ := hy
  refine iteI (fun h5 => ?_) (fun h5 => ?_)
  · have hlt : i < a.length := by omega
    have hp := List.getElem?_eq_getElem hlt
    have hs := ha2 _ (List.getElem_mem hlt)
    have hm' : a[i] ∈ a := List.getElem_mem hlt
    generalize a[i] = s at hp hs hm'
    refine ⟨na0, by omega, by omega, _, (ac i s hp).1, _, (ac i s hp).2, al d s, fun β w' hw hm => palong hm.1.2 hm.2.1.2 hd hs, ?_⟩
    rintro _ rfl
    refine ⟨al d s, fun β w' hw hm => palong hm.1.2 hm.2.1.2 hd hs, ?_⟩
    rintro _ rfl _ rfl
    rw [wrap_up i (by omega)]
    refine ⟨⟨_, _, i + 1, by omega, ?_, ?_, fun j p hj hpj => ?_, rfl⟩, by simp only [upK, List.getElem?_cons_zero, List.getElem?_cons_succ]; omega⟩
    · split
      · exact ⟨s, hm', rfl⟩
      · exact hal
    · split
      · exact ⟨s, hm', rfl⟩
      · exact hah
    · by_cases hji : j = i
      · subst hji
        rw [hp] at hpj
        cases hpj
        constructor <;> split <;> omega
      · have := ga j p (by omega) hpj
        constructor <;> split <;> omega
  have hga : (∀ s ∈ a, alo ≤ al d s) ∧ ∀ s ∈ a, al d s ≤ ahi := by
    constructor <;> intro s hs <;> (obtain ⟨j, hj⟩ := List.getElem?_of_mem hs; have := ga j s (by have := (List.getElem?_eq_some_iff.1 hj).1; omega) hj; omega)
  have bal : Bd 2594073385365405696 alo := by obtain ⟨s, hs, e⟩ := hal; rw [e]; exact (al_bd hd (ha2 s hs)).1
  have bah : Bd 2594073385365405696 ahi := by obtain ⟨s, hs, e⟩ := hah; rw [e]; exact (al_bd hd (ha2 s hs)).1
  clear ga h5 hi
  refine ⟨b1, p1, (b.length : Int), x3, by rw [cell_of_heap g1]; rfl, ?_⟩
  have nn := List.getElem?_eq_getElem c0
  have q2 := hb2 _ (List.getElem_mem c0)
  have q1 : b[0] ∈ b := List.getElem_mem c0
  generalize b[0] = s0 at nn q2 q1
  refine ⟨nc0, by omega, _, (bc 0 s0 nn).1, _, (bc 0 s0 nn).2, al d s0, fun β w' hw hm => palong hm.1.2 hm.2.1.2 hd q2, nc0, by omega, _, (bc 0 s0 nn).1, _, (bc 0 s0 nn).2, al d s0, fun β w' hw hm => palong hm.1.2 hm.2.1.2 hd q2, by omega, nc, ?_⟩
  refine ⟨fun y => ∃ (lo hi : Int) (i : Nat), i ≤ b.length ∧ (∃ s ∈ b, lo = al d s) ∧ (∃ s ∈ b, hi = al d s) ∧ (∀ j p, j < i → b[j]? = some p → lo ≤ al d p ∧ al d p ≤ hi) ∧ y = [.i lo, .i hi, .i (i : Int)], upK 2 (b.length : Int), ⟨_, _, 0, by omega, ⟨s0, q1, rfl⟩, ⟨s0, q1, rfl⟩, fun j p hj => by omega, rfl⟩, ?_⟩
  clear nn q2 q1
  rintro blo bhi x12 ⟨lo1, hi1, i, hi, hbl, hbh, gb, hy⟩
  simp only [List.cons.injEq, Vc.Vl.i.injEq, and_true] at hy
  obtain ⟨rfl, rfl, rfl⟩ := hy
  refine iteI (fun h5 => ?_) (fun h5 => ?_)
  · have hlt : i < b.length := by omega
    have hp := List.getElem?_eq_getElem hlt
    have hs := hb2 _ (List.getElem_mem hlt)
    have hm' : b[i] ∈ b := List.getElem_mem hlt
    generalize b[i] = s at hp hs hm'
    refine ⟨nc0, by omega, by omega, _, (bc i s hp).1, _, (bc i s hp).2, al d s, fun β w' hw hm => palong hm.1.2 hm.2.1.2 hd hs, ?_⟩
    rintro _ rfl
    refine ⟨al d s, fun β w' hw hm => palong hm.1.2 hm.2.1.2 hd hs, ?_⟩
    rintro _ rfl _ rfl
    rw [wrap_up i (by omega)]
    refine ⟨⟨_, _, i + 1, by omega, ?_, ?_, fun j p hj hpj => ?_, rfl⟩, by simp only [upK, List.getElem?_cons_zero, List.getElem?_cons_succ]; omega⟩
    · split
      · exact ⟨s, hm', rfl⟩
      · exact hbl
    · split
      · exact ⟨s, hm', rfl⟩
      · exact hbh
    · by_cases hji : j = i
      · subst hji
        rw [hp] at hpj
        cases hpj
        constructor <;> split <;> omega
      · have := gb j p (by omega) hpj
        constructor <;> split <;> omega
  have hgb : (∀ s ∈ b, blo ≤ al d s) ∧ ∀ s ∈ b, al d s ≤ bhi := by
    constructor <;> intro s hs <;> (obtain ⟨j, hj⟩ := List.getElem?_of_mem hs; have := gb j s (by have := (List.getElem?_eq_some_iff.1 hj).1; omega) hj; omega)
  have bbl : Bd 2594073385365405696 blo := by obtain ⟨s, hs, e⟩ := hbl; rw [e]; exact (al_bd hd (hb2 s hs)).1
  have bbh : Bd 2594073385365405696 bhi := by obtain ⟨s, hs, e⟩ := hbh; rw [e]; exact (al_bd hd (hb2 s hs)).1
  clear gb h5 hi
  have s1 := sep_iff (r := r) hgb.1 hbl hga.2 hah
  have s2 := sep_neg (r := r) hga.1 hal hgb.2 hbh
  obtain ⟨n1, n2⟩ := need_bd hd hr
  unfold Bd at bal bah bbl bbh
  refine ⟨r, by rw [cell_of_heap g2]; rfl, ?_⟩
  (repeat apply Exists.intro); refine And.intro (fun _ _ => psize d.1 _ hd.1) ?_
  (repeat apply Exists.intro); refine And.intro (fun _ _ => psize d.2 _ hd.2) ?_
  rintro _ rfl _ rfl _ rfl
  rw [n1, Vc.i64_id (x := blo - ahi) (by omega)]
  refine iteI (fun h => ?_) (fun h => ?_)
  · rw [decide_eq_true (.inl (s1.2 h))]
  · rintro _ rfl
    rw [Vc.i64_id (x := alo - bhi) (by omega)]
    congr 1
    rw [Bool.eq_iff_iff, decide_eq_true_eq, decide_eq_true_eq, s1, s2]
    constructor
    · exact fun h' => .inr h'
    · exact fun h' => h'.resolve_left h
theorem papart {w : World} {va vb : Value} {a b : List Sp} {r : Int} (ha : Sps w va a) (hb : Sps w vb b) (h2 : Two a b r) : Calls Try.prog 23 #[va, vb, .int .i64 r] w (Vc.Ret (.bool (apB a b r)) w) := by
  have ha0 := ha
  have hb0 := hb
  have h20 := h2
  obtain ⟨b0, p0, x1, rfl, ab, ac⟩ := sps_form ha
  obtain ⟨b1, p1, x3, rfl, bb, bc⟩ := sps_form hb
  obtain ⟨a0, a1, c0, c1, ha2, hb2, hr⟩ := h2
  have na := sps_nb ab
  have nc := sps_nb bb
  have na0 := sps_nb0 ab a0
  have nc0 := sps_nb0 bb c0
  refine vc_safety_apart p0 p1 (a.length : Int) x1 (b.length : Int) x3 r b0 b1 w _ ?_
  have yes : ∀ {d : Sp}, (d ∈ dirs a b ∧ neg2 d ∈ dirs a b) → decide (Sep d a b r ∨ Sep (neg2 d) a b r) = true → (Value.bool true : Value) = .bool (apB a b r) := fun hd h => by
    rw [show apB a b r = true from decide_eq_true (by
      rcases of_decide_eq_true h with h | h
      · exact ⟨_, hd.1, h⟩
      · exact ⟨_, hd.2, h⟩)]
  have ax : ∀ d ∈ axes, d ∈ dirs a b := fun d h => by unfold dirs; exact List.mem_append.2 (.inr h)
  have ex : ((1, 0) : Sp) ∈ dirs a b ∧ neg2 (1, 0) ∈ dirs a b := ⟨ax _ (by decide), ax _ (by decide)⟩
  have ey : ((0, 1) : Sp) ∈ dirs a b ∧ neg2 (0, 1) ∈ dirs a b := ⟨ax _ (by decide), ax _ (by decide)⟩
  refine ⟨_, fun β w' hw hm => psep (d := (1, 0)) (sps_below hw ha0) (sps_below hw hb0) h20 (axes_bd (by decide)) hm.1.2 hm.2.1.2 hm.2.2.1.2, ?_⟩
  refine iteI (fun h => yes ex h) (fun h1 => ?_)
  refine ⟨_, fun β w' hw hm => psep (d := (0, 1)) (sps_below hw ha0) (sps_below hw hb0) h20 (axes_bd (by decide)) hm.1.2 hm.2.1.2 hm.2.2.1.2, ?_⟩
  refine iteI (fun h => yes ey h) (fun h2 => ?_)
  refine ⟨by omega, na, ?_⟩
  refine ⟨fun y => ∃ (i : Nat), i ≤ a.length ∧ (∀ j, j < i → ¬ (Sep (perp (sp a j) (sp a (j + 1))) a b r ∨ Sep (neg2 (perp (sp a j) (sp a (j + 1)))) a b r)) ∧ y = [.i (i : Int)], upK 0 (a.length : Int), ⟨0, by omega, fun j hj => by omega, rfl⟩, ?_⟩
  rintro x5 ⟨i, hi, hga, hy⟩
  simp only [List.cons.injEq, Vc.Vl.i.injEq, and_true] at hy
  obtain rfl := hy
  refine iteI (fun h5 => ?_) (fun h5 => ?_)
  · have hlt : i < a.length := by omega
    have hp := sp_at (i := i) a0
    rw [Nat.mod_eq_of_lt hlt] at hp
    obtain ⟨d0, d1⟩ := ac _ _ hp
    obtain ⟨f0, f1⟩ := ac _ _ (sp_at (i := i + 1) a0)
    have hmod := Nat.mod_lt (i + 1) a0
    have k0 := ha2 _ (sp_mem (i := i) a0)
    have k1 := ha2 _ (sp_mem (i := i + 1) a0)
    have hd := perp_bd k0 k1
    refine ⟨na0, by omega, by omega, _, d0, _, d1, ?_⟩
    rintro _ rfl
    refine ⟨by omega, na, by omega, ?_⟩
    rintro _ rfl
    rw [nxt i _ (by omega)]
    refine ⟨na0, by omega, by omega, _, f0, _, f1, ?_⟩
    unfold SpB Bd at k0 k1
    rintro _ rfl _ rfl
    rw [Vc.i64_id (x := (sp a i).2 - (sp a (i + 1)).2) (by omega), Vc.i64_id (x := (sp a (i + 1)).1 - (sp a i).1) (by omega)]
    refine ⟨_, fun β w' hw hm => psep (d := perp (sp a i) (sp a (i + 1))) (sps_below hw ha0) (sps_below hw hb0) h20 hd hm.1.2 hm.2.1.2 hm.2.2.1.2, ?_⟩
    refine iteI (fun h => yes ?_ h) (fun h => ?_)
    · unfold dirs
      exact ⟨List.mem_append.2 (.inl (List.mem_append.2 (.inl (dirsTo_mem.2 ⟨i, hlt, .inl rfl⟩)))), List.mem_append.2 (.inl (List.mem_append.2 (.inl (dirsTo_mem.2 ⟨i, hlt, .inr rfl⟩))))⟩
    · rintro _ rfl
      rw [wrap_up i (by omega)]
      refine ⟨⟨i + 1, by omega, fun j hj => ?_, rfl⟩, by simp only [upK, List.getElem?_cons_zero, List.getElem?_cons_succ]; omega⟩
      by_cases hji : j = i
      · subst hji; exact fun h' => h (decide_eq_true h')
      · exact hga j (by omega)
  · have hga : ∀ j, j < a.length → ¬ (Sep (perp (sp a j) (sp a (j + 1))) a b r ∨ Sep (neg2 (perp (sp a j) (sp a (j + 1)))) a b r) := fun j hj => hga j (by omega)
    clear h5 hi
    refine ⟨by omega, nc, ?_⟩
    refine ⟨fun y => ∃ (i : Nat), i ≤ b.length ∧ (∀ j, j < i → ¬ (Sep (perp (sp b j) (sp b (j + 1))) a b r ∨ Sep (neg2 (perp (sp b j) (sp b (j + 1)))) a b r)) ∧ y = [.i (i : Int)], upK 0 (b.length : Int), ⟨0, by omega, fun j hj => by omega, rfl⟩, ?_⟩
    rintro x5 ⟨i, hi, hgb, hy⟩
    simp only [List.cons.injEq, Vc.Vl.i.injEq, and_true] at hy
    obtain rfl := hy
    refine iteI (fun h5 => ?_) (fun h5 => ?_)
    · have hlt : i < b.length := by omega
      have hp := sp_at (i := i) c0
      rw [Nat.mod_eq_of_lt hlt] at hp
      obtain ⟨d0, d1⟩ := bc _ _ hp
      obtain ⟨f0, f1⟩ := bc _ _ (sp_at (i := i + 1) c0)
      have hmod := Nat.mod_lt (i + 1) c0
      have k0 := hb2 _ (sp_mem (i := i) c0)
      have k1 := hb2 _ (sp_mem (i := i + 1) c0)
      have hd := perp_bd k0 k1
      refine ⟨nc0, by omega, by omega, _, d0, _, d1, ?_⟩
      rintro _ rfl
      refine ⟨by omega, nc, by omega, ?_⟩
      rintro _ rfl
      rw [nxt i _ (by omega)]
      refine ⟨nc0, by omega, by omega, _, f0, _, f1, ?_⟩
      unfold SpB Bd at k0 k1
      rintro _ rfl _ rfl
      rw [Vc.i64_id (x := (sp b i).2 - (sp b (i + 1)).2) (by omega), Vc.i64_id (x := (sp b (i + 1)).1 - (sp b i).1) (by omega)]
      refine ⟨_, fun β w' hw hm => psep (d := perp (sp b i) (sp b (i + 1))) (sps_below hw ha0) (sps_below hw hb0) h20 hd hm.1.2 hm.2.1.2 hm.2.2.1.2, ?_⟩
      refine iteI (fun h => yes ?_ h) (fun h => ?_)
      · unfold dirs
        exact ⟨List.mem_append.2 (.inl (List.mem_append.2 (.inr (dirsTo_mem.2 ⟨i, hlt, .inl rfl⟩)))), List.mem_append.2 (.inl (List.mem_append.2 (.inr (dirsTo_mem.2 ⟨i, hlt, .inr rfl⟩))))⟩
      · rintro _ rfl
        rw [wrap_up i (by omega)]
        refine ⟨⟨i + 1, by omega, fun j hj => ?_, rfl⟩, by simp only [upK, List.getElem?_cons_zero, List.getElem?_cons_succ]; omega⟩
        by_cases hji : j = i
        · subst hji; exact fun h' => h (decide_eq_true h')
        · exact hgb j (by omega)
    · rw [show apB a b r = false from decide_eq_false fun ⟨d, hd, hs⟩ => by
        simp only [dirs, List.mem_append] at hd
        rcases hd with (hd | hd) | hd
        · obtain ⟨j, hj, e⟩ := dirsTo_mem.1 hd
          rcases e with rfl | rfl
          · exact hga j hj (.inl hs)
          · exact hga j hj (.inr hs)
        · obtain ⟨j, hj, e⟩ := dirsTo_mem.1 hd
          rcases e with rfl | rfl
          · exact hgb j (by omega) (.inl hs)
          · exact hgb j (by omega) (.inr hs)
        · simp only [axes, List.mem_cons, List.not_mem_nil, or_false] at hd
          rcases hd with rfl | rfl | rfl | rfl
          · exact h1 (decide_eq_true (.inl hs))
          · exact h1 (decide_eq_true (.inr hs))
          · exact h2 (decide_eq_true (.inl hs))
          · exact h2 (decide_eq_true (.inr hs))]
end Go.Proofs.Ytpjajgeajncdgaa
set_option linter.unusedVariables false
set_option maxRecDepth 4000
namespace Go.Proofs.Ytpjajgeajncdgaa
open Go Go.RowKit Ul Vc
attribute [local irreducible] Go.Calls
theorem sps_heap {w : World} {k t n : Nat} {l : List Sp} {xs : Array Value} (h : w.heap[k]? = some (.cells xs t)) (hx : xs.toList = l.flatMap spc) (hn : l.length = n) : Sps w (.slice (some ⟨k, 0, none⟩) n n) l := by
  subst hn
  refine .inr (.inr ⟨k, 0, _, _, rfl, flat_len spc_len l, fun j u hj => ?_⟩)
  rw [Nat.zero_add, cell_of_heap h, ← Array.getElem?_toList, hx]
  exact hj
def crn (r : Rc) : List Sp := [r.1, (r.2.1, r.1.2), r.2, (r.1.1, r.2.2)]
def RcB (r : Rc) : Prop := SpB 805306368 r.1 ∧ SpB 805306368 r.2
theorem crn_bd {r : Rc} (h : RcB r) : ∀ s ∈ crn r, SpB 805306368 s := by
  intro s hs
  simp only [crn, List.mem_cons, List.not_mem_nil, or_false] at hs
  rcases hs with rfl | rfl | rfl | rfl
  · exact h.1
  · exact ⟨h.2.1, h.1.2⟩
  · exact h.2
  · exact ⟨h.1.1, h.2.2⟩
theorem rectB_bd {r : Rc} (h : rectB r = true) : RcB r := by
  have := rectB_iff.1 h
  unfold RcB SpB Bd; omega
/-- The side of a rect to a valid zone. -/
def sideI (l : List Sp) (r : Rc) : Int :=
  if insB l r.1 = true ∧ insB l (r.2.1, r.1.2) = true ∧ insB l r.2 = true ∧ insB l (r.1.1, r.2.2) = true then 1 else if apB l (crn r) 0 = true then -1 else 0
theorem zone_two {k : Nat} {l m : List Sp} {r : Int} (h : ZoneP k l) (hm : 0 < m.length ∧ m.length ≤ 1000) (hb : ∀ s ∈ m, SpB 805306368 s) (hr : 0 ≤ r ∧ r < 1073741824) : Two l m r :=
  ⟨by have := h.2.1; omega, by have := h.2.1; omega, hm.1, hm.2, fun s hs => by have := h.2.2.1 s hs; unfold nearP at this; unfold SpB Bd; omega, hb, hr⟩
theorem pside {w : World} {nm : List UInt8} {v : Value} {l : List Sp} {k : Nat} (r : Rc) (h : Sps w v l) (hz : ZoneP k l) (hr : RcB r) : Calls Try.prog 21 #[ZV nm v, RCV r] w (Vc.Ret (.int .i64 (sideI l r)) w) := by
  have h0 := h
  obtain ⟨b0, p0, x1, rfl, hb, hc⟩ := sps_form h
  have two : Two l (crn r) 0 := zone_two hz (by simp [crn]) (crn_bd hr) (by omega)
  have hl : l.length ≤ 1000 := two.a1
  have sn : ¬ (insB l r.1 = true ∧ insB l (r.2.1, r.1.2) = true ∧ insB l r.2 = true ∧ insB l (r.1.1, r.2.2) = true) → sideI l r = if apB l (crn r) 0 = true then -1 else 0 := fun hn => if_neg hn
  have ap : ¬ (insB l r.1 = true ∧ insB l (r.2.1, r.1.2) = true ∧ insB l r.2 = true ∧ insB l (r.1.1, r.2.2) = true) → ((apB l (crn r) 0 = true → (Value.int .i64 (-1) : Value) = .int .i64 (sideI l r)) ∧ (¬ apB l (crn r) 0 = true → (Value.int .i64 0 : Value) = .int .i64 (sideI l r))) := fun hno =>
    ⟨fun h => by rw [sn hno, if_pos h], fun h => by rw [sn hno, if_neg h]⟩
  have pap := fun (t : TypeId) (k : Nat) (w' : World) (hw : Below w.heap.size w w') (hm : w'.heap[k]? = some (.cells #[.int .i64 r.1.1, .int .i64 r.1.2, .int .i64 r.2.1, .int .i64 r.1.2, .int .i64 r.2.1, .int .i64 r.2.2, .int .i64 r.1.1, .int .i64 r.2.2] t)) =>
    papart (sps_below hw h0) (sps_heap (l := crn r) (n := 4) hm rfl rfl) two
  refine vc_safety_side p0 (l.length : Int) x1 r.1.1 r.1.2 r.2.1 r.2.2 b0 nm w _ ?_
  refine ⟨_, fun w' hw => pcont r.1 (sps_below hw h0) hl, ?_⟩
  refine iteI (fun h1 => ?_) (fun h1 => ?_)
  rotate_left
  · exact ⟨_, fun β w' hw hm => pap _ _ w' hw hm.1.2, ap fun h => h1 h.1⟩
  refine ⟨_, fun w' hw => pcont (r.2.1, r.1.2) (sps_below hw h0) hl, ?_⟩
  refine iteI (fun h2 => ?_) (fun h2 => ?_)
  rotate_left
  · exact ⟨_, fun β w' hw hm => pap _ _ w' hw hm.1.2, ap fun h => h2 h.2.1⟩
  refine ⟨_, fun w' hw => pcont r.2 (sps_below hw h0) hl, ?_⟩
  refine iteI (fun h3 => ?_) (fun h3 => ?_)
  rotate_left
  · exact ⟨_, fun β w' hw hm => pap _ _ w' hw hm.1.2, ap fun h => h3 h.2.2.1⟩
  refine ⟨_, fun w' hw => pcont (r.1.1, r.2.2) (sps_below hw h0) hl, ?_⟩
  refine iteI (fun h4 => ?_) (fun h4 => ?_)
  · rw [show sideI l r = 1 from if_pos ⟨h1, h2, h3, h4⟩]
  · exact ⟨_, fun β w' hw hm => pap _ _ w' hw hm.1.2, ap fun h => h4 h.2.2.2⟩
abbrev PV2 (r : Int × Int) : Value := .tuple #[.int .i64 r.1, .int .i64 r.2]
def sideV (k : Nat) (l : List Sp) (r : Rc) : Int × Int := if zoneB k l = true ∧ rectB r = true then (sideI l r, 0) else (0, 2)
theorem pSide {w : World} {nm : List UInt8} {v : Value} {l : List Sp} (r : Rc) (h : Sps w v l) : Calls Try.prog 7 #[ZV nm v, RCV r] w (Vc.Ret (PV2 (sideV nm.length l r)) w) := by
  have h0 := h
  obtain ⟨b0, p0, x1, rfl, hb, hc⟩ := sps_form h
  refine vc_safety_Side p0 (l.length : Int) x1 r.1.1 r.1.2 r.2.1 r.2.2 b0 nm w _ ?_
  refine ⟨_, fun w' hw => pzone (sps_below hw h0), ?_⟩
  refine iteI (fun h1 => ?_) (fun h1 => ?_)
  rotate_left
  · rw [show sideV nm.length l r = (0, 2) from if_neg fun h => h1 h.1]
  refine ⟨_, fun w' hw => prect r _, ?_⟩
  refine iteI (fun h2 => ?_) (fun h2 => ?_)
  rotate_left
  · rw [show sideV nm.length l r = (0, 2) from if_neg fun h => h2 h.2]
  refine ⟨_, fun w' hw => pside r (sps_below hw h0) (of_decide_eq_true h1) (rectB_bd h2), ?_⟩
  rw [show sideV nm.length l r = (sideI l r, 0) from if_pos ⟨h1, h2⟩]
def apV (k : Nat) (a : List Sp) (m : Nat) (b : List Sp) (r : Int) : Bool × Int :=
  if zoneB k a = true ∧ zoneB m b = true then if inR r 0 1099511627776 = true then (decide (r < 536870912) && apB a b r, 0) else (false, 4) else (false, 2)
abbrev BV (r : Bool × Int) : Value := .tuple #[.bool r.1, .int .i64 r.2]
theorem bv {a : Bool} {e : Int} {r : Bool × Int} (h : (a, e) = r) : (.tuple #[.bool a, .int .i64 e] : Value) = BV r := by rw [← h]
theorem near_bd {k : Nat} {l : List Sp} (h : ZoneP k l) : ∀ s ∈ l, SpB 805306368 s := fun s hs => by have := h.2.2.1 s hs; unfold nearP at this; unfold SpB Bd; omega
theorem pApart {w : World} {na nb : List UInt8} {va vb : Value} {a b : List Sp} (r : Int) (ha : Sps w va a) (hb : Sps w vb b) : Calls Try.prog 10 #[ZV na va, ZV nb vb, .int .i64 r] w (Vc.Ret (BV (apV na.length a nb.length b r)) w) := by
  have ha0 := ha
  have hb0 := hb
  obtain ⟨b0, p0, x1, rfl, _, _⟩ := sps_form ha
  obtain ⟨b1, p1, x3, rfl, _, _⟩ := sps_form hb
  refine vc_safety_Apart p0 p1 (a.length : Int) x1 (b.length : Int) x3 r b0 b1 na nb w _ ?_
  refine ⟨_, fun w' hw => pzone (sps_below hw ha0), ?_⟩
  refine iteI (fun h1 => ?_) (fun h1 => ?_)
  rotate_left
  · exact bv (if_neg fun h => h1 h.1).symm
  refine ⟨_, fun w' hw => pzone (sps_below hw hb0), ?_⟩
  refine iteI (fun h2 => ?_) (fun h2 => ?_)
  rotate_left
  · exact bv (if_neg fun h => h2 h.2).symm
  refine ⟨_, fun w' hw => pin_any _ _ _ _, ?_⟩
  refine iteI (fun h3 => ?_) (fun h3 => ?_)
  rotate_left
  · refine bv ?_
    unfold apV
    rw [if_pos ⟨h1, h2⟩, if_neg h3]
  have h4 := inR_iff.1 h3
  refine iteI (fun h5 => ?_) (fun h5 => ?_)
  · refine bv ?_
    unfold apV
    rw [if_pos ⟨h1, h2⟩, if_pos h3, decide_eq_false (by omega)]
    rfl
  · refine ⟨_, fun w' hw => papart (sps_below hw ha0) (sps_below hw hb0) (zone_two (of_decide_eq_true h1) (by have := (of_decide_eq_true h2).2.1; omega) (near_bd (of_decide_eq_true h2)) (by omega)), ?_⟩
    refine bv ?_
    unfold apV
    rw [if_pos ⟨h1, h2⟩, if_pos h3, decide_eq_true (by omega)]
    rfl
end Go.Proofs.Ytpjajgeajncdgaa
set_option linter.unusedVariables false
set_option maxRecDepth 4000
namespace Go.Proofs.Ytpjajgeajncdgaa
open Go Go.RowKit Ul Vc
attribute [local irreducible] Go.Calls
structure Zn where
  nm : List UInt8
  v : Value
  cs : List Sp
structure Tn where
  z : Zn
  people : Int
  area : Int
def znc (z : Zn) : List Value := [.string ⟨z.nm.toArray⟩, z.v]
def tnc (t : Tn) : List Value := [.string ⟨t.z.nm.toArray⟩, t.z.v, .int .i64 t.people, .int .i64 t.area]
theorem znc_len (z : Zn) : (znc z).length = 2 := rfl
theorem tnc_len (t : Tn) : (tnc t).length = 4 := rfl
structure Pl where
  al : Zn
  pv : Value
  prot : List Zn
  tv : Value
  towns : List Tn
  rate : Int
  pat : Int
  scat : Int
  hits : Int
def PLV (p : Pl) : Value := .agg #[.string ⟨p.al.nm.toArray⟩, p.al.v, p.pv, p.tv, .int .i64 p.rate, .int .i64 p.pat, .int .i64 p.scat, .int .i64 p.hits]
/-- A plan, as it lies in memory. -/
structure PlAt (w : World) (p : Pl) : Prop where
  al : Sps w p.al.v p.al.cs
  pr : SlAt w p.pv 2 (p.prot.flatMap znc)
  prs : ∀ z ∈ p.prot, Sps w z.v z.cs
  tn : SlAt w p.tv 4 (p.towns.flatMap tnc)
  tns : ∀ t ∈ p.towns, Sps w t.z.v t.z.cs
theorem plAt_below {w w' : World} {p : Pl} (hb : Below w.heap.size w w') (h : PlAt w p) : PlAt w' p :=
  ⟨sps_below hb h.al, sl_below hb h.pr, fun z hz => sps_below hb (h.prs z hz), sl_below hb h.tn, fun t ht => sps_below hb (h.tns t ht)⟩
def zB (z : Zn) : Bool := zoneB z.nm.length z.cs
def tB (t : Tn) : Bool := zB t.z && inR t.people 0 1073741824 && inR t.area 1 1073741824
def PlanP (p : Pl) : Prop := zB p.al = true ∧ (p.prot.length ≤ 16 ∧ p.towns.length ≤ 16) ∧ (∀ z ∈ p.prot, zB z = true) ∧ (∀ t ∈ p.towns, tB t = true) ∧
  (inR p.rate 0 268435456 = true ∧ inR p.scat 0 268435456 = true ∧ inR p.hits 0 268435456 = true ∧ inR p.pat 0 1000 = true)
instance (p : Pl) : Decidable (PlanP p) := inferInstanceAs (Decidable (_ ∧ _ ∧ _ ∧ _ ∧ _))
def planB (p : Pl) : Bool := decide (PlanP p)
theorem zns_form {w : World} {v : Value} {l : List Zn} (h : SlAt w v 2 (l.flatMap znc)) : ∃ (b0 : Bool) (p0 : Nat × Nat) (x1 : Int), v = (if b0 = true then .slice none 0 0 else .slice (some (Vc.qad p0 (Int.toNat (l.length : Int)) (Int.toNat x1))) (Int.toNat (l.length : Int)) (Int.toNat x1)) ∧ (b0 = true → l.length = 0) ∧
    (∀ (i : Nat) (z : Zn), l[i]? = some z → w.cell? ⟨p0.1, p0.2 + i * 2 + 0, none⟩ = some (.string ⟨z.nm.toArray⟩) ∧ w.cell? ⟨p0.1, p0.2 + i * 2 + 1, none⟩ = some z.v) := by
  obtain ⟨b0, p0, x1, h1, h2, h3⟩ := sl_form h (by decide) (flat_len znc_len l)
  refine ⟨b0, p0, x1, h1, h2, fun i p hp => ?_⟩
  simp only [Nat.add_assoc]
  exact ⟨h3 (i * 2 + 0) _ (flat_at znc_len hp (by decide)), h3 (i * 2 + 1) _ (flat_at znc_len hp (by decide))⟩
theorem tns_form {w : World} {v : Value} {l : List Tn} (h : SlAt w v 4 (l.flatMap tnc)) : ∃ (b0 : Bool) (p0 : Nat × Nat) (x1 : Int), v = (if b0 = true then .slice none 0 0 else .slice (some (Vc.qad p0 (Int.toNat (l.length : Int)) (Int.toNat x1))) (Int.toNat (l.length : Int)) (Int.toNat x1)) ∧ (b0 = true → l.length = 0) ∧
    (∀ (i : Nat) (t : Tn), l[i]? = some t → w.cell? ⟨p0.1, p0.2 + i * 4 + 0, none⟩ = some (.string ⟨t.z.nm.toArray⟩) ∧ w.cell? ⟨p0.1, p0.2 + i * 4 + 1, none⟩ = some t.z.v ∧
      w.cell? ⟨p0.1, p0.2 + i * 4 + 2, none⟩ = some (.int .i64 t.people) ∧ w.cell? ⟨p0.1, p0.2 + i * 4 + 3, none⟩ = some (.int .i64 t.area)) := by
  obtain ⟨b0, p0, x1, h1, h2, h3⟩ := sl_form h (by decide) (flat_len tnc_len l)
  refine ⟨b0, p0, x1, h1, h2, fun i p hp => ?_⟩
  simp only [Nat.add_assoc]
  exact ⟨h3 (i * 4 + 0) _ (flat_at tnc_len hp (by decide)), h3 (i * 4 + 1) _ (flat_at tnc_len hp (by decide)), h3 (i * 4 + 2) _ (flat_at tnc_len hp (by decide)), h3 (i * 4 + 3) _ (flat_at tnc_len hp (by decide))⟩
theorem zform {w : World} {z : Zn} (h : Sps w z.v z.cs) : ∃ (b0 : Bool) (p0 : Nat × Nat) (x0 x1 : Int), z.v = (if b0 = true then .slice none 0 0 else .slice (some (Vc.qad p0 (Int.toNat x0) (Int.toNat x1))) (Int.toNat x0) (Int.toNat x1)) := by
  obtain ⟨b0, p0, x1, h1, _⟩ := sps_form h
  exact ⟨b0, p0, _, x1, h1⟩
theorem planB_no {p : Pl} (h : ¬ PlanP p) : (Value.bool false : Value) = .bool (planB p) := by rw [show planB p = false from decide_eq_false h]
theorem pplan {w : World} {p : Pl} (h : PlAt w p) : Calls Try.prog 24 #[PLV p] w (Vc.Ret (.bool (planB p)) w) := by
  have h0 := h
  obtain ⟨⟨anm, av, acs⟩, pv, prot, tv, towns, rate, pat, scat, hits⟩ := p
  obtain ⟨ha, hp, hps, ht, hts⟩ := h
  simp only at ha hp hps ht hts
  obtain ⟨b0, p0, x1, rfl, _, _⟩ := sps_form ha
  obtain ⟨b1, p1, x3, rfl, pb, pc⟩ := zns_form hp
  obtain ⟨b2, p2, x5, rfl, tb, tc⟩ := tns_form ht
  have pn : (¬ (b1 = true)) ∨ ((prot.length : Int) = 0) := sps_nb pb
  have tn : (¬ (b2 = true)) ∨ ((towns.length : Int) = 0) := sps_nb tb
  refine vc_safety_CheckPlan p0 p1 p2 (acs.length : Int) x1 (prot.length : Int) x3 (towns.length : Int) x5 rate pat scat hits b0 b1 b2 anm w _ ?_
  refine ⟨_, fun w' hw => pzone (sps_below hw ha), ?_⟩
  refine iteI (fun h1 => ?_) (fun h1 => planB_no fun hz => h1 hz.1)
  refine ⟨by omega, pn, ?_⟩
  refine iteI (fun h2 => planB_no fun hz => by have := hz.2.1.1; simp only at this; omega) (fun h2 => ?_)
  refine ⟨by omega, tn, ?_⟩
  refine iteI (fun h3 => planB_no fun hz => by have := hz.2.1.2; simp only at this; omega) (fun h3 => ?_)
  refine ⟨by omega, pn, ?_⟩
  refine ⟨fun y => ∃ (x : Int) (i : Nat), i ≤ prot.length ∧ (∀ j z, j < i → prot[j]? = some z → zB z = true) ∧ y = [.i x, .i (i : Int)], upK 1 (prot.length : Int), ⟨0, 0, by omega, fun j z hj => by omega, rfl⟩, ?_⟩
  rintro x10 x11 ⟨x, i, hi, hg, hy⟩
  simp only [List.cons.injEq, Vc.Vl.i.injEq, and_true] at hy
  obtain ⟨rfl, rfl⟩ := hy
  have hi0 : (0 : Int) ≤ (i : Int) := Int.natCast_nonneg _
  refine iteI (fun h4 => ?_) (fun h4 => ?_)
  · have hlt : i < prot.length := by omega
    have hq := List.getElem?_eq_getElem hlt
    have hm : prot[i] ∈ prot := List.getElem_mem hlt
    generalize prot[i] = z at hq hm
    have hz := hps z hm
    obtain ⟨c0, c1⟩ := pc i z hq
    obtain ⟨zb, zp, zx, zy, hv⟩ := zform hz
    rw [hv] at c1
    have pb0 : ¬ (b1 = true) := sps_nb0 pb (by omega)
    refine ⟨pb0, by omega, by omega, _, c0, _, _, _, _, c1, _, fun w' hw => by rw [← hv]; exact pzone (sps_below hw hz), ?_⟩
    refine iteI (fun h5 => ?_) (fun h5 => ?_)
    · rintro _ rfl
      rw [wrap_up i (by omega)]
      refine ⟨⟨_, i + 1, by omega, fun j y hj hyj => ?_, rfl⟩, by simp only [upK, List.getElem?_cons_zero, List.getElem?_cons_succ]; omega⟩
      by_cases hji : j = i
      · subst hji
        rw [hq] at hyj
        cases hyj
        exact h5
      · exact hg j y (by omega) hyj
    · exact iteI (fun _ => planB_no fun hz => h5 (hz.2.2.1 z hm)) (fun a => absurd hi0 a)
  · have hprot : ∀ z ∈ prot, zB z = true := fun z hz => by
      obtain ⟨j, hj⟩ := List.getElem?_of_mem hz
      exact hg j z (by have := (List.getElem?_eq_some_iff.1 hj).1; omega) hj
    clear h4 hg hi0 hi
    refine ⟨by omega, tn, ?_⟩
    refine ⟨fun y => ∃ (x : Int) (i : Nat), i ≤ towns.length ∧ (∀ j z, j < i → towns[j]? = some z → tB z = true) ∧ y = [.i x, .i (i : Int)], upK 1 (towns.length : Int), ⟨0, 0, by omega, fun j z hj => by omega, rfl⟩, ?_⟩
    rintro x12 x13 ⟨x, i, hi, hg, hy⟩
    simp only [List.cons.injEq, Vc.Vl.i.injEq, and_true] at hy
    obtain ⟨rfl, rfl⟩ := hy
    have hi0 : (0 : Int) ≤ (i : Int) := Int.natCast_nonneg _
    refine iteI (fun h4 => ?_) (fun h4 => ?_)
    · have hlt : i < towns.length := by omega
      have hq := List.getElem?_eq_getElem hlt
      have hm : towns[i] ∈ towns := List.getElem_mem hlt
      generalize towns[i] = z at hq hm
      have hz := hts z hm
      obtain ⟨c0, c1, c2, c3⟩ := tc i z hq
      obtain ⟨zb, zp, zx, zy, hv⟩ := zform hz
      rw [hv] at c1
      have tb0 : ¬ (b2 = true) := sps_nb0 tb (by omega)
      refine ⟨tb0, by omega, by omega, _, c0, _, _, _, _, c1, _, c2, _, c3, _, fun w' hw => by rw [← hv]; exact pzone (sps_below hw hz), ?_⟩
      have bad : ¬ tB z = true → (Value.bool false : Value) = .bool (planB ⟨⟨anm, .nilFunc, acs⟩, .nilFunc, prot, .nilFunc, towns, rate, pat, scat, hits⟩) := fun hn => planB_no fun hz => hn (hz.2.2.2.1 z hm)
      refine iteI (fun h5 => ?_) (fun h5 => ?_)
      rotate_left
      · exact iteI (fun _ => bad fun ht => h5 (by simp only [tB, Bool.and_eq_true] at ht; exact ht.1.1)) (fun a => absurd hi0 a)
      refine ⟨_, fun w' hw => pin_any _ _ _ _, ?_⟩
      refine iteI (fun h6 => ?_) (fun h6 => ?_)
      rotate_left
      · exact iteI (fun _ => bad fun ht => h6 (by simp only [tB, Bool.and_eq_true] at ht; exact ht.1.2)) (fun a => absurd hi0 a)
      refine ⟨_, fun w' hw => pin_any _ _ _ _, ?_⟩
      refine iteI (fun h7 => ?_) (fun h7 => ?_)
      rotate_left
      · exact iteI (fun _ => bad fun ht => h7 (by simp only [tB, Bool.and_eq_true] at ht; exact ht.2)) (fun a => absurd hi0 a)
      rintro _ rfl
      rw [wrap_up i (by omega)]
      refine ⟨⟨_, i + 1, by omega, fun j y hj hyj => ?_, rfl⟩, by simp only [upK, List.getElem?_cons_zero, List.getElem?_cons_succ]; omega⟩
      by_cases hji : j = i
      · subst hji
        rw [hq] at hyj
        cases hyj
        simp only [tB, Bool.and_eq_true]
        exact ⟨⟨h5, h6⟩, h7⟩
      · exact hg j y (by omega) hyj
    · have htowns : ∀ z ∈ towns, tB z = true := fun z hz => by
        obtain ⟨j, hj⟩ := List.getElem?_of_mem hz
        exact hg j z (by have := (List.getElem?_eq_some_iff.1 hj).1; omega) hj
      refine ⟨_, fun w' hw => pin_any _ _ _ _, ?_⟩
      refine iteI (fun g1 => ?_) (fun g1 => planB_no fun hz => g1 hz.2.2.2.2.1)
      refine ⟨_, fun w' hw => pin_any _ _ _ _, ?_⟩
      refine iteI (fun g2 => ?_) (fun g2 => planB_no fun hz => g2 hz.2.2.2.2.2.1)
      refine ⟨_, fun w' hw => pin_any _ _ _ _, ?_⟩
      refine iteI (fun g3 => ?_) (fun g3 => planB_no fun hz => g3 hz.2.2.2.2.2.2.1)
      refine ⟨_, fun w' hw => pin_any _ _ _ _, ?_⟩
      congr 1
      by_cases g4 : inR pat 0 1000 = true
      · rw [g4]
        exact (decide_eq_true (show PlanP ⟨⟨anm, .nilFunc, acs⟩, .nilFunc, prot, .nilFunc, towns, rate, pat, scat, hits⟩ from ⟨h1, ⟨show prot.length ≤ 16 by omega, show towns.length ≤ 16 by omega⟩, hprot, htowns, g1, g2, g3, g4⟩)).symm
      · rw [(Bool.not_eq_true _).mp g4]
        exact (decide_eq_false fun hz => g4 hz.2.2.2.2.2.2.2).symm
end Go.Proofs.Ytpjajgeajncdgaa
set_option linter.unusedVariables false
set_option maxRecDepth 4000
namespace Go.Proofs.Ytpjajgeajncdgaa
open Go Go.RowKit Ul Vc
attribute [local irreducible] Go.Calls
def grown (r : Rc) (b : Int) : Rc := ((r.1.1 - b, r.1.2 - b), (r.2.1 + b, r.2.2 + b))
def GrB (r : Rc) (b : Int) : Prop := (SpB 536870912 r.1 ∧ SpB 536870912 r.2) ∧ (0 ≤ b ∧ b ≤ 268435456)
theorem pgrown {r : Rc} {b : Int} (h : GrB r b) (w : World) : Calls Try.prog 25 #[RCV r, .int .i64 b] w (Vc.Ret (RCV (grown r b)) w) := by
  refine vc_safety_grown _ _ _ _ _ w _ ?_
  unfold GrB SpB Bd at h
  rintro _ rfl _ rfl _ rfl _ rfl
  rw [Vc.i64_id (by omega), Vc.i64_id (by omega), Vc.i64_id (by omega), Vc.i64_id (by omega)]
  rfl
theorem grown_bd {r : Rc} {b : Int} (h : GrB r b) : RcB (grown r b) := by
  unfold GrB SpB Bd at h
  unfold RcB SpB Bd grown; simp only; omega
theorem rectB_gr {r : Rc} {b : Int} (h : rectB r = true) (hb : 0 ≤ b ∧ b ≤ 268435456) : GrB r b := by
  have := rectB_iff.1 h
  unfold GrB SpB Bd; omega
def riskT (t : Tn) (hits : Int) : Int :=
  if IntKind.i64.wrap (Int.tdiv (IntKind.i64.wrap (IntKind.i64.wrap (IntKind.i64.wrap (t.people * hits) + t.area) - 1)) t.area) < t.people then
    IntKind.i64.wrap (Int.tdiv (IntKind.i64.wrap (IntKind.i64.wrap (IntKind.i64.wrap (t.people * hits) + t.area) - 1)) t.area) else t.people
def riskF (r : Rc) (hits : Int) (l : List Tn) : Int := l.foldl (fun n t => if sideI t.z.cs r = -1 then n else IntKind.i64.wrap (n + riskT t hits)) 0
def riskV (p : Pl) (r : Rc) : Int × Int := if planB p = true ∧ rectB r = true then (riskF (grown r p.scat) p.hits p.towns, 0) else (0, 2)
theorem sideI_cases (l : List Sp) (r : Rc) : sideI l r = 1 ∨ sideI l r = -1 ∨ sideI l r = 0 := by
  unfold sideI; split
  · exact .inl rfl
  · split
    · exact .inr (.inl rfl)
    · exact .inr (.inr rfl)
abbrev plit (anm : List UInt8) (av : Value) (acs : List Sp) (pv : Value) (prot : List Zn) (tv : Value) (towns : List Tn) (rate pat scat hits : Int) : Pl := ⟨⟨anm, av, acs⟩, pv, prot, tv, towns, rate, pat, scat, hits⟩
theorem pv2 {a e : Int} {r : Int × Int} (h : (a, e) = r) : (.tuple #[.int .i64 a, .int .i64 e] : Value) = PV2 r := by rw [← h]
theorem prisk {w : World} {p : Pl} (r : Rc) (h : PlAt w p) : Calls Try.prog 12 #[PLV p, RCV r] w (Vc.Ret (PV2 (riskV p r)) w) := by
  have h0 := h
  obtain ⟨⟨anm, av, acs⟩, pv, prot, tv, towns, rate, pat, scat, hits⟩ := p
  obtain ⟨ha, hp, hps, ht, hts⟩ := h
  simp only at ha hp hps ht hts
  obtain ⟨b0, p0, x1, rfl, _, _⟩ := sps_form ha
  obtain ⟨b1, p1, x3, rfl, pb, pc⟩ := zns_form hp
  obtain ⟨b2, p2, x5, rfl, tb, tc⟩ := tns_form ht
  have pn : (¬ (b1 = true)) ∨ ((prot.length : Int) = 0) := sps_nb pb
  have tn : (¬ (b2 = true)) ∨ ((towns.length : Int) = 0) := sps_nb tb
  refine vc_safety_Risk p0 p1 p2 (acs.length : Int) x1 (prot.length : Int) x3 (towns.length : Int) x5 rate pat scat hits r.1.1 r.1.2 r.2.1 r.2.2 b0 b1 b2 anm w _ ?_
  refine ⟨_, fun w' hw => pplan (plAt_below hw h0), ?_⟩
  refine iteI (fun h1 => ?_) (fun h1 => pv2 (if_neg fun h => h1 h.1).symm)
  refine ⟨_, fun w' hw => prect r _, ?_⟩
  refine iteI (fun h2 => ?_) (fun h2 => pv2 (if_neg fun h => h2 h.2).symm)
  have hb : planB (plit anm .nilFunc acs .nilFunc prot .nilFunc towns rate pat scat hits) = true := h1
  have hP : PlanP (plit anm .nilFunc acs .nilFunc prot .nilFunc towns rate pat scat hits) := of_decide_eq_true hb
  have hlen : towns.length ≤ 16 := hP.2.1.2
  have hsc := inR_iff.1 hP.2.2.2.2.2.1
  have hgr : GrB r scat := rectB_gr h2 hsc
  refine ⟨by omega, tn, ?_⟩
  refine ⟨fun y => ∃ (i : Nat), i ≤ towns.length ∧ y = [.i (riskF (grown r scat) hits (towns.take i)), .i (i : Int)], upK 1 (towns.length : Int), ⟨0, by omega, rfl⟩, ?_⟩
  rintro x10 x11 ⟨i, hi, hy⟩
  simp only [List.cons.injEq, Vc.Vl.i.injEq, and_true] at hy
  obtain ⟨rfl, rfl⟩ := hy
  refine iteI (fun h4 => ?_) (fun h4 => ?_)
  · have hlt : i < towns.length := by omega
    have et : towns.take (i + 1) = towns.take i ++ [towns[i]] := by rw [List.take_add_one, List.getElem?_eq_getElem hlt]; rfl
    have hm0 : towns[i] ∈ towns := List.getElem_mem hlt
    have hq0 := List.getElem?_eq_getElem hlt
    generalize towns[i] = z at et hm0 hq0
    have hz := hts z hm0
    obtain ⟨c0, c1, c2, c3⟩ := tc i z hq0
    obtain ⟨zb, zp, zx, zy, hv⟩ := zform hz
    rw [hv] at c1
    have tb0 : ¬ (b2 = true) := sps_nb0 tb (by omega)
    have hzp := hP.2.2.2.1 z hm0
    simp only [tB, Bool.and_eq_true] at hzp
    have har := inR_iff.1 hzp.2
    refine ⟨tb0, by omega, by omega, _, c0, _, _, _, _, c1, _, c2, _, c3, _, _, _, _, fun w' hw => pgrown hgr _, ?_⟩
    refine ⟨_, fun w' hw => by rw [← hv]; exact pside _ (sps_below hw hz) (of_decide_eq_true hzp.1.1) (grown_bd hgr), ?_⟩
    refine iteI (fun h5 => ?_) (fun h5 => ?_)
    · rintro _ rfl _ rfl _ rfl
      refine ⟨by omega, ?_⟩
      rintro _ rfl _ rfl _ rfl _ rfl
      rw [wrap_up i (by omega)]
      refine ⟨⟨i + 1, by omega, ?_⟩, by simp only [upK, List.getElem?_cons_zero, List.getElem?_cons_succ]; omega⟩
      rw [et]
      simp only [riskF, List.foldl_append, List.foldl_cons, List.foldl_nil]
      rw [if_neg (show ¬ sideI z.z.cs (grown r scat) = -1 by omega)]
      rfl
    · rintro _ rfl
      rw [wrap_up i (by omega)]
      refine ⟨⟨i + 1, by omega, ?_⟩, by simp only [upK, List.getElem?_cons_zero, List.getElem?_cons_succ]; omega⟩
      rw [et]
      simp only [riskF, List.foldl_append, List.foldl_cons, List.foldl_nil]
      rw [if_pos (show sideI z.z.cs (grown r scat) = -1 by have := sideI_cases z.z.cs (grown r scat); omega)]
  · refine pv2 ?_
    rw [List.take_of_length_le (by omega)]
    exact (if_pos ⟨hb, h2⟩).symm
end Go.Proofs.Ytpjajgeajncdgaa
set_option linter.unusedVariables false
set_option maxRecDepth 4000
namespace Go.Proofs.Ytpjajgeajncdgaa
open Go Go.RowKit Ul Vc
attribute [local irreducible] Go.Calls
structure Fl where
  x : Sp
  y : Sp
  h : Sp
  vx : Sp
  vy : Sp
  vz : Sp
  pull : Sp
  wx : Sp
  wy : Sp
def FLV (f : Fl) : Value := .agg #[.int .i64 f.x.1, .int .i64 f.x.2, .int .i64 f.y.1, .int .i64 f.y.2, .int .i64 f.h.1, .int .i64 f.h.2, .int .i64 f.vx.1, .int .i64 f.vx.2, .int .i64 f.vy.1, .int .i64 f.vy.2, .int .i64 f.vz.1, .int .i64 f.vz.2, .int .i64 f.pull.1, .int .i64 f.pull.2, .int .i64 f.wx.1, .int .i64 f.wx.2, .int .i64 f.wy.1, .int .i64 f.wy.2]
def SpI (p : Sp) : Prop := I64 p.1 ∧ I64 p.2
structure FlI (f : Fl) : Prop where
  x : SpI f.x
  y : SpI f.y
  h : SpI f.h
  vx : SpI f.vx
  vy : SpI f.vy
  vz : SpI f.vz
  pull : SpI f.pull
  wx : SpI f.wx
  wy : SpI f.wy
def I63 (x : Int) : Prop := -9223372036854775807 ≤ x ∧ x ≤ 9223372036854775807
theorem I63.i {x : Int} (h : I63 x) : I64 x := by unfold I63 at h; unfold I64; omega
def R63 (r : R) : Prop := I63 r.1 ∧ I63 r.2.1
theorem R63.z (e : Int) : R63 (0, 0, e) := by exact ⟨show I63 0 by unfold I63; decide, show I63 0 by unfold I63; decide⟩
theorem R63.l {r : R} (h : R63 r) : I64 r.1 := h.1.i
theorem R63.h {r : R} (h : R63 r) : I64 r.2.1 := h.2.i
theorem fit_63 (lo hi : Int) : R63 (fit lo hi) := by
  unfold fit
  split
  · rename_i h; unfold R63 I63; simp only; omega
  · exact R63.z _
theorem add_63 (a b c d : Int) : R63 (add a b c d) := by
  unfold add; split
  · exact fit_63 _ _
  · exact R63.z _
theorem mul_63 (a b c d : Int) : R63 (mul a b c d) := by
  unfold mul; split
  · exact fit_63 _ _
  · exact R63.z _
theorem scale_63 (a b n : Int) : R63 (scale a b n) := by
  unfold scale; split
  · exact fit_63 _ _
  · exact R63.z _
theorem div_63 (a b c d : Int) : R63 (div a b c d) := by
  unfold div; split
  · split
    · exact R63.z _
    · exact fit_63 _ _
  · exact R63.z _
theorem square_63 (a b : Int) : R63 (square a b) := by
  unfold square; split
  · exact mul_63 _ _ _ _
  · exact R63.z _
theorem root_63 (a b : Int) : R63 (root a b) := by
  unfold root; split
  · split
    · exact R63.z _
    · have h1 := isqrt_bd (max a 0 * 4294967296)
      have h2 := isqrt_bd (b * 4294967296)
      have h3 : rootUp (b * 4294967296) = isqrt (b * 4294967296) ∨ rootUp (b * 4294967296) = isqrt (b * 4294967296) + 1 := by unfold rootUp; split <;> omega
      unfold R63 I63; simp only; omega
  · exact R63.z _
def max0 (x : Int) : Int := if x > 0 then x else 0
def fwd (a b c d : Int) : R := (max0 (div a b c d).1, (div a b c d).2.1, (div a b c d).2.2)
theorem fwd_63 (a b c d : Int) : R63 (fwd a b c d) := by
  obtain ⟨h1, h2⟩ := div_63 a b c d
  refine ⟨?_, h2⟩
  unfold fwd max0
  simp only
  split
  · exact h1
  · unfold I63; decide
def zr : Rc := ((0, 0), (0, 0))
def ch (r : R) (k : Sp → Rc × Int) : Rc × Int := if r.2.2 = 0 then k (r.1, r.2.1) else (zr, r.2.2)
def dn (n : Int) : Int := if n < -4503599627370496 then 536870913 else if 4503599627370496 < n then 536870913 else n * 1000 / 4294967296
def lastR (x y : Sp) : Rc := ((dn x.1, dn y.1), (-dn (-x.2), -dn (-y.2)))
def last (x y : Sp) : Rc × Int := if rectB (lastR x y) = true then (lastR x y, 0) else (zr, 4)
def flB (f : Fl) : Bool := decide (chk f.x.1 f.x.2 = 0 ∧ chk f.y.1 f.y.2 = 0 ∧ chk f.h.1 f.h.2 = 0 ∧ chk f.vx.1 f.vx.2 = 0 ∧ chk f.vy.1 f.vy.2 = 0 ∧ chk f.vz.1 f.vz.2 = 0 ∧ chk f.pull.1 f.pull.2 = 0 ∧ chk f.wx.1 f.wx.2 = 0 ∧ chk f.wy.1 f.wy.2 = 0 ∧ 0 < f.pull.1 ∧ 0 ≤ f.h.1)
abbrev RIV (r : Rc × Int) : Value := .tuple #[RCV r.1, .int .i64 r.2]
theorem ri {v r : Rc × Int} (h : r = v) : RIV v = RIV r := by rw [h]
/-- Where what falls hits the ground. -/
def impV (f : Fl) : Rc × Int :=
  if flB f = true then
    ch (square f.vz.1 f.vz.2) fun a =>
    ch (scale f.pull.1 f.pull.2 2) fun b =>
    ch (mul b.1 b.2 f.h.1 f.h.2) fun c =>
    ch (add a.1 a.2 c.1 c.2) fun d =>
    ch (root d.1 d.2) fun e =>
    ch (add f.vz.1 f.vz.2 e.1 e.2) fun g =>
    ch (fwd g.1 g.2 f.pull.1 f.pull.2) fun t =>
    ch (mul f.vx.1 f.vx.2 t.1 t.2) fun d1 =>
    ch (add f.x.1 f.x.2 d1.1 d1.2) fun x1 =>
    ch (mul f.wx.1 f.wx.2 t.1 t.2) fun d2 =>
    ch (add x1.1 x1.2 d2.1 d2.2) fun x2 =>
    ch (mul f.vy.1 f.vy.2 t.1 t.2) fun d3 =>
    ch (add f.y.1 f.y.2 d3.1 d3.2) fun y1 =>
    ch (mul f.wy.1 f.wy.2 t.1 t.2) fun d4 =>
    ch (add y1.1 y1.2 d4.1 d4.2) fun y2 =>
    last x2 y2
  else (zr, 2)
theorem psq (a b : Sp) (w : World) (h : SpI a) : Calls Try.prog 30 #[SPV a, SPV b] w (Vc.Ret (RV (square a.1 a.2)) w) := by
  refine vc_safety_square _ _ _ _ w _ ?_
  (repeat apply Exists.intro); refine And.intro (fun _ _ => psquare_any _ _ _ h.1 h.2) ?_
  rfl
theorem pdouble (a b : Sp) (w : World) (h : SpI a) : Calls Try.prog 31 #[SPV a, SPV b] w (Vc.Ret (RV (scale a.1 a.2 2)) w) := by
  refine vc_safety_double _ _ _ _ w _ ?_
  (repeat apply Exists.intro); refine And.intro (fun _ _ => pscale_any _ _ _ _ h.1 h.2 (by unfold I64; decide)) ?_
  rfl
theorem proot' (a b c d : Int) (w : World) (h1 : I64 a) (h2 : I64 b) : Calls Try.prog 34 #[.agg #[.int .i64 a, .int .i64 b], .agg #[.int .i64 c, .int .i64 d]] w (Vc.Ret (RV (root a b)) w) := by
  refine vc_safety_root _ _ _ _ w _ ?_
  (repeat apply Exists.intro); refine And.intro (fun _ _ => pRoot_any _ _ _ h1 h2) ?_
  rfl
theorem pfwd (a b c d : Int) (w : World) (h1 : I64 a) (h2 : I64 b) (h3 : I64 c) (h4 : I64 d) : Calls Try.prog 35 #[.agg #[.int .i64 a, .int .i64 b], .agg #[.int .i64 c, .int .i64 d]] w (Vc.Ret (RV (fwd a b c d)) w) := by
  refine vc_safety_forward _ _ _ _ w _ ?_
  (repeat apply Exists.intro); refine And.intro (fun _ _ => pdiv_any _ _ _ _ _ h1 h2 h3 h4) ?_
  rintro _ rfl
  rfl
theorem dn_bd (n : Int) (h : I64 n) : -1048576000 ≤ dn n ∧ dn n ≤ 1048576000 := by
  unfold dn
  split
  · decide
  · split
    · decide
    · omega
theorem pdown (n : Int) (w : World) (h : I64 n) : Calls Try.prog 17 #[.int .i64 n] w (Vc.Ret (.int .i64 (dn n)) w) := by
  refine vc_safety_down _ w _ ?_
  refine iteI (fun h1 => ?_) (fun h1 => ?_)
  · rw [show dn n = 536870913 from if_pos h1]
  · refine iteI (fun h2 => ?_) (fun h2 => ?_)
    · rw [show dn n = 536870913 by unfold dn; rw [if_neg h1, if_pos h2]]
    · rintro _ rfl _ rfl
      rw [Vc.i64_id (by omega), show dn n = n * 1000 / 4294967296 by unfold dn; rw [if_neg h1, if_neg h2]]
theorem pup' (n : Int) (w : World) (h : I63 n) : Calls Try.prog 18 #[.int .i64 n] w (Vc.Ret (.int .i64 (-dn (-n))) w) := by
  refine vc_safety_up _ w _ ?_
  unfold I63 at h
  rintro _ rfl
  rw [Vc.i64_id (by omega), Int.zero_sub]
  have hn : I64 (-n) := by unfold I64; omega
  have := dn_bd (-n) hn
  refine ⟨_, fun w' hw => pdown _ _ hn, ?_⟩
  rintro _ rfl
  rw [Vc.i64_id (by omega), Int.zero_sub]
theorem pvalid (f : Fl) (w : World) : Calls Try.prog 15 #[FLV f] w (Vc.Ret (.bool (flB f)) w) := by
  refine vc_safety_valid _ _ _ _ _ _ _ _ _ _ _ _ _ _ _ _ _ _ w _ ?_
  refine ⟨_, fun w' hw => check_any _ _ _, ?_⟩
  refine iteI (fun h0 => ?_) (fun h0 => ?_)
  rotate_left
  · rw [show flB f = false from decide_eq_false fun hz => h0 hz.1]
  refine ⟨_, fun w' hw => check_any _ _ _, ?_⟩
  refine iteI (fun h1 => ?_) (fun h1 => ?_)
  rotate_left
  · rw [show flB f = false from decide_eq_false fun hz => h1 hz.2.1]
  refine ⟨_, fun w' hw => check_any _ _ _, ?_⟩
  refine iteI (fun h2 => ?_) (fun h2 => ?_)
  rotate_left
  · rw [show flB f = false from decide_eq_false fun hz => h2 hz.2.2.1]
  refine ⟨_, fun w' hw => check_any _ _ _, ?_⟩
  refine iteI (fun h3 => ?_) (fun h3 => ?_)
  rotate_left
  · rw [show flB f = false from decide_eq_false fun hz => h3 hz.2.2.2.1]
  refine ⟨_, fun w' hw => check_any _ _ _, ?_⟩
  refine iteI (fun h4 => ?_) (fun h4 => ?_)
  rotate_left
  · rw [show flB f = false from decide_eq_false fun hz => h4 hz.2.2.2.2.1]
  refine ⟨_, fun w' hw => check_any _ _ _, ?_⟩
  refine iteI (fun h5 => ?_) (fun h5 => ?_)
  rotate_left
  · rw [show flB f = false from decide_eq_false fun hz => h5 hz.2.2.2.2.2.1]
  refine ⟨_, fun w' hw => check_any _ _ _, ?_⟩
  refine iteI (fun h6 => ?_) (fun h6 => ?_)
  rotate_left
  · rw [show flB f = false from decide_eq_false fun hz => h6 hz.2.2.2.2.2.2.1]
  refine ⟨_, fun w' hw => check_any _ _ _, ?_⟩
  refine iteI (fun h7 => ?_) (fun h7 => ?_)
  rotate_left
  · rw [show flB f = false from decide_eq_false fun hz => h7 hz.2.2.2.2.2.2.2.1]
  refine ⟨_, fun w' hw => check_any _ _ _, ?_⟩
  refine iteI (fun h8 => ?_) (fun h8 => ?_)
  rotate_left
  · rw [show flB f = false from decide_eq_false fun hz => h8 hz.2.2.2.2.2.2.2.2.1]
  refine iteI (fun h9 => ?_) (fun h9 => ?_)
  · congr 1
    rw [Bool.eq_iff_iff]
    simp only [flB, decide_eq_true_eq]
    exact ⟨fun h => ⟨h0, h1, h2, h3, h4, h5, h6, h7, h8, h9, h⟩, fun h => h.2.2.2.2.2.2.2.2.2.2⟩
  · rw [show flB f = false from decide_eq_false fun hz => h9 hz.2.2.2.2.2.2.2.2.2.1]
theorem pimpact (f : Fl) (w : World) (hf : FlI f) : Calls Try.prog 6 #[FLV f] w (Vc.Ret (RIV (impV f)) w) := by
  obtain ⟨hx, hy, hh, hvx, hvy, hvz, hpull, hwx, hwy⟩ := hf
  refine vc_safety_Impact _ _ _ _ _ _ _ _ _ _ _ _ _ _ _ _ _ _ w _ ?_
  refine ⟨_, fun w' hw => pvalid f _, ?_⟩
  refine iteI (fun h => ?_) (fun h => ri (show impV f = (zr, 2) from if_neg h))
  obtain ⟨V, hV⟩ : ∃ V, V = impV f := ⟨_, rfl⟩
  rw [← hV]
  have hE := hV.trans (if_pos h)
  clear hV
  refine ⟨_, _, _, fun w' hw => psq f.vz f.vz _ hvz, ?_⟩
  refine iteI (fun h => ?_) (fun h => ?_)
  rotate_left
  · exact iteI (fun h' => absurd h' h) (fun _ => ri (hE.trans (if_neg h)))
  replace hE := hE.trans (if_pos h)
  have A1 : I64 (square f.vz.1 f.vz.2).1 := (square_63 _ _).l
  have A2 : I64 (square f.vz.1 f.vz.2).2.1 := (square_63 _ _).h
  generalize square f.vz.1 f.vz.2 = ra at *
  refine ⟨_, _, _, fun w' hw => pdouble f.pull f.pull _ hpull, ?_⟩
  refine iteI (fun h => ?_) (fun h => ?_)
  rotate_left
  · exact iteI (fun h' => absurd h' h) (fun _ => ri (hE.trans (if_neg h)))
  replace hE := hE.trans (if_pos h)
  have B1 : I64 (scale f.pull.1 f.pull.2 2).1 := (scale_63 _ _ _).l
  have B2 : I64 (scale f.pull.1 f.pull.2 2).2.1 := (scale_63 _ _ _).h
  generalize scale f.pull.1 f.pull.2 2 = rb at *
  refine ⟨_, _, _, fun w' hw => pmul_any _ _ _ _ _ B1 B2 hh.1 hh.2, ?_⟩
  refine iteI (fun h => ?_) (fun h => ?_)
  rotate_left
  · exact iteI (fun h' => absurd h' h) (fun _ => ri (hE.trans (if_neg h)))
  replace hE := hE.trans (if_pos h)
  have C1 : I64 (mul (rb).1 (rb).2.1 f.h.1 f.h.2).1 := (mul_63 _ _ _ _).l
  have C2 : I64 (mul (rb).1 (rb).2.1 f.h.1 f.h.2).2.1 := (mul_63 _ _ _ _).h
  generalize mul (rb).1 (rb).2.1 f.h.1 f.h.2 = rc at *
  refine ⟨_, _, _, fun w' hw => padd_any _ _ _ _ _ A1 A2 C1 C2, ?_⟩
  refine iteI (fun h => ?_) (fun h => ?_)
  rotate_left
  · exact iteI (fun h' => absurd h' h) (fun _ => ri (hE.trans (if_neg h)))
  replace hE := hE.trans (if_pos h)
  have D1 : I64 (add (ra).1 (ra).2.1 (rc).1 (rc).2.1).1 := (add_63 _ _ _ _).l
  have D2 : I64 (add (ra).1 (ra).2.1 (rc).1 (rc).2.1).2.1 := (add_63 _ _ _ _).h
  generalize add (ra).1 (ra).2.1 (rc).1 (rc).2.1 = rd at *
  refine ⟨_, _, _, fun w' hw => proot' _ _ _ _ _ D1 D2, ?_⟩
  refine iteI (fun h => ?_) (fun h => ?_)
  rotate_left
  · exact iteI (fun h' => absurd h' h) (fun _ => ri (hE.trans (if_neg h)))
  replace hE := hE.trans (if_pos h)
  have E1 : I64 (root (rd).1 (rd).2.1).1 := (root_63 _ _).l
  have E2 : I64 (root (rd).1 (rd).2.1).2.1 := (root_63 _ _).h
  generalize root (rd).1 (rd).2.1 = re at *
  refine ⟨_, _, _, fun w' hw => padd_any _ _ _ _ _ hvz.1 hvz.2 E1 E2, ?_⟩
  refine iteI (fun h => ?_) (fun h => ?_)
  rotate_left
  · exact iteI (fun h' => absurd h' h) (fun _ => ri (hE.trans (if_neg h)))
  replace hE := hE.trans (if_pos h)
  have G1 : I64 (add f.vz.1 f.vz.2 (re).1 (re).2.1).1 := (add_63 _ _ _ _).l
  have G2 : I64 (add f.vz.1 f.vz.2 (re).1 (re).2.1).2.1 := (add_63 _ _ _ _).h
  generalize add f.vz.1 f.vz.2 (re).1 (re).2.1 = rg at *
  refine ⟨_, _, _, fun w' hw => pfwd _ _ _ _ _ G1 G2 hpull.1 hpull.2, ?_⟩
  refine iteI (fun h => ?_) (fun h => ?_)
  rotate_left
  · exact iteI (fun h' => absurd h' h) (fun _ => ri (hE.trans (if_neg h)))
  replace hE := hE.trans (if_pos h)
  have T1 : I64 (fwd (rg).1 (rg).2.1 f.pull.1 f.pull.2).1 := (fwd_63 _ _ _ _).l
  have T2 : I64 (fwd (rg).1 (rg).2.1 f.pull.1 f.pull.2).2.1 := (fwd_63 _ _ _ _).h
  generalize fwd (rg).1 (rg).2.1 f.pull.1 f.pull.2 = rt at *
  refine ⟨_, _, _, fun w' hw => pmul_any _ _ _ _ _ hvx.1 hvx.2 T1 T2, ?_⟩
  refine iteI (fun h => ?_) (fun h => ?_)
  rotate_left
  · exact iteI (fun h' => absurd h' h) (fun _ => ri (hE.trans (if_neg h)))
  replace hE := hE.trans (if_pos h)
  have DA1 : I64 (mul f.vx.1 f.vx.2 (rt).1 (rt).2.1).1 := (mul_63 _ _ _ _).l
  have DA2 : I64 (mul f.vx.1 f.vx.2 (rt).1 (rt).2.1).2.1 := (mul_63 _ _ _ _).h
  generalize mul f.vx.1 f.vx.2 (rt).1 (rt).2.1 = rd1 at *
  refine ⟨_, _, _, fun w' hw => padd_any _ _ _ _ _ hx.1 hx.2 DA1 DA2, ?_⟩
  refine iteI (fun h => ?_) (fun h => ?_)
  rotate_left
  · exact iteI (fun h' => absurd h' h) (fun _ => ri (hE.trans (if_neg h)))
  replace hE := hE.trans (if_pos h)
  have XA1 : I64 (add f.x.1 f.x.2 (rd1).1 (rd1).2.1).1 := (add_63 _ _ _ _).l
  have XA2 : I64 (add f.x.1 f.x.2 (rd1).1 (rd1).2.1).2.1 := (add_63 _ _ _ _).h
  generalize add f.x.1 f.x.2 (rd1).1 (rd1).2.1 = rx1 at *
  refine ⟨_, _, _, fun w' hw => pmul_any _ _ _ _ _ hwx.1 hwx.2 T1 T2, ?_⟩
  refine iteI (fun h => ?_) (fun h => ?_)
  rotate_left
  · exact iteI (fun h' => absurd h' h) (fun _ => ri (hE.trans (if_neg h)))
  replace hE := hE.trans (if_pos h)
  have DB1 : I64 (mul f.wx.1 f.wx.2 (rt).1 (rt).2.1).1 := (mul_63 _ _ _ _).l
  have DB2 : I64 (mul f.wx.1 f.wx.2 (rt).1 (rt).2.1).2.1 := (mul_63 _ _ _ _).h
  generalize mul f.wx.1 f.wx.2 (rt).1 (rt).2.1 = rd2 at *
  refine ⟨_, _, _, fun w' hw => padd_any _ _ _ _ _ XA1 XA2 DB1 DB2, ?_⟩
  refine iteI (fun h => ?_) (fun h => ?_)
  rotate_left
  · exact iteI (fun h' => absurd h' h) (fun _ => ri (hE.trans (if_neg h)))
  replace hE := hE.trans (if_pos h)
  have XB1 : I64 (add (rx1).1 (rx1).2.1 (rd2).1 (rd2).2.1).1 := (add_63 _ _ _ _).l
  have XB2 : I64 (add (rx1).1 (rx1).2.1 (rd2).1 (rd2).2.1).2.1 := (add_63 _ _ _ _).h
  have XB3 : I63 (add (rx1).1 (rx1).2.1 (rd2).1 (rd2).2.1).2.1 := (add_63 _ _ _ _).2
  generalize add (rx1).1 (rx1).2.1 (rd2).1 (rd2).2.1 = rx2 at *
  refine ⟨_, _, _, fun w' hw => pmul_any _ _ _ _ _ hvy.1 hvy.2 T1 T2, ?_⟩
  refine iteI (fun h => ?_) (fun h => ?_)
  rotate_left
  · exact iteI (fun h' => absurd h' h) (fun _ => ri (hE.trans (if_neg h)))
  replace hE := hE.trans (if_pos h)
  have DC1 : I64 (mul f.vy.1 f.vy.2 (rt).1 (rt).2.1).1 := (mul_63 _ _ _ _).l
  have DC2 : I64 (mul f.vy.1 f.vy.2 (rt).1 (rt).2.1).2.1 := (mul_63 _ _ _ _).h
  generalize mul f.vy.1 f.vy.2 (rt).1 (rt).2.1 = rd3 at *
  refine ⟨_, _, _, fun w' hw => padd_any _ _ _ _ _ hy.1 hy.2 DC1 DC2, ?_⟩
  refine iteI (fun h => ?_) (fun h => ?_)
  rotate_left
  · exact iteI (fun h' => absurd h' h) (fun _ => ri (hE.trans (if_neg h)))
  replace hE := hE.trans (if_pos h)
  have YA1 : I64 (add f.y.1 f.y.2 (rd3).1 (rd3).2.1).1 := (add_63 _ _ _ _).l
  have YA2 : I64 (add f.y.1 f.y.2 (rd3).1 (rd3).2.1).2.1 := (add_63 _ _ _ _).h
  generalize add f.y.1 f.y.2 (rd3).1 (rd3).2.1 = ry1 at *
  refine ⟨_, _, _, fun w' hw => pmul_any _ _ _ _ _ hwy.1 hwy.2 T1 T2, ?_⟩
  refine iteI (fun h => ?_) (fun h => ?_)
  rotate_left
  · exact iteI (fun h' => absurd h' h) (fun _ => ri (hE.trans (if_neg h)))
  replace hE := hE.trans (if_pos h)
  have DD1 : I64 (mul f.wy.1 f.wy.2 (rt).1 (rt).2.1).1 := (mul_63 _ _ _ _).l
  have DD2 : I64 (mul f.wy.1 f.wy.2 (rt).1 (rt).2.1).2.1 := (mul_63 _ _ _ _).h
  generalize mul f.wy.1 f.wy.2 (rt).1 (rt).2.1 = rd4 at *
  refine ⟨_, _, _, fun w' hw => padd_any _ _ _ _ _ YA1 YA2 DD1 DD2, ?_⟩
  refine iteI (fun h => ?_) (fun h => ?_)
  rotate_left
  · exact iteI (fun h' => absurd h' h) (fun _ => ri (hE.trans (if_neg h)))
  replace hE := hE.trans (if_pos h)
  have YB1 : I64 (add (ry1).1 (ry1).2.1 (rd4).1 (rd4).2.1).1 := (add_63 _ _ _ _).l
  have YB2 : I64 (add (ry1).1 (ry1).2.1 (rd4).1 (rd4).2.1).2.1 := (add_63 _ _ _ _).h
  have YB3 : I63 (add (ry1).1 (ry1).2.1 (rd4).1 (rd4).2.1).2.1 := (add_63 _ _ _ _).2
  generalize add (ry1).1 (ry1).2.1 (rd4).1 (rd4).2.1 = ry2 at *
  refine iteI (fun h => ?_) (fun h' => absurd h h')
  refine ⟨_, fun w' hw => pdown _ _ XB1, ?_⟩
  refine ⟨_, fun w' hw => pdown _ _ YB1, ?_⟩
  refine ⟨_, fun w' hw => pup' _ _ XB3, ?_⟩
  refine ⟨_, fun w' hw => pup' _ _ YB3, ?_⟩
  refine ⟨_, fun w' hw => prect (lastR (rx2.1, rx2.2.1) (ry2.1, ry2.2.1)) _, ?_⟩
  refine iteI (fun h => ?_) (fun h => ?_)
  · exact ri (hE.trans (if_pos h))
  · exact ri (hE.trans (if_neg h))
end Go.Proofs.Ytpjajgeajncdgaa
set_option linter.unusedVariables false
set_option maxRecDepth 4000
namespace Go.Proofs.Ytpjajgeajncdgaa
open Go Go.RowKit Ul Vc
attribute [local irreducible] Go.Calls
def clip (n : Int) : Int := if (if 536870912 < n then 536870912 else n) > (-536870912) then (if 536870912 < n then 536870912 else n) else (-536870912)
theorem pnear1 (n : Int) (w : World) : Calls Try.prog 54 #[.int .i64 n] w (Vc.Ret (.int .i64 (clip n)) w) := by
  refine vc_safety_near_1 _ w _ ?_
  rintro _ rfl _ rfl
  rfl
def nearS (s : Sp) : Sp := (clip s.1, clip s.2)
theorem pnear (s : Sp) (w : World) : Calls Try.prog 28 #[SPV s] w (Vc.Ret (SPV (nearS s)) w) := by
  refine vc_safety_near _ _ w _ ?_
  refine ⟨_, fun w' hw => pnear1 _ _, ?_⟩
  rintro _ rfl _ rfl
  rfl
theorem lrect (a b c d : Int) (w : World) : Calls Try.prog 9 #[.int .i64 a, .int .i64 b, .int .i64 c, .int .i64 d] w (Vc.Ret (.agg #[.int .i64 a, .int .i64 b, .int .i64 c, .int .i64 d]) w) := by
  refine vc_ullagelaw09_rect _ _ _ _ w _ ?_
  rfl
theorem sl_heap {w : World} {k t n c : Nat} {L : List Value} {xs : Array Value} (h : w.heap[k]? = some (.cells xs t)) (hx : xs.toList = L) (hn : L.length = n * c) : SlAt w (.slice (some ⟨k, 0, none⟩) n n) c L := by
  refine .inr (.inr ⟨k, 0, _, _, rfl, hn, fun j u hj => ?_⟩)
  rw [Nat.zero_add, cell_of_heap h, ← Array.getElem?_toList, hx]
  exact hj
theorem own_sps {lo b code n base : Nat} {l : List Sp} {t : TypeId} {w : World} {xs : List Value} (h : RowOk lo b code n base xs 2 t w) (hx : xs = l.flatMap spc) : Sps w (ownV b code n base) l := by
  subst hx
  exact own_sl h
def sq0 : List Sp := [(0, 0), (100, 0), (100, 100), (0, 100)]
def sq1 : List Sp := [(0, 110), (100, 110), (100, 210), (0, 210)]
def tri : List Sp := [(0, 0), (10, 0), (0, 10)]
def pl1 (k j m : Nat) : Pl := ⟨⟨[113], .slice (some ⟨k, 0, none⟩) 4 4, sq0⟩, .slice none 0 0, [], .slice (some ⟨m, 0, none⟩) 1 1, [⟨⟨[113], .slice (some ⟨j, 0, none⟩) 4 4, sq0⟩, 1000, 400⟩], 1, 1, 5, 3⟩
theorem plan_pl1 (k j m : Nat) : planB (pl1 k j m) = true := by
  refine decide_eq_true ⟨show zoneB 1 sq0 = true by decide +kernel, ⟨show 0 ≤ 16 by omega, show 1 ≤ 16 by omega⟩, (fun z hz => by cases hz), (fun t ht => ?_), (by decide +kernel : inR 1 0 268435456 = true), (by decide +kernel : inR 5 0 268435456 = true), (by decide +kernel : inR 3 0 268435456 = true), (by decide +kernel : inR 1 0 1000 = true)⟩
  simp only [pl1, List.mem_cons, List.not_mem_nil, or_false] at ht
  subst ht
  simp only [tB, zB]
  decide +kernel
theorem risk_pl1 (k j m : Nat) : riskV (pl1 k j m) ((0, 0), (1, 1)) = (8, 0) := by
  unfold riskV
  rw [plan_pl1, if_pos ⟨rfl, by decide +kernel⟩]
  simp only [pl1, riskF, List.foldl_cons, List.foldl_nil]
  exact Prod.ext ((if_neg (show ¬ sideI sq0 (grown ((0, 0), (1, 1)) 5) = -1 by decide +kernel)).trans rfl) rfl
theorem zone_sq0 : ZoneP 1 sq0 := by decide +kernel
theorem fall0 : FlI ⟨(4294967296, 4294967296), (0, 0), (0, 0), (4294967296, 4294967296), (0, 0), (21474836480, 21474836480), (42949672960, 42949672960), (0, 0), (0, 0)⟩ := by
  constructor <;> (unfold SpI I64; decide)
theorem awake_any (w : World) : Calls Try.prog 4 #[] w (Vc.Ret (.bool true) w) := by
  refine vc_ullagelaw09_awake w _ ?_
  refine ⟨1, 0, fun β w' hw hm => Ret.mono (pSide (nm := [113]) ((10, 10), (90, 100)) (sps_heap (l := sq0) hm.1.2 rfl rfl)) (by rw [show sideV ([113] : List UInt8).length sq0 ((10, 10), (90, 100)) = (1, 0) by decide +kernel]), ?_⟩
  refine ⟨0, 0, fun β w' hw hm => Ret.mono (pSide (nm := [113]) ((10, 10), (90, 101)) (sps_heap (l := sq0) hm.1.2 rfl rfl)) (by rw [show sideV ([113] : List UInt8).length sq0 ((10, 10), (90, 101)) = (0, 0) by decide +kernel]), ?_⟩
  refine ⟨-1, 0, fun β w' hw hm => Ret.mono (pSide (nm := [116]) ((6, 6), (9, 9)) (sps_heap (l := tri) hm.1.2 rfl rfl)) (by rw [show sideV ([116] : List UInt8).length tri ((6, 6), (9, 9)) = (-1, 0) by decide +kernel]), ?_⟩
  refine ⟨true, 0, fun β w' hw hm => Ret.mono (pApart (na := [113]) (nb := [113]) 9 (sps_heap (l := sq0) hm.1.2 rfl rfl) (sps_heap (l := sq1) hm.2.1.2 rfl rfl)) (by rw [show apV ([113] : List UInt8).length sq0 ([113] : List UInt8).length sq1 9 = (true, 0) by decide +kernel]), ?_⟩
  refine ⟨false, 0, fun β w' hw hm => Ret.mono (pApart (na := [113]) (nb := [113]) 10 (sps_heap (l := sq0) hm.1.2 rfl rfl) (sps_heap (l := sq1) hm.2.1.2 rfl rfl)) (by rw [show apV ([113] : List UInt8).length sq0 ([113] : List UInt8).length sq1 10 = (false, 0) by decide +kernel]), ?_⟩
  refine ⟨2000, 0, 2000, 0, 0, fun w' hw => Ret.mono (pimpact _ w' fall0) (by rw [show impV ⟨(4294967296, 4294967296), (0, 0), (0, 0), (4294967296, 4294967296), (0, 0), (21474836480, 21474836480), (42949672960, 42949672960), (0, 0), (0, 0)⟩ = (((2000, 0), (2000, 0)), 0) by decide +kernel]), ?_⟩
  refine ⟨0, 0, 1, 1, fun w' hw => lrect _ _ _ _ _, ?_⟩
  have plan : ∀ {β : Nat → Nat} {w' : World} {t0 t1 t2 : TypeId} {k j m : Nat}, w'.heap[k]? = some (.cells #[.int .i64 0, .int .i64 0, .int .i64 100, .int .i64 0, .int .i64 100, .int .i64 100, .int .i64 0, .int .i64 100] t0) →
      w'.heap[m]? = some (.cells #[.string ⟨(([113] : List UInt8)).toArray⟩, .slice (some ⟨j, 0, none⟩) 4 4, .int .i64 1000, .int .i64 400] t1) →
      w'.heap[j]? = some (.cells #[.int .i64 0, .int .i64 0, .int .i64 100, .int .i64 0, .int .i64 100, .int .i64 100, .int .i64 0, .int .i64 100] t2) → PlAt w' (pl1 k j m) := fun h1 h2 h3 =>
    ⟨sps_heap (l := sq0) h1 rfl rfl, .inl ⟨rfl, rfl⟩, (fun z hz => by cases hz), sl_heap (n := 1) (c := 4) h2 rfl rfl, (fun t ht => by
      simp only [pl1, List.mem_cons, List.not_mem_nil, or_false] at ht
      subst ht
      exact sps_heap (l := sq0) h3 rfl rfl)⟩
  refine ⟨8, 0, fun β w' hw hm => Ret.mono (prisk ((0, 0), (1, 1)) (plan (β := β) hm.1.2 hm.2.1.2 hm.2.2.1.2)) (by rw [risk_pl1]), ?_⟩
  refine ⟨true, fun β w' hw hm => Ret.mono (pplan (plan (β := β) hm.1.2 hm.2.1.2 hm.2.2.1.2)) (by rw [plan_pl1]), ?_⟩
  refine iteI (fun _ => ?_) (fun h => absurd (by decide) h)
  refine ⟨true, fun w' hw => Ret.mono (prect ((10, 10), (20, 20)) w') (by rw [show rectB ((10, 10), (20, 20)) = true by decide +kernel]), ?_⟩
  refine iteI (fun _ => ?_) (fun h => absurd (by decide) h)
  refine ⟨1, fun β w' hw hm => Ret.mono (pside ((10, 10), (20, 20)) (own_sps (l := sq0) hm.1 rfl) zone_sq0 (by unfold RcB SpB Bd; decide)) (by rw [show sideI sq0 ((10, 10), (20, 20)) = 1 by decide +kernel]), ?_⟩
  refine iteI (fun _ => ?_) (fun h => absurd (by decide) h)
  refine ⟨true, fun w' hw => Ret.mono (prect ((95, 0), (101, 5)) w') (by rw [show rectB ((95, 0), (101, 5)) = true by decide +kernel]), ?_⟩
  refine iteI (fun _ => ?_) (fun h => absurd (by decide) h)
  refine ⟨0, fun β w' hw hm => Ret.mono (pside ((95, 0), (101, 5)) (own_sps (l := sq0) hm.1 rfl) zone_sq0 (by unfold RcB SpB Bd; decide)) (by rw [show sideI sq0 ((95, 0), (101, 5)) = 0 by decide +kernel]), ?_⟩
  refine iteI (fun h => absurd h (by decide)) (fun _ => ?_)
  refine iteI (fun _ => ?_) (fun h => absurd (by decide) h)
  refine ⟨94, -1, 102, 6, fun w' hw => Ret.mono (pgrown (r := ((95, 0), (101, 5))) (b := 1) (by unfold GrB SpB Bd; decide) w') rfl, ?_⟩
  refine ⟨94, -1, fun w' hw => Ret.mono (pnear (94, -1) w') rfl, ?_⟩
  refine ⟨102, 6, fun w' hw => Ret.mono (pnear (102, 6) w') rfl, ?_⟩
  refine ⟨0, fun β w' hw hm => Ret.mono (pside ((94, -1), (102, 6)) (own_sps (l := sq0) hm.1 rfl) zone_sq0 (by unfold RcB SpB Bd; decide)) (by rw [show sideI sq0 ((94, -1), (102, 6)) = 0 by decide +kernel]), ?_⟩
  refine iteI (fun h => absurd h (by decide)) (fun _ => ?_)
  refine iteI (fun _ => ?_) (fun h => absurd (by decide) h)
  refine iteI (fun _ => ?_) (fun h => absurd (by decide) h)
  refine iteI (fun _ => ?_) (fun h => absurd (by decide) h)
  refine iteI (fun _ => ?_) (fun h => absurd (by decide) h)
  refine iteI (fun _ => ?_) (fun h => absurd (by decide) h)
  refine iteI (fun h => absurd h (by decide)) (fun _ => ?_)
  refine iteI (fun _ => ?_) (fun h => absurd (by decide) h)
  refine ⟨2000, 0, 2000, 0, fun w' hw => lrect _ _ _ _ _, ?_⟩
  refine iteI (fun _ => ?_) (fun h => absurd (by decide) h)
  refine iteI (fun _ => ?_) (fun h => absurd (by decide) h)
  refine iteI (fun _ => ?_) (fun h => absurd (by decide) h)
  refine ⟨94, -1, 102, 6, fun w' hw => lrect _ _ _ _ _, ?_⟩
  rfl
end Go.Proofs.Ytpjajgeajncdgaa
set_option linter.unusedVariables false
namespace Go.Proofs.Ytpjajgeajncdgaa
open Go Go.RowKit Ul
theorem rle {a b : Int} (h : a ≤ b) : (a : Rat) ≤ b := Rat.intCast_le_intCast.2 h
/-- A product is not below all products of the bounds, and not above all. -/
theorem corner {a b c d x y : Rat} (hx : a ≤ x ∧ x ≤ b) (hy : c ≤ y ∧ y ≤ d) :
    (a * c ≤ x * y ∨ a * d ≤ x * y ∨ b * c ≤ x * y ∨ b * d ≤ x * y) ∧ (x * y ≤ a * c ∨ x * y ≤ a * d ∨ x * y ≤ b * c ∨ x * y ≤ b * d) := by
  have key : ∀ {u v w z : Rat}, u ≤ v → 0 ≤ w → u * w ≤ v * w := fun h hw => Rat.mul_le_mul_of_nonneg_right h hw
  have l : ∀ {u v w : Rat}, u ≤ v → 0 ≤ w → w * u ≤ w * v := fun h hw => Rat.mul_le_mul_of_nonneg_left h hw
  have ln : ∀ {u v w : Rat}, u ≤ v → w ≤ 0 → w * v ≤ w * u := fun {u v w} h hw => by
    have := l (w := -w) h (by grind)
    grind
  have hlow : a * y ≤ x * y ∨ b * y ≤ x * y := by
    by_cases h : 0 ≤ y
    · have := l hx.1 h; grind
    · have := ln hx.2 (w := y) (by grind); grind
  have hhigh : x * y ≤ a * y ∨ x * y ≤ b * y := by
    by_cases h : 0 ≤ y
    · have := l hx.2 h; grind
    · have := ln hx.1 (w := y) (by grind); grind
  have la : ∀ w : Rat, (w * c ≤ w * y ∨ w * d ≤ w * y) ∧ (w * y ≤ w * c ∨ w * y ≤ w * d) := fun w => by
    by_cases h : 0 ≤ w
    · exact ⟨.inl (l hy.1 h), .inr (l hy.2 h)⟩
    · exact ⟨.inr (ln hy.2 (by grind)), .inl (ln hy.1 (by grind))⟩
  have h1 := la a
  have h2 := la b
  grind
end Go.Proofs.Ytpjajgeajncdgaa
set_option linter.unusedVariables false
set_option maxRecDepth 4000
namespace Go.Proofs.Ytpjajgeajncdgaa
open Go Go.RowKit Ul Vc
theorem isq_to (k : Nat) : ∀ r x : Int, 0 ≤ r → r * r ≤ x → x < (r + 2 ^ k) * (r + 2 ^ k) →
    rootTo k r x * rootTo k r x ≤ x ∧ x < (rootTo k r x + 1) * (rootTo k r x + 1) := by
  induction k with
  | zero => intro r x h0 h1 h2; simp only [rootTo]; exact ⟨h1, by simpa using h2⟩
  | succ k ih =>
    intro r x h0 h1 h2
    have hp : (0 : Int) ≤ 2 ^ k := Int.pow_nonneg (by decide)
    have e : (2 : Int) ^ (k + 1) = 2 ^ k + 2 ^ k := by rw [Int.pow_succ]; omega
    simp only [rootTo]
    split
    · rename_i h
      exact ih _ x (by omega) h (by rw [e] at h2; rwa [show r + (2 ^ k + 2 ^ k) = r + 2 ^ k + 2 ^ k by omega] at h2)
    · rename_i h
      exact ih r x h0 h1 (by omega)
theorem isq_at {x : Int} (h0 : 0 ≤ x) (h : x < 316912650057057350374175801344) : isqrt x * isqrt x ≤ x ∧ x < (isqrt x + 1) * (isqrt x + 1) :=
  isq_to 49 0 x (by decide) (by omega) (by have e : ((0 : Int) + 2 ^ 49) * (0 + 2 ^ 49) = 316912650057057350374175801344 := by decide +kernel
                                           rw [e]; exact h)
theorem rootUp_at {x : Int} (h0 : 0 ≤ x) (h : x < 316912650057057350374175801344) : x ≤ rootUp x * rootUp x ∧ (rootUp x = 0 ∨ (rootUp x - 1) * (rootUp x - 1) < x) ∧ 0 ≤ rootUp x := by
  obtain ⟨a, b⟩ := isq_at h0 h
  obtain ⟨c, d⟩ := isqrt_bd x
  unfold rootUp
  split
  · rename_i hc
    refine ⟨by omega, ?_, by omega⟩
    by_cases hz : isqrt x = 0
    · exact .inl hz
    · right
      have e : (isqrt x - 1) * (isqrt x - 1) = isqrt x * isqrt x - 2 * isqrt x + 1 := by rw [Int.sub_mul, Int.mul_sub]; omega
      omega
  · rename_i hc
    refine ⟨by omega, .inr ?_, by omega⟩
    rw [show isqrt x + 1 - 1 = isqrt x by omega]; omega
theorem ok_of {a b : Int} (h1 : -9223372036854775807 ≤ a) (h2 : -9223372036854775807 ≤ b) (h3 : a ≤ b) : ok a b = true := by
  unfold ok; simp; omega
theorem cornI {a b c d x y : Int} (h1 : a ≤ x) (h2 : x ≤ b) (h3 : c ≤ y) (h4 : y ≤ d) : min4 (a * c) (a * d) (b * c) (b * d) ≤ x * y ∧ x * y ≤ max4 (a * c) (a * d) (b * c) (b * d) := by
  obtain ⟨l, g⟩ := corner ⟨rle h1, rle h2⟩ ⟨rle h3, rle h4⟩
  simp only [← Rat.intCast_mul, Rat.intCast_le_intCast] at l g
  unfold min4 max4
  omega
/-- A product whose corners are in bounds has no error, and has the product of what is in both. -/
theorem mul_in {a b c d x y L H : Int} (hab : ok a b = true) (hcd : ok c d = true) (hx : a ≤ x ∧ x ≤ b) (hy : c ≤ y ∧ y ≤ d)
    (h1 : L * 4294967296 ≤ a * c ∧ a * c ≤ H * 4294967296) (h2 : L * 4294967296 ≤ a * d ∧ a * d ≤ H * 4294967296)
    (h3 : L * 4294967296 ≤ b * c ∧ b * c ≤ H * 4294967296) (h4 : L * 4294967296 ≤ b * d ∧ b * d ≤ H * 4294967296)
    (hL : -4611686018427387904 ≤ L) (hH : H ≤ 4611686018427387904) :
    ∃ l h, mul a b c d = (l, h, 0) ∧ L ≤ l ∧ l * 4294967296 ≤ x * y ∧ x * y ≤ h * 4294967296 ∧ h ≤ H := by
  obtain ⟨k1, k2⟩ := cornI hx.1 hx.2 hy.1 hy.2
  have m1 : L * 4294967296 ≤ min4 (a * c) (a * d) (b * c) (b * d) := by unfold min4; omega
  have m2 : max4 (a * c) (a * d) (b * c) (b * d) ≤ H * 4294967296 := by unfold max4; omega
  unfold mul
  rw [if_pos (by rw [hab, hcd]; rfl)]
  generalize min4 (a * c) (a * d) (b * c) (b * d) = m at *
  generalize max4 (a * c) (a * d) (b * c) (b * d) = n at *
  generalize x * y = z at *
  unfold fl ce
  refine ⟨m / 4294967296, -(-n / 4294967296), ?_, by omega, by omega, by omega, by omega⟩
  unfold fit
  rw [if_pos (by omega)]
theorem half {l u k : Int} (h : l * 4294967296 ≤ u * 4294967296 * (k * 4294967296)) : l ≤ u * k * 4294967296 := by
  have e : u * 4294967296 * (k * 4294967296) = u * k * 4294967296 * 4294967296 := by grind
  rw [e] at h; omega
theorem half' {l u k : Int} (h : u * 4294967296 * (k * 4294967296) ≤ l * 4294967296) : u * k * 4294967296 ≤ l := by
  have e : u * 4294967296 * (k * 4294967296) = u * k * 4294967296 * 4294967296 := by grind
  rw [e] at h; omega
theorem absmul {x y A B : Int} (h1 : -A ≤ x) (h2 : x ≤ A) (h3 : -B ≤ y) (h4 : y ≤ B) : -(A * B) ≤ x * y ∧ x * y ≤ A * B := by
  obtain ⟨a, b⟩ := cornI h1 h2 h3 h4
  have e : min4 (-A * -B) (-A * B) (A * -B) (A * B) = min (A * B) (-(A * B)) := by
    rw [Int.neg_mul_neg, Int.neg_mul, Int.mul_neg]; unfold min4; omega
  have e2 : max4 (-A * -B) (-A * B) (A * -B) (A * B) = max (A * B) (-(A * B)) := by
    rw [Int.neg_mul_neg, Int.neg_mul, Int.mul_neg]; unfold max4; omega
  have : 0 ≤ A * B := Int.mul_nonneg (by omega) (by omega)
  rw [e] at a; rw [e2] at b; omega
/-- A span about an integer. -/
def abt (n o : Int) : Int × Int := (n * 4294967296 - o, n * 4294967296 + o)
theorem sq_fall {V o : Int} (h1 : -128 ≤ V) (h2 : V ≤ 128) (o1 : 0 ≤ o) (o2 : o ≤ 65535) :
    ∃ l h, square (V * 4294967296 - o) (V * 4294967296 + o) = (l, h, 0) ∧ 0 ≤ l ∧ l ≤ V * V * 4294967296 ∧ V * V * 4294967296 ≤ h ∧ h ≤ V * V * 4294967296 + 4294967296 := by
  have hk : ok (V * 4294967296 - o) (V * 4294967296 + o) = true := ok_of (by omega) (by omega) (by omega)
  obtain ⟨A, hA0, hA1, hVA, p, q, hp, p0, pA, qA, qB⟩ : ∃ A : Int, 0 ≤ A ∧ A ≤ 128 ∧ A * A = V * V ∧ ∃ p q, absS (V * 4294967296 - o) (V * 4294967296 + o) = (p, q, 0) ∧ 0 ≤ p ∧ p ≤ A * 4294967296 ∧ A * 4294967296 ≤ q ∧ q ≤ A * 4294967296 + 65535 := by
    unfold absS
    rw [if_pos hk]
    by_cases c : 0 ≤ V * 4294967296 - o
    · rw [if_pos c]
      exact ⟨V, by omega, by omega, rfl, _, _, rfl, by omega, by omega, by omega, by omega⟩
    · rw [if_neg c]
      by_cases c2 : V * 4294967296 + o ≤ 0
      · rw [if_pos c2]
        exact ⟨-V, by omega, by omega, Int.neg_mul_neg _ _, _, _, rfl, by omega, by omega, by omega, by omega⟩
      · rw [if_neg c2]
        obtain rfl : V = 0 := by omega
        exact ⟨0, by omega, by omega, rfl, _, _, rfl, by omega, by omega, by omega, by omega⟩
  unfold square
  rw [if_pos hk, hp]
  dsimp only
  have hpq : ok p q = true := ok_of (by omega) (by omega) (by omega)
  have b1 := mul_le_of p p _ _ p0 p0 (show p ≤ A * 4294967296 + 65535 by omega) (show p ≤ A * 4294967296 + 65535 by omega)
  have b2 := mul_le_of p q _ _ p0 (by omega) (show p ≤ A * 4294967296 + 65535 by omega) (show q ≤ A * 4294967296 + 65535 by omega)
  have b3 := mul_le_of q p _ _ (by omega) p0 (show q ≤ A * 4294967296 + 65535 by omega) (show p ≤ A * 4294967296 + 65535 by omega)
  have b4 := mul_le_of q q _ _ (by omega) (by omega) (show q ≤ A * 4294967296 + 65535 by omega) (show q ≤ A * 4294967296 + 65535 by omega)
  have bd : (A * 4294967296 + 65535) * (A * 4294967296 + 65535) ≤ (A * A * 4294967296 + 4294967296) * 4294967296 := by
    have e : (A * 4294967296 + 65535) * (A * 4294967296 + 65535) = A * A * 18446744073709551616 + A * (2 * 65535 * 4294967296) + 65535 * 65535 := by grind
    rw [e]; omega
  have AA := mul_le_of A A 128 128 hA0 hA0 hA1 hA1
  obtain ⟨l, h, e, e1, e2, e3, e4⟩ := mul_in (x := A * 4294967296) (y := A * 4294967296) (L := 0) (H := A * A * 4294967296 + 4294967296) hpq hpq ⟨pA, qA⟩ ⟨pA, qA⟩
    ⟨by omega, by omega⟩ ⟨by omega, by omega⟩ ⟨by omega, by omega⟩ ⟨by omega, by omega⟩ (by omega) (by omega)
  exact ⟨l, h, e, e1, by rw [← hVA]; exact half e2, by rw [← hVA]; exact half' e3, by rw [← hVA]; exact e4⟩
/-- Twice the pull, by the height. -/
theorem fall_mul {p H o1 o2 : Int} (h1 : 1 ≤ p) (h2 : p ≤ 254) (h3 : 1 ≤ H) (h4 : H ≤ 2064639) (q1 : 0 ≤ o1 ∧ o1 ≤ 65535) (q2 : 0 ≤ o2 ∧ o2 ≤ 65535) :
    ∃ l h, mul (2 * p * 4294967296 - 2 * o1) (2 * p * 4294967296 + 2 * o1) (H * 4294967296 - o2) (H * 4294967296 + o2) = (l, h, 0) ∧ 0 ≤ l ∧ l ≤ 2 * p * H * 4294967296 ∧ 2 * p * H * 4294967296 ≤ h ∧ h ≤ 2 * p * H * 4294967296 + 64 * 4294967296 := by
  have bd : (2 * p * 4294967296 + 131070) * (H * 4294967296 + 65535) ≤ (2 * p * H * 4294967296 + 64 * 4294967296) * 4294967296 := by
    have e : (2 * p * 4294967296 + 131070) * (H * 4294967296 + 65535) = 2 * p * H * 18446744073709551616 + p * (2 * 65535 * 4294967296) + H * (131070 * 4294967296) + 131070 * 65535 := by grind
    rw [e]; omega
  have hh := mul_le_of (2 * p) H 508 2064639 (by omega) (by omega) (by omega) (by omega)
  have b : ∀ x y : Int, 0 ≤ x → 0 ≤ y → x ≤ 2 * p * 4294967296 + 2 * o1 → y ≤ H * 4294967296 + o2 → 0 * 4294967296 ≤ x * y ∧ x * y ≤ (2 * p * H * 4294967296 + 64 * 4294967296) * 4294967296 := fun x y x0 y0 x1 y1 => by
    have := mul_le_of x y _ _ x0 y0 (show x ≤ 2 * p * 4294967296 + 131070 by omega) (show y ≤ H * 4294967296 + 65535 by omega)
    omega
  obtain ⟨l, h, e, e1, e2, e3, e4⟩ := mul_in (x := 2 * p * 4294967296) (y := H * 4294967296) (L := 0) (H := 2 * p * H * 4294967296 + 64 * 4294967296)
    (ok_of (a := 2 * p * 4294967296 - 2 * o1) (b := 2 * p * 4294967296 + 2 * o1) (by omega) (by omega) (by omega)) (ok_of (a := H * 4294967296 - o2) (b := H * 4294967296 + o2) (by omega) (by omega) (by omega)) ⟨by omega, by omega⟩ ⟨by omega, by omega⟩
    (b _ _ (by omega) (by omega) (by omega) (by omega)) (b _ _ (by omega) (by omega) (by omega) (by omega)) (b _ _ (by omega) (by omega) (by omega) (by omega)) (b _ _ (by omega) (by omega) (by omega) (by omega)) (by omega) (by omega)
  exact ⟨l, h, e, e1, half e2, half' e3, e4⟩
theorem fall_root {lo hi S : Int} (h1 : 2 ≤ S) (h2 : S ≤ 40000) (l0 : -9223372036854775807 ≤ lo) (l1 : lo ≤ S * S * 4294967296) (r1 : S * S * 4294967296 ≤ hi) (r2 : hi ≤ S * S * 4294967296 + 65 * 4294967296) :
    ∃ l h, root lo hi = (l, h, 0) ∧ 0 ≤ l ∧ l ≤ S * 4294967296 ∧ S * 4294967296 ≤ h ∧ h ≤ S * 4294967296 + 7 * 4294967296 := by
  have s2 := mul_le_of S S 40000 40000 (by omega) (by omega) h2 h2
  have hk : ok lo hi = true := ok_of l0 (by omega) (by omega)
  unfold root
  rw [if_pos hk, if_neg (by omega)]
  obtain ⟨a1, a2⟩ := isq_at (x := max lo 0 * 4294967296) (by omega) (by omega)
  obtain ⟨b1, b2, b3⟩ := rootUp_at (x := hi * 4294967296) (by omega) (by omega)
  obtain ⟨c1, c2⟩ := isqrt_bd (max lo 0 * 4294967296)
  refine ⟨_, _, rfl, c1, ?_, ?_, ?_⟩
  · generalize isqrt (max lo 0 * 4294967296) = r at *
    by_cases c : r ≤ S * 4294967296
    · exact c
    · have := mul_le_of (S * 4294967296 + 1) (S * 4294967296 + 1) r r (by omega) (by omega) (by omega) (by omega)
      have e : (S * 4294967296 + 1) * (S * 4294967296 + 1) = S * S * 4294967296 * 4294967296 + S * 8589934592 + 1 := by grind
      omega
  · generalize rootUp (hi * 4294967296) = r at *
    by_cases c : S * 4294967296 ≤ r
    · exact c
    · have := mul_le_of r r (S * 4294967296 - 1) (S * 4294967296 - 1) (by omega) (by omega) (by omega) (by omega)
      have e : (S * 4294967296 - 1) * (S * 4294967296 - 1) = S * S * 4294967296 * 4294967296 - S * 8589934592 + 1 := by grind
      omega
  · generalize rootUp (hi * 4294967296) = r at *
    rcases b2 with rfl | b2
    · omega
    · by_cases c : r ≤ S * 4294967296 + 7 * 4294967296
      · exact c
      · have := mul_le_of (S * 4294967296 + 7 * 4294967296) (S * 4294967296 + 7 * 4294967296) (r - 1) (r - 1) (by omega) (by omega) (by omega) (by omega)
        have e : (S * 4294967296 + 7 * 4294967296) * (S * 4294967296 + 7 * 4294967296) = (S * S * 4294967296 + S * (14 * 4294967296) + 49 * 4294967296) * 4294967296 := by grind
        omega
theorem rdn_le {n m k : Int} (hm : 0 < m) (h : n ≤ k * m) : rdn n m ≤ k * 4294967296 := by
  unfold rdn fl
  rw [if_neg (by omega)]
  have : n * 4294967296 ≤ m * (k * 4294967296) := by
    have e : m * (k * 4294967296) = k * m * 4294967296 := by grind
    omega
  have h2 := Int.ediv_le_ediv hm this
  rwa [Int.mul_ediv_cancel_left _ (by omega)] at h2
theorem le_rdn {n m k : Int} (hm : 0 < m) (h : k * m ≤ n) : k * 4294967296 ≤ rdn n m := by
  unfold rdn fl
  rw [if_neg (by omega)]
  have : m * (k * 4294967296) ≤ n * 4294967296 := by
    have e : m * (k * 4294967296) = k * m * 4294967296 := by grind
    omega
  have h2 := Int.ediv_le_ediv hm this
  rwa [Int.mul_ediv_cancel_left _ (by omega)] at h2
theorem rup_neg {n m : Int} (hm : 0 < m) : rup n m = -rdn (-n) m := by
  unfold rup rdn ce fl
  rw [if_neg (by omega), if_neg (by omega), Int.neg_mul]
theorem rup_le {n m k : Int} (hm : 0 < m) (h : n ≤ k * m) : rup n m ≤ k * 4294967296 := by
  have := le_rdn (n := -n) (k := -k) hm (by rw [Int.neg_mul]; omega)
  rw [rup_neg hm]; omega
theorem le_rup {n m k : Int} (hm : 0 < m) (h : k * m ≤ n) : k * 4294967296 ≤ rup n m := by
  have := rdn_le (n := -n) (k := -k) hm (by rw [Int.neg_mul]; omega)
  rw [rup_neg hm]; omega
theorem fall_time {gl gh p o t : Int} (h1 : 2 ≤ p) (h2 : p ≤ 254) (o1 : 0 ≤ o) (o2 : o ≤ 65535) (t1 : 0 ≤ t) (t2 : t ≤ 127)
    (g0 : -129 * 4294967296 ≤ gl) (g1 : gl ≤ p * t * 4294967296) (g2 : p * t * 4294967296 ≤ gh) (g3 : gh ≤ p * t * 4294967296 + 8 * 4294967296) :
    ∃ l h, fwd gl gh (p * 4294967296 - o) (p * 4294967296 + o) = (l, h, 0) ∧ 0 ≤ l ∧ l ≤ t * 4294967296 ∧ t * 4294967296 ≤ h ∧ h ≤ (t + 5) * 4294967296 := by
  have pt := mul_le_of p t 254 127 (by omega) (by omega) h2 t2
  have ot := mul_le_of o t 65535 127 o1 t1 o2 t2
  have ept : t * (p * 4294967296 - o) = p * t * 4294967296 - o * t := by grind
  have ept' : t * (p * 4294967296 + o) = p * t * 4294967296 + o * t := by grind
  have e5 : (t + 5) * (p * 4294967296 - o) = p * t * 4294967296 - o * t + 5 * (p * 4294967296) - 5 * o := by grind
  have e5' : (t + 5) * (p * 4294967296 + o) = p * t * 4294967296 + o * t + 5 * (p * 4294967296) + 5 * o := by grind
  have u1 : rdn gl (p * 4294967296 + o) ≤ t * 4294967296 := rdn_le (by omega) (by omega)
  have u2 : t * 4294967296 ≤ rup gh (p * 4294967296 - o) := le_rup (by omega) (by omega)
  have v1 : -129 * 4294967296 ≤ rdn gl (p * 4294967296 - o) := le_rdn (by omega) (by omega)
  have v2 : -129 * 4294967296 ≤ rdn gl (p * 4294967296 + o) := le_rdn (by omega) (by omega)
  have v3 : -129 * 4294967296 ≤ rdn gh (p * 4294967296 - o) := le_rdn (by omega) (by omega)
  have v4 : -129 * 4294967296 ≤ rdn gh (p * 4294967296 + o) := le_rdn (by omega) (by omega)
  have w1 : rup gl (p * 4294967296 - o) ≤ (t + 5) * 4294967296 := rup_le (by omega) (by omega)
  have w2 : rup gl (p * 4294967296 + o) ≤ (t + 5) * 4294967296 := rup_le (by omega) (by omega)
  have w3 : rup gh (p * 4294967296 - o) ≤ (t + 5) * 4294967296 := rup_le (by omega) (by omega)
  have w4 : rup gh (p * 4294967296 + o) ≤ (t + 5) * 4294967296 := rup_le (by omega) (by omega)
  have hd : div gl gh (p * 4294967296 - o) (p * 4294967296 + o) = (min4 (rdn gl (p * 4294967296 - o)) (rdn gl (p * 4294967296 + o)) (rdn gh (p * 4294967296 - o)) (rdn gh (p * 4294967296 + o)), max4 (rup gl (p * 4294967296 - o)) (rup gl (p * 4294967296 + o)) (rup gh (p * 4294967296 - o)) (rup gh (p * 4294967296 + o)), 0) := by
    unfold div
    rw [if_pos (by rw [ok_of (a := gl) (b := gh) (by omega) (by omega) (by omega), ok_of (a := p * 4294967296 - o) (b := p * 4294967296 + o) (by omega) (by omega) (by omega)]; rfl), if_neg (by omega)]
    unfold fit
    rw [if_pos (by unfold min4 max4; omega)]
  unfold fwd
  rw [hd]
  refine ⟨_, _, rfl, ?_, ?_, ?_, ?_⟩
  · dsimp only; unfold max0; split <;> omega
  · dsimp only; unfold max0 min4; split <;> omega
  · dsimp only; unfold max4; omega
  · dsimp only; unfold max4; omega
theorem vt_in {V o tl th t : Int} (h1 : -128 ≤ V) (h2 : V ≤ 128) (o1 : 0 ≤ o) (o2 : o ≤ 65535) (t1 : 0 ≤ tl) (t2 : tl ≤ t * 4294967296) (t3 : t * 4294967296 ≤ th) (t4 : th ≤ 132 * 4294967296) :
    ∃ l h, mul (V * 4294967296 - o) (V * 4294967296 + o) tl th = (l, h, 0) ∧ -17028 * 4294967296 ≤ l ∧ l ≤ V * t * 4294967296 ∧ V * t * 4294967296 ≤ h ∧ h ≤ 17028 * 4294967296 := by
  have b : ∀ x y : Int, V * 4294967296 - o ≤ x → x ≤ V * 4294967296 + o → 0 ≤ y → y ≤ th → -17028 * 4294967296 * 4294967296 ≤ x * y ∧ x * y ≤ 17028 * 4294967296 * 4294967296 := fun x y a1 a2 a3 a4 => by
    have := absmul (x := x) (y := y) (A := 129 * 4294967296) (B := 132 * 4294967296) (by omega) (by omega) (by omega) (by omega)
    omega
  obtain ⟨l, h, e, e1, e2, e3, e4⟩ := mul_in (x := V * 4294967296) (y := t * 4294967296) (L := -17028 * 4294967296) (H := 17028 * 4294967296)
    (ok_of (a := V * 4294967296 - o) (b := V * 4294967296 + o) (by omega) (by omega) (by omega)) (ok_of (a := tl) (b := th) (by omega) (by omega) (by omega)) ⟨by omega, by omega⟩ ⟨t2, t3⟩
    (b _ _ (by omega) (by omega) (by omega) (by omega)) (b _ _ (by omega) (by omega) (by omega) (by omega)) (b _ _ (by omega) (by omega) (by omega) (by omega)) (b _ _ (by omega) (by omega) (by omega) (by omega)) (by omega) (by omega)
  exact ⟨l, h, e, e1, half e2, half' e3, e4⟩
theorem add_ok {a b c d : Int} (h1 : -4611686018427387904 ≤ a) (h2 : a ≤ b) (h3 : b ≤ 4611686018427387903) (h4 : -4611686018427387903 ≤ c) (h5 : c ≤ d) (h6 : d ≤ 4611686018427387903) : add a b c d = (a + c, b + d, 0) := by
  unfold add
  rw [if_pos (by rw [ok_of (a := a) (b := b) (by omega) (by omega) (by omega), ok_of (a := c) (b := d) (by omega) (by omega) (by omega)]; rfl)]
  unfold fit
  rw [if_pos (by omega)]
theorem ch0 {r : R} {l h : Int} (e : r = (l, h, 0)) (k : Sp → Rc × Int) : ch r k = k (l, h) := by subst e; exact if_pos rfl
theorem fall_law {T X Y VX VY VZ P WX WY o0 o1 o2 o3 o4 o5 o6 o7 o8 : Int} (hT : 0 ≤ T ∧ T ≤ 127) (hX : -128 ≤ X ∧ X ≤ 127) (hY : -128 ≤ Y ∧ Y ≤ 127) (hVX : -128 ≤ VX ∧ VX ≤ 127) (hVY : -128 ≤ VY ∧ VY ≤ 127)
    (hVZ : -128 ≤ VZ ∧ VZ ≤ 127) (hP : 1 ≤ P ∧ P ≤ 127) (hWX : -128 ≤ WX ∧ WX ≤ 127) (hWY : -128 ≤ WY ∧ WY ≤ 127) (hH : 1 ≤ P * T * T - VZ * T)
    (p0 : 0 ≤ o0 ∧ o0 ≤ 65535) (p1 : 0 ≤ o1 ∧ o1 ≤ 65535) (p2 : 0 ≤ o2 ∧ o2 ≤ 65535) (p3 : 0 ≤ o3 ∧ o3 ≤ 65535) (p4 : 0 ≤ o4 ∧ o4 ≤ 65535) (p5 : 0 ≤ o5 ∧ o5 ≤ 65535) (p6 : 0 ≤ o6 ∧ o6 ≤ 65535) (p7 : 0 ≤ o7 ∧ o7 ≤ 65535) (p8 : 0 ≤ o8 ∧ o8 ≤ 65535) :
    ∃ a b c d, impV ⟨abt X o0, abt Y o1, abt (P * T * T - VZ * T) o2, abt VX o3, abt VY o4, abt VZ o5, abt (2 * P) o6, abt WX o7, abt WY o8⟩ = (((a, b), (c, d)), 0) ∧
      a ≤ 1000 * (X + (VX + WX) * T) ∧ 1000 * (X + (VX + WX) * T) ≤ c ∧ b ≤ 1000 * (Y + (VY + WY) * T) ∧ 1000 * (Y + (VY + WY) * T) ≤ d := by
  have hT1 : 1 ≤ T := by
    by_cases h : 0 < T
    · omega
    · obtain rfl : T = 0 := by omega
      simp at hH
  have PT := mul_le_of P T 127 127 (by omega) (by omega) hP.2 hT.2
  have PTT := mul_le_of (P * T) T 16129 127 (by omega) (by omega) (by omega) hT.2
  have VT := absmul (x := VZ) (y := T) (A := 128) (B := 127) (by omega) (by omega) (by omega) (by omega)
  -- the rate at the ground is above that at the half
  have hD : 1 ≤ P * T - VZ := by
    by_cases h : 0 < P * T - VZ
    · omega
    · have := mul_le_of (-(P * T - VZ)) T _ _ (by omega) (by omega) (Int.le_refl _) (Int.le_refl _)
      have e : -(P * T - VZ) * T = -(P * T * T - VZ * T) := by grind
      omega
  have hPT : 1 ≤ P * T := by
    have := Int.mul_pos (show (0 : Int) < P by omega) (show (0 : Int) < T by omega)
    omega
  generalize hHe : P * T * T - VZ * T = H at *
  obtain ⟨S, hS⟩ : ∃ S, S = 2 * (P * T) - VZ := ⟨_, rfl⟩
  have hSS : VZ * VZ + 2 * (2 * P) * H = S * S := by rw [← hHe, hS]; grind
  have vv := absmul (x := VZ) (y := VZ) (A := 128) (B := 128) (by omega) (by omega) (by omega) (by omega)
  have ph := mul_le_of (2 * (2 * P)) H 508 2064639 (by omega) (by omega) (by omega) (by omega)
  obtain ⟨al, ah, ea, a1, a2, a3, a4⟩ := sq_fall (V := VZ) (o := o5) (by omega) (by omega) p5.1 p5.2
  have eb : scale (2 * P * 4294967296 - o6) (2 * P * 4294967296 + o6) 2 = (2 * (2 * P) * 4294967296 - 2 * o6, 2 * (2 * P) * 4294967296 + 2 * o6, 0) := by
    unfold scale
    rw [if_pos (ok_of (by omega) (by omega) (by omega))]
    unfold fit
    rw [if_pos (by omega)]
    congr 1
    · omega
    · congr 1; omega
  obtain ⟨cl, ch', ec, c1, c2, c3, c4⟩ := fall_mul (p := 2 * P) (H := H) (o1 := o6) (o2 := o2) (by omega) (by omega) hH (by omega) p6 p2
  have ed := add_ok (a := al) (b := ah) (c := cl) (d := ch') (by omega) (by omega) (by omega) (by omega) (by omega) (by omega)
  obtain ⟨el, eh, ee, e1, e2, e3, e4⟩ := fall_root (lo := al + cl) (hi := ah + ch') (S := S) (by omega) (by omega) (by omega) (by omega) (by omega) (by omega)
  have eg := add_ok (a := VZ * 4294967296 - o5) (b := VZ * 4294967296 + o5) (c := el) (d := eh) (by omega) (by omega) (by omega) (by omega) (by omega) (by omega)
  have e2P : 2 * P * T = 2 * (P * T) := by grind
  obtain ⟨tl, th, et, t1, t2, t3, t4⟩ := fall_time (gl := VZ * 4294967296 - o5 + el) (gh := VZ * 4294967296 + o5 + eh) (p := 2 * P) (o := o6) (t := T) (by omega) (by omega) p6.1 p6.2 hT.1 hT.2 (by omega) (by omega) (by omega) (by omega)
  obtain ⟨m1, n1, f1, f1a, f1b, f1c, f1d⟩ := vt_in (V := VX) (o := o3) (tl := tl) (th := th) (t := T) (by omega) (by omega) p3.1 p3.2 t1 t2 t3 (by omega)
  obtain ⟨m2, n2, f2, f2a, f2b, f2c, f2d⟩ := vt_in (V := WX) (o := o7) (tl := tl) (th := th) (t := T) (by omega) (by omega) p7.1 p7.2 t1 t2 t3 (by omega)
  obtain ⟨m3, n3, f3, f3a, f3b, f3c, f3d⟩ := vt_in (V := VY) (o := o4) (tl := tl) (th := th) (t := T) (by omega) (by omega) p4.1 p4.2 t1 t2 t3 (by omega)
  obtain ⟨m4, n4, f4, f4a, f4b, f4c, f4d⟩ := vt_in (V := WY) (o := o8) (tl := tl) (th := th) (t := T) (by omega) (by omega) p8.1 p8.2 t1 t2 t3 (by omega)
  have g1 := add_ok (a := X * 4294967296 - o0) (b := X * 4294967296 + o0) (c := m1) (d := n1) (by omega) (by omega) (by omega) (by omega) (by omega) (by omega)
  have g2 := add_ok (a := X * 4294967296 - o0 + m1) (b := X * 4294967296 + o0 + n1) (c := m2) (d := n2) (by omega) (by omega) (by omega) (by omega) (by omega) (by omega)
  have g3 := add_ok (a := Y * 4294967296 - o1) (b := Y * 4294967296 + o1) (c := m3) (d := n3) (by omega) (by omega) (by omega) (by omega) (by omega) (by omega)
  have g4 := add_ok (a := Y * 4294967296 - o1 + m3) (b := Y * 4294967296 + o1 + n3) (c := m4) (d := n4) (by omega) (by omega) (by omega) (by omega) (by omega) (by omega)
  have hchk : ∀ n o : Int, -2100000 ≤ n → n ≤ 2100000 → 0 ≤ o → o ≤ 65535 → chk (abt n o).1 (abt n o).2 = 0 := fun n o h1 h2 h3 h4 => by
    unfold chk abt
    rw [if_pos (ok_of (by dsimp only; omega) (by dsimp only; omega) (by dsimp only; omega))]
  have hfl : flB ⟨abt X o0, abt Y o1, abt H o2, abt VX o3, abt VY o4, abt VZ o5, abt (2 * P) o6, abt WX o7, abt WY o8⟩ = true := by
    unfold flB
    refine decide_eq_true ⟨hchk _ _ (by omega) (by omega) p0.1 p0.2, hchk _ _ (by omega) (by omega) p1.1 p1.2, hchk _ _ (by omega) (by omega) p2.1 p2.2, hchk _ _ (by omega) (by omega) p3.1 p3.2, hchk _ _ (by omega) (by omega) p4.1 p4.2, hchk _ _ (by omega) (by omega) p5.1 p5.2, hchk _ _ (by omega) (by omega) p6.1 p6.2, hchk _ _ (by omega) (by omega) p7.1 p7.2, hchk _ _ (by omega) (by omega) p8.1 p8.2, ?_, ?_⟩
    · show 0 < 2 * P * 4294967296 - o6; omega
    · show 0 ≤ H * 4294967296 - o2; omega
  unfold impV
  rw [if_pos hfl]
  dsimp only [abt]
  rw [ch0 ea, ch0 eb]
  dsimp only
  rw [ch0 ec, ch0 ed]
  dsimp only
  rw [ch0 ee, ch0 eg]
  dsimp only
  rw [ch0 et, ch0 f1]
  dsimp only
  rw [ch0 g1, ch0 f2]
  dsimp only
  rw [ch0 g2, ch0 f3]
  dsimp only
  rw [ch0 g3, ch0 f4]
  dsimp only
  rw [ch0 g4]
  have x1 : (X + (VX + WX) * T) = X + VX * T + WX * T := by grind
  have y1 : (Y + (VY + WY) * T) = Y + VY * T + WY * T := by grind
  rw [x1, y1]
  have dnb : ∀ n : Int, -35000 * 4294967296 ≤ n → n ≤ 35000 * 4294967296 → dn n = n * 1000 / 4294967296 := fun n h1 h2 => by
    unfold dn; rw [if_neg (by omega), if_neg (by omega)]
  unfold last lastR
  dsimp only
  rw [dnb _ (by omega) (by omega), dnb _ (by omega) (by omega), dnb _ (by omega) (by omega), dnb _ (by omega) (by omega)]
  rw [if_pos (rectB_iff.2 (by dsimp only; omega))]
  exact ⟨_, _, _, _, rfl, by omega, by omega, by omega, by omega⟩
end Go.Proofs.Ytpjajgeajncdgaa
set_option linter.unusedVariables false
set_option maxRecDepth 4000
namespace Go.Proofs.Ytpjajgeajncdgaa
open Go Go.RowKit Go.ChangeShapes Go.WideShapes Go.ChangeAt Go.Joins Ul Vc
attribute [local irreducible] Go.Calls
structure Sht where
  T : Int
  X : Int
  Y : Int
  VX : Int
  VY : Int
  VZ : Int
  P : Int
  WX : Int
  WY : Int
  o : Int × Int × Int × Int × Int × Int × Int × Int × Int
abbrev ShV (n : Sht) : Value := .agg #[.int .i8 n.T, .int .i8 n.X, .int .i8 n.Y, .int .i8 n.VX, .int .i8 n.VY, .int .i8 n.VZ, .int .i8 n.P, .int .i8 n.WX, .int .i8 n.WY, .int .u16 n.o.1, .int .u16 n.o.2.1, .int .u16 n.o.2.2.1, .int .u16 n.o.2.2.2.1, .int .u16 n.o.2.2.2.2.1, .int .u16 n.o.2.2.2.2.2.1, .int .u16 n.o.2.2.2.2.2.2.1, .int .u16 n.o.2.2.2.2.2.2.2.1, .int .u16 n.o.2.2.2.2.2.2.2.2]
structure ShI (n : Sht) : Prop where
  T : -128 ≤ n.T ∧ n.T ≤ 127
  X : -128 ≤ n.X ∧ n.X ≤ 127
  Y : -128 ≤ n.Y ∧ n.Y ≤ 127
  VX : -128 ≤ n.VX ∧ n.VX ≤ 127
  VY : -128 ≤ n.VY ∧ n.VY ≤ 127
  VZ : -128 ≤ n.VZ ∧ n.VZ ≤ 127
  P : -128 ≤ n.P ∧ n.P ≤ 127
  WX : -128 ≤ n.WX ∧ n.WX ≤ 127
  WY : -128 ≤ n.WY ∧ n.WY ≤ 127
  p0 : 0 ≤ n.o.1 ∧ n.o.1 ≤ 65535
  p1 : 0 ≤ n.o.2.1 ∧ n.o.2.1 ≤ 65535
  p2 : 0 ≤ n.o.2.2.1 ∧ n.o.2.2.1 ≤ 65535
  p3 : 0 ≤ n.o.2.2.2.1 ∧ n.o.2.2.2.1 ≤ 65535
  p4 : 0 ≤ n.o.2.2.2.2.1 ∧ n.o.2.2.2.2.1 ≤ 65535
  p5 : 0 ≤ n.o.2.2.2.2.2.1 ∧ n.o.2.2.2.2.2.1 ≤ 65535
  p6 : 0 ≤ n.o.2.2.2.2.2.2.1 ∧ n.o.2.2.2.2.2.2.1 ≤ 65535
  p7 : 0 ≤ n.o.2.2.2.2.2.2.2.1 ∧ n.o.2.2.2.2.2.2.2.1 ≤ 65535
  p8 : 0 ≤ n.o.2.2.2.2.2.2.2.2 ∧ n.o.2.2.2.2.2.2.2.2 ≤ 65535
theorem wfi8 {n : Int} (h : (Lit.int .i8 n).wf = true) : -128 ≤ n ∧ n ≤ 127 := by
  simp only [Lit.wf, Bool.and_eq_true, decide_eq_true_eq] at h
  exact h
theorem wfu16 {n : Int} (h : (Lit.int .u16 n).wf = true) : 0 ≤ n ∧ n ≤ 65535 := by
  simp only [Lit.wf, Bool.and_eq_true, decide_eq_true_eq] at h
  exact h
section
variable {H : Type} {enc : TypeId × Value → H} {w : World} {base : Nat} {sp : Nat → Bool} {held : Bool}
theorem offs_cells {fuel : Nat} {cs : List Value} {x : DataW H × List MemPlace} (h : DataW.trod enc Try.prog w base sp held fuel 24 cs = some x) :
    ∃ a0 a1 a2 a3 a4 a5 a6 a7 a8 : Int, cs = [.int .u16 a0, .int .u16 a1, .int .u16 a2, .int .u16 a3, .int .u16 a4, .int .u16 a5, .int .u16 a6, .int .u16 a7, .int .u16 a8] ∧ (0 ≤ a0 ∧ a0 ≤ 65535) ∧ (0 ≤ a1 ∧ a1 ≤ 65535) ∧ (0 ≤ a2 ∧ a2 ≤ 65535) ∧ (0 ≤ a3 ∧ a3 ≤ 65535) ∧ (0 ≤ a4 ∧ a4 ≤ 65535) ∧ (0 ≤ a5 ∧ a5 ≤ 65535) ∧ (0 ≤ a6 ∧ a6 ≤ 65535) ∧ (0 ≤ a7 ∧ a7 ≤ 65535) ∧ (0 ≤ a8 ∧ a8 ≤ 65535) := by
  obtain ⟨xs, m, _, _, hl, hlen, hf⟩ := DataW.trod_array Try.underlying24 h
  have e1 : Try.prog.cellsOf 23 = 1 := by kernel_rfl
  have e2 : Try.prog.cellsOf 24 = 9 := by kernel_rfl
  rw [e2] at hl
  simp only [e1] at hf
  match cs, hl with
  | [c0, c1, c2, c3, c4, c5, c6, c7, c8], _ =>
    match xs, hlen with
    | [y0, y1, y2, y3, y4, y5, y6, y7, y8], _ =>
      have h0 := hf 0 (by omega)
      have h1 := hf 1 (by omega)
      have h2 := hf 2 (by omega)
      have h3 := hf 3 (by omega)
      have h4 := hf 4 (by omega)
      have h5 := hf 5 (by omega)
      have h6 := hf 6 (by omega)
      have h7 := hf 7 (by omega)
      have h8 := hf 8 (by omega)
      simp only [List.getElem?_cons_zero, List.getElem?_cons_succ] at h0 h1 h2 h3 h4 h5 h6 h7 h8
      obtain ⟨a0, q0, _, w0⟩ := DataW.trod_int Try.underlying23 h0
      obtain ⟨a1, q1, _, w1⟩ := DataW.trod_int Try.underlying23 h1
      obtain ⟨a2, q2, _, w2⟩ := DataW.trod_int Try.underlying23 h2
      obtain ⟨a3, q3, _, w3⟩ := DataW.trod_int Try.underlying23 h3
      obtain ⟨a4, q4, _, w4⟩ := DataW.trod_int Try.underlying23 h4
      obtain ⟨a5, q5, _, w5⟩ := DataW.trod_int Try.underlying23 h5
      obtain ⟨a6, q6, _, w6⟩ := DataW.trod_int Try.underlying23 h6
      obtain ⟨a7, q7, _, w7⟩ := DataW.trod_int Try.underlying23 h7
      obtain ⟨a8, q8, _, w8⟩ := DataW.trod_int Try.underlying23 h8
      simp at q0 q1 q2 q3 q4 q5 q6 q7 q8
      exact ⟨a0, a1, a2, a3, a4, a5, a6, a7, a8, by rw [q0, q1, q2, q3, q4, q5, q6, q7, q8], wfu16 w0, wfu16 w1, wfu16 w2, wfu16 w3, wfu16 w4, wfu16 w5, wfu16 w6, wfu16 w7, wfu16 w8⟩
set_option maxRecDepth 100000 in
theorem shot_cells {fuel : Nat} {cs : List Value} {x : DataW H × List MemPlace} (h : DataW.trod enc Try.prog w base sp held fuel 26 cs = some x) : ∃ n : Sht, Value.agg cs.toArray = ShV n ∧ ShI n := by
  obtain ⟨xs, n, _, _, hl, hlen, hf⟩ := DataW.trod_struct Try.underlying26 h
  have e1 : Try.prog.cellsOf 22 = 1 := by kernel_rfl
  have e2 : Try.prog.cellsOf 24 = 9 := by kernel_rfl
  have e3 : Try.prog.cellsOf 26 = 18 := by kernel_rfl
  rw [e3] at hl
  match xs, hlen with
  | [y0, y1, y2, y3, y4, y5, y6, y7, y8, y9], _ =>
    match cs, hl with
    | [c0, c1, c2, c3, c4, c5, c6, c7, c8, c9, c10, c11, c12, c13, c14, c15, c16, c17], _ =>
      have g0 := hf 0 _ rfl
      have g1 := hf 1 _ rfl
      have g2 := hf 2 _ rfl
      have g3 := hf 3 _ rfl
      have g4 := hf 4 _ rfl
      have g5 := hf 5 _ rfl
      have g6 := hf 6 _ rfl
      have g7 := hf 7 _ rfl
      have g8 := hf 8 _ rfl
      have g9 := hf 9 _ rfl
      simp [e1, e2] at g0 g1 g2 g3 g4 g5 g6 g7 g8 g9
      obtain ⟨b0, k0, _, v0⟩ := DataW.trod_int Try.underlying22 g0
      obtain ⟨b1, k1, _, v1⟩ := DataW.trod_int Try.underlying22 g1
      obtain ⟨b2, k2, _, v2⟩ := DataW.trod_int Try.underlying22 g2
      obtain ⟨b3, k3, _, v3⟩ := DataW.trod_int Try.underlying22 g3
      obtain ⟨b4, k4, _, v4⟩ := DataW.trod_int Try.underlying22 g4
      obtain ⟨b5, k5, _, v5⟩ := DataW.trod_int Try.underlying22 g5
      obtain ⟨b6, k6, _, v6⟩ := DataW.trod_int Try.underlying22 g6
      obtain ⟨b7, k7, _, v7⟩ := DataW.trod_int Try.underlying22 g7
      obtain ⟨b8, k8, _, v8⟩ := DataW.trod_int Try.underlying22 g8
      obtain ⟨a0, a1, a2, a3, a4, a5, a6, a7, a8, q, w0, w1, w2, w3, w4, w5, w6, w7, w8⟩ := offs_cells g9
      simp at k0 k1 k2 k3 k4 k5 k6 k7 k8 q
      obtain ⟨rfl, rfl, rfl, rfl, rfl, rfl, rfl, rfl, rfl⟩ := q
      subst k0 k1 k2 k3 k4 k5 k6 k7 k8
      exact ⟨⟨b0, b1, b2, b3, b4, b5, b6, b7, b8, a0, a1, a2, a3, a4, a5, a6, a7, a8⟩, rfl, wfi8 v0, wfi8 v1, wfi8 v2, wfi8 v3, wfi8 v4, wfi8 v5, wfi8 v6, wfi8 v7, wfi8 v8, w0, w1, w2, w3, w4, w5, w6, w7, w8⟩
theorem open_shot {P : Program} (hP : P = Try.prog) {r : Reach} {b0 : Nat} {v : Value} {d : DataW H} {ps : List MemPlace} (hval : Value.okWide P w r b0 26 v) (hd : DataW.Trod enc P w base sp held 26 v d ps) :
    ∃ n : Sht, v = ShV n ∧ ShI n := by
  obtain ⟨fs, hfs⟩ : ∃ fs, P.underlying 26 = some (.struct fs) := ⟨_, by rw [hP]; exact Try.underlying26⟩
  have hz : ∀ fuel cs x, DataW.trod enc P w base sp held fuel 26 cs = some x → ∃ n : Sht, Value.agg cs.toArray = ShV n ∧ ShI n := fun fuel cs x h => by rw [hP] at h; exact shot_cells h
  clear hP
  obtain ⟨cs, rfl, _⟩ := okWide_struct hfs hval
  obtain ⟨fuel, hf⟩ := hd
  obtain ⟨z, h1, h2⟩ := hz _ _ _ hf
  exact ⟨z, h1, h2⟩
end
theorem pabout {n o : Int} (w : World) (hn : -2200000 ≤ n ∧ n ≤ 2200000) (ho : 0 ≤ o ∧ o ≤ 65535) : Calls Try.prog 5 #[.int .i64 n, .int .u16 o] w (Vc.Ret (.agg #[.int .i64 (abt n o).1, .int .i64 (abt n o).2]) w) := by
  refine vc_ullagelaw09_about _ _ w _ ?_
  iterate 8 (first | (intro x hx; rw [Vc.i64_id (by omega)] at hx; subst x) | skip)
  rfl
theorem walk_safetyFalls {w : World} (n : Sht) (t : ShI n) : Calls Try.prog 3 #[ShV n] w (Vc.Ret (.bool true) w) := by
  obtain ⟨T, X, Y, VX, VY, VZ, P, WX, WY, o0, o1, o2, o3, o4, o5, o6, o7, o8⟩ := n
  obtain ⟨hT, hX, hY, hVX, hVY, hVZ, hP, hWX, hWY, p0, p1, p2, p3, p4, p5, p6, p7, p8⟩ := t
  dsimp only at hT hX hY hVX hVY hVZ hP hWX hWY p0 p1 p2 p3 p4 p5 p6 p7 p8
  have aw : ∀ v : Value, v = .bool true → ∃ (b0 : Bool), (∀ w' : World, Below w.heap.size w w' → Calls Try.prog 4 #[] w' (Vc.Ret (.bool b0) w')) ∧ (.bool b0 : Value) = v := fun v hv => ⟨true, fun w' _ => awake_any w', hv.symm⟩
  unfold ShV
  dsimp only
  refine vc_ullagelaw09_SafetyFalls _ _ _ _ _ _ _ _ _ _ _ _ _ _ _ _ _ _ w _ ?_
  have pt := absmul (x := P) (y := T) (A := 128) (B := 128) (by omega) (by omega) (by omega) (by omega)
  have ptt := absmul (x := P * T) (y := T) (A := 16384) (B := 128) (by omega) (by omega) (by omega) (by omega)
  have vt := absmul (x := VZ) (y := T) (A := 128) (B := 128) (by omega) (by omega) (by omega) (by omega)
  have vxt := absmul (x := VX + WX) (y := T) (A := 256) (B := 128) (by omega) (by omega) (by omega) (by omega)
  have vyt := absmul (x := VY + WY) (y := T) (A := 256) (B := 128) (by omega) (by omega) (by omega) (by omega)
  have e1 : 2 * P * T = 2 * (P * T) := by grind
  have e2 : 2 * (P * T) * T = 2 * (P * T * T) := by grind
  intro x hx; rw [Vc.i64_id (by omega)] at hx; subst x
  intro x hx; rw [Vc.i64_id (by omega)] at hx; subst x
  intro x hx; rw [Vc.i64_id (by omega)] at hx; subst x
  intro x hx; rw [e1, Vc.i64_id (by omega)] at hx; subst x
  intro x hx; rw [e2, Vc.i64_id (by omega)] at hx; subst x
  intro x hx; rw [show Int.tdiv (2 * (P * T * T)) 2 = P * T * T from Int.mul_tdiv_cancel_left _ (by decide), Vc.i64_id (by omega)] at hx; subst x
  intro x hx; rw [Vc.i64_id (by omega)] at hx; subst x
  intro x hx; rw [Vc.i64_id (by omega)] at hx; subst x
  intro x hx; rw [Vc.i64_id (by omega)] at hx; subst x
  refine iteI (fun h => aw _ rfl) (fun h0 => ?_)
  refine iteI (fun h => aw _ rfl) (fun h1 => ?_)
  refine iteI (fun h => aw _ rfl) (fun h2 => ?_)
  obtain ⟨a, b, c, d, hI, l1, l2, l3, l4⟩ := fall_law (T := T) (X := X) (Y := Y) (VX := VX) (VY := VY) (VZ := VZ) (P := P) (WX := WX) (WY := WY) (by omega) hX hY hVX hVY hVZ (by omega) hWX hWY (by omega) p0 p1 p2 p3 p4 p5 p6 p7 p8
  intro x hx; rw [Vc.i64_id (by omega)] at hx; subst x
  refine ⟨_, _, fun w' _ => pabout w' (by omega) p0, ?_⟩
  intro x hx; rw [Vc.i64_id (by omega)] at hx; subst x
  refine ⟨_, _, fun w' _ => pabout w' (by omega) p1, ?_⟩
  refine ⟨_, _, fun w' _ => pabout w' (by omega) p2, ?_⟩
  intro x hx; rw [Vc.i64_id (by omega)] at hx; subst x
  refine ⟨_, _, fun w' _ => pabout w' (by omega) p3, ?_⟩
  intro x hx; rw [Vc.i64_id (by omega)] at hx; subst x
  refine ⟨_, _, fun w' _ => pabout w' (by omega) p4, ?_⟩
  intro x hx; rw [Vc.i64_id (by omega)] at hx; subst x
  refine ⟨_, _, fun w' _ => pabout w' (by omega) p5, ?_⟩
  refine ⟨_, _, fun w' _ => pabout w' (by omega) p6, ?_⟩
  intro x hx; rw [Vc.i64_id (by omega)] at hx; subst x
  refine ⟨_, _, fun w' _ => pabout w' (by omega) p7, ?_⟩
  intro x hx; rw [Vc.i64_id (by omega)] at hx; subst x
  refine ⟨_, _, fun w' _ => pabout w' (by omega) p8, ?_⟩
  have ai : ∀ {n o : Int}, -2200000 ≤ n ∧ n ≤ 2200000 → 0 ≤ o ∧ o ≤ 65535 → SpI (abt n o) := fun h1 h2 => by
    unfold SpI I64 abt; dsimp only; omega
  refine ⟨a, b, c, d, 0, fun w' _ => Ret.mono (pimpact ⟨abt X o0, abt Y o1, abt (P * T * T - VZ * T) o2, abt VX o3, abt VY o4, abt VZ o5, abt (2 * P) o6, abt WX o7, abt WY o8⟩ w' ⟨ai (by omega) p0, ai (by omega) p1, ai (by omega) p2, ai (by omega) p3, ai (by omega) p4, ai (by omega) p5, ai (by omega) p6, ai (by omega) p7, ai (by omega) p8⟩) (by rw [hI]), ?_⟩
  iterate 14 (intro x hx; rw [Vc.i64_id (by omega)] at hx; subst x)
  refine iteI (fun h => ?_) (fun h => absurd rfl h)
  refine iteI (fun h => ?_) (fun h => absurd l1 h)
  refine iteI (fun h => ?_) (fun h => absurd l2 h)
  refine iteI (fun h => ?_) (fun h => absurd l3 h)
  refine iteI (fun h => ?_) (fun h => absurd l4 h)
  exact aw _ rfl
end Go.Proofs.Ytpjajgeajncdgaa
