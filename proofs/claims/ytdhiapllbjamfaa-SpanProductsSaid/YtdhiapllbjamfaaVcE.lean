/- Vc, part E: two values of one type, compared cell by cell. No program in sight. -/
import Derived.Test.YtdhiapllbjamfaaVcD
import Derived.DeepKeys
set_option linter.unusedVariables false
set_option linter.unusedSimpArgs false
namespace Vc
open Go Go.RowKit
variable {P : Program}

theorem eqCells_cons {k : CK} {r : List CK} {a b : List At} {e : BE} (h : eqCells (k :: r) a b = some e) :
    ∃ a0 x b0 y e1 e2, a = a0 :: x ∧ b = b0 :: y ∧ eqOne k a0 b0 = some e1 ∧ eqCells r x y = some e2 ∧ e = .and e1 e2 := by
  cases a with
  | nil => simp [eqCells] at h
  | cons a0 x =>
    cases b with
    | nil => simp [eqCells] at h
    | cons b0 y =>
      simp only [eqCells] at h
      split at h
      · rename_i e1 e2 h1 h2
        simp only [Option.some.injEq] at h
        exact ⟨a0, x, b0, y, e1, e2, rfl, rfl, h1, h2, h.symm⟩
      · cases h
theorem eqCells_append (ρ : Env) : ∀ (k1 k2 : List CK) {a b : List At} {e : BE}, eqCells (k1 ++ k2) a b = some e →
    ∃ e1 e2, eqCells k1 (a.take k1.length) (b.take k1.length) = some e1 ∧ eqCells k2 (a.drop k1.length) (b.drop k1.length) = some e2 ∧ e.den ρ = (e1.den ρ && e2.den ρ)
  | [], k2, a, b, e, h => ⟨.lit true, e, by simp [eqCells], by simpa using h, by simp [BE.den]⟩
  | c :: k1, k2, a, b, e, h => by
    obtain ⟨a0, x, b0, y, e1, e2, rfl, rfl, h1, h2, rfl⟩ := eqCells_cons h
    obtain ⟨f1, f2, q1, q2, q3⟩ := eqCells_append ρ k1 k2 h2
    exact ⟨.and e1 f1, f2, by simp [eqCells, h1, q1], by simpa using q2, by simp only [BE.den, q3, Bool.and_assoc]⟩

/-- A value of a type, and its cells. -/
def VIs (P : Program) (t : TypeId) (ρ : Env) (β : Nat → Nat) (x : Value) (xs : List At) : Prop :=
  match P.underlying t with
  | some (.struct _) | some (.array _ _) => x = .agg (xs.map (At.den ρ β)).toArray
  | _ => ∃ a, xs = [a] ∧ x = a.den ρ β

theorem szAgg_some {t : TypeId} {g : Bool} {n : Nat} (h : szAgg P t = some (g, n)) :
    ∃ d i, P.underlying t = some d ∧ P.info? t = some i ∧ n = i.size ∧ g = (match d with | .struct _ | .array _ _ => true | _ => false) := by
  unfold szAgg at h
  split at h
  · rename_i d i h1 h2
    simp only [Option.some.injEq, Prod.mk.injEq] at h
    exact ⟨d, i, h1, h2, h.2.symm, h.1.symm⟩
  · cases h
theorem run_isAgg {t : TypeId} {g : Bool} {n : Nat} (h : szAgg P t = some (g, n)) (w : World) : (isAgg t).run P w = .ok g w := by
  obtain ⟨d, i, h1, h2, rfl, rfl⟩ := szAgg_some h
  unfold isAgg
  simp only [Sem.run_bind, run_underlying h1, Result.andThen_ok]
  cases d <;> rfl
theorem run_size {t : TypeId} {g : Bool} {n : Nat} (h : szAgg P t = some (g, n)) (w : World) : (Go.sizeOf t).run P w = .ok n w := by
  obtain ⟨d, i, h1, h2, rfl, rfl⟩ := szAgg_some h
  simp [Go.sizeOf, typeInfo, h2]
theorem agg_extract (xs : List Value) (off n : Nat) : (xs.toArray.extract off (off + n)) = ((xs.drop off).take n).toArray := by
  apply Array.ext'
  rw [Array.toList_extract]
  simp [List.extract]
theorem run_partA {t : TypeId} {g : Bool} {n : Nat} (h : szAgg P t = some (g, n)) (hg : g = true) (xs : List Value) (off : Nat) (w : World) :
    (part t xs.toArray off).run P w = .ok (.agg ((xs.drop off).take n).toArray) w := by
  subst hg
  simp only [part, Sem.run_bind, run_isAgg h, Result.andThen_ok, if_true, run_size h, Sem.run_pure, agg_extract]
theorem run_partO {t : TypeId} {g : Bool} {n : Nat} (h : szAgg P t = some (g, n)) (hg : g = false) (xs : List Value) (off : Nat) (v : Value) (hv : xs[off]? = some v) (w : World) :
    (part t xs.toArray off).run P w = .ok v w := by
  subst hg
  simp [part, run_isAgg h, hv]

theorem eqCells_len (ρ : Env) : ∀ {ks : List CK} {a b : List At} {e : BE}, eqCells ks a b = some e → a.length = ks.length ∧ b.length = ks.length
  | [], a, b, e, h => by
    cases a with
    | nil => cases b with
      | nil => exact ⟨rfl, rfl⟩
      | cons _ _ => simp [eqCells] at h
    | cons _ _ => simp [eqCells] at h
  | c :: ks, a, b, e, h => by
    obtain ⟨a0, x, b0, y, e1, e2, rfl, rfl, h1, h2, rfl⟩ := eqCells_cons h
    have := eqCells_len ρ h2
    simp [this]

/-- A part, as a value of its type. -/
theorem part_is {t : TypeId} {g : Bool} {n : Nat} (h : szAgg P t = some (g, n)) {ρ : Env} {β : Nat → Nat} (xs : List At) (off : Nat) (hs : g = false → n = 1) (hl : ((xs.drop off).take n).length = n) (w : World) :
    ∃ v, (part t (xs.map (At.den ρ β)).toArray off).run P w = .ok v w ∧ VIs P t ρ β v ((xs.drop off).take n) := by
  obtain ⟨d, i, h1, h2, rfl, rfl⟩ := szAgg_some h
  cases d
  case struct fs =>
    exact ⟨_, run_partA h rfl _ off w, by simp [VIs, h1, List.map_take, List.map_drop]⟩
  case array m e =>
    exact ⟨_, run_partA h rfl _ off w, by simp [VIs, h1, List.map_take, List.map_drop]⟩
  all_goals
    rw [hs rfl] at hl ⊢
    cases hx : (xs.drop off).take 1 with
    | nil => rw [hx] at hl; simp at hl
    | cons a r =>
      have hr : r = [] := by rw [hx] at hl; simpa using hl
      subst hr
      have ha : xs[off]? = some a := by
        have h3 : ((xs.drop off).take 1)[0]? = some a := by rw [hx]; rfl
        rw [List.getElem?_take_of_lt (by omega), List.getElem?_drop] at h3
        simpa using h3
      exact ⟨a.den ρ β, run_partO h rfl _ off _ (by simp [ha]) w, by simp [VIs, h1]⟩

/-- What is to be shown of a type, at a depth. -/
def EqOk (P : Program) (d : Nat) (t : TypeId) (ks : List CK) : Prop :=
  ∀ (ρ : Env) (β : Nat → Nat) (xs ys : List At) (e : BE) (x y : Value) (w : World), eqCells ks xs ys = some e → VIs P t ρ β x xs → VIs P t ρ β y ys → (Op.equalIn d t x y).run P w = .ok (e.den ρ) w

theorem eqFields_ok {d : Nat} {f : TypeId → Option (List CK)} (IH : ∀ t ks, f t = some ks → EqOk P d t ks ∧ (∀ g n, szAgg P t = some (g, n) → g = false → ks.length = 1)) (ρ : Env) (β : Nat → Nat) (xs ys : List At) (w : World) :
    ∀ (fs : List Field) (off : Nat) (ks : List CK) (e : BE), eqFs P f off fs = some ks → eqCells ks (xs.drop off) (ys.drop off) = some e →
      (Op.eqFields d (xs.map (At.den ρ β)).toArray (ys.map (At.den ρ β)).toArray fs).run P w = .ok (e.den ρ) w
  | [], off, ks, e, h, he => by
    simp only [eqFs, Option.some.injEq] at h
    subst h
    have := eqCells_len ρ he
    have h1 : xs.drop off = [] := List.eq_nil_of_length_eq_zero (by simpa using this.1)
    have h2 : ys.drop off = [] := List.eq_nil_of_length_eq_zero (by simpa using this.2)
    rw [h1, h2] at he
    simp only [eqCells, Option.some.injEq] at he
    subst he
    simp [Op.eqFields, BE.den]
  | fd :: r, off, ks, e, h, he => by
    simp only [eqFs] at h
    split at h
    · cases h
    · rename_i hn
      simp only [not_or, Decidable.not_not] at hn
      obtain ⟨hn, ho⟩ := hn
      split at h
      · rename_i k1 g n h1 h2
        split at h
        · rename_i hl
          simp only [Option.map_eq_some_iff] at h
          obtain ⟨k2, h3, rfl⟩ := h
          obtain ⟨e1, e2, q1, q2, q3⟩ := eqCells_append ρ k1 k2 he
          obtain ⟨ok1, sc⟩ := IH _ _ h1
          have len1 := eqCells_len ρ q1
          subst hl
          obtain ⟨v, p1, v1⟩ := part_is (ρ := ρ) (β := β) h2 xs off (fun hg => sc _ _ h2 hg) len1.1 w
          obtain ⟨u, p2, u1⟩ := part_is (ρ := ρ) (β := β) h2 ys off (fun hg => sc _ _ h2 hg) len1.2 w
          have r1 := ok1 ρ β _ _ e1 v u w q1 v1 u1
          have r2 := eqFields_ok IH ρ β xs ys w r (off + k1.length) k2 e2 h3 (by rw [List.drop_drop] at q2; rw [List.drop_drop] at q2; exact q2)
          subst ho
          simp only [Op.eqFields, hn, ne_eq, not_false_eq_true, if_true, Sem.run_bind, p1, p2, r1, Result.andThen_ok, q3]
          cases e1.den ρ
          · simp
          · simpa using r2
        · cases h
      · cases h

theorem eqItems_ok {d : Nat} {t : TypeId} {k1 : List CK} {g : Bool} (ok1 : EqOk P d t k1) (hz : szAgg P t = some (g, k1.length)) (sc : g = false → k1.length = 1) (ρ : Env) (β : Nat → Nat) (xs ys : List At) (w : World) :
    ∀ (m i : Nat) (e : BE), eqCells (times k1 m) (xs.drop (i * k1.length)) (ys.drop (i * k1.length)) = some e →
      (Op.eqItems d t k1.length (xs.map (At.den ρ β)).toArray (ys.map (At.den ρ β)).toArray (List.range' i m)).run P w = .ok (e.den ρ) w
  | 0, i, e, he => by
    have := eqCells_len ρ he
    have h1 : xs.drop (i * k1.length) = [] := List.eq_nil_of_length_eq_zero (by simpa [times] using this.1)
    have h2 : ys.drop (i * k1.length) = [] := List.eq_nil_of_length_eq_zero (by simpa [times] using this.2)
    rw [h1, h2] at he
    simp only [times, eqCells, Option.some.injEq] at he
    subst he
    simp [Op.eqItems, BE.den]
  | m + 1, i, e, he => by
    obtain ⟨e1, e2, q1, q2, q3⟩ := eqCells_append ρ k1 (times k1 m) he
    have len1 := eqCells_len ρ q1
    obtain ⟨v, p1, v1⟩ := part_is (ρ := ρ) (β := β) hz xs (i * k1.length) sc len1.1 w
    obtain ⟨u, p2, u1⟩ := part_is (ρ := ρ) (β := β) hz ys (i * k1.length) sc len1.2 w
    have r1 := ok1 ρ β _ _ e1 v u w q1 v1 u1
    have r2 := eqItems_ok ok1 hz sc ρ β xs ys w m (i + 1) e2 (by rw [List.drop_drop, List.drop_drop] at q2; rw [Nat.add_mul, Nat.one_mul]; exact q2)
    rw [List.range'_succ]
    simp only [Op.eqItems, Sem.run_bind, p1, p2, r1, Result.andThen_ok, q3]
    cases e1.den ρ
    · simp
    · simpa using r2

theorem toList_loop (bs : ByteArray) (i : Nat) (r : List UInt8) : ByteArray.toList.loop bs i r = r.reverse ++ bs.data.toList.drop i := by
  fun_induction ByteArray.toList.loop bs i r with
  | case1 i r h ih =>
    rw [ih]
    have h' : i < bs.data.size := h
    have h2 : bs.data.toList.drop i = bs.get! i :: bs.data.toList.drop (i + 1) := by
      rw [List.drop_eq_getElem_cons (by simpa using h')]
      congr 1
      cases bs with | mk d => 
        show d.toList[i] = d[i]!
        rw [getElem!_pos d i h']
        simp
    rw [h2]; simp
  | case2 i r h =>
    have : bs.data.toList.drop i = [] := List.drop_eq_nil_of_le (by have : ¬ i < bs.data.size := h; simpa using Nat.le_of_not_lt this)
    simp [this]
theorem toList_mk (l : List UInt8) : (⟨l.toArray⟩ : ByteArray).toList = l := by
  unfold ByteArray.toList
  rw [toList_loop]; simp
theorem strOf_den {a : At} {s : SE} (h : strOf a = some s) (ρ : Env) (β : Nat → Nat) : a.den ρ β = .string ⟨(s.den ρ).toArray⟩ := by
  cases a <;> simp only [strOf, Option.some.injEq, reduceCtorEq] at h <;> subst h <;> rfl
theorem str_eq (a b : List UInt8) : ((⟨a.toArray⟩ : ByteArray) = ⟨b.toArray⟩) ↔ a = b := by
  simp
theorem eqTy_scalar : ∀ (n : Nat) (t : TypeId) (ks : List CK), eqTy P n t = some ks → ∀ g m, szAgg P t = some (g, m) → g = false → ks.length = 1
  | 0, _, _, h => by cases h
  | n + 1, t, ks, h => by
    intro g m hz hg
    obtain ⟨d, i, h1, h2, rfl, rfl⟩ := szAgg_some hz
    simp only [eqTy, h1] at h
    cases d <;> simp only [reduceCtorEq, Option.some.injEq] at h hg
    all_goals (subst h; rfl)

theorem eqTy_ok (d : Nat) : ∀ (n : Nat) (t : TypeId) (ks : List CK), eqTy P n t = some ks → EqOk P (d + n) t ks
  | 0, _, _, h => by cases h
  | n + 1, t, ks, h => by
    intro ρ β xs ys e x y w he hx hy
    simp only [eqTy] at h
    cases hu : P.underlying t with
    | none => simp [hu] at h
    | some dd =>
      simp only [hu] at h
      simp only [VIs, hu] at hx hy
      cases dd <;> simp only [reduceCtorEq, Option.some.injEq] at h
      case int k =>
        subst h
        obtain ⟨a, rfl, rfl⟩ := hx
        obtain ⟨b, rfl, rfl⟩ := hy
        obtain ⟨a0, x, b1, y, e1, e2, p1, p2, h1, h2, rfl⟩ := eqCells_cons he
        cases p1; cases p2; simp only [eqCells, Option.some.injEq] at h2; subst h2
        simp only [eqOne] at h1
        split at h1
        · split at h1
          · rename_i hk
            simp only [Option.some.injEq] at h1
            subst h1
            obtain ⟨rfl, rfl⟩ := hk
            simp only [At.den, BE.den, cmpB, Bool.and_true]
            exact run_equalIn_int w (d + n) t _ _ _ _ hu
          · cases h1
        · cases h1
      case bool =>
        subst h
        obtain ⟨a, rfl, rfl⟩ := hx
        obtain ⟨b, rfl, rfl⟩ := hy
        obtain ⟨a0, x, b1, y, e1, e2, p1, p2, h1, h2, rfl⟩ := eqCells_cons he
        cases p1; cases p2; simp only [eqCells, Option.some.injEq] at h2; subst h2
        simp only [eqOne] at h1
        split at h1
        · simp only [Option.some.injEq] at h1
          subst h1
          simp only [At.den, BE.den, Bool.and_true]
          exact run_equalIn_bool w (d + n) t _ _ hu
        · cases h1
      case string =>
        subst h
        obtain ⟨a, rfl, rfl⟩ := hx
        obtain ⟨b, rfl, rfl⟩ := hy
        obtain ⟨a0, x, b1, y, e1, e2, p1, p2, h1, h2, rfl⟩ := eqCells_cons he
        cases p1; cases p2; simp only [eqCells, Option.some.injEq] at h2; subst h2
        simp only [eqOne] at h1
        split at h1
        · rename_i p q hp hq
          simp only [Option.some.injEq] at h1
          subst h1
          rw [strOf_den hp, strOf_den hq]
          simp only [BE.den, Bool.and_true]
          rw [show d + (n + 1) = (d + n) + 1 from rfl, run_equalIn_string w (d + n) t _ _ hu]
          congr 1
          by_cases hc : p.den ρ = q.den ρ
          · simp [hc]
          · have : ¬ ((⟨(p.den ρ).toArray⟩ : ByteArray) = ⟨(q.den ρ).toArray⟩) := fun he => hc ((str_eq _ _).1 he)
            simp [hc, this]
        · cases h1
      case struct fs =>
        subst hx hy
        split at h
        · cases h
        · rename_i hp
          have hfs : P.fieldsOf t = fs := by simp [Program.fieldsOf, hu]
          have := eqFields_ok (fun t ks h => ⟨eqTy_ok d n t ks h, eqTy_scalar n t ks h⟩) ρ β xs ys w fs.toList 0 ks e h (by simpa using he)
          rw [show d + (n + 1) = (d + n) + 1 from rfl, run_equalIn_struct w (d + n) t _ _ (by rw [hfs]; exact hu) (by simpa using hp), hfs]
          exact this
      case array m el =>
        subst hx hy
        split at h
        · rename_i k1 g s h1 h2
          split at h
          · rename_i hs
            subst hs
            simp only [Option.some.injEq] at h
            subst h
            obtain ⟨d', i', _, hi, hsz, _⟩ := szAgg_some h2
            have := eqItems_ok (eqTy_ok d n el k1 h1) h2 (fun hg => eqTy_scalar n el k1 h1 _ _ h2 hg) ρ β xs ys w m 0 e (by simpa using he)
            rw [show d + (n + 1) = (d + n) + 1 from rfl, run_equalIn_array w (d + n) _ _ hu hi, List.range_eq_range']
            rw [show P.cellsOf el = k1.length by simp [Program.cellsOf, hi, hsz]]
            exact this
          · cases h
        · cases h

/-- Structs and arrays: '==' and '!='. -/
theorem eq_agg {t : TypeId} {ks : List CK} {xs ys : List At} {e : BE} (hk : eqTy P 30 t = some ks) (he : eqCells ks xs ys = some e) (ha : ∃ g n, szAgg P t = some (g, n) ∧ g = true) (ρ : Env) (β : Nat → Nat) (w : World) :
    (Op.equalIn 10000 t (.agg (xs.map (At.den ρ β)).toArray) (.agg (ys.map (At.den ρ β)).toArray)).run P w = .ok (e.den ρ) w := by
  obtain ⟨g, n, hz, rfl⟩ := ha
  obtain ⟨d, i, h1, h2, rfl, hg⟩ := szAgg_some hz
  refine eqTy_ok 9970 30 t ks hk ρ β xs ys e _ _ w he ?_ ?_
  · cases d <;> simp only [reduceCtorEq] at hg <;> simp [VIs, h1]
  · cases d <;> simp only [reduceCtorEq] at hg <;> simp [VIs, h1]
end Vc
