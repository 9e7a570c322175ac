/- Vc, part A: a symbolic walk over the model's code: what it knows of values and of memory. No program in sight. -/
import Derived.Deep.LoopGhost
import Derived.Scope
import Derived.Below
import Derived.Orders
import Derived.Handy
import Derived.KernelRfl
set_option linter.unusedVariables false
set_option linter.unusedSimpArgs false
namespace Vc
open Go Go.RowKit

/-- A value of one cell. -/
abbrev OV := { v : Value // v.oneCell' = true }
/-- What the variables of a walk stand for. -/
structure Env where
  i : Nat → Int
  b : Nat → Bool
  v : Nat → OV
  p : Nat → Nat × Nat
  s : Nat → List UInt8
  l : Nat → List OV

def Env.setI (ρ : Env) (n : Nat) (x : Int) : Env := { ρ with i := fun j => if j = n then x else ρ.i j }
def Env.setB (ρ : Env) (n : Nat) (x : Bool) : Env := { ρ with b := fun j => if j = n then x else ρ.b j }
def Env.setV (ρ : Env) (n : Nat) (x : OV) : Env := { ρ with v := fun j => if j = n then x else ρ.v j }
def Env.setP (ρ : Env) (n : Nat) (x : Nat × Nat) : Env := { ρ with p := fun j => if j = n then x else ρ.p j }
def Env.setS (ρ : Env) (n : Nat) (x : List UInt8) : Env := { ρ with s := fun j => if j = n then x else ρ.s j }
def Env.setL (ρ : Env) (n : Nat) (x : List OV) : Env := { ρ with l := fun j => if j = n then x else ρ.l j }
def Env.zero : Env := ⟨fun _ => 0, fun _ => false, fun _ => ⟨.nilFunc, rfl⟩, fun _ => (0, 0), fun _ => [], fun _ => []⟩

/-- How many variables of each kind, and how many blocks, there are. -/
structure Ctr where
  ni : Nat
  nb : Nat
  nv : Nat
  np : Nat
  nk : Nat
  ns : Nat
  nl : Nat
  deriving DecidableEq

structure Ctr.le (c d : Ctr) : Prop where
  i : c.ni ≤ d.ni
  b : c.nb ≤ d.nb
  v : c.nv ≤ d.nv
  p : c.np ≤ d.np
  k : c.nk ≤ d.nk
  s : c.ns ≤ d.ns
  l : c.nl ≤ d.nl
theorem Ctr.le_refl (c : Ctr) : c.le c := ⟨Nat.le_refl _, Nat.le_refl _, Nat.le_refl _, Nat.le_refl _, Nat.le_refl _, Nat.le_refl _, Nat.le_refl _⟩
theorem Ctr.le_trans {c d e : Ctr} (h : c.le d) (h' : d.le e) : c.le e :=
  ⟨Nat.le_trans h.i h'.i, Nat.le_trans h.b h'.b, Nat.le_trans h.v h'.v, Nat.le_trans h.p h'.p, Nat.le_trans h.k h'.k, Nat.le_trans h.s h'.s, Nat.le_trans h.l h'.l⟩
theorem Ctr.le_nk (c : Ctr) (n : Nat) : c.le { c with nk := c.nk + n } := ⟨Nat.le_refl _, Nat.le_refl _, Nat.le_refl _, Nat.le_refl _, Nat.le_add_right _ _, Nat.le_refl _, Nat.le_refl _⟩
theorem Ctr.le_nl (c : Ctr) (n : Nat) : c.le { c with nl := c.nl + n } := ⟨Nat.le_refl _, Nat.le_refl _, Nat.le_refl _, Nat.le_refl _, Nat.le_refl _, Nat.le_refl _, Nat.le_add_right _ _⟩
theorem Ctr.le_ni (c : Ctr) (n : Nat) : c.le { c with ni := c.ni + n } := ⟨Nat.le_add_right _ _, Nat.le_refl _, Nat.le_refl _, Nat.le_refl _, Nat.le_refl _, Nat.le_refl _, Nat.le_refl _⟩

/-- Two environments are one below the counters. -/
structure Env.like (c : Ctr) (ρ ρ' : Env) : Prop where
  i : ∀ j, j < c.ni → ρ'.i j = ρ.i j
  b : ∀ j, j < c.nb → ρ'.b j = ρ.b j
  v : ∀ j, j < c.nv → ρ'.v j = ρ.v j
  p : ∀ j, j < c.np → ρ'.p j = ρ.p j
  s : ∀ j, j < c.ns → ρ'.s j = ρ.s j
  l : ∀ j, j < c.nl → ρ'.l j = ρ.l j
theorem Env.like_refl (c : Ctr) (ρ : Env) : Env.like c ρ ρ := ⟨fun _ _ => rfl, fun _ _ => rfl, fun _ _ => rfl, fun _ _ => rfl, fun _ _ => rfl, fun _ _ => rfl⟩
theorem Env.like_trans {c d : Ctr} {ρ ρ' ρ'' : Env} (hc : c.le d) (h : Env.like c ρ ρ') (h' : Env.like d ρ' ρ'') : Env.like c ρ ρ'' :=
  ⟨fun j hj => (h'.i j (Nat.lt_of_lt_of_le hj hc.i)).trans (h.i j hj), fun j hj => (h'.b j (Nat.lt_of_lt_of_le hj hc.b)).trans (h.b j hj), fun j hj => (h'.v j (Nat.lt_of_lt_of_le hj hc.v)).trans (h.v j hj),
    fun j hj => (h'.p j (Nat.lt_of_lt_of_le hj hc.p)).trans (h.p j hj), fun j hj => (h'.s j (Nat.lt_of_lt_of_le hj hc.s)).trans (h.s j hj), fun j hj => (h'.l j (Nat.lt_of_lt_of_le hj hc.l)).trans (h.l j hj)⟩

/-- An integer. -/
inductive IE where
  | lit (n : Int)
  | var (i : Nat)
  deriving DecidableEq
def IE.den (ρ : Env) : IE → Int
  | .lit n => n
  | .var i => ρ.i i
def IE.wf (c : Ctr) : IE → Bool
  | .lit _ => true
  | .var i => decide (i < c.ni)
theorem IE.den_like {c : Ctr} {ρ ρ' : Env} (h : Env.like c ρ ρ') : ∀ {e : IE}, e.wf c = true → e.den ρ' = e.den ρ
  | .lit _, _ => rfl
  | .var i, hw => h.i i (by simpa [IE.wf] using hw)
theorem IE.wf_le {c d : Ctr} (h : c.le d) : ∀ {e : IE}, e.wf c = true → e.wf d = true
  | .lit _, _ => rfl
  | .var i, hw => by simp [IE.wf] at hw ⊢; exact Nat.lt_of_lt_of_le hw h.i

/-- A string. -/
inductive SE where
  | lit (l : List UInt8)
  | var (i : Nat)
  deriving DecidableEq
def SE.den (ρ : Env) : SE → List UInt8
  | .lit l => l
  | .var i => ρ.s i
def SE.wf (c : Ctr) : SE → Bool
  | .lit _ => true
  | .var i => decide (i < c.ns)
theorem SE.den_like {c : Ctr} {ρ ρ' : Env} (h : Env.like c ρ ρ') : ∀ {e : SE}, e.wf c = true → e.den ρ' = e.den ρ
  | .lit _, _ => rfl
  | .var i, hw => h.s i (by simpa [SE.wf] using hw)
theorem SE.wf_le {c d : Ctr} (h : c.le d) : ∀ {e : SE}, e.wf c = true → e.wf d = true
  | .lit _, _ => rfl
  | .var i, hw => by simp [SE.wf] at hw ⊢; exact Nat.lt_of_lt_of_le hw h.s

/-- A truth value. -/
inductive BE where
  | lit (b : Bool)
  | var (i : Nat)
  | cmp (op : BinOp) (a b : IE)
  | not (a : BE)
  | and (a b : BE)
  | or (a b : BE)
  | eq (a b : BE)
  | seq (a b : SE)
  deriving DecidableEq
def cmpB (op : BinOp) (a b : Int) : Bool :=
  match op with
  | .eql => a == b
  | .neq => a != b
  | .lss => decide (a < b)
  | .leq => decide (a ≤ b)
  | .gtr => decide (a > b)
  | .geq => decide (a ≥ b)
  | _ => false
def cmpP (op : BinOp) (a b : Int) : Prop :=
  match op with
  | .eql => a = b
  | .neq => a ≠ b
  | .lss => a < b
  | .leq => a ≤ b
  | .gtr => b < a
  | .geq => b ≤ a
  | _ => False
theorem cmp_iff (op : BinOp) (a b : Int) : cmpP op a b ↔ cmpB op a b = true := by
  cases op <;> simp [cmpP, cmpB]
def BE.den (ρ : Env) : BE → Bool
  | .lit b => b
  | .var i => ρ.b i
  | .cmp op a b => cmpB op (a.den ρ) (b.den ρ)
  | .not a => !a.den ρ
  | .and a b => a.den ρ && b.den ρ
  | .or a b => a.den ρ || b.den ρ
  | .eq a b => a.den ρ == b.den ρ
  | .seq a b => decide (a.den ρ = b.den ρ)
def BE.prop (ρ : Env) : BE → Prop
  | .lit b => b = true
  | .var i => ρ.b i = true
  | .cmp op a b => cmpP op (a.den ρ) (b.den ρ)
  | .not a => ¬ a.prop ρ
  | .and a b => a.prop ρ ∧ b.prop ρ
  | .or a b => a.prop ρ ∨ b.prop ρ
  | .eq a b => a.prop ρ ↔ b.prop ρ
  | .seq a b => a.den ρ = b.den ρ
theorem BE.prop_iff (ρ : Env) : ∀ e : BE, e.prop ρ ↔ e.den ρ = true
  | .lit b => Iff.rfl
  | .var i => Iff.rfl
  | .cmp op a b => cmp_iff op _ _
  | .not a => by simp [BE.prop, BE.den, BE.prop_iff ρ a]
  | .and a b => by simp [BE.prop, BE.den, BE.prop_iff ρ a, BE.prop_iff ρ b]
  | .or a b => by simp [BE.prop, BE.den, BE.prop_iff ρ a, BE.prop_iff ρ b]
  | .eq a b => by
    simp only [BE.prop, BE.den, BE.prop_iff ρ a, BE.prop_iff ρ b]
    cases a.den ρ <;> cases b.den ρ <;> simp
  | .seq a b => by simp [BE.prop, BE.den]
def BE.wf (c : Ctr) : BE → Bool
  | .lit _ => true
  | .var i => decide (i < c.nb)
  | .cmp _ a b => a.wf c && b.wf c
  | .not a => a.wf c
  | .and a b | .or a b | .eq a b => a.wf c && b.wf c
  | .seq a b => a.wf c && b.wf c
theorem BE.den_like {c : Ctr} {ρ ρ' : Env} (h : Env.like c ρ ρ') : ∀ {e : BE}, e.wf c = true → e.den ρ' = e.den ρ
  | .lit _, _ => rfl
  | .var i, hw => h.b i (by simpa [BE.wf] using hw)
  | .cmp op a b, hw => by simp only [BE.wf, Bool.and_eq_true] at hw; simp only [BE.den, IE.den_like h hw.1, IE.den_like h hw.2]
  | .not a, hw => by simp only [BE.wf] at hw; simp only [BE.den, BE.den_like h hw]
  | .and a b, hw => by simp only [BE.wf, Bool.and_eq_true] at hw; simp only [BE.den, BE.den_like h hw.1, BE.den_like h hw.2]
  | .or a b, hw => by simp only [BE.wf, Bool.and_eq_true] at hw; simp only [BE.den, BE.den_like h hw.1, BE.den_like h hw.2]
  | .eq a b, hw => by simp only [BE.wf, Bool.and_eq_true] at hw; simp only [BE.den, BE.den_like h hw.1, BE.den_like h hw.2]
  | .seq a b, hw => by simp only [BE.wf, Bool.and_eq_true] at hw; simp only [BE.den, SE.den_like h hw.1, SE.den_like h hw.2]
theorem BE.wf_le {c d : Ctr} (h : c.le d) : ∀ {e : BE}, e.wf c = true → e.wf d = true
  | .lit _, _ => rfl
  | .var i, hw => by simp [BE.wf] at hw ⊢; exact Nat.lt_of_lt_of_le hw h.b
  | .cmp _ a b, hw => by simp only [BE.wf, Bool.and_eq_true] at hw ⊢; exact ⟨IE.wf_le h hw.1, IE.wf_le h hw.2⟩
  | .not a, hw => by simp only [BE.wf] at hw ⊢; exact BE.wf_le h hw
  | .and a b, hw => by simp only [BE.wf, Bool.and_eq_true] at hw ⊢; exact ⟨BE.wf_le h hw.1, BE.wf_le h hw.2⟩
  | .or a b, hw => by simp only [BE.wf, Bool.and_eq_true] at hw ⊢; exact ⟨BE.wf_le h hw.1, BE.wf_le h hw.2⟩
  | .eq a b, hw => by simp only [BE.wf, Bool.and_eq_true] at hw ⊢; exact ⟨BE.wf_le h hw.1, BE.wf_le h hw.2⟩
  | .seq a b, hw => by simp only [BE.wf, Bool.and_eq_true] at hw ⊢; exact ⟨SE.wf_le h hw.1, SE.wf_le h hw.2⟩

/-- What is known of a truth value by its form alone. -/
def BE.sim : BE → BE
  | .cmp op (.lit a) (.lit b) => .lit (cmpB op a b)
  | .not a => match a.sim with
    | .lit b => .lit !b
    | .not c => c
    | c => .not c
  | .and a b => match a.sim, b.sim with
    | .lit false, _ => .lit false
    | .lit true, d => d
    | _, .lit false => .lit false
    | c, .lit true => c
    | c, d => .and c d
  | .or a b => match a.sim, b.sim with
    | .lit true, _ => .lit true
    | .lit false, d => d
    | _, .lit true => .lit true
    | c, .lit false => c
    | c, d => .or c d
  | .eq a b => match a.sim, b.sim with
    | .lit c, .lit d => .lit (c == d)
    | .lit true, d => d
    | c, .lit true => c
    | .lit false, d => .not d
    | c, .lit false => .not c
    | c, d => .eq c d
  | .seq (.lit a) (.lit b) => .lit (decide (a = b))
  | e => e
theorem BE.den_sim (ρ : Env) : ∀ e : BE, e.sim.den ρ = e.den ρ
  | .lit _ => rfl
  | .var _ => rfl
  | .cmp op a b => by cases a <;> cases b <;> rfl
  | .not a => by
    have h := BE.den_sim ρ a
    simp only [BE.sim, BE.den, ← h]
    split <;> simp_all [BE.den]
  | .and a b => by
    have h := BE.den_sim ρ a
    have h' := BE.den_sim ρ b
    simp only [BE.sim, BE.den, ← h, ← h']
    split <;> simp_all [BE.den]
  | .or a b => by
    have h := BE.den_sim ρ a
    have h' := BE.den_sim ρ b
    simp only [BE.sim, BE.den, ← h, ← h']
    split <;> simp_all [BE.den]
  | .eq a b => by
    have h := BE.den_sim ρ a
    have h' := BE.den_sim ρ b
    simp only [BE.sim, BE.den, ← h, ← h']
    split <;> simp_all [BE.den]
  | .seq a b => by cases a <;> cases b <;> rfl
theorem BE.wf_sim (c : Ctr) : ∀ e : BE, e.wf c = true → e.sim.wf c = true
  | .lit _, h => h
  | .var _, h => h
  | .cmp op a b, h => by cases a <;> cases b <;> first | rfl | exact h
  | .not a, h => by
    have h' := BE.wf_sim c a h
    simp only [BE.sim]
    split <;> simp_all [BE.wf]
  | .and a b, h => by
    simp only [BE.wf, Bool.and_eq_true] at h
    have h1 := BE.wf_sim c a h.1
    have h2 := BE.wf_sim c b h.2
    simp only [BE.sim]
    split <;> simp_all [BE.wf]
  | .or a b, h => by
    simp only [BE.wf, Bool.and_eq_true] at h
    have h1 := BE.wf_sim c a h.1
    have h2 := BE.wf_sim c b h.2
    simp only [BE.sim]
    split <;> simp_all [BE.wf]
  | .eq a b, h => by
    simp only [BE.wf, Bool.and_eq_true] at h
    have h1 := BE.wf_sim c a h.1
    have h2 := BE.wf_sim c b h.2
    simp only [BE.sim]
    split <;> simp_all [BE.wf]
  | .seq a b, h => by cases a <;> cases b <;> first | rfl | exact h

/-- What an operation on integers computes. -/
inductive IP where
  | bin (op : BinOp) (k : IntKind) (a b : IE)
  | shl (k : IntKind) (a : IE) (n : Nat)
  | shr (a : IE) (n : Nat)
  | conv (k : IntKind) (a : IE)
  | neg (k : IntKind) (a : IE)
  | com (k : IntKind) (a : IE)
  | max (a b : IE)
  | min (a b : IE)
  | sum (a b : IE)
  | diff (a b : IE)
  | slen (s : SE)
  | sidx (s : SE) (i : IE)
  | olen (n : Nat) (vs : List Nat) (sz : Nat)
  deriving DecidableEq
def ibin (op : BinOp) (k : IntKind) (a b : Int) : Int :=
  match op with
  | .add => k.wrap (a + b)
  | .sub => k.wrap (a - b)
  | .mul => k.wrap (a * b)
  | .quo => k.wrap (a.tdiv b)
  | .rem => a.tmod b
  | .shl => k.wrap (a * 2 ^ (Nat.min b.toNat k.bits))
  | .shr => a.fdiv (2 ^ (Nat.min b.toNat k.bits))
  | op => bits op k a b
def IP.den (ρ : Env) : IP → Int
  | .bin op k a b => ibin op k (a.den ρ) (b.den ρ)
  | .shl k a n => k.wrap (a.den ρ * ((2 ^ n : Nat) : Int))
  | .shr a n => a.den ρ / ((2 ^ n : Nat) : Int)
  | .conv k a => k.wrap (a.den ρ)
  | .neg k a => k.wrap (0 - a.den ρ)
  | .com k a => bits .xor k (if k.signed then -1 else k.max) (a.den ρ)
  | .max a b => if b.den ρ > a.den ρ then b.den ρ else a.den ρ
  | .min a b => if b.den ρ < a.den ρ then b.den ρ else a.den ρ
  | .sum a b => a.den ρ + b.den ρ
  | .diff a b => a.den ρ - b.den ρ
  | .slen s => ((s.den ρ).length : Int)
  | .sidx s i => (((s.den ρ).getD (i.den ρ).toNat 0).toNat : Int)
  | .olen n vs sz => (((n + (vs.map fun j => (ρ.l j).length).sum) / sz : Nat) : Int)
def IP.wf (c : Ctr) : IP → Bool
  | .bin _ _ a b | .max a b | .min a b | .sum a b | .diff a b => a.wf c && b.wf c
  | .shl _ a _ | .shr a _ | .conv _ a | .neg _ a | .com _ a => a.wf c
  | .slen s => s.wf c
  | .sidx s i => s.wf c && i.wf c
  | .olen _ vs _ => vs.all fun j => decide (j < c.nl)
def IP.lits : IP → Bool
  | .bin _ _ (.lit _) (.lit _) | .max (.lit _) (.lit _) | .min (.lit _) (.lit _) | .sum (.lit _) (.lit _) | .diff (.lit _) (.lit _) => true
  | .shl _ (.lit _) _ | .shr (.lit _) _ | .conv _ (.lit _) | .neg _ (.lit _) | .com _ (.lit _) => true
  | .slen (.lit _) | .sidx (.lit _) (.lit _) | .olen _ [] _ => true
  | _ => false
theorem IP.den_lits {ρ ρ' : Env} : ∀ {p : IP}, p.lits = true → p.den ρ = p.den ρ' := by
  intro p h
  cases p
  case bin op k a b => cases a <;> cases b <;> first | rfl | (simp [IP.lits] at h)
  case max a b => cases a <;> cases b <;> first | rfl | (simp [IP.lits] at h)
  case min a b => cases a <;> cases b <;> first | rfl | (simp [IP.lits] at h)
  case sum a b => cases a <;> cases b <;> first | rfl | (simp [IP.lits] at h)
  case diff a b => cases a <;> cases b <;> first | rfl | (simp [IP.lits] at h)
  case shl k a n => cases a <;> first | rfl | (simp [IP.lits] at h)
  case shr a n => cases a <;> first | rfl | (simp [IP.lits] at h)
  case slen s => cases s <;> first | rfl | (simp [IP.lits] at h)
  case sidx s i => cases s <;> cases i <;> first | rfl | (simp [IP.lits] at h)
  case olen n vs sz => cases vs <;> first | rfl | (simp [IP.lits] at h)
  all_goals (rename_i a; cases a <;> first | rfl | (simp [IP.lits] at h))
theorem IP.den_like {c : Ctr} {ρ ρ' : Env} (h : Env.like c ρ ρ') {p : IP} (hw : p.wf c = true) : p.den ρ' = p.den ρ := by
  cases p
  case slen s => simp only [IP.den, SE.den_like h hw]
  case sidx s i => simp only [IP.wf, Bool.and_eq_true] at hw; simp only [IP.den, SE.den_like h hw.1, IE.den_like h hw.2]
  case olen n vs sz =>
    simp only [IP.den]
    congr 3
    refine congrArg List.sum (List.map_congr_left fun j hj => ?_)
    rw [h.l j (by simpa using List.all_eq_true.1 hw j hj)]
  all_goals (simp only [IP.wf, Bool.and_eq_true] at hw; first | simp only [IP.den, IE.den_like h hw.1, IE.den_like h hw.2] | simp only [IP.den, IE.den_like h hw])

/-- A value of one cell. -/
inductive At where
  | int (k : IntKind) (e : IE)
  | bool (e : BE)
  | val (i : Nat)
  | str (l : List UInt8)
  | nilp
  | nils
  | nilf
  | nili
  | nilm
  | loc (k off : Nat)
  | lsl (k off len cap : Nat)
  | ext (p : Nat) (ix : IE) (sz c : Nat)
  | xsl (p : Nat) (ix : IE) (sz : Nat) (len cap : IE)
  | fn (f : FuncId) (caps : List (Nat × Nat))
  | sv (i : Nat)
  | qsl (q p sz : Nat) (len cap : IE)
  | own (k : Nat)
  | oloc (k : Nat) (ix : IE) (sz c : Nat)
  | mfn (f : FuncId) (first caps : List (Nat × Nat))
  | yld (k : Nat)
  deriving DecidableEq
def ownV (b code n base : Nat) : Value := if code = 0 then .slice none 0 0 else .slice (some ⟨b, base, none⟩) n (code - 1)
theorem ownV_one (b code n base : Nat) : (ownV b code n base).oneCell' = true := by unfold ownV; split <;> rfl
def ptr (b o : Nat) : Value := .pointer (some ⟨b, o, none⟩)
def At.den (ρ : Env) (β : Nat → Nat) : At → Value
  | .int k e => .int k (e.den ρ)
  | .bool e => .bool (e.den ρ)
  | .val i => (ρ.v i).1
  | .str l => .string ⟨l.toArray⟩
  | .nilp => .pointer none
  | .nils => .slice none 0 0
  | .nilf => .nilFunc
  | .nili => .nilIface
  | .nilm => .map none
  | .loc k off => .pointer (some ⟨β k, off, none⟩)
  | .lsl k off len cap => .slice (some ⟨β k, off, none⟩) len cap
  | .ext p ix sz c => .pointer (some ⟨(ρ.p p).1, (ρ.p p).2 + (ix.den ρ).toNat * sz + c, none⟩)
  | .xsl p ix sz len cap => .slice (some ⟨(ρ.p p).1, (ρ.p p).2 + (ix.den ρ).toNat * sz, none⟩) (len.den ρ).toNat (cap.den ρ).toNat
  | .fn f caps => .func (.func f) #[] (caps.map fun c => .pointer (some ⟨β c.1, c.2, none⟩)).toArray
  | .sv i => .string ⟨(ρ.s i).toArray⟩
  | .qsl q p _ len cap => if ρ.b q = true then .slice none 0 0 else .slice (some ⟨(ρ.p p).1, (ρ.p p).2, none⟩) (len.den ρ).toNat (cap.den ρ).toNat
  | .own k => ownV (β k) (β (k + 1)) (β (k + 2)) (β (k + 3))
  | .oloc k ix sz c => .pointer (some ⟨β k, (ix.den ρ).toNat * sz + c, none⟩)
  | .mfn f first caps => .func (.func f) (first.map fun c => .pointer (some ⟨β c.1, c.2, none⟩)).toArray (caps.map fun c => .pointer (some ⟨β c.1, c.2, none⟩)).toArray
  | .yld k => .func (.yield (β k)) #[] #[]
theorem At.den_one (ρ : Env) (β : Nat → Nat) : ∀ a : At, (a.den ρ β).oneCell' = true
  | .val i => (ρ.v i).2
  | .qsl q p _ len cap => by simp only [At.den]; split <;> rfl
  | .own k => ownV_one _ _ _ _
  | .sv .. | .oloc .. | .mfn .. | .yld .. => rfl
  | .int .. | .bool .. | .str .. | .nilp | .nils | .nilf | .nili | .nilm | .loc .. | .lsl .. | .ext .. | .xsl .. | .fn .. => rfl
def At.wf (c : Ctr) : At → Bool
  | .int _ e => e.wf c
  | .bool e => e.wf c
  | .val i => decide (i < c.nv)
  | .loc k _ | .lsl k _ _ _ => decide (k < c.nk)
  | .ext p ix _ _ => decide (p < c.np) && ix.wf c
  | .xsl p ix _ l m => decide (p < c.np) && ix.wf c && l.wf c && m.wf c
  | .fn _ caps => caps.all fun x => decide (x.1 < c.nk)
  | .sv i => decide (i < c.ns)
  | .qsl q p _ l m => decide (q < c.nb) && decide (p < c.np) && l.wf c && m.wf c
  | .own k => decide (k + 3 < c.nk)
  | .oloc k ix _ _ => decide (k < c.nk) && ix.wf c
  | .mfn _ first caps => (first.all fun x => decide (x.1 < c.nk)) && caps.all fun x => decide (x.1 < c.nk)
  | .yld k => decide (k < c.nk)
  | _ => true
/-- No block of the call's own stands in it. -/
def At.flat : At → Bool
  | .loc .. | .lsl .. | .own .. | .oloc .. | .mfn .. | .yld .. => false
  | .fn _ caps => caps.isEmpty
  | _ => true
theorem At.den_like {c : Ctr} {ρ ρ' : Env} {β β' : Nat → Nat} (h : Env.like c ρ ρ') (hb : ∀ k, k < c.nk → β' k = β k) : ∀ {a : At}, a.wf c = true → a.den ρ' β' = a.den ρ β := by
  intro a hw
  cases a <;> simp only [At.wf, Bool.and_eq_true, decide_eq_true_eq] at hw <;> simp only [At.den]
  case int => rw [IE.den_like h hw]
  case bool => rw [BE.den_like h hw]
  case val i => rw [h.v i hw]
  case loc k o => rw [hb k hw]
  case lsl k o l m => rw [hb k hw]
  case ext p ix s e => rw [h.p p hw.1, IE.den_like h hw.2]
  case xsl p ix s l m => rw [h.p p hw.1.1.1, IE.den_like h hw.1.1.2, IE.den_like h hw.1.2, IE.den_like h hw.2]
  case fn f caps =>
    congr 2
    apply List.map_congr_left
    intro x hx
    rw [hb x.1 (by simpa using List.all_eq_true.1 hw x hx)]
  case sv i => rw [h.s i hw]
  case qsl q p s l m => rw [h.b q hw.1.1.1, h.p p hw.1.1.2, IE.den_like h hw.1.2, IE.den_like h hw.2]
  case own k => rw [hb k (by omega), hb (k + 1) (by omega), hb (k + 2) (by omega), hb (k + 3) (by omega)]
  case oloc k ix s e => rw [hb k hw.1, IE.den_like h hw.2]
  case mfn f first caps =>
    congr 2
    · apply List.map_congr_left
      intro x hx
      rw [hb x.1 (by simpa using List.all_eq_true.1 hw.1 x hx)]
    · apply List.map_congr_left
      intro x hx
      rw [hb x.1 (by simpa using List.all_eq_true.1 hw.2 x hx)]
  case yld k => rw [hb k hw]
theorem At.wf_le {c d : Ctr} (h : c.le d) : ∀ {a : At}, a.wf c = true → a.wf d = true := by
  have hcaps : ∀ {l : List (Nat × Nat)}, (l.all fun x => decide (x.1 < c.nk)) = true → (l.all fun x => decide (x.1 < d.nk)) = true := fun hw =>
    List.all_eq_true.2 fun x hx => decide_eq_true (Nat.lt_of_lt_of_le (of_decide_eq_true (List.all_eq_true.1 hw x hx)) h.k)
  intro a hw
  cases a <;> simp only [At.wf, Bool.and_eq_true, decide_eq_true_eq] at hw ⊢
  case int => exact IE.wf_le h hw
  case bool => exact BE.wf_le h hw
  case val i => exact Nat.lt_of_lt_of_le hw h.v
  case loc => exact Nat.lt_of_lt_of_le hw h.k
  case lsl => exact Nat.lt_of_lt_of_le hw h.k
  case ext => exact ⟨Nat.lt_of_lt_of_le hw.1 h.p, IE.wf_le h hw.2⟩
  case xsl => exact ⟨⟨⟨Nat.lt_of_lt_of_le hw.1.1.1 h.p, IE.wf_le h hw.1.1.2⟩, IE.wf_le h hw.1.2⟩, IE.wf_le h hw.2⟩
  case fn => exact hcaps hw
  case sv => exact Nat.lt_of_lt_of_le hw h.s
  case qsl => exact ⟨⟨⟨Nat.lt_of_lt_of_le hw.1.1.1 h.b, Nat.lt_of_lt_of_le hw.1.1.2 h.p⟩, IE.wf_le h hw.1.2⟩, IE.wf_le h hw.2⟩
  case own => exact Nat.lt_of_lt_of_le hw h.k
  case oloc => exact ⟨Nat.lt_of_lt_of_le hw.1 h.k, IE.wf_le h hw.2⟩
  case mfn => exact ⟨hcaps hw.1, hcaps hw.2⟩
  case yld => exact Nat.lt_of_lt_of_le hw h.k

def At.ofValue : Value → Option At
  | .bool b => some (.bool (.lit b))
  | .int k n => some (.int k (.lit n))
  | .string s => some (.str s.data.toList)
  | .pointer none => some .nilp
  | .slice none 0 0 => some .nils
  | .nilFunc => some .nilf
  | .nilIface => some .nili
  | .map none => some .nilm
  | .func (.func f) first caps => if first.size = 0 ∧ caps.size = 0 then some (.fn f []) else none
  | _ => none
theorem At.ofValue_den {v : Value} {a : At} (h : At.ofValue v = some a) (c : Ctr) (ρ : Env) (β : Nat → Nat) : a.wf c = true ∧ a.den ρ β = v := by
  unfold At.ofValue at h
  split at h <;> first
    | (cases h; exact ⟨rfl, rfl⟩)
    | (split at h
       · rename_i hs
         cases h
         refine ⟨rfl, ?_⟩
         obtain ⟨h1, h2⟩ := hs
         rw [Array.size_eq_zero_iff] at h1 h2
         subst h1 h2
         rfl
       · cases h)
    | cases h

/-- A value: of one cell, or of some. -/
inductive CV where
  | one (a : At)
  | agg (l : List At)
  deriving DecidableEq
def CV.den (ρ : Env) (β : Nat → Nat) : CV → Value
  | .one a => a.den ρ β
  | .agg l => .agg (l.map (At.den ρ β)).toArray
def CV.wf (c : Ctr) : CV → Bool
  | .one a => a.wf c
  | .agg l => l.all (At.wf c)
def CV.cells : CV → List At
  | .one a => [a]
  | .agg l => l
def CV.flat : CV → Bool
  | .one a => a.flat
  | .agg l => l.all At.flat
theorem map_den_like {c : Ctr} {ρ ρ' : Env} {β β' : Nat → Nat} (h : Env.like c ρ ρ') (hb : ∀ k, k < c.nk → β' k = β k) {l : List At} (hw : l.all (At.wf c) = true) :
    l.map (At.den ρ' β') = l.map (At.den ρ β) := List.map_congr_left fun x hx => At.den_like h hb (List.all_eq_true.1 hw x hx)
theorem CV.den_like {c : Ctr} {ρ ρ' : Env} {β β' : Nat → Nat} (h : Env.like c ρ ρ') (hb : ∀ k, k < c.nk → β' k = β k) : ∀ {a : CV}, a.wf c = true → a.den ρ' β' = a.den ρ β
  | .one a, hw => At.den_like h hb hw
  | .agg l, hw => by simp only [CV.den, map_den_like h hb hw]
theorem all_wf_le {c d : Ctr} (h : c.le d) {l : List At} (hw : l.all (At.wf c) = true) : l.all (At.wf d) = true :=
  List.all_eq_true.2 fun x hx => At.wf_le h (List.all_eq_true.1 hw x hx)
theorem CV.wf_le {c d : Ctr} (h : c.le d) : ∀ {a : CV}, a.wf c = true → a.wf d = true
  | .one a, hw => At.wf_le h hw
  | .agg l, hw => all_wf_le h hw

/-- What a slot holds: nothing that is known, a value, or some values. -/
inductive SV where
  | any
  | und
  | cv (c : CV)
  | tup (l : List CV)
  deriving DecidableEq
def SV.den (ρ : Env) (β : Nat → Nat) : SV → Value
  | .any => undef
  | .und => undef
  | .cv c => c.den ρ β
  | .tup l => .tuple (l.map (CV.den ρ β)).toArray
def SV.wf (c : Ctr) : SV → Bool
  | .any => true
  | .und => true
  | .cv x => x.wf c
  | .tup l => l.all (CV.wf c)
theorem SV.den_like {c : Ctr} {ρ ρ' : Env} {β β' : Nat → Nat} (h : Env.like c ρ ρ') (hb : ∀ k, k < c.nk → β' k = β k) : ∀ {a : SV}, a.wf c = true → a.den ρ' β' = a.den ρ β
  | .any, _ => rfl
  | .und, _ => rfl
  | .cv a, hw => CV.den_like h hb hw
  | .tup l, hw => by
    simp only [SV.den]
    rw [List.map_congr_left fun x hx => CV.den_like h hb (List.all_eq_true.1 hw x hx)]
theorem SV.wf_le {c d : Ctr} (h : c.le d) : ∀ {a : SV}, a.wf c = true → a.wf d = true
  | .any, _ => rfl
  | .und, _ => rfl
  | .cv a, hw => CV.wf_le h hw
  | .tup l, hw => List.all_eq_true.2 fun x hx => CV.wf_le h (List.all_eq_true.1 hw x hx)

def atsOf : List Value → Option (List At)
  | [] => some []
  | v :: l => match At.ofValue v, atsOf l with
    | some a, some r => some (a :: r)
    | _, _ => none
theorem atsOf_den : ∀ {l : List Value} {r : List At} (_ : atsOf l = some r) (c : Ctr) (ρ : Env) (β : Nat → Nat), r.all (At.wf c) = true ∧ r.map (At.den ρ β) = l
  | [], r, h, _, _, _ => by simp only [atsOf, Option.some.injEq] at h; subst h; exact ⟨rfl, rfl⟩
  | v :: l, r, h, c, ρ, β => by
    simp only [atsOf] at h
    split at h
    · rename_i a r' ha hr
      simp only [Option.some.injEq] at h
      subst h
      obtain ⟨h1, h2⟩ := At.ofValue_den ha c ρ β
      obtain ⟨h3, h4⟩ := atsOf_den hr c ρ β
      exact ⟨by simp only [List.all_cons, h1, h3, Bool.and_self], by simp only [List.map_cons, h2, h4]⟩
    · cases h
def SV.ofValue : Value → SV
  | .agg cs => match atsOf cs.toList with
    | some l => .cv (.agg l)
    | none => .any
  | v => match At.ofValue v with
    | some a => .cv (.one a)
    | none => .any
theorem SV.ofValue_den (v : Value) (c : Ctr) (ρ : Env) (β : Nat → Nat) : (SV.ofValue v).wf c = true ∧ (SV.ofValue v ≠ .any → (SV.ofValue v).den ρ β = v) := by
  unfold SV.ofValue
  split
  · split
    · rename_i cs l h
      obtain ⟨h1, h2⟩ := atsOf_den h c ρ β
      exact ⟨h1, fun _ => by simp only [SV.den, CV.den, h2, Array.toArray_toList]⟩
    · exact ⟨rfl, fun h => (h rfl).elim⟩
  · split
    · rename_i a h
      obtain ⟨h1, h2⟩ := At.ofValue_den h c ρ β
      exact ⟨h1, fun _ => h2⟩
    · exact ⟨rfl, fun h => (h rfl).elim⟩

/-- What a row of the call's own holds: known values, and values that a variable names. -/
inductive Sg where
  | ats (l : List At)
  | var (i : Nat)
  deriving DecidableEq
abbrev CE := List Sg
def Sg.den (ρ : Env) (β : Nat → Nat) : Sg → List Value
  | .ats l => l.map (At.den ρ β)
  | .var i => (ρ.l i).map (·.1)
def ceDen (ρ : Env) (β : Nat → Nat) : CE → List Value
  | [] => []
  | s :: r => s.den ρ β ++ ceDen ρ β r
def Sg.wf (c : Ctr) : Sg → Bool
  | .ats l => l.all (At.wf c)
  | .var i => decide (i < c.nl)
def ceWf (c : Ctr) (l : CE) : Bool := l.all (Sg.wf c)
/-- How many known values there are, and which variables. -/
def ceNum : CE → Nat
  | [] => 0
  | .ats l :: r => l.length + ceNum r
  | .var _ :: r => ceNum r
def ceVars : CE → List Nat
  | [] => []
  | .ats _ :: r => ceVars r
  | .var i :: r => i :: ceVars r
def ceAts : CE → Option (List At)
  | [] => some []
  | .ats l :: r => (ceAts r).map (l ++ ·)
  | .var _ :: _ => none
/-- One behind the other. -/
def ceApp : CE → CE → CE
  | [], y => y
  | [.ats l], .ats l' :: y => .ats (l ++ l') :: y
  | s :: r, y => s :: ceApp r y
theorem Sg.den_like {c : Ctr} {ρ ρ' : Env} {β β' : Nat → Nat} (h : Env.like c ρ ρ') (hb : ∀ k, k < c.nk → β' k = β k) : ∀ {s : Sg}, s.wf c = true → s.den ρ' β' = s.den ρ β
  | .ats l, hw => map_den_like h hb hw
  | .var i, hw => by simp only [Sg.den]; rw [h.l i (by simpa [Sg.wf] using hw)]
theorem ceDen_like {c : Ctr} {ρ ρ' : Env} {β β' : Nat → Nat} (h : Env.like c ρ ρ') (hb : ∀ k, k < c.nk → β' k = β k) : ∀ {l : CE}, ceWf c l = true → ceDen ρ' β' l = ceDen ρ β l
  | [], _ => rfl
  | s :: r, hw => by
    simp only [ceWf, List.all_cons, Bool.and_eq_true] at hw
    simp only [ceDen, Sg.den_like h hb hw.1, ceDen_like h hb (l := r) hw.2]
theorem Sg.wf_le {c d : Ctr} (h : c.le d) : ∀ {s : Sg}, s.wf c = true → s.wf d = true
  | .ats l, hw => all_wf_le h hw
  | .var i, hw => by simp [Sg.wf] at hw ⊢; exact Nat.lt_of_lt_of_le hw h.l
theorem ceWf_le {c d : Ctr} (h : c.le d) {l : CE} (hw : ceWf c l = true) : ceWf d l = true :=
  List.all_eq_true.2 fun s hs => Sg.wf_le h (List.all_eq_true.1 hw s hs)
theorem ceDen_app (ρ : Env) (β : Nat → Nat) : ∀ (x y : CE), ceDen ρ β (ceApp x y) = ceDen ρ β x ++ ceDen ρ β y
  | [], y => rfl
  | [.ats l], [] => by simp [ceApp, ceDen]
  | [.ats l], .ats l' :: y => by simp [ceApp, ceDen, Sg.den]
  | [.ats l], .var i :: y => by simp [ceApp, ceDen]
  | [.var i], y => by simp [ceApp, ceDen]
  | .ats l :: t :: r, y => by
    have := ceDen_app ρ β (t :: r) y
    simp only [ceApp, ceDen, List.append_assoc] at this ⊢
    rw [this]
  | .var i :: t :: r, y => by
    have := ceDen_app ρ β (t :: r) y
    simp only [ceApp, ceDen, List.append_assoc] at this ⊢
    rw [this]
theorem ceWf_app (c : Ctr) : ∀ (x y : CE), ceWf c x = true → ceWf c y = true → ceWf c (ceApp x y) = true
  | [], y, _, hy => hy
  | [.ats l], [], hx, _ => hx
  | [.ats l], .ats l' :: y, hx, hy => by
    simp only [ceWf, List.all_cons, List.all_nil, Bool.and_true, Bool.and_eq_true, Sg.wf, ceApp, List.all_append] at *
    exact ⟨⟨hx, hy.1⟩, hy.2⟩
  | [.ats l], .var i :: y, hx, hy => by
    simp only [ceWf, List.all_cons, List.all_nil, Bool.and_true, Bool.and_eq_true, ceApp] at *
    exact ⟨hx, hy⟩
  | [.var i], y, hx, hy => by
    simp only [ceWf, List.all_cons, List.all_nil, Bool.and_true, Bool.and_eq_true, ceApp] at *
    exact ⟨hx, hy⟩
  | .ats l :: t :: r, y, hx, hy => by
    have h1 : ceWf c (t :: r) = true := by simp only [ceWf, List.all_cons, Bool.and_eq_true] at hx ⊢; exact hx.2
    have := ceWf_app c (t :: r) y h1 hy
    simp only [ceWf, ceApp, List.all_cons, Bool.and_eq_true] at hx this ⊢
    exact ⟨hx.1, this⟩
  | .var i :: t :: r, y, hx, hy => by
    have h1 : ceWf c (t :: r) = true := by simp only [ceWf, List.all_cons, Bool.and_eq_true] at hx ⊢; exact hx.2
    have := ceWf_app c (t :: r) y h1 hy
    simp only [ceWf, ceApp, List.all_cons, Bool.and_eq_true] at hx this ⊢
    exact ⟨hx.1, this⟩
theorem ceDen_length (ρ : Env) (β : Nat → Nat) : ∀ (x : CE), (ceDen ρ β x).length = ceNum x + ((ceVars x).map fun j => (ρ.l j).length).sum
  | [] => rfl
  | .ats l :: r => by simp only [ceDen, Sg.den, List.length_append, List.length_map, ceNum, ceVars, ceDen_length ρ β r]; omega
  | .var i :: r => by simp only [ceDen, Sg.den, List.length_append, List.length_map, ceNum, ceVars, ceDen_length ρ β r, List.map_cons, List.sum_cons]; omega
theorem ceVars_wf {c : Ctr} : ∀ {x : CE}, ceWf c x = true → ((ceVars x).all fun j => decide (j < c.nl)) = true
  | [], _ => rfl
  | .ats l :: r, h => by simp only [ceWf, List.all_cons, Bool.and_eq_true] at h; exact ceVars_wf (x := r) h.2
  | .var i :: r, h => by
    simp only [ceWf, List.all_cons, Bool.and_eq_true] at h
    simp only [ceVars, List.all_cons, Bool.and_eq_true]
    exact ⟨h.1, ceVars_wf (x := r) h.2⟩
theorem ceAts_den (ρ : Env) (β : Nat → Nat) : ∀ {x : CE} {l : List At}, ceAts x = some l → ceDen ρ β x = l.map (At.den ρ β)
  | [], l, h => by simp only [ceAts, Option.some.injEq] at h; subst h; rfl
  | .ats a :: r, l, h => by
    simp only [ceAts, Option.map_eq_some_iff] at h
    obtain ⟨l', h1, rfl⟩ := h
    simp only [ceDen, Sg.den, ceAts_den ρ β h1, List.map_append]
  | .var _ :: _, l, h => by simp [ceAts] at h
theorem ceDen_one (ρ : Env) (β : Nat → Nat) : ∀ (x : CE), ∀ v ∈ ceDen ρ β x, v.oneCell' = true
  | [], v, h => by cases h
  | .ats l :: r, v, h => by
    simp only [ceDen, Sg.den, List.mem_append, List.mem_map] at h
    rcases h with ⟨a, _, rfl⟩ | h
    · exact At.den_one ρ β a
    · exact ceDen_one ρ β r v h
  | .var i :: r, v, h => by
    simp only [ceDen, Sg.den, List.mem_append, List.mem_map] at h
    rcases h with ⟨a, _, rfl⟩ | h
    · exact a.2
    · exact ceDen_one ρ β r v h
end Vc
