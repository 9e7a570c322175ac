/- Vc, part D: the walk as a proposition; operations that compute a value are sound. No program in sight. -/
import Derived.Test.YtdhiapllbjamfaaVcC
import Derived.Laws.StructEq
import Derived.Laws.Entries
set_option linter.unusedVariables false
set_option linter.unusedSimpArgs false
namespace Vc
open Go Go.RowKit

/-- A call returns v; whatever was there is as it was. -/
def Ret (v : Value) (W : World) (e : Ending) (w' : World) : Prop := e = .returned v ∧ Below W.heap.size W w'
def b0 : Nat → Nat := fun _ => 0

inductive Vl where
  | i (n : Int)
  | b (b : Bool)
  | v (v : Value)
  | s (l : List UInt8)
  | l (xs : List Value)
def vl (o : OMem) (ρ : Env) : At → Vl
  | .int _ e => .i (e.den ρ)
  | .bool e => .b (e.den ρ)
  | .str l => .s l
  | .sv i => .s (ρ.s i)
  | .own k => match getO o k with
    | some (ce, _, _) => .l (ceDen ρ b0 ce)
    | none => .l []
  | a => .v (a.den ρ b0)

def exA : List At → (Env → Prop) → Env → Prop
  | [], k, ρ => k ρ
  | .int _ (.var n) :: l, k, ρ => ∃ x : Int, exA l k (ρ.setI n x)
  | .bool (.var n) :: l, k, ρ => ∃ x : Bool, exA l k (ρ.setB n x)
  | .val n :: l, k, ρ => ∃ x : OV, exA l k (ρ.setV n x)
  | .sv n :: l, k, ρ => ∃ x : List UInt8, exA l k (ρ.setS n x)
  | .qsl q p _ (.var n) (.var m) :: l, k, ρ => ∃ (x : Bool) (y : Nat × Nat) (a b : Int), exA l k ((((ρ.setB q x).setP p y).setI n a).setI m b)
  | _, _, _ => False
def allA (o : OMem) : List At → (Env → Prop) → Env → Prop
  | [], k, ρ => k ρ
  | .int _ (.var n) :: l, k, ρ => ∀ x : Int, allA o l k (ρ.setI n x)
  | .bool (.var n) :: l, k, ρ => ∀ x : Bool, allA o l k (ρ.setB n x)
  | .val n :: l, k, ρ => ∀ x : OV, allA o l k (ρ.setV n x)
  | .sv n :: l, k, ρ => ∀ x : List UInt8, allA o l k (ρ.setS n x)
  | .qsl q p _ (.var n) (.var m) :: l, k, ρ => ∀ (x : Bool) (y : Nat × Nat) (a b : Int), allA o l k ((((ρ.setB q x).setP p y).setI n a).setI m b)
  | .own j :: l, k, ρ => match getO o j with
    | some ([.var n], _, _) => ∀ x : List OV, allA o l k (ρ.setL n x)
    | _ => False
  | _, _, _ => False
/-- A row of the call's own: its block, code (0: nil, 1: no room, room + 1), length and place, and what it holds. -/
def RowOk (lo b code n base : Nat) (xs : List Value) (sz : Nat) (t : TypeId) (w : World) : Prop :=
  xs.length = n * sz ∧ 0 < sz ∧ ((code ≤ 1 ∧ n = 0) ∨
    (2 ≤ code ∧ base = 0 ∧ lo ≤ b ∧ n ≤ code - 1 ∧ code - 1 ≤ maxLen ∧ ∃ cur, w.heap[b]? = some (.cells cur t (0, 0)) ∧ cur.size = (code - 1) * sz ∧ cur.toList.take (n * sz) = xs))
def OwnH (W : World) (ρ : Env) (β : Nat → Nat) : OMem → World → Prop
  | [], _ => True
  | (k, ce, sz, t) :: r, w => RowOk W.heap.size (β k) (β (k + 1)) (β (k + 2)) (β (k + 3)) (ceDen ρ β ce) sz t w ∧ OwnH W ρ β r w
/-- The blocks hold what is known of them, and are the call's own. -/
def MemH (W : World) (ρ : Env) (β : Nat → Nat) : Mem → OMem → World → Prop
  | [], o, w => OwnH W ρ β o w
  | (k, cs, t) :: r, o, w => (W.heap.size ≤ β k ∧ w.heap[β k]? = some (.cells (cs.map (At.den ρ β)).toArray t)) ∧ MemH W ρ β r o w
/-- A slice of another's, and its cells. -/
def SlAt (W : World) (v : Value) (sz : Nat) (xs : List Value) : Prop :=
  (v = .slice none 0 0 ∧ xs = []) ∨ ∃ b o len cap, v = .slice (some ⟨b, o, none⟩) len cap ∧ xs.length = len * sz ∧ ∀ j u, xs[j]? = some u → W.cell? ⟨b, o + j, none⟩ = some u
def LP.den (ρ : Env) : LP → List Value
  | .set ce ix sz off l => (ceDen ρ b0 ce).take ((ix.den ρ).toNat * sz + off) ++ l.map (At.den ρ b0) ++ (ceDen ρ b0 ce).drop ((ix.den ρ).toNat * sz + off + l.length)
  | .rep n l => times (l.map (At.den ρ b0)) (n.den ρ).toNat
def svFlat : SV → Bool
  | .cv c => c.flat
  | .tup l => l.all CV.flat
  | _ => true

/-- The walk as a proposition. -/
def PA (P : Program) (W : World) (Q : Value → Prop) (QM : World → Value → Prop) : Alg (Env → Prop) where
  fail _ := fun _ => False
  fin v m o := fun ρ => match svFlat v with
    | true => Q (v.den ρ b0)
    | false => ∀ (β : Nat → Nat) (w' : World), Below W.heap.size W w' → MemH W ρ β m o w' → QM w' (v.den ρ β)
  int n p k := fun ρ => ∀ x : Int, x = p.den ρ → k (ρ.setI n x)
  chk e k := fun ρ => e.prop ρ ∧ k ρ
  ite e t f := fun ρ => (e.prop ρ → t ρ) ∧ (¬ e.prop ρ → f ρ)
  call f args m o fr r k := fun ρ => exA fr (fun ρ' => (match args.all svFlat with
    | true => ∀ w' : World, Below W.heap.size W w' → Calls P f (args.map (SV.den ρ b0)).toArray w' (Ret (r.den ρ' b0) w')
    | false => ∀ (β : Nat → Nat) (w' : World), Below W.heap.size W w' → MemH W ρ β m o w' → Calls P f (args.map (SV.den ρ β)).toArray w' (Ret (r.den ρ' b0) w')) ∧ k ρ') ρ
  xcall f args fr r k := fun ρ => exA fr (fun ρ' => (args.all svFlat = true ∧ ∀ w' : World, (callFunc f (args.map (SV.den ρ b0)).toArray).run P w' = .ok (.value (r.den ρ' b0)) w') ∧ k ρ') ρ
  load a p ix sz off k := fun ρ => exA [a] (fun ρ' => W.cell? ⟨(ρ.p p).1, (ρ.p p).2 + (ix.den ρ).toNat * sz + off, none⟩ = some (a.den ρ' b0) ∧ k ρ') ρ
  loop oi i fo fr body := fun ρ => ∃ (Inv : List Vl → Prop) (μ : List Vl → Nat), Inv (i.map (vl oi ρ)) ∧
    allA fo fr (fun ρ' => Inv (fr.map (vl fo ρ')) → body (fun oy ys ρ'' => Inv (ys.map (vl oy ρ'')) ∧ μ (ys.map (vl oy ρ'')) < μ (fr.map (vl fo ρ'))) ρ') ρ
  rd a ce ix sz off k := fun ρ => exA [a] (fun ρ' => (ceDen ρ b0 ce)[(ix.den ρ).toNat * sz + off]? = some (a.den ρ' b0) ∧ k ρ') ρ
  lst n lp k := fun ρ => ∀ L : List OV, L.map (·.1) = lp.den ρ → k (ρ.setL n L)
  ecp n x sz k := fun ρ => ∃ L : List OV, SlAt W (x.den ρ b0) sz (L.map (·.1)) ∧ k (ρ.setL n L)

theorem like_setI (c : Ctr) (ρ : Env) (x : Int) : Env.like c ρ (ρ.setI c.ni x) :=
  ⟨fun j hj => if_neg (Nat.ne_of_lt hj), fun _ _ => rfl, fun _ _ => rfl, fun _ _ => rfl, fun _ _ => rfl, fun _ _ => rfl⟩
theorem like_setB (c : Ctr) (ρ : Env) (x : Bool) : Env.like c ρ (ρ.setB c.nb x) :=
  ⟨fun _ _ => rfl, fun j hj => if_neg (Nat.ne_of_lt hj), fun _ _ => rfl, fun _ _ => rfl, fun _ _ => rfl, fun _ _ => rfl⟩
theorem like_setV (c : Ctr) (ρ : Env) (x : OV) : Env.like c ρ (ρ.setV c.nv x) :=
  ⟨fun _ _ => rfl, fun _ _ => rfl, fun j hj => if_neg (Nat.ne_of_lt hj), fun _ _ => rfl, fun _ _ => rfl, fun _ _ => rfl⟩
theorem like_setS (c : Ctr) (ρ : Env) (x : List UInt8) : Env.like c ρ (ρ.setS c.ns x) :=
  ⟨fun _ _ => rfl, fun _ _ => rfl, fun _ _ => rfl, fun _ _ => rfl, fun j hj => if_neg (Nat.ne_of_lt hj), fun _ _ => rfl⟩
theorem like_setL (c : Ctr) (ρ : Env) (x : List OV) : Env.like c ρ (ρ.setL c.nl x) :=
  ⟨fun _ _ => rfl, fun _ _ => rfl, fun _ _ => rfl, fun _ _ => rfl, fun _ _ => rfl, fun j hj => if_neg (Nat.ne_of_lt hj)⟩
theorem like_setQ (c : Ctr) (ρ : Env) (x : Bool) (y : Nat × Nat) (a b : Int) : Env.like c ρ ((((ρ.setB c.nb x).setP c.np y).setI c.ni a).setI (c.ni + 1) b) :=
  ⟨fun j hj => by
    show (if j = c.ni + 1 then b else if j = c.ni then a else ρ.i j) = ρ.i j
    rw [if_neg (by omega), if_neg (by omega)], fun j hj => if_neg (Nat.ne_of_lt hj), fun _ _ => rfl, fun j hj => if_neg (Nat.ne_of_lt hj), fun _ _ => rfl, fun _ _ => rfl⟩
theorem freshC_le (c : Ctr) (k : CK) : c.le (freshC c k) := by
  cases k <;> constructor <;> simp [freshC]
theorem freshLC_le : ∀ (ks : List CK) (c : Ctr), c.le (freshLC c ks)
  | [], c => Ctr.le_refl c
  | k :: l, c => Ctr.le_trans (freshC_le c k) (freshLC_le l _)
theorem fresh1_wf (c : Ctr) (k : CK) : (fresh1 c k).wf (freshC c k) = true := by
  cases k <;> simp [fresh1, freshC, At.wf, IE.wf, BE.wf]
theorem freshL_wf : ∀ (ks : List CK) (c : Ctr), (freshL c ks).all (At.wf (freshLC c ks)) = true
  | [], c => rfl
  | k :: l, c => by
    simp only [freshL, freshLC, List.all_cons, Bool.and_eq_true]
    exact ⟨At.wf_le (freshLC_le l _) (fresh1_wf c k), freshL_wf l _⟩
theorem freshL_length : ∀ (ks : List CK) (c : Ctr), (freshL c ks).length = ks.length
  | [], _ => rfl
  | k :: l, c => by simp only [freshL, List.length_cons, freshL_length l]
theorem fresh1_flat (c : Ctr) (k : CK) (h : k.plain = true) : (fresh1 c k).flat = true := by cases k <;> first | rfl | cases h
theorem freshL_flat : ∀ (ks : List CK) (c : Ctr), ks.all CK.plain = true → (freshL c ks).all At.flat = true
  | [], c, _ => rfl
  | k :: l, c, h => by
    simp only [List.all_cons, Bool.and_eq_true] at h
    simp only [freshL, List.all_cons, fresh1_flat c k h.1, freshL_flat l _ h.2, Bool.and_self]

theorem exA_fresh : ∀ (ks : List CK) (c : Ctr) {k : Env → Prop} {ρ : Env}, exA (freshL c ks) k ρ → ∃ ρ', Env.like c ρ ρ' ∧ k ρ'
  | [], c, k, ρ, h => ⟨ρ, Env.like_refl _ _, h⟩
  | .int kd :: l, c, k, ρ, h => by
    obtain ⟨x, h⟩ := h
    obtain ⟨ρ', h1, h2⟩ := exA_fresh l _ h
    exact ⟨ρ', Env.like_trans (freshC_le c (.int kd)) (like_setI c ρ x) h1, h2⟩
  | .bool :: l, c, k, ρ, h => by
    obtain ⟨x, h⟩ := h
    obtain ⟨ρ', h1, h2⟩ := exA_fresh l _ h
    exact ⟨ρ', Env.like_trans (freshC_le c .bool) (like_setB c ρ x) h1, h2⟩
  | .oth :: l, c, k, ρ, h => by
    obtain ⟨x, h⟩ := h
    obtain ⟨ρ', h1, h2⟩ := exA_fresh l _ h
    exact ⟨ρ', Env.like_trans (freshC_le c .oth) (like_setV c ρ x) h1, h2⟩
  | .str :: l, c, k, ρ, h => by
    obtain ⟨x, h⟩ := h
    obtain ⟨ρ', h1, h2⟩ := exA_fresh l _ h
    exact ⟨ρ', Env.like_trans (freshC_le c .str) (like_setS c ρ x) h1, h2⟩
  | .sl sz :: l, c, k, ρ, h => by
    obtain ⟨x, y, a, b, h⟩ := h
    obtain ⟨ρ', h1, h2⟩ := exA_fresh l _ h
    exact ⟨ρ', Env.like_trans (freshC_le c (.sl sz)) (like_setQ c ρ x y a b) h1, h2⟩
  | .own sz t :: l, c, k, ρ, h => h.elim

/-- The result of a step that is written in continuations: one way, on which the rest holds. -/
def Res (c : Ctr) (ρ : Env) (K : SV → Ctr → Env → Prop) (V : SV → Env → Prop) : Prop :=
  ∃ sv c' ρ', K sv c' ρ' ∧ c.le c' ∧ Env.like c ρ ρ' ∧ ∀ ρ'', Env.like c' ρ' ρ'' → V sv ρ''
theorem Res.pure {c : Ctr} {ρ : Env} {K : SV → Ctr → Env → Prop} {V : SV → Env → Prop} {sv : SV} (h : K sv c ρ) (hv : ∀ ρ'', Env.like c ρ ρ'' → V sv ρ'') : Res c ρ K V :=
  ⟨sv, c, ρ, h, Ctr.le_refl _, Env.like_refl _ _, hv⟩
theorem Res.mono {c : Ctr} {ρ : Env} {K : SV → Ctr → Env → Prop} {V V' : SV → Env → Prop} (h : Res c ρ K V) (hv : ∀ sv ρ'', Env.like c ρ ρ'' → V sv ρ'' → V' sv ρ'') : Res c ρ K V' := by
  obtain ⟨sv, c', ρ', h1, h2, h3, h4⟩ := h
  exact ⟨sv, c', ρ', h1, h2, h3, fun ρ'' h5 => hv sv ρ'' (Env.like_trans h2 h3 h5) (h4 ρ'' h5)⟩

variable {P : Program} {W : World} {Q : Value → Prop} {QM : World → Value → Prop}

theorem doInt_sound {c : Ctr} {k : IntKind} {p : IP} {K : SV → Ctr → Env → Prop} {ρ : Env} (h : doInt (PA P W Q QM) c k p K ρ) :
    Res c ρ K fun sv ρ'' => ∀ β, sv.den ρ'' β = .int k (p.den ρ'') ∧ sv ≠ .any := by
  unfold doInt at h
  split at h
  · rename_i hl
    exact Res.pure h fun ρ'' _ β => ⟨by simp only [SV.den, CV.den, At.den, IE.den]; rw [IP.den_lits hl], by simp⟩
  · split at h
    · rename_i hw
      have h1 := h (p.den ρ) rfl
      have hle : c.le { c with ni := c.ni + 1 } := freshC_le c (.int k)
      refine ⟨_, _, _, h1, hle, like_setI c ρ _, fun ρ'' hl β => ⟨?_, by simp⟩⟩
      have e1 : ρ''.i c.ni = p.den ρ := by
        rw [hl.i c.ni (Nat.lt_succ_self _)]
        exact if_pos rfl
      simp only [SV.den, CV.den, At.den, IE.den, e1]
      rw [IP.den_like (Env.like_trans hle (like_setI c ρ _) hl) hw]
    · exact h.elim
theorem den_lit (ρ : Env) (n : Int) : (IE.lit n).den ρ = n := rfl
theorem iteB {ρ : Env} {d : BE} {t f : Env → Prop} (h : (d.prop ρ → t ρ) ∧ (¬ d.prop ρ → f ρ)) : (d.den ρ = true ∧ t ρ) ∨ (d.den ρ = false ∧ f ρ) := by
  by_cases hd : d.den ρ = true
  · exact .inl ⟨hd, h.1 ((BE.prop_iff ρ d).2 hd)⟩
  · exact .inr ⟨by simpa using hd, h.2 fun hp => hd ((BE.prop_iff ρ d).1 hp)⟩
theorem doChk_sound {e : BE} {r : Env → Prop} {ρ : Env} (h : doChk (PA P W Q QM) e r ρ) : e.prop ρ ∧ r ρ := by
  unfold doChk at h
  have hs := BE.den_sim ρ e
  generalize e.sim = d at h hs
  have key : d.prop ρ ∧ r ρ → e.prop ρ ∧ r ρ := fun hh => ⟨(BE.prop_iff ρ e).2 (hs ▸ (BE.prop_iff ρ _).1 hh.1), hh.2⟩
  cases d with
  | lit b => cases b with
    | true => exact key ⟨rfl, h⟩
    | false => exact key h
  | _ => exact key h
theorem doFork_sound {e : BE} {t f : Unit → Env → Prop} {ρ : Env} (h : doFork (PA P W Q QM) e t f ρ) : (e.den ρ = true ∧ t () ρ) ∨ (e.den ρ = false ∧ f () ρ) := by
  unfold doFork at h
  rw [← BE.den_sim ρ e]
  generalize e.sim = d at h
  cases d with
  | lit b => cases b with
    | true => exact .inl ⟨rfl, h⟩
    | false => exact .inr ⟨rfl, h⟩
  | not d =>
    rcases iteB h with ⟨h1, h2⟩ | ⟨h1, h2⟩
    · exact .inr ⟨by simp only [BE.den, h1, Bool.not_true], h2⟩
    · exact .inl ⟨by simp only [BE.den, h1, Bool.not_false], h2⟩
  | cmp op a b =>
    cases op
    case neq =>
      rcases iteB (d := .cmp .eql a b) h with ⟨h1, h2⟩ | ⟨h1, h2⟩
      · exact .inr ⟨by simp only [BE.den, cmpB] at h1 ⊢; simp [bne, h1], h2⟩
      · exact .inl ⟨by simp only [BE.den, cmpB] at h1 ⊢; simp [bne, h1], h2⟩
    all_goals exact iteB h
  | _ => exact iteB h
theorem doCases_sound {e : IE} {n : Nat} {K : Nat → Env → Prop} {ρ : Env} (h0 : 0 ≤ e.den ρ) (h1 : e.den ρ < n) :
    ∀ (j : Nat), j ≤ n → ((n - j : Nat) : Int) ≤ e.den ρ → doCases (PA P W Q QM) e n j K ρ → ∃ m : Nat, m < n ∧ e.den ρ = m ∧ K m ρ
  | 0, _, _, h => h.elim
  | 1, hj, hl, h => ⟨n - 1, by omega, by omega, h⟩
  | j + 2, hj, hl, h => by
    rcases doFork_sound h with ⟨hd, h⟩ | ⟨hd, h⟩
    · simp only [BE.den, cmpB, den_lit, beq_iff_eq] at hd
      exact ⟨n - (j + 2), by omega, hd, h⟩
    · simp only [BE.den, cmpB, den_lit, beq_eq_false_iff_ne, ne_eq] at hd
      exact doCases_sound h0 h1 (j + 1) (by omega) (by omega) h

theorem run_ibin (op : BinOp) (t : TypeId) (k : IntKind) (a b : Int) (w : World) (h : isArith op = true) : (binOp op t (.int k a) (.int k b)).run P w = .ok (.int k (ibin op k a b)) w := by
  cases op <;> first | (simp [isArith] at h; done) | (simp [binOp, Op.intArith, Op.intBits, ibin, bits])
theorem run_idiv (op : BinOp) (t : TypeId) (k : IntKind) (a b : Int) (w : World) (h : op = .quo ∨ op = .rem) (hb : b ≠ 0) : (binOp op t (.int k a) (.int k b)).run P w = .ok (.int k (ibin op k a b)) w := by
  rcases h with rfl | rfl <;> simp [binOp, Op.intDiv, ibin, hb]
theorem run_icmp (op : BinOp) (t : TypeId) (k : IntKind) (a b : Int) (w : World) (h : isCmp op = true) : (binOp op t (.int k a) (.int k b)).run P w = .ok (.bool (cmpB op a b)) w := by
  cases op <;> first | (simp [isCmp] at h; done) | (simp [binOp, Op.intCmp, cmpB])
theorem run_ishl (t : TypeId) (k k' : IntKind) (a b : Int) (w : World) (hb : 0 ≤ b) : (binOp .shl t (.int k a) (.int k' b)).run P w = .ok (.int k (ibin .shl k a b)) w := by
  have : ¬ b < 0 := by omega
  simp [binOp, Op.shift, ibin, this]
theorem run_ishr (t : TypeId) (k k' : IntKind) (a b : Int) (w : World) (hb : 0 ≤ b) : (binOp .shr t (.int k a) (.int k' b)).run P w = .ok (.int k (ibin .shr k a b)) w := by
  have : ¬ b < 0 := by omega
  simp [binOp, Op.shift, ibin, this]
theorem shl_lit (k : IntKind) (a n : Int) (h0 : 0 ≤ n) (h1 : n.toNat < k.bits) : ibin .shl k a n = k.wrap (a * ((2 ^ n.toNat : Nat) : Int)) := by
  simp only [ibin]
  rw [show Nat.min n.toNat k.bits = n.toNat from Nat.min_eq_left (by omega)]
  norm_cast
theorem shr_lit (k : IntKind) (a n : Int) (h0 : 0 ≤ n) (h1 : n.toNat < k.bits) : ibin .shr k a n = a / ((2 ^ n.toNat : Nat) : Int) := by
  simp only [ibin]
  rw [show Nat.min n.toNat k.bits = n.toNat from Nat.min_eq_left (by omega)]
  rw [show ((2 : Int) ^ n.toNat) = ((2 ^ n.toNat : Nat) : Int) by norm_cast]
  exact Int.fdiv_eq_ediv_of_nonneg _ (Int.natCast_nonneg _)

theorem eqGuard_int (op : BinOp) (t : TypeId) (x y : Operand) (k k' : IntKind) (a b : Int) (w : World) : (eqGuard op t x y (.int k a) (.int k' b)).run P w = .ok () w := by
  cases op <;> simp [eqGuard]
theorem eqGuard_bool (op : BinOp) (t : TypeId) (x y : Operand) (a b : Bool) (w : World) : (eqGuard op t x y (.bool a) (.bool b)).run P w = .ok () w := by
  cases op <;> simp [eqGuard]

/-- What an operation gives on two values. -/
def BinV (P : Program) (op : BinOp) (t : TypeId) (x y : SV) (sv : SV) (ρ : Env) : Prop :=
  sv ≠ .any ∧ ∀ (β : Nat → Nat) (w : World) (xo yo : Operand), ((do eqGuard op t xo yo (x.den ρ β) (y.den ρ β); binOp op t (x.den ρ β) (y.den ρ β)) : Sem Value).run P w = .ok (sv.den ρ β) w

theorem BinV.ints {op : BinOp} {t : TypeId} {k k' : IntKind} {a b : IE} {sv : SV} {ρ : Env} (h0 : sv ≠ .any)
    (h : ∀ (β : Nat → Nat) (w : World), (binOp op t (.int k (a.den ρ)) (.int k' (b.den ρ))).run P w = .ok (sv.den ρ β) w) : BinV P op t (.cv (.one (.int k a))) (.cv (.one (.int k' b))) sv ρ := by
  refine ⟨h0, fun β w xo yo => ?_⟩
  simp only [SV.den, CV.den, At.den, Sem.run_bind, eqGuard_int, Result.andThen_ok]
  exact h β w
end Vc
