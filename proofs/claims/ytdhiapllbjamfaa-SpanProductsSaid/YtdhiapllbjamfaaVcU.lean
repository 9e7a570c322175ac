/- Vc, part U: what a seat's texts use. No program in sight. -/
import Derived.Test.YtdhiapllbjamfaaVcT
set_option linter.unusedVariables false
set_option linter.unusedSimpArgs false
namespace Vc
open Go Go.RowKit

def envOf (is : List Int) (bs : List Bool) (vs : List OV) (ps : List (Nat × Nat)) (ss : List (List UInt8) := []) (ls : List (List OV) := []) : Env :=
  ⟨fun j => is.getD j 0, fun j => bs.getD j false, fun j => vs.getD j ⟨.nilFunc, rfl⟩, fun j => ps.getD j (0, 0), fun j => ss.getD j [], fun j => ls.getD j []⟩

def okCalls (P : Program) (l : List FuncId) : Bool :=
  l.all fun f => match P.funcs[f]? with
    | some fn => (fn.name != "runtime.NumGoroutine") && fn.body.isSome
    | none => false
theorem callable {P : Program} {l : List FuncId} (h : okCalls P l = true) {f : FuncId} (hf : l.contains f = true) (args : Array Value) (w : World) : (callFunc f args).run P w = .ok (.enter f args) w := by
  have := List.all_eq_true.1 h f (List.contains_iff_mem.1 hf)
  cases hp : P.funcs[f]? with
  | none => simp [hp] at this
  | some fn =>
    simp only [hp, Bool.and_eq_true, bne_iff_ne, ne_eq] at this
    obtain ⟨h1, h2⟩ := this
    have h3 : fn.body.isNone = false := by cases hb : fn.body <;> simp_all
    have h4 : fn.body ≠ none := by intro he; rw [he] at h2; cases h2
    simp [callFunc, hp, h1, h4]

/-- What a seat's texts share. -/
structure Base (P : Program) (calls ext inl : List FuncId) : Prop where
  calls : okCalls P calls = true
  inl : okCalls P inl = true
  mix : P.follows .mixedOrders = true
theorem Base.ok {P : Program} {calls ext inl : List FuncId} (h : Base P calls ext inl) (loops : List (Nat × LH)) : (⟨P, calls, ext, inl, loops⟩ : Cfg).Ok :=
  ⟨fun f hf args w => callable h.calls hf args w, fun f hf args w => callable h.inl hf args w⟩

theorem Ret.mono {P : Program} {f : FuncId} {args : Array Value} {w : World} {v v' : Value} (h : Calls P f args w (Ret v w)) (e : v = v') : Calls P f args w (Ret v' w) := e ▸ h

/-- A FUNCTION THAT COMPUTES A VALUE, by what its walk says. -/
theorem pure_of {P : Program} {calls ext inl : List FuncId} (B : Base P calls ext inl) (loops : List (Nat × LH)) (n : Nat) {f : FuncId} {fn : Func} {b : Code} (hf : P.funcs[f]? = some fn) (hb : fn.body = some b)
    (args : List SV) (c : Ctr) (ρ : Env) {vals : Array Value} (ha : (args.map (SV.den ρ b0)).toArray = vals) (hw : args.all (SV.wf c) = true) {w : World} {v : Value} {p : Prop}
    (he : execF (PA P w (fun u => u = v) (fun _ _ => False)) ⟨P, calls, ext, inl, loops⟩ n fn b args c ρ = p) (h : p) : Calls P f vals w (Ret v w) := by
  subst ha
  refine (calls_of_exec (G := ⟨P, calls, ext, inl, loops⟩) (B.ok loops) B.mix hf hb n hw (Eq.mpr he h)).mono fun e w' he => ?_
  obtain ⟨u, h1, h2, h3⟩ := he
  rcases h3 with rfl | h3
  · exact ⟨h1, h2⟩
  · exact h3.elim
/-- The same for any postcondition on the value. -/
theorem post_of {P : Program} {calls ext inl : List FuncId} (B : Base P calls ext inl) (loops : List (Nat × LH)) (n : Nat) {f : FuncId} {fn : Func} {b : Code} (hf : P.funcs[f]? = some fn) (hb : fn.body = some b)
    (args : List SV) (c : Ctr) (ρ : Env) {vals : Array Value} (ha : (args.map (SV.den ρ b0)).toArray = vals) (hw : args.all (SV.wf c) = true) {w : World} {Q : Value → Prop} {QM : World → Value → Prop} {p : Prop}
    (he : execF (PA P w Q QM) ⟨P, calls, ext, inl, loops⟩ n fn b args c ρ = p) (h : p) : Calls P f vals w fun e w' => ∃ v, e = .returned v ∧ Below w.heap.size w w' ∧ (Q v ∨ QM w' v) := by
  subst ha
  exact calls_of_exec (G := ⟨P, calls, ext, inl, loops⟩) (B.ok loops) B.mix hf hb n hw (Eq.mpr he h)
/-- A contract that says a value, out of one that says more of it. -/
theorem ret_of_post {P : Program} {f : FuncId} {vals : Array Value} {w : World} {Q : Value → Prop} {v : Value} (h : Calls P f vals w fun e w' => ∃ u, e = .returned u ∧ Below w.heap.size w w' ∧ (Q u ∨ False)) (hq : ∀ u, Q u → u = v) : Calls P f vals w (Ret v w) :=
  h.mono fun e w' ⟨u, h1, h2, h3⟩ => by
    rcases h3 with h3 | h3
    · exact ⟨by rw [h1, hq u h3], h2⟩
    · exact h3.elim

theorem i64_eq (x : Int) : IntKind.i64.wrap x = (x + 9223372036854775808) % 18446744073709551616 - 9223372036854775808 := by
  unfold IntKind.wrap
  simp only [IntKind.bits, IntKind.signed]
  simp
  split <;> omega
theorem u64_eq (x : Int) : IntKind.u64.wrap x = x % 18446744073709551616 := by
  simp [IntKind.wrap, IntKind.bits, IntKind.signed]
theorem i64_id {x : Int} (h : -9223372036854775808 ≤ x ∧ x ≤ 9223372036854775807) : IntKind.i64.wrap x = x := by rw [i64_eq]; omega
theorem u64_id {x : Int} (h : 0 ≤ x ∧ x ≤ 18446744073709551615) : IntKind.u64.wrap x = x := by rw [u64_eq]; omega
end Vc
