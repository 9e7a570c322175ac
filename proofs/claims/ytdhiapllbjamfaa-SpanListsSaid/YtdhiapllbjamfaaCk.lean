/- Steps of a proof of a printed condition (Vc). -/
import Derived.Test.YtdhiapllbjamfaaVcU
import Derived.Test.YtdhiapllbjamfaaPlain
set_option linter.unusedVariables false
set_option linter.unusedSimpArgs false
namespace Vc
open Go Go.RowKit

theorem iteI {p A B : Prop} (a : p → A) (b : ¬ p → B) : (p → A) ∧ (¬ p → B) := ⟨a, b⟩
theorem intI {e : Int} {k : Int → Prop} (h : k e) : ∀ x, x = e → k x := fun _ hx => hx ▸ h
theorem Ret.as {P : Program} {f : FuncId} {args : Array Value} {W : World} {u v : Value} (h : Calls P f args W (Ret u W)) (e : u = v) : Calls P f args W (Ret v W) := e ▸ h
theorem int1 {k : IntKind} {a a' : Int} (h : a = a') : Value.int k a = .int k a' := by rw [h]
theorem bool1 {a a' : Bool} (h : a = a') : Value.bool a = .bool a' := by rw [h]
/-- A span; a span and an error; a number and an error; two spans and an error. -/
abbrev S (lo hi : Int) : Value := .agg #[.int .i64 lo, .int .i64 hi]
abbrev RV (r : Ul.R) : Value := .tuple #[S r.1 r.2.1, .int .i64 r.2.2]
abbrev NV (r : Int × Int) : Value := .tuple #[.int .i64 r.1, .int .i64 r.2]
abbrev RRV (r s : Ul.R) (e : Int) : Value := .tuple #[S r.1 r.2.1, S s.1 s.2.1, .int .i64 e]
theorem rv {a b e : Int} {r : Ul.R} (h : (a, b, e) = r) : (.tuple #[.agg #[.int .i64 a, .int .i64 b], .int .i64 e] : Value) = RV r := by rw [← h]
theorem nv {a e : Int} {r : Int × Int} (h : (a, e) = r) : (.tuple #[.int .i64 a, .int .i64 e] : Value) = NV r := by rw [← h]

end Vc
