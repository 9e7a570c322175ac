/- SpanTexts walked. -/
import Derived.Test.YtcoakpdafpclpaaDoorTh
import Derived.Test.YtcoakpdafpclpaaDoorTtL
import Derived.Lib.LaidTab
import Derived.Lib.LaidU8
set_option linter.unusedVariables false
set_option linter.unusedSimpArgs false
namespace Go.Proofs.YtcoakpdafpclpaaDoor
open Go Go.RowKit Go.Sort Go.Proofs Ul Vc
attribute [local irreducible] Go.Calls
theorem same_refl (r : Ul.R) (w : World) : Calls Tryd.prog 9 #[.agg #[.int .i64 r.1, .int .i64 r.2.1], .int .i64 r.2.2, .agg #[.int .i64 r.1, .int .i64 r.2.1], .int .i64 r.2.2] w (Vc.Ret (.bool true) w) := by
  refine vc_ullagelaw01_same _ _ _ _ _ _ w _ ?_
  exact ⟨fun _ => by rw [beq_self_eq_true], fun h => (h ⟨rfl, rfl⟩).elim⟩
theorem wfI64t {n : Int} (h : (Lit.int .i64 n).wf = true) : I64 n := by simp [Lit.wf, IntKind.min, IntKind.max, IntKind.signed, IntKind.bits] at h; exact ⟨by omega, by omega⟩
theorem walk_texts {w : World} (n : Int) (hn : I64 n) (s : List UInt8) (htab : TabB w.heap.size w) : Calls Tryd.prog 3 #[.int .i64 n, .string ⟨s.toArray⟩] w (Vc.Ret (.bool true) w) := by
  refine vc_ullagelaw01_SpanTexts n s w _ ?_
  rintro _ rfl
  refine ⟨fun _ => rfl, fun h => ?_⟩
  refine ⟨_, _, _, fun w' _ => read_c s (by omega) w', _, _, _, fun w' _ => rread_c s (by omega) w', _, fun w' hb => text_any n hn w' (fun w2 hb2 => htab w2 (hb.trans (hb2.mono hb.size))), _, fun w' _ => rtext_c n hn w', fun _ => ?_, fun h => (h rfl).elim⟩
  exact ⟨_, fun w' _ => same_refl _ w', rfl⟩
theorem walk_spanTexts {w : World} (n : Int) (hn : (Lit.int .i64 n).wf = true) (s : ByteArray) (htab : TabB w.heap.size w) : Calls Tryd.prog 3 #[.int .i64 n, .string s] w (Vc.Ret (.bool true) w) :=
  walk_texts n (wfI64t hn) s.data.toList htab
end Go.Proofs.YtcoakpdafpclpaaDoor
