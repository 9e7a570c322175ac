/- Walks: Sign of both, and the law SpanAsks. -/
import Derived.Test.YtdhiapllbjamfaaWc
set_option linter.unusedVariables false
namespace Go.Proofs.Ytdhiapllbjamfaa
open Go.RowKit Ul

theorem sign_any (a b : Int) (w : World) : Calls Try.prog 16 #[S a b] w (Ret (.int .i64 (sign a b)) w) := by
  have K := Kn.start w
  go_enter Try.func16, Try.ntmps16
  go_wp2_with (go_at_call 18; refine via (by repeat (first | exact K | apply Kn.push | apply Kn.drew)) (order_any a b 0 0 _) ?_; clear K; (try clear hO); intro wN K hO; simp only [Opened, World.size_alloc, World.size_drew, World.size_setCell] at hO)
  all_goals go_ret
  all_goals exact Kn.ret' (by repeat (first | exact K | apply Kn.push | apply Kn.drew)) rfl

theorem rsign_any (a b : Int) (w : World) : Calls Try.prog 17 #[S a b] w (Ret (.int .i64 (sign a b)) w) := by
  have K := Kn.start w
  go_enter Try.func17, Try.ntmps17
  go_wp2_with (go_at_call 48; refine via (by repeat (first | exact K | apply Kn.push | apply Kn.drew)) (rcheck_any _ _ _) ?_; clear K; (try clear hO); intro wN K hO; simp only [Opened, World.size_alloc, World.size_drew, World.size_setCell] at hO)
  all_goals go_ret
  all_goals exact Kn.ret' (by repeat (first | exact K | apply Kn.push | apply Kn.drew)) (by simp_all [sign, order, chk, ok] <;> omega)

theorem walk_spanAsks (a0 a1 : Int) (w0 : (Lit.int .i64 a0).wf = true) (w1 : (Lit.int .i64 a1).wf = true) (b0 b1 : Int) (w2 : (Lit.int .i64 b0).wf = true) (w3 : (Lit.int .i64 b1).wf = true) (n : Int) (w4 : (Lit.int .i64 n).wf = true) (w : World) :
    Calls Try.prog 3 #[S a0 a1, S b0 b1, .int .i64 n] w (Ret (.bool true) w) := by
  clear w0 w1 w2 w3 w4
  have K := Kn.start w
  go_enter Try.func3, Try.ntmps3
  go_wp2_with fail
  go_region_held3 (fun w' => w'.cell? ⟨w.heap.size, 0, none⟩ = some (.int .i64 a0) ∧ w'.cell? ⟨w.heap.size, 1, none⟩ = some (.int .i64 a1) ∧ w'.cell? ⟨w.heap.size + 1, 0, none⟩ = some (.int .i64 b0) ∧ w'.cell? ⟨w.heap.size + 1, 1, none⟩ = some (.int .i64 b1)) (simp [go_sem, *]) (first | (go_at_call 12; refine via (by repeat (first | exact K | apply Kn.push | apply Kn.drew)) (in_any _ _ _ _) ?_; clear K; (try clear hO); intro wN K hO; simp only [Opened, World.size_alloc, World.size_drew, World.size_setCell] at hO) | (go_at_call 13; refine via (by repeat (first | exact K | apply Kn.push | apply Kn.drew)) (rin_any _ _ _ _) ?_; clear K; (try clear hO); intro wN K hO; simp only [Opened, World.size_alloc, World.size_drew, World.size_setCell] at hO) | (go_at_call 14; refine via (by repeat (first | exact K | apply Kn.push | apply Kn.drew)) (within_any _ _ _ _ _) ?_; clear K; (try clear hO); intro wN K hO; simp only [Opened, World.size_alloc, World.size_drew, World.size_setCell] at hO) | (go_at_call 15; refine via (by repeat (first | exact K | apply Kn.push | apply Kn.drew)) (rwithin_any _ _ _ _ _) ?_; clear K; (try clear hO); intro wN K hO; simp only [Opened, World.size_alloc, World.size_drew, World.size_setCell] at hO))
  go_wp2_with fail
  go_region_held3 (fun w' => w'.cell? ⟨w.heap.size, 0, none⟩ = some (.int .i64 a0) ∧ w'.cell? ⟨w.heap.size, 1, none⟩ = some (.int .i64 a1) ∧ w'.cell? ⟨w.heap.size + 1, 0, none⟩ = some (.int .i64 b0) ∧ w'.cell? ⟨w.heap.size + 1, 1, none⟩ = some (.int .i64 b1)) (simp [go_sem, *]) (first | (go_at_call 16; refine via (by repeat (first | exact K | apply Kn.push | apply Kn.drew)) (sign_any _ _ _) ?_; clear K; (try clear hO); intro wN K hO; simp only [Opened, World.size_alloc, World.size_drew, World.size_setCell] at hO) | (go_at_call 17; refine via (by repeat (first | exact K | apply Kn.push | apply Kn.drew)) (rsign_any _ _ _) ?_; clear K; (try clear hO); intro wN K hO; simp only [Opened, World.size_alloc, World.size_drew, World.size_setCell] at hO) | (go_at_call 18; refine via (by repeat (first | exact K | apply Kn.push | apply Kn.drew)) (order_any _ _ _ _ _) ?_; clear K; (try clear hO); intro wN K hO; simp only [Opened, World.size_alloc, World.size_drew, World.size_setCell] at hO) | (go_at_call 19; refine via (by repeat (first | exact K | apply Kn.push | apply Kn.drew)) (rorder_any _ _ _ _ _) ?_; clear K; (try clear hO); intro wN K hO; simp only [Opened, World.size_alloc, World.size_drew, World.size_setCell] at hO))
  go_wp2
  go_ret
  exact Kn.ret' (by repeat (first | exact K | apply Kn.push | apply Kn.drew)) rfl
end Go.Proofs.Ytdhiapllbjamfaa
