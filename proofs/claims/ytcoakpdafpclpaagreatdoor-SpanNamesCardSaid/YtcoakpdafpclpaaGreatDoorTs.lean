/- The program's Read, walked: what comes behind the digits (written by program). -/
import Derived.Test.YtcoakpdafpclpaaGreatDoorTq
set_option linter.unusedVariables false
set_option linter.unusedSimpArgs false
namespace Go.Proofs.YtcoakpdafpclpaaGreatDoor
open Go Go.RowKit Go.Sort Go.Proofs Ul Vc
attribute [local irreducible] Go.Calls
def endT (below : Bool) (n : Nat) (l : List Nat) : Int × Int × Int :=
  if 2147483647 < n then (0, 0, 4)
  else if below = true then fit (-((upN (dnum 32 n l) (dlist 32 l) : Nat) : Int)) (-((dnum 32 n l : Nat) : Int))
  else fit ((dnum 32 n l : Nat) : Int) ((upN (dnum 32 n l) (dlist 32 l) : Nat) : Int)
theorem readT_bad {b : Bool} {t : List UInt8} (h : formOk t = false) : readT b t = (0, 0, 5) := if_pos h
theorem readT_none {t : List UInt8} (h : someT t = false) : readT true t = (0, 0, 5) := by
  unfold readT
  by_cases hf : formOk t = false
  · rw [if_pos hf]
  · rw [if_neg hf, if_pos ⟨rfl, h⟩]
theorem readT_end {b : Bool} {t : List UInt8} (h : formOk t = true) (h2 : b = true → someT t = true) : readT b t = endT b (wholeN (digs (cutH t))) (digs (cutT t)) := by
  unfold readT endT
  rw [if_neg (by rw [h]; decide), if_neg (fun h3 => by have := h2 h3.1; rw [h3.2] at this; cases this)]
theorem dnum_succ (i n : Nat) (l : List Nat) : 2 * dnum i n l + dcar i l = dnum (i + 1) n l := rfl
theorem or1 (n c : Nat) (hn : 2 * n + 1 < 18446744073709551616) (hc : c ≤ 1) : bits .or .u64 (IntKind.u64.wrap ((n : Int) * 2)) (c : Int) = ((2 * n + c : Nat) : Int) := by
  rw [u64_id (by omega)]
  have h1 : ((n : Int) * 2) = ((n * 2 : Nat) : Int) := by omega
  rw [h1]
  have h2 : (n * 2) ||| c = 2 * n + c := by
    rcases (by omega : c = 0 ∨ c = 1) with rfl | rfl
    · simp; omega
    · have := Nat.two_pow_add_eq_or_of_lt (i := 1) (b := 1) (by decide) n
      rw [show 2 ^ 1 * n = n * 2 by omega] at this
      omega
  rw [← h2]
  exact bits_or_u64_nat (n * 2) c (by omega) (by omega)
theorem or_step {p : Int → Prop} (n c m : Nat) (hm : 2 * n + c = m) (hn : 2 * n + 1 < 18446744073709551616) (hc : c ≤ 1) (h : p (m : Int)) : ∀ x : Int, x = IntKind.u64.wrap ((n : Int) * 2) → ∀ y : Int, y = bits .or .u64 x (c : Int) → p y := by
  rintro _ rfl _ rfl
  rw [or1 n c hn hc, hm]
  exact h
theorem dstep (l : List Nat) (i j : Nat) (hj : dlist j l = (dbl (dlist i l)).1) (hd : D10 l) (hl : l.length ≤ 1000) (xs : List Value) (hxs : xs = bv (dlist i l)) {lo : Nat} (b1 b2 b3 b4 : Nat) (w : World) (h : RowOk lo b1 b2 b3 b4 xs 1 5 w) :
    Calls Tryz.prog 26 #[Vc.ownV b1 b2 b3 b4] w (Vc.EffRow (.int .u64 ((dcar i l : Nat) : Int)) b1 b2 b3 b4 ((ovl (dlist j l)).map (·.1)) 1 5 w) := by
  subst hxs
  rw [ovl_map, hj]
  exact doubled_c (dlist i l) (dlist_bd hd i) (by rw [dlist_len]; exact hl) b1 b2 b3 b4 w h
theorem zero_step (n : Nat) (l : List Nat) : 2 * n + dcar 0 l = dnum 1 n l := rfl
theorem dlist_succ (i : Nat) (l : List Nat) : dlist (i + 1) l = (dbl (dlist i l)).1 := rfl
theorem vb_small (n : Bool) (m : Nat) (h : m < 18446744073709551616) : VB n (m : Int) = .agg #[.bool n, .int .u64 0, .int .u64 (m : Int)] := by
  have h1 : hiW (m : Int) = 0 := by unfold hiW; omega
  have h2 : loW (m : Int) = (m : Int) := by unfold loW; omega
  show Value.agg #[.bool n, .int .u64 (hiW (m : Int)), .int .u64 (loW (m : Int))] = _
  rw [h1, h2]
theorem fit_neg (m1 m2 : Nat) (h1 : m1 < 18446744073709551616) (h2 : m2 < 18446744073709551616) (w : World) : Calls Tryz.prog 22 #[.agg #[.bool true, .int .u64 0, .int .u64 (m1 : Int)], .agg #[.bool true, .int .u64 0, .int .u64 (m2 : Int)]] w (Vc.Ret (Vc.RV (fit (-(m1 : Int)) (-(m2 : Int)))) w) := by
  rw [← vb_small true m1 h1, ← vb_small true m2 h2]
  exact fit_any true true m1 m2 w (by omega) (by omega)
theorem fit_pos (m1 m2 : Nat) (h1 : m1 < 18446744073709551616) (h2 : m2 < 18446744073709551616) (w : World) : Calls Tryz.prog 22 #[.agg #[.bool false, .int .u64 0, .int .u64 (m1 : Int)], .agg #[.bool false, .int .u64 0, .int .u64 (m2 : Int)]] w (Vc.Ret (Vc.RV (fit (m1 : Int) (m2 : Int))) w) := by
  rw [← vb_small false m1 h1, ← vb_small false m2 h2]
  exact fit_any false false m1 m2 w (by omega) (by omega)
theorem plus1_c (m : Nat) (h : m + 1 < 18446744073709551616) (w : World) : Calls Tryz.prog 27 #[.agg #[.bool false, .int .u64 0, .int .u64 (m : Int)], .agg #[.bool false, .int .u64 0, .int .u64 1]] w (Vc.Ret (.agg #[.bool false, .int .u64 0, .int .u64 ((m + 1 : Nat) : Int)]) w) := by
  have e := plus_any false false (m : Int) ((1 : Nat) : Int) w ⟨by omega, by omega⟩ ⟨by omega, by omega⟩ (by omega)
  rw [vb_small false m (by omega), vb_small false 1 (by omega)] at e
  refine Vc.Ret.as e ?_
  rw [← vb_small false (m + 1) h]
  show VB _ _ = VB _ _
  congr 1
theorem fin_fit {a b : Int} {v : Value} {P : Program} {f : FuncId} {args : World → Array Value} {W : World} (h : ∀ w' : World, Below W.heap.size W w' → Calls P f (args w') w' (Vc.Ret (Vc.RV (fit a b)) w')) (hv : Vc.RV (fit a b) = v) :
    ∃ x y z : Int, (∀ w' : World, Below W.heap.size W w' → Calls P f (args w') w' (Vc.Ret (.tuple #[.agg #[.int .i64 x, .int .i64 y], .int .i64 z]) w')) ∧ (.tuple #[.agg #[.int .i64 x, .int .i64 y], .int .i64 z] : Value) = v := ⟨_, _, _, h, hv⟩
attribute [local irreducible] dnum dlist dcar fit someN
set_option maxHeartbeats 2000000 in
theorem tail_pt (n : Nat) (l : List Nat) (hd : D10 l) (hl : l.length ≤ 1000) (L1 : List OV) (hL1 : L1.map (·.1) = bv l) (b0 : Bool) (w : World) (v : Value) (hv : Vc.RV (endT b0 n l) = v) (hl0 : dlist 0 l = l) : Vj_span_Read_T4 (n : Int) v w L1 b0 := by
  refine ⟨fun h0 => ?_, fun h0 => ?_⟩
  · rw [← hv, show endT b0 n l = (0, 0, 4) from if_pos (by omega)]
  have hN : n ≤ 2147483647 := by omega
  refine ⟨ovl (dlist 1 l), ((dcar 0 l : Nat) : Int), fun β w' _ hm => dstep l 0 1 (dlist_succ 0 l) hd hl _ (by rw [List.append_nil, hL1, hl0]) _ _ _ _ w' hm.1, ?_⟩
  refine ⟨ovl (dlist 2 l), ((dcar 1 l : Nat) : Int), fun β w' _ hm => dstep l 1 2 (dlist_succ 1 l) hd hl _ (by rw [List.append_nil, ovl_map]) _ _ _ _ w' hm.1, ?_⟩
  refine ⟨ovl (dlist 3 l), ((dcar 2 l : Nat) : Int), fun β w' _ hm => dstep l 2 3 (dlist_succ 2 l) hd hl _ (by rw [List.append_nil, ovl_map]) _ _ _ _ w' hm.1, ?_⟩
  refine ⟨ovl (dlist 4 l), ((dcar 3 l : Nat) : Int), fun β w' _ hm => dstep l 3 4 (dlist_succ 3 l) hd hl _ (by rw [List.append_nil, ovl_map]) _ _ _ _ w' hm.1, ?_⟩
  refine ⟨ovl (dlist 5 l), ((dcar 4 l : Nat) : Int), fun β w' _ hm => dstep l 4 5 (dlist_succ 4 l) hd hl _ (by rw [List.append_nil, ovl_map]) _ _ _ _ w' hm.1, ?_⟩
  refine ⟨ovl (dlist 6 l), ((dcar 5 l : Nat) : Int), fun β w' _ hm => dstep l 5 6 (dlist_succ 5 l) hd hl _ (by rw [List.append_nil, ovl_map]) _ _ _ _ w' hm.1, ?_⟩
  refine ⟨ovl (dlist 7 l), ((dcar 6 l : Nat) : Int), fun β w' _ hm => dstep l 6 7 (dlist_succ 6 l) hd hl _ (by rw [List.append_nil, ovl_map]) _ _ _ _ w' hm.1, ?_⟩
  refine ⟨ovl (dlist 8 l), ((dcar 7 l : Nat) : Int), fun β w' _ hm => dstep l 7 8 (dlist_succ 7 l) hd hl _ (by rw [List.append_nil, ovl_map]) _ _ _ _ w' hm.1, ?_⟩
  refine ⟨ovl (dlist 9 l), ((dcar 8 l : Nat) : Int), fun β w' _ hm => dstep l 8 9 (dlist_succ 8 l) hd hl _ (by rw [List.append_nil, ovl_map]) _ _ _ _ w' hm.1, ?_⟩
  refine ⟨ovl (dlist 10 l), ((dcar 9 l : Nat) : Int), fun β w' _ hm => dstep l 9 10 (dlist_succ 9 l) hd hl _ (by rw [List.append_nil, ovl_map]) _ _ _ _ w' hm.1, ?_⟩
  refine ⟨ovl (dlist 11 l), ((dcar 10 l : Nat) : Int), fun β w' _ hm => dstep l 10 11 (dlist_succ 10 l) hd hl _ (by rw [List.append_nil, ovl_map]) _ _ _ _ w' hm.1, ?_⟩
  refine ⟨ovl (dlist 12 l), ((dcar 11 l : Nat) : Int), fun β w' _ hm => dstep l 11 12 (dlist_succ 11 l) hd hl _ (by rw [List.append_nil, ovl_map]) _ _ _ _ w' hm.1, ?_⟩
  refine ⟨ovl (dlist 13 l), ((dcar 12 l : Nat) : Int), fun β w' _ hm => dstep l 12 13 (dlist_succ 12 l) hd hl _ (by rw [List.append_nil, ovl_map]) _ _ _ _ w' hm.1, ?_⟩
  refine ⟨ovl (dlist 14 l), ((dcar 13 l : Nat) : Int), fun β w' _ hm => dstep l 13 14 (dlist_succ 13 l) hd hl _ (by rw [List.append_nil, ovl_map]) _ _ _ _ w' hm.1, ?_⟩
  refine ⟨ovl (dlist 15 l), ((dcar 14 l : Nat) : Int), fun β w' _ hm => dstep l 14 15 (dlist_succ 14 l) hd hl _ (by rw [List.append_nil, ovl_map]) _ _ _ _ w' hm.1, ?_⟩
  refine ⟨ovl (dlist 16 l), ((dcar 15 l : Nat) : Int), fun β w' _ hm => dstep l 15 16 (dlist_succ 15 l) hd hl _ (by rw [List.append_nil, ovl_map]) _ _ _ _ w' hm.1, ?_⟩
  refine ⟨ovl (dlist 17 l), ((dcar 16 l : Nat) : Int), fun β w' _ hm => dstep l 16 17 (dlist_succ 16 l) hd hl _ (by rw [List.append_nil, ovl_map]) _ _ _ _ w' hm.1, ?_⟩
  refine ⟨ovl (dlist 18 l), ((dcar 17 l : Nat) : Int), fun β w' _ hm => dstep l 17 18 (dlist_succ 17 l) hd hl _ (by rw [List.append_nil, ovl_map]) _ _ _ _ w' hm.1, ?_⟩
  refine ⟨ovl (dlist 19 l), ((dcar 18 l : Nat) : Int), fun β w' _ hm => dstep l 18 19 (dlist_succ 18 l) hd hl _ (by rw [List.append_nil, ovl_map]) _ _ _ _ w' hm.1, ?_⟩
  refine ⟨ovl (dlist 20 l), ((dcar 19 l : Nat) : Int), fun β w' _ hm => dstep l 19 20 (dlist_succ 19 l) hd hl _ (by rw [List.append_nil, ovl_map]) _ _ _ _ w' hm.1, ?_⟩
  refine ⟨ovl (dlist 21 l), ((dcar 20 l : Nat) : Int), fun β w' _ hm => dstep l 20 21 (dlist_succ 20 l) hd hl _ (by rw [List.append_nil, ovl_map]) _ _ _ _ w' hm.1, ?_⟩
  refine ⟨ovl (dlist 22 l), ((dcar 21 l : Nat) : Int), fun β w' _ hm => dstep l 21 22 (dlist_succ 21 l) hd hl _ (by rw [List.append_nil, ovl_map]) _ _ _ _ w' hm.1, ?_⟩
  refine ⟨ovl (dlist 23 l), ((dcar 22 l : Nat) : Int), fun β w' _ hm => dstep l 22 23 (dlist_succ 22 l) hd hl _ (by rw [List.append_nil, ovl_map]) _ _ _ _ w' hm.1, ?_⟩
  refine ⟨ovl (dlist 24 l), ((dcar 23 l : Nat) : Int), fun β w' _ hm => dstep l 23 24 (dlist_succ 23 l) hd hl _ (by rw [List.append_nil, ovl_map]) _ _ _ _ w' hm.1, ?_⟩
  refine ⟨ovl (dlist 25 l), ((dcar 24 l : Nat) : Int), fun β w' _ hm => dstep l 24 25 (dlist_succ 24 l) hd hl _ (by rw [List.append_nil, ovl_map]) _ _ _ _ w' hm.1, ?_⟩
  refine ⟨ovl (dlist 26 l), ((dcar 25 l : Nat) : Int), fun β w' _ hm => dstep l 25 26 (dlist_succ 25 l) hd hl _ (by rw [List.append_nil, ovl_map]) _ _ _ _ w' hm.1, ?_⟩
  refine ⟨ovl (dlist 27 l), ((dcar 26 l : Nat) : Int), fun β w' _ hm => dstep l 26 27 (dlist_succ 26 l) hd hl _ (by rw [List.append_nil, ovl_map]) _ _ _ _ w' hm.1, ?_⟩
  refine ⟨ovl (dlist 28 l), ((dcar 27 l : Nat) : Int), fun β w' _ hm => dstep l 27 28 (dlist_succ 27 l) hd hl _ (by rw [List.append_nil, ovl_map]) _ _ _ _ w' hm.1, ?_⟩
  refine ⟨ovl (dlist 29 l), ((dcar 28 l : Nat) : Int), fun β w' _ hm => dstep l 28 29 (dlist_succ 28 l) hd hl _ (by rw [List.append_nil, ovl_map]) _ _ _ _ w' hm.1, ?_⟩
  refine ⟨ovl (dlist 30 l), ((dcar 29 l : Nat) : Int), fun β w' _ hm => dstep l 29 30 (dlist_succ 29 l) hd hl _ (by rw [List.append_nil, ovl_map]) _ _ _ _ w' hm.1, ?_⟩
  refine ⟨ovl (dlist 31 l), ((dcar 30 l : Nat) : Int), fun β w' _ hm => dstep l 30 31 (dlist_succ 30 l) hd hl _ (by rw [List.append_nil, ovl_map]) _ _ _ _ w' hm.1, ?_⟩
  refine ⟨ovl (dlist 32 l), ((dcar 31 l : Nat) : Int), fun β w' _ hm => dstep l 31 32 (dlist_succ 31 l) hd hl _ (by rw [List.append_nil, ovl_map]) _ _ _ _ w' hm.1, ?_⟩
  refine or_step n (dcar 0 l) (dnum 1 n l) (zero_step n l) (by omega) (dcar_bd hd 0) ?_
  refine or_step (dnum 1 n l) (dcar 1 l) (dnum 2 n l) (dnum_succ 1 n l) (by have := dnum_bd hd n 1; omega) (dcar_bd hd 1) ?_
  refine or_step (dnum 2 n l) (dcar 2 l) (dnum 3 n l) (dnum_succ 2 n l) (by have := dnum_bd hd n 2; omega) (dcar_bd hd 2) ?_
  refine or_step (dnum 3 n l) (dcar 3 l) (dnum 4 n l) (dnum_succ 3 n l) (by have := dnum_bd hd n 3; omega) (dcar_bd hd 3) ?_
  refine or_step (dnum 4 n l) (dcar 4 l) (dnum 5 n l) (dnum_succ 4 n l) (by have := dnum_bd hd n 4; omega) (dcar_bd hd 4) ?_
  refine or_step (dnum 5 n l) (dcar 5 l) (dnum 6 n l) (dnum_succ 5 n l) (by have := dnum_bd hd n 5; omega) (dcar_bd hd 5) ?_
  refine or_step (dnum 6 n l) (dcar 6 l) (dnum 7 n l) (dnum_succ 6 n l) (by have := dnum_bd hd n 6; omega) (dcar_bd hd 6) ?_
  refine or_step (dnum 7 n l) (dcar 7 l) (dnum 8 n l) (dnum_succ 7 n l) (by have := dnum_bd hd n 7; omega) (dcar_bd hd 7) ?_
  refine or_step (dnum 8 n l) (dcar 8 l) (dnum 9 n l) (dnum_succ 8 n l) (by have := dnum_bd hd n 8; omega) (dcar_bd hd 8) ?_
  refine or_step (dnum 9 n l) (dcar 9 l) (dnum 10 n l) (dnum_succ 9 n l) (by have := dnum_bd hd n 9; omega) (dcar_bd hd 9) ?_
  refine or_step (dnum 10 n l) (dcar 10 l) (dnum 11 n l) (dnum_succ 10 n l) (by have := dnum_bd hd n 10; omega) (dcar_bd hd 10) ?_
  refine or_step (dnum 11 n l) (dcar 11 l) (dnum 12 n l) (dnum_succ 11 n l) (by have := dnum_bd hd n 11; omega) (dcar_bd hd 11) ?_
  refine or_step (dnum 12 n l) (dcar 12 l) (dnum 13 n l) (dnum_succ 12 n l) (by have := dnum_bd hd n 12; omega) (dcar_bd hd 12) ?_
  refine or_step (dnum 13 n l) (dcar 13 l) (dnum 14 n l) (dnum_succ 13 n l) (by have := dnum_bd hd n 13; omega) (dcar_bd hd 13) ?_
  refine or_step (dnum 14 n l) (dcar 14 l) (dnum 15 n l) (dnum_succ 14 n l) (by have := dnum_bd hd n 14; omega) (dcar_bd hd 14) ?_
  refine or_step (dnum 15 n l) (dcar 15 l) (dnum 16 n l) (dnum_succ 15 n l) (by have := dnum_bd hd n 15; omega) (dcar_bd hd 15) ?_
  refine or_step (dnum 16 n l) (dcar 16 l) (dnum 17 n l) (dnum_succ 16 n l) (by have := dnum_bd hd n 16; omega) (dcar_bd hd 16) ?_
  refine or_step (dnum 17 n l) (dcar 17 l) (dnum 18 n l) (dnum_succ 17 n l) (by have := dnum_bd hd n 17; omega) (dcar_bd hd 17) ?_
  refine or_step (dnum 18 n l) (dcar 18 l) (dnum 19 n l) (dnum_succ 18 n l) (by have := dnum_bd hd n 18; omega) (dcar_bd hd 18) ?_
  refine or_step (dnum 19 n l) (dcar 19 l) (dnum 20 n l) (dnum_succ 19 n l) (by have := dnum_bd hd n 19; omega) (dcar_bd hd 19) ?_
  refine or_step (dnum 20 n l) (dcar 20 l) (dnum 21 n l) (dnum_succ 20 n l) (by have := dnum_bd hd n 20; omega) (dcar_bd hd 20) ?_
  refine or_step (dnum 21 n l) (dcar 21 l) (dnum 22 n l) (dnum_succ 21 n l) (by have := dnum_bd hd n 21; omega) (dcar_bd hd 21) ?_
  refine or_step (dnum 22 n l) (dcar 22 l) (dnum 23 n l) (dnum_succ 22 n l) (by have := dnum_bd hd n 22; omega) (dcar_bd hd 22) ?_
  refine or_step (dnum 23 n l) (dcar 23 l) (dnum 24 n l) (dnum_succ 23 n l) (by have := dnum_bd hd n 23; omega) (dcar_bd hd 23) ?_
  refine or_step (dnum 24 n l) (dcar 24 l) (dnum 25 n l) (dnum_succ 24 n l) (by have := dnum_bd hd n 24; omega) (dcar_bd hd 24) ?_
  refine or_step (dnum 25 n l) (dcar 25 l) (dnum 26 n l) (dnum_succ 25 n l) (by have := dnum_bd hd n 25; omega) (dcar_bd hd 25) ?_
  refine or_step (dnum 26 n l) (dcar 26 l) (dnum 27 n l) (dnum_succ 26 n l) (by have := dnum_bd hd n 26; omega) (dcar_bd hd 26) ?_
  refine or_step (dnum 27 n l) (dcar 27 l) (dnum 28 n l) (dnum_succ 27 n l) (by have := dnum_bd hd n 27; omega) (dcar_bd hd 27) ?_
  refine or_step (dnum 28 n l) (dcar 28 l) (dnum 29 n l) (dnum_succ 28 n l) (by have := dnum_bd hd n 28; omega) (dcar_bd hd 28) ?_
  refine or_step (dnum 29 n l) (dcar 29 l) (dnum 30 n l) (dnum_succ 29 n l) (by have := dnum_bd hd n 29; omega) (dcar_bd hd 29) ?_
  refine or_step (dnum 30 n l) (dcar 30 l) (dnum 31 n l) (dnum_succ 30 n l) (by have := dnum_bd hd n 30; omega) (dcar_bd hd 30) ?_
  refine or_step (dnum 31 n l) (dcar 31 l) (dnum 32 n l) (dnum_succ 31 n l) (by have := dnum_bd hd n 31; omega) (dcar_bd hd 31) ?_
  have hb : dnum 32 n l + 1 ≤ 9223372036854775808 := by have := dnum_bd hd n 32; omega
  have hfin : endT b0 n l = if b0 = true then fit (-((upN (dnum 32 n l) (dlist 32 l) : Nat) : Int)) (-((dnum 32 n l : Nat) : Int)) else fit ((dnum 32 n l : Nat) : Int) ((upN (dnum 32 n l) (dlist 32 l) : Nat) : Int) := if_neg (by omega)
  rw [hfin] at hv
  refine ⟨someN (dlist 32 l), fun β w' _ hm => nonzero_c _ (dlist_bd hd 32) (by rw [dlist_len]; exact hl) _ w' (by have := own_sl hm.1; rwa [List.append_nil, ovl_map] at this), fun hs => ?_, fun hs => ?_⟩
  · rw [show upN (dnum 32 n l) (dlist 32 l) = dnum 32 n l + 1 from if_pos hs] at hv
    refine ⟨_, _, _, fun w' _ => plus1_c (dnum 32 n l) (by omega) w', fun hb0 => ?_, fun hb0 => ?_⟩
    · rw [if_pos hb0] at hv
      exact fin_fit (fun w' _ => fit_neg (dnum 32 n l + 1) (dnum 32 n l) (by omega) (by omega) w') hv
    · rw [if_neg hb0] at hv
      exact fin_fit (fun w' _ => fit_pos (dnum 32 n l) (dnum 32 n l + 1) (by omega) (by omega) w') hv
  · rw [show upN (dnum 32 n l) (dlist 32 l) = dnum 32 n l from if_neg hs] at hv
    refine ⟨fun hb0 => ?_, fun hb0 => ?_⟩
    · rw [if_pos hb0] at hv
      exact fin_fit (fun w' _ => fit_neg (dnum 32 n l) (dnum 32 n l) (by omega) (by omega) w') hv
    · rw [if_neg hb0] at hv
      exact fin_fit (fun w' _ => fit_pos (dnum 32 n l) (dnum 32 n l) (by omega) (by omega) w') hv
set_option maxHeartbeats 2000000 in
theorem tail_no (n : Nat) (l : List Nat) (hd : D10 l) (hl : l.length ≤ 1000) (hL1 : [] = bv l) (b0 : Bool) (w : World) (v : Value) (hv : Vc.RV (endT b0 n l) = v) (hl0 : dlist 0 l = l) : Vj_span_Read_T5 (n : Int) v w b0 := by
  refine ⟨fun h0 => ?_, fun h0 => ?_⟩
  · rw [← hv, show endT b0 n l = (0, 0, 4) from if_pos (by omega)]
  have hN : n ≤ 2147483647 := by omega
  refine ⟨ovl (dlist 1 l), ((dcar 0 l : Nat) : Int), fun β w' _ hm => dstep l 0 1 (dlist_succ 0 l) hd hl _ (by rw [hl0]; exact hL1) _ _ _ _ w' hm.1, ?_⟩
  refine ⟨ovl (dlist 2 l), ((dcar 1 l : Nat) : Int), fun β w' _ hm => dstep l 1 2 (dlist_succ 1 l) hd hl _ (by rw [List.append_nil, ovl_map]) _ _ _ _ w' hm.1, ?_⟩
  refine ⟨ovl (dlist 3 l), ((dcar 2 l : Nat) : Int), fun β w' _ hm => dstep l 2 3 (dlist_succ 2 l) hd hl _ (by rw [List.append_nil, ovl_map]) _ _ _ _ w' hm.1, ?_⟩
  refine ⟨ovl (dlist 4 l), ((dcar 3 l : Nat) : Int), fun β w' _ hm => dstep l 3 4 (dlist_succ 3 l) hd hl _ (by rw [List.append_nil, ovl_map]) _ _ _ _ w' hm.1, ?_⟩
  refine ⟨ovl (dlist 5 l), ((dcar 4 l : Nat) : Int), fun β w' _ hm => dstep l 4 5 (dlist_succ 4 l) hd hl _ (by rw [List.append_nil, ovl_map]) _ _ _ _ w' hm.1, ?_⟩
  refine ⟨ovl (dlist 6 l), ((dcar 5 l : Nat) : Int), fun β w' _ hm => dstep l 5 6 (dlist_succ 5 l) hd hl _ (by rw [List.append_nil, ovl_map]) _ _ _ _ w' hm.1, ?_⟩
  refine ⟨ovl (dlist 7 l), ((dcar 6 l : Nat) : Int), fun β w' _ hm => dstep l 6 7 (dlist_succ 6 l) hd hl _ (by rw [List.append_nil, ovl_map]) _ _ _ _ w' hm.1, ?_⟩
  refine ⟨ovl (dlist 8 l), ((dcar 7 l : Nat) : Int), fun β w' _ hm => dstep l 7 8 (dlist_succ 7 l) hd hl _ (by rw [List.append_nil, ovl_map]) _ _ _ _ w' hm.1, ?_⟩
  refine ⟨ovl (dlist 9 l), ((dcar 8 l : Nat) : Int), fun β w' _ hm => dstep l 8 9 (dlist_succ 8 l) hd hl _ (by rw [List.append_nil, ovl_map]) _ _ _ _ w' hm.1, ?_⟩
  refine ⟨ovl (dlist 10 l), ((dcar 9 l : Nat) : Int), fun β w' _ hm => dstep l 9 10 (dlist_succ 9 l) hd hl _ (by rw [List.append_nil, ovl_map]) _ _ _ _ w' hm.1, ?_⟩
  refine ⟨ovl (dlist 11 l), ((dcar 10 l : Nat) : Int), fun β w' _ hm => dstep l 10 11 (dlist_succ 10 l) hd hl _ (by rw [List.append_nil, ovl_map]) _ _ _ _ w' hm.1, ?_⟩
  refine ⟨ovl (dlist 12 l), ((dcar 11 l : Nat) : Int), fun β w' _ hm => dstep l 11 12 (dlist_succ 11 l) hd hl _ (by rw [List.append_nil, ovl_map]) _ _ _ _ w' hm.1, ?_⟩
  refine ⟨ovl (dlist 13 l), ((dcar 12 l : Nat) : Int), fun β w' _ hm => dstep l 12 13 (dlist_succ 12 l) hd hl _ (by rw [List.append_nil, ovl_map]) _ _ _ _ w' hm.1, ?_⟩
  refine ⟨ovl (dlist 14 l), ((dcar 13 l : Nat) : Int), fun β w' _ hm => dstep l 13 14 (dlist_succ 13 l) hd hl _ (by rw [List.append_nil, ovl_map]) _ _ _ _ w' hm.1, ?_⟩
  refine ⟨ovl (dlist 15 l), ((dcar 14 l : Nat) : Int), fun β w' _ hm => dstep l 14 15 (dlist_succ 14 l) hd hl _ (by rw [List.append_nil, ovl_map]) _ _ _ _ w' hm.1, ?_⟩
  refine ⟨ovl (dlist 16 l), ((dcar 15 l : Nat) : Int), fun β w' _ hm => dstep l 15 16 (dlist_succ 15 l) hd hl _ (by rw [List.append_nil, ovl_map]) _ _ _ _ w' hm.1, ?_⟩
  refine ⟨ovl (dlist 17 l), ((dcar 16 l : Nat) : Int), fun β w' _ hm => dstep l 16 17 (dlist_succ 16 l) hd hl _ (by rw [List.append_nil, ovl_map]) _ _ _ _ w' hm.1, ?_⟩
  refine ⟨ovl (dlist 18 l), ((dcar 17 l : Nat) : Int), fun β w' _ hm => dstep l 17 18 (dlist_succ 17 l) hd hl _ (by rw [List.append_nil, ovl_map]) _ _ _ _ w' hm.1, ?_⟩
  refine ⟨ovl (dlist 19 l), ((dcar 18 l : Nat) : Int), fun β w' _ hm => dstep l 18 19 (dlist_succ 18 l) hd hl _ (by rw [List.append_nil, ovl_map]) _ _ _ _ w' hm.1, ?_⟩
  refine ⟨ovl (dlist 20 l), ((dcar 19 l : Nat) : Int), fun β w' _ hm => dstep l 19 20 (dlist_succ 19 l) hd hl _ (by rw [List.append_nil, ovl_map]) _ _ _ _ w' hm.1, ?_⟩
  refine ⟨ovl (dlist 21 l), ((dcar 20 l : Nat) : Int), fun β w' _ hm => dstep l 20 21 (dlist_succ 20 l) hd hl _ (by rw [List.append_nil, ovl_map]) _ _ _ _ w' hm.1, ?_⟩
  refine ⟨ovl (dlist 22 l), ((dcar 21 l : Nat) : Int), fun β w' _ hm => dstep l 21 22 (dlist_succ 21 l) hd hl _ (by rw [List.append_nil, ovl_map]) _ _ _ _ w' hm.1, ?_⟩
  refine ⟨ovl (dlist 23 l), ((dcar 22 l : Nat) : Int), fun β w' _ hm => dstep l 22 23 (dlist_succ 22 l) hd hl _ (by rw [List.append_nil, ovl_map]) _ _ _ _ w' hm.1, ?_⟩
  refine ⟨ovl (dlist 24 l), ((dcar 23 l : Nat) : Int), fun β w' _ hm => dstep l 23 24 (dlist_succ 23 l) hd hl _ (by rw [List.append_nil, ovl_map]) _ _ _ _ w' hm.1, ?_⟩
  refine ⟨ovl (dlist 25 l), ((dcar 24 l : Nat) : Int), fun β w' _ hm => dstep l 24 25 (dlist_succ 24 l) hd hl _ (by rw [List.append_nil, ovl_map]) _ _ _ _ w' hm.1, ?_⟩
  refine ⟨ovl (dlist 26 l), ((dcar 25 l : Nat) : Int), fun β w' _ hm => dstep l 25 26 (dlist_succ 25 l) hd hl _ (by rw [List.append_nil, ovl_map]) _ _ _ _ w' hm.1, ?_⟩
  refine ⟨ovl (dlist 27 l), ((dcar 26 l : Nat) : Int), fun β w' _ hm => dstep l 26 27 (dlist_succ 26 l) hd hl _ (by rw [List.append_nil, ovl_map]) _ _ _ _ w' hm.1, ?_⟩
  refine ⟨ovl (dlist 28 l), ((dcar 27 l : Nat) : Int), fun β w' _ hm => dstep l 27 28 (dlist_succ 27 l) hd hl _ (by rw [List.append_nil, ovl_map]) _ _ _ _ w' hm.1, ?_⟩
  refine ⟨ovl (dlist 29 l), ((dcar 28 l : Nat) : Int), fun β w' _ hm => dstep l 28 29 (dlist_succ 28 l) hd hl _ (by rw [List.append_nil, ovl_map]) _ _ _ _ w' hm.1, ?_⟩
  refine ⟨ovl (dlist 30 l), ((dcar 29 l : Nat) : Int), fun β w' _ hm => dstep l 29 30 (dlist_succ 29 l) hd hl _ (by rw [List.append_nil, ovl_map]) _ _ _ _ w' hm.1, ?_⟩
  refine ⟨ovl (dlist 31 l), ((dcar 30 l : Nat) : Int), fun β w' _ hm => dstep l 30 31 (dlist_succ 30 l) hd hl _ (by rw [List.append_nil, ovl_map]) _ _ _ _ w' hm.1, ?_⟩
  refine ⟨ovl (dlist 32 l), ((dcar 31 l : Nat) : Int), fun β w' _ hm => dstep l 31 32 (dlist_succ 31 l) hd hl _ (by rw [List.append_nil, ovl_map]) _ _ _ _ w' hm.1, ?_⟩
  refine or_step n (dcar 0 l) (dnum 1 n l) (zero_step n l) (by omega) (dcar_bd hd 0) ?_
  refine or_step (dnum 1 n l) (dcar 1 l) (dnum 2 n l) (dnum_succ 1 n l) (by have := dnum_bd hd n 1; omega) (dcar_bd hd 1) ?_
  refine or_step (dnum 2 n l) (dcar 2 l) (dnum 3 n l) (dnum_succ 2 n l) (by have := dnum_bd hd n 2; omega) (dcar_bd hd 2) ?_
  refine or_step (dnum 3 n l) (dcar 3 l) (dnum 4 n l) (dnum_succ 3 n l) (by have := dnum_bd hd n 3; omega) (dcar_bd hd 3) ?_
  refine or_step (dnum 4 n l) (dcar 4 l) (dnum 5 n l) (dnum_succ 4 n l) (by have := dnum_bd hd n 4; omega) (dcar_bd hd 4) ?_
  refine or_step (dnum 5 n l) (dcar 5 l) (dnum 6 n l) (dnum_succ 5 n l) (by have := dnum_bd hd n 5; omega) (dcar_bd hd 5) ?_
  refine or_step (dnum 6 n l) (dcar 6 l) (dnum 7 n l) (dnum_succ 6 n l) (by have := dnum_bd hd n 6; omega) (dcar_bd hd 6) ?_
  refine or_step (dnum 7 n l) (dcar 7 l) (dnum 8 n l) (dnum_succ 7 n l) (by have := dnum_bd hd n 7; omega) (dcar_bd hd 7) ?_
  refine or_step (dnum 8 n l) (dcar 8 l) (dnum 9 n l) (dnum_succ 8 n l) (by have := dnum_bd hd n 8; omega) (dcar_bd hd 8) ?_
  refine or_step (dnum 9 n l) (dcar 9 l) (dnum 10 n l) (dnum_succ 9 n l) (by have := dnum_bd hd n 9; omega) (dcar_bd hd 9) ?_
  refine or_step (dnum 10 n l) (dcar 10 l) (dnum 11 n l) (dnum_succ 10 n l) (by have := dnum_bd hd n 10; omega) (dcar_bd hd 10) ?_
  refine or_step (dnum 11 n l) (dcar 11 l) (dnum 12 n l) (dnum_succ 11 n l) (by have := dnum_bd hd n 11; omega) (dcar_bd hd 11) ?_
  refine or_step (dnum 12 n l) (dcar 12 l) (dnum 13 n l) (dnum_succ 12 n l) (by have := dnum_bd hd n 12; omega) (dcar_bd hd 12) ?_
  refine or_step (dnum 13 n l) (dcar 13 l) (dnum 14 n l) (dnum_succ 13 n l) (by have := dnum_bd hd n 13; omega) (dcar_bd hd 13) ?_
  refine or_step (dnum 14 n l) (dcar 14 l) (dnum 15 n l) (dnum_succ 14 n l) (by have := dnum_bd hd n 14; omega) (dcar_bd hd 14) ?_
  refine or_step (dnum 15 n l) (dcar 15 l) (dnum 16 n l) (dnum_succ 15 n l) (by have := dnum_bd hd n 15; omega) (dcar_bd hd 15) ?_
  refine or_step (dnum 16 n l) (dcar 16 l) (dnum 17 n l) (dnum_succ 16 n l) (by have := dnum_bd hd n 16; omega) (dcar_bd hd 16) ?_
  refine or_step (dnum 17 n l) (dcar 17 l) (dnum 18 n l) (dnum_succ 17 n l) (by have := dnum_bd hd n 17; omega) (dcar_bd hd 17) ?_
  refine or_step (dnum 18 n l) (dcar 18 l) (dnum 19 n l) (dnum_succ 18 n l) (by have := dnum_bd hd n 18; omega) (dcar_bd hd 18) ?_
  refine or_step (dnum 19 n l) (dcar 19 l) (dnum 20 n l) (dnum_succ 19 n l) (by have := dnum_bd hd n 19; omega) (dcar_bd hd 19) ?_
  refine or_step (dnum 20 n l) (dcar 20 l) (dnum 21 n l) (dnum_succ 20 n l) (by have := dnum_bd hd n 20; omega) (dcar_bd hd 20) ?_
  refine or_step (dnum 21 n l) (dcar 21 l) (dnum 22 n l) (dnum_succ 21 n l) (by have := dnum_bd hd n 21; omega) (dcar_bd hd 21) ?_
  refine or_step (dnum 22 n l) (dcar 22 l) (dnum 23 n l) (dnum_succ 22 n l) (by have := dnum_bd hd n 22; omega) (dcar_bd hd 22) ?_
  refine or_step (dnum 23 n l) (dcar 23 l) (dnum 24 n l) (dnum_succ 23 n l) (by have := dnum_bd hd n 23; omega) (dcar_bd hd 23) ?_
  refine or_step (dnum 24 n l) (dcar 24 l) (dnum 25 n l) (dnum_succ 24 n l) (by have := dnum_bd hd n 24; omega) (dcar_bd hd 24) ?_
  refine or_step (dnum 25 n l) (dcar 25 l) (dnum 26 n l) (dnum_succ 25 n l) (by have := dnum_bd hd n 25; omega) (dcar_bd hd 25) ?_
  refine or_step (dnum 26 n l) (dcar 26 l) (dnum 27 n l) (dnum_succ 26 n l) (by have := dnum_bd hd n 26; omega) (dcar_bd hd 26) ?_
  refine or_step (dnum 27 n l) (dcar 27 l) (dnum 28 n l) (dnum_succ 27 n l) (by have := dnum_bd hd n 27; omega) (dcar_bd hd 27) ?_
  refine or_step (dnum 28 n l) (dcar 28 l) (dnum 29 n l) (dnum_succ 28 n l) (by have := dnum_bd hd n 28; omega) (dcar_bd hd 28) ?_
  refine or_step (dnum 29 n l) (dcar 29 l) (dnum 30 n l) (dnum_succ 29 n l) (by have := dnum_bd hd n 29; omega) (dcar_bd hd 29) ?_
  refine or_step (dnum 30 n l) (dcar 30 l) (dnum 31 n l) (dnum_succ 30 n l) (by have := dnum_bd hd n 30; omega) (dcar_bd hd 30) ?_
  refine or_step (dnum 31 n l) (dcar 31 l) (dnum 32 n l) (dnum_succ 31 n l) (by have := dnum_bd hd n 31; omega) (dcar_bd hd 31) ?_
  have hb : dnum 32 n l + 1 ≤ 9223372036854775808 := by have := dnum_bd hd n 32; omega
  have hfin : endT b0 n l = if b0 = true then fit (-((upN (dnum 32 n l) (dlist 32 l) : Nat) : Int)) (-((dnum 32 n l : Nat) : Int)) else fit ((dnum 32 n l : Nat) : Int) ((upN (dnum 32 n l) (dlist 32 l) : Nat) : Int) := if_neg (by omega)
  rw [hfin] at hv
  refine ⟨someN (dlist 32 l), fun β w' _ hm => nonzero_c _ (dlist_bd hd 32) (by rw [dlist_len]; exact hl) _ w' (by have := own_sl hm.1; rwa [List.append_nil, ovl_map] at this), fun hs => ?_, fun hs => ?_⟩
  · rw [show upN (dnum 32 n l) (dlist 32 l) = dnum 32 n l + 1 from if_pos hs] at hv
    refine ⟨_, _, _, fun w' _ => plus1_c (dnum 32 n l) (by omega) w', fun hb0 => ?_, fun hb0 => ?_⟩
    · rw [if_pos hb0] at hv
      exact fin_fit (fun w' _ => fit_neg (dnum 32 n l + 1) (dnum 32 n l) (by omega) (by omega) w') hv
    · rw [if_neg hb0] at hv
      exact fin_fit (fun w' _ => fit_pos (dnum 32 n l) (dnum 32 n l + 1) (by omega) (by omega) w') hv
  · rw [show upN (dnum 32 n l) (dlist 32 l) = dnum 32 n l from if_neg hs] at hv
    refine ⟨fun hb0 => ?_, fun hb0 => ?_⟩
    · rw [if_pos hb0] at hv
      exact fin_fit (fun w' _ => fit_neg (dnum 32 n l) (dnum 32 n l) (by omega) (by omega) w') hv
    · rw [if_neg hb0] at hv
      exact fin_fit (fun w' _ => fit_pos (dnum 32 n l) (dnum 32 n l) (by omega) (by omega) w') hv
end Go.Proofs.YtcoakpdafpclpaaGreatDoor
