/- SpanNames walked: the chapter's examples. -/
import Derived.Test.YtcoakpdafpclpaaGreatDoorTn
import Derived.Test.YtcoakpdafpclpaaGreatDoorTnL
import Derived.Lib.LaidTab
import Derived.Lib.LaidU8
set_option linter.unusedVariables false
set_option linter.unusedSimpArgs false
set_option maxRecDepth 100000
namespace Go.Proofs.YtcoakpdafpclpaaGreatDoor
open Go Go.RowKit Go.Proofs Vc Ul
attribute [local irreducible] Go.Calls
theorem of_any (a b : Int) (x : Int) (y : Int) (hx : IntKind.i64.wrap (a * 4294967296) = x) (hy : IntKind.i64.wrap (b * 4294967296) = y) (w : World) : Calls Tryz.prog 6 #[.int .i64 a, .int .i64 b] w (Vc.Ret (Vc.S x y) w) := by
  refine vc_ullagelaw01_of a b w _ ?_
  rintro _ rfl _ rfl
  rw [hx, hy]
theorem quarter : textV (-1073741824) = ([45, 48, 46, 50, 53] : List UInt8) := by
  have e : textV (-1073741824) = [45] ++ Lib.decDigits 0 ++ 46 :: tailF 32 1073741824 := rfl
  rw [e, Lib.decDigits_one (by decide)]
  decide +kernel
theorem text_q (w : World) (htab : TabB w.heap.size w) : Calls Tryz.prog 7 #[.int .i64 (-1073741824)] w (Vc.Ret (.string ⟨([45, 48, 46, 50, 53] : List UInt8).toArray⟩) w) := by
  have := text_any (-1073741824) (by unfold I64; decide) w htab
  rwa [quarter] at this
theorem tab_on {w w' : World} (h : TabB w.heap.size w) (hb : Below w.heap.size w w') : TabB w'.heap.size w' := fun w2 hb2 => h w2 (hb.trans (hb2.mono hb.size))
theorem alive_tab (w : World) (htab : TabB w.heap.size w) : Calls Tryz.prog 19 #[] w (Vc.Ret (.bool true) w) := by
  refine vc_ullagelaw01_alive w _ ?_
  refine ⟨-17179869184, 34359738368, 0, fun w' hw => Ret.mono (pmul_any (-4294967296) 8589934592 12884901888 17179869184 w' (by unfold I64; decide) (by unfold I64; decide) (by unfold I64; decide) (by unfold I64; decide)) (by rw [show mul (-4294967296) 8589934592 12884901888 17179869184 = (-17179869184, 34359738368, 0) by decide +kernel]), ?_⟩
  refine ⟨1431655765, 1431655766, 0, fun w' hw => Ret.mono (pRatio_any 1 3 w' (by unfold I64; decide) (by unfold I64; decide)) (by rw [show ratio 1 3 = (1431655765, 1431655766, 0) by decide +kernel]), ?_⟩
  refine ⟨0, 8589934592, 0, fun w' hw => Ret.mono (pRoot_any (-38654705664) 17179869184 w' (by unfold I64; decide) (by unfold I64; decide)) (by rw [show root (-38654705664) 17179869184 = (0, 8589934592, 0) by decide +kernel]), ?_⟩
  refine iteI (fun _ => ?_) (fun h => absurd rfl h)
  refine ⟨-17179869184, 34359738368, fun w' hw => of_any (-4) 8 _ _ (by decide +kernel) (by decide +kernel) w', ?_⟩
  refine iteI (fun _ => ?_) (fun h => absurd ⟨rfl, rfl⟩ h)
  refine iteI (fun _ => ?_) (fun h => absurd rfl h)
  refine iteI (fun _ => ?_) (fun h => absurd ⟨rfl, rfl⟩ h)
  refine iteI (fun _ => ?_) (fun h => absurd rfl h)
  refine ⟨0, 8589934592, fun w' hw => of_any 0 2 _ _ (by decide +kernel) (by decide +kernel) w', ?_⟩
  refine iteI (fun _ => ?_) (fun h => absurd ⟨rfl, rfl⟩ h)
  exact ⟨_, fun w' hw => text_q w' (tab_on htab hw), rfl⟩
instance decI64 (n : Int) : Decidable (I64 n) := inferInstanceAs (Decidable (_ ∧ _))
theorem blk_sl {w : World} {b : Nat} {cs : Array Value} {t : TypeId} {n c sz : Nat} (h : w.heap[b]? = some (.cells cs t)) (hn : cs.size = n * sz) : SlAt w (.slice (some ⟨b, 0, none⟩) n c) sz cs.toList :=
  .inr (.inr ⟨b, 0, n, c, rfl, by simpa using hn, fun j u hj => by rw [cell_of_heap h, Nat.zero_add]; simpa using hj⟩)
theorem text_lit {n : Int} {l : List UInt8} (h : textV n = l) (hn : I64 n) (w : World) (htab : TabB w.heap.size w) : Calls Tryz.prog 7 #[.int .i64 n] w (Vc.Ret (.string ⟨l.toArray⟩) w) := by
  rw [← h]; exact text_any n hn w htab
theorem text_one : textV 4294967296 = ([49] : List UInt8) := by
  have e : textV 4294967296 = [] ++ Lib.decDigits 1 ++ [] := rfl
  rw [e, Lib.decDigits_one (by decide)]
  decide +kernel
theorem text_eps : textV 1 = ([48, 46, 48, 48, 48, 48, 48, 48, 48, 48, 48, 50, 51, 50, 56, 51, 48, 54, 52, 51, 54, 53, 51, 56, 54, 57, 54, 50, 56, 57, 48, 54, 50, 53] : List UInt8) := by
  have e : textV 1 = [] ++ Lib.decDigits 0 ++ 46 :: tailF 32 1 := rfl
  rw [e, Lib.decDigits_one (by decide)]
  decide +kernel
theorem text_low : textV (-9223372036854775808) = ([] : List UInt8) := rfl
set_option maxHeartbeats 4000000 in
theorem walk_spanNames {w : World} (htab : TabB w.heap.size w) : Calls Tryz.prog 3 #[] w (Vc.Ret (.bool true) w) := by
  refine vc_ullagelaw01_SpanNames w _ ?_
  refine ⟨fun w' _ => Ret.as (pOf_any (-3) w' (by unfold I64; decide)) (by rw [show ofInt (-3) = (-12884901888, -12884901888, 0) by decide +kernel]), ?_⟩
  refine ⟨fun w' _ => Ret.as (read_c [48, 46, 53] (by decide) w') (by rw [show readV [48, 46, 53] = (2147483648, 2147483648, 0) by decide +kernel]), ?_⟩
  refine ⟨fun w' _ => Ret.as (read_c [48, 46, 49] (by decide) w') (by rw [show readV [48, 46, 49] = (429496729, 429496730, 0) by decide +kernel]), ?_⟩
  refine ⟨fun w' _ => Ret.as (read_c [45, 48] (by decide) w') (by rw [show readV [45, 48] = (0, 0, 5) by decide +kernel]), ?_⟩
  refine ⟨fun w' _ => Ret.as (read_c [48, 49] (by decide) w') (by rw [show readV [48, 49] = (0, 0, 5) by decide +kernel]), ?_⟩
  refine ⟨fun w' _ => Ret.as (read_c [49, 46] (by decide) w') (by rw [show readV [49, 46] = (0, 0, 5) by decide +kernel]), ?_⟩
  refine ⟨fun w' _ => of_any (-3) (-3) _ _ (by decide +kernel) (by decide +kernel) w', ?_⟩
  refine ⟨fun w' hw => text_lit text_one (by unfold I64; decide) w' (tab_on htab hw), ?_⟩
  refine ⟨fun w' hw => text_lit text_eps (by unfold I64; decide) w' (tab_on htab hw), ?_⟩
  refine ⟨fun w' hw => text_lit text_low (by unfold I64; decide) w' (tab_on htab hw), ?_⟩
  refine ⟨fun w' _ => Ret.as (pdiv_any 4294967296 8589934592 (-17179869184) (-8589934592) w' (by unfold I64; decide) (by unfold I64; decide) (by unfold I64; decide) (by unfold I64; decide)) (by rw [show div 4294967296 8589934592 (-17179869184) (-8589934592) = (-4294967296, -1073741824, 0) by decide +kernel]), ?_⟩
  refine ⟨fun w' _ => Ret.as (pdiv_any 4294967296 8589934592 (-4294967296) 4294967296 w' (by unfold I64; decide) (by unfold I64; decide) (by unfold I64; decide) (by unfold I64; decide)) (by rw [show div 4294967296 8589934592 (-4294967296) 4294967296 = (0, 0, 10) by decide +kernel]), ?_⟩
  refine ⟨fun w' _ => Ret.as (psquare_any (-8589934592) 4294967296 w' (by unfold I64; decide) (by unfold I64; decide)) (by rw [show square (-8589934592) 4294967296 = (0, 17179869184, 0) by decide +kernel]), ?_⟩
  refine ⟨fun w' _ => Ret.as (pRoot_any (-8589934592) (-4294967296) w' (by unfold I64; decide) (by unfold I64; decide)) (by rw [show root (-8589934592) (-4294967296) = (0, 0, 4) by decide +kernel]), ?_⟩
  refine ⟨fun w' _ => of_any 0 4 _ _ (by decide +kernel) (by decide +kernel) w', ?_⟩
  refine ⟨fun w' _ => Ret.as (pmid_any 0 4294967296 w' (by unfold I64; decide) (by unfold I64; decide)) (by rw [show mid 0 4294967296 = (2147483648, 0) by decide +kernel]), ?_⟩
  refine ⟨fun w' _ => Ret.as (pmid_any 0 1 w' (by unfold I64; decide) (by unfold I64; decide)) (by rw [show mid 0 1 = (0, 0) by decide +kernel]), ?_⟩
  refine ⟨fun β w' _ hm => Ret.as (pLook (l := [(0, 4294967296, 8589934592), (42949672960, 12884901888, 25769803776)]) (blk_sl (n := 2) (sz := 3) hm.1.2 rfl) (by decide) 21474836480 85899345920 (by unfold I64; decide) (by unfold I64; decide)) (by rw [show look [(0, 4294967296, 8589934592), (42949672960, 12884901888, 25769803776)] 21474836480 85899345920 = (8589934592, 25769803776, 0) by decide +kernel]), ?_⟩
  refine ⟨fun β w' _ hm => Ret.as (pLook (l := [(0, 4294967296, 8589934592), (42949672960, 12884901888, 25769803776)]) (blk_sl (n := 2) (sz := 3) hm.1.2 rfl) (by decide) (-30064771072) (-30064771072) (by unfold I64; decide) (by unfold I64; decide)) (by rw [show look [(0, 4294967296, 8589934592), (42949672960, 12884901888, 25769803776)] (-30064771072) (-30064771072) = (4294967296, 8589934592, 0) by decide +kernel]), ?_⟩
  refine ⟨fun w' _ => of_any 2 6 _ _ (by decide +kernel) (by decide +kernel) w', ?_⟩
  refine ⟨fun w' _ => of_any 1 2 _ _ (by decide +kernel) (by decide +kernel) w', ?_⟩
  refine ⟨fun w' _ => Ret.as (pturn_any (-4294967296) 4294967296 w' (by unfold I64; decide) (by unfold I64; decide)) (by rw [show turn (-4294967296) 4294967296 = ((0, 4294967296, 0), (-4294967296, 4294967296, 0), 0) by decide +kernel]), ?_⟩
  refine ⟨fun w' _ => Ret.as (pturn_any 2147483648 2147483648 w' (by unfold I64; decide) (by unfold I64; decide)) (by rw [show turn 2147483648 2147483648 = ((2576980377, 2576980378, 0), (3435973836, 3435973837, 0), 0) by decide +kernel]), ?_⟩
  refine ⟨fun w' _ => Ret.as (pRatio_any 3 5 w' (by unfold I64; decide) (by unfold I64; decide)) (by rw [show ratio 3 5 = (2576980377, 2576980378, 0) by decide +kernel]), ?_⟩
  refine ⟨fun w' _ => Ret.as (pRatio_any 4 5 w' (by unfold I64; decide) (by unfold I64; decide)) (by rw [show ratio 4 5 = (3435973836, 3435973837, 0) by decide +kernel]), ?_⟩
  refine ⟨fun w' _ => of_any 0 1 _ _ (by decide +kernel) (by decide +kernel) w', ?_⟩
  refine ⟨fun w' _ => of_any (-1) 1 _ _ (by decide +kernel) (by decide +kernel) w', ?_⟩
  refine ⟨fun β w' _ hm => Ret.as (pDot (l := [(4294967296, 4294967296), (8589934592, 8589934592)]) (m := [(12884901888, 12884901888), (17179869184, 17179869184)]) (blk_sl (n := 2) (sz := 2) hm.1.2 rfl) (blk_sl (n := 2) (sz := 2) hm.2.1.2 rfl) (by decide) (by decide)) (by rw [show dotS [(4294967296, 4294967296), (8589934592, 8589934592)] [(12884901888, 12884901888), (17179869184, 17179869184)] = (47244640256, 47244640256, 0) by decide +kernel]), ?_⟩
  refine ⟨fun β w' _ hm => Ret.as (pSum (l := List.replicate 65 (0, 0)) (own_sl hm.1) (by decide)) (by rw [show sumS (List.replicate 65 (0, 0)) = (0, 0, 3) by decide +kernel]), ?_⟩
  refine ⟨fun w' _ => Ret.as (padd_any 0 0 1 0 w' (by unfold I64; decide) (by unfold I64; decide) (by unfold I64; decide) (by unfold I64; decide)) (by rw [show add 0 0 1 0 = (0, 0, 2) by decide +kernel]), ?_⟩
  refine ⟨fun w' _ => Ret.as (pmeet_any 0 4294967296 8589934592 12884901888 w') (by rw [show meet 0 4294967296 8589934592 12884901888 = (0, 0, 7) by decide +kernel]), ?_⟩
  refine ⟨fun w' _ => Ret.as (padd_any 9223372036854775807 9223372036854775807 4294967296 4294967296 w' (by unfold I64; decide) (by unfold I64; decide) (by unfold I64; decide) (by unfold I64; decide)) (by rw [show add 9223372036854775807 9223372036854775807 4294967296 4294967296 = (0, 0, 4) by decide +kernel]), ?_⟩
  refine ⟨fun w' hw => alive_tab w' (tab_on htab hw), ?_⟩
  refine ⟨fun w' _ => of_any 11 11 _ _ (by decide +kernel) (by decide +kernel) w', ?_⟩
  rfl
end Go.Proofs.YtcoakpdafpclpaaGreatDoor
