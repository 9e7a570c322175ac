/- span.Text walked. -/
import Derived.Test.YtcoakpdafpclpaaGreatDoorTw
set_option linter.unusedVariables false
set_option linter.unusedSimpArgs false
namespace Go.Proofs.YtcoakpdafpclpaaGreatDoor
open Go Go.RowKit Go.Sort Go.Proofs Ul
theorem bAt_grow {T e : TypeId} {B b : Nat} {p : Value} {bs : List Value} {w : World} (h : Lib.BuilderAtF T e B b p bs w) (k : Nat) (os : Array Obj) : Lib.BuilderAtF T e B b p bs (grow (w.drewN k) os) := by
  have hlt := h.lt
  obtain ⟨hB, v, hb, hown, hne⟩ := h
  exact ⟨hB, v, (Lib.heap_grow_old w k os b hlt).trans hb, hown.kept (row := none) ⟨rfl, rfl, rfl, Lib.size_grow w k os, fun j hj _ => Lib.heap_grow_old w k os j hj⟩ (by cases hv : v.ownBlock <;> simp), hne⟩
theorem isB_grow {B b : Nat} {bs : List Value} {w : World} (h : IsB B b bs w) (k : Nat) (os : Array Obj) : IsB B b bs (grow (w.drewN k) os) := h.elim (fun x => .inl (bAt_grow x k os)) (fun x => .inr (bAt_grow x k os))
theorem maskN (m : Nat) (hm : m ≤ 9223372036854775807) : bits .and .u64 (m : Int) 4294967295 = ((m % 4294967296 : Nat) : Int) := by
  rw [maskI (m : Int) (by omega) (by omega)]; omega
theorem byteW (x : Nat) (h : x < 10) : IntKind.u8.wrap (48 + (x : Int)) = ((UInt8.ofNat (48 + x)).toNat : Int) := by
  have : ∀ y : Fin 10, IntKind.u8.wrap (48 + ((y : Nat) : Int)) = ((UInt8.ofNat (48 + (y : Nat))).toNat : Int) := by decide
  exact this ⟨x, h⟩
theorem dec_len (m : Nat) (hm : m ≤ 9223372036854775807) : (Lib.decDigits (m / 4294967296)).length ≤ 20 := by
  rw [Lib.decDigits_length]
  by_cases h : m / 4294967296 = 0
  · rw [h]; decide +kernel
  · have := Lib.numDigits_eq (m / 4294967296) (by omega) (by omega)
    split at this <;> omega
theorem bc_len (l : List UInt8) : (Lib.byteCells l).length = l.length := by simp [Lib.byteCells]
theorem tail_len : ∀ (k r : Nat), (tailF k r).length ≤ k
  | 0, r => by simp [tailF]
  | k + 1, r => by
    unfold tailF
    split
    · simp
    · have := tail_len k (r * 10 % 4294967296)
      simp; omega
set_option maxHeartbeats 4000000 in
set_option maxRecDepth 1000000 in
theorem text_neg_some (n : Int) (hn : I64 n) (hv : -9223372036854775807 ≤ n) (hneg : n < 0) (m : Nat) (hm : absI n = (m : Int)) (hm1 : m ≤ 9223372036854775807) (h0 : 0 < m % 4294967296) (w : World) (htab : TabB w.heap.size w) :
    Calls Tryz.prog 7 #[.int .i64 n] w fun e w' => e = .returned (.string ⟨(textN m true).toArray⟩) ∧ Below w.heap.size w w' := by
  have hmask := maskN m hm1
  have hdl := dec_len m hm1
  have hz : (⟨(Lib.decDigits (m / 4294967296)).toArray⟩ : ByteArray).size = (Lib.decDigits (m / 4294967296)).length := by show (Lib.decDigits (m / 4294967296)).toArray.size = _; simp
  go_enter Tryz.func7, Tryz.ntmps7
  go_wp2_with (first | (go_at_call 28; refine (valid_any _ _).mono ?_; rintro e wv ⟨rfl, bv⟩; rw [show decide (-9223372036854775807 ≤ n) = true from decide_eq_true hv]))
  go_wp2_with (first | (go_at_call 29; refine (psize_any _ _ hn).mono ?_; rintro e ws ⟨rfl, bs⟩; rw [hm]))
  replace bs := bv.trans (bs.mono bv.size)
  have ss := bs.size
  go_wp2_with (first | (go_at_call 30; refine (writeByte_k _ _ [] 45 _ (Lib.IsBuilderF.of (Lib.fresh_isBuilder 66 5 _)) (by decide) (by simp)).mono ?_))
  rintro e w1 ⟨rfl, h1, b1, k1⟩
  have s1 := b1.size
  simp only [World.size_alloc] at s1
  have b1' := bs.trans (((Below.refl ws.heap.size ws).alloc (Nat.le_refl _) _).trans b1 |>.mono ss)
  go_wp2_with (first | (go_at_call 32; refine (fmtU2 (m / 4294967296) (by omega) _ (fun w' hb => htab w' (b1'.trans (hb.mono b1'.size)))).mono ?_))
  rintro e wf ⟨rfl, k, os, rfl⟩
  have b2 := b1'.trans (Lib.below_grow w.heap.size w1 b1'.size k os)
  have h2 : IsB ws.heap.size ws.heap.size (Lib.byteCells [45]) _ := isB_grow (.inr h1) k os
  have s2 := Lib.size_grow w1 k os
  generalize grow (w1.drewN k) os = wg at b2 h2 s2 ⊢
  go_wp2_with (first | (go_at_call 31; refine (writeString_k _ _ _ _ _ h2 (by rw [hz, bc_len]; simp; omega) (by omega)).mono ?_))
  rintro e w2 ⟨rfl, h3, b3, k3⟩
  replace b3 := b2.trans (b3.mono ss)
  have h3' : IsB ws.heap.size ws.heap.size (Lib.byteCells ([45] ++ Lib.decDigits (m / 4294967296))) w2 := .inr h3
  have s3 := b3.size
  have sw : ws.heap.size ≤ w2.heap.size := Nat.le_of_lt h3.lt
  clear h3 h2 b2
  obtain ⟨p, hp⟩ : ∃ p, p = [45] ++ Lib.decDigits (m / 4294967296) := ⟨_, rfl⟩
  have hpl : p.length ≤ 30 := by rw [hp]; simp; omega
  rw [← hp] at h3'
  go_wp2_with (first | (go_at_call 30; refine (writeByte_k _ _ _ 46 _ h3' (by rw [bc_len]; omega) sw).mono ?_))
  rintro e w3 ⟨rfl, h4, b4, k4⟩
  replace b4 := b3.trans (b4.mono ss)
  have h4' : IsB ws.heap.size ws.heap.size (Lib.byteCells (p ++ [46])) w3 := by rw [← cells_app]; exact .inr h4
  have hfin : p ++ [46] ++ tailF 32 (m % 4294967296) = textN m true := by rw [hp]; unfold textN; rw [if_neg (show ¬ m % 4294967296 = 0 by omega)]; simp
  clear h4 h3' k3
  go_wp2
  go_loopw [5] (fun i wr => Below w.heap.size w wr ∧ ∃ (r : Nat) (d : List UInt8), i = .int .u64 (r : Int) ∧ r < 4294967296 ∧ d.length + (tailF 32 r).length ≤ 100 ∧ d ++ tailF 32 r = textN m true ∧ ws.heap.size ≤ wr.heap.size ∧ IsB ws.heap.size ws.heap.size (Lib.byteCells d) wr) (fun i _ => 33 - tz 32 (intOf i).toNat)
  case atStart => exact ⟨b4, m % 4294967296, _, by rw [Int.natCast_emod]; rfl, Nat.mod_lt _ (by decide), by have := tail_len 32 (m % 4294967296); simp; omega, hfin, by have := b4.size; have := h4'.elim (fun x => x.lt) (fun x => x.lt); omega, h4'⟩
  case round =>
    obtain ⟨br, r, d, rfl, hr1, hr2, hr3, hr4, hr5⟩ := hrel
    by_cases hr0 : 0 < r
    · have hq : r * 10 / 4294967296 < 10 := by omega
      have hbw := byteW (r * 10 / 4294967296) hq
      rw [tail_next hr0 hr1] at hr2 hr3
      have hb1 := hr5
      have hrI : (0 : Int) < (r : Int) := by omega
      go_wp2_with (first | (go_at_call 30; refine (writeByte_k _ _ _ _ _ hr5 (by rw [bc_len]; simp at hr2; omega) hr4).mono ?_))
      rintro e w5 ⟨rfl, h5, b5, k5⟩
      go_wp2
      have hmk : bits .and .u64 ((r : Int) * 10) 4294967295 = ((r * 10 % 4294967296 : Nat) : Int) := by
        have := maskN (r * 10) (by omega)
        rwa [Int.natCast_mul] at this
      obtain ⟨g1, g2, g3⟩ := tz_step hr0 hr1
      rw [hmk]
      refine ⟨⟨br.trans (b5.mono ss), r * 10 % 4294967296, d ++ [UInt8.ofNat (48 + r * 10 / 4294967296)], rfl, Nat.mod_lt _ (by decide), by simp at hr2 ⊢; omega, by rw [← hr3]; simp, by have := h5.lt; omega, ?_⟩, ?_⟩
      · rw [← cells_app]
        have e : Lib.byteCells [UInt8.ofNat (48 + r * 10 / 4294967296)] = [.int .u8 (IntKind.u8.wrap (48 + ((r * 10 / 4294967296 : Nat) : Int)))] := by rw [hbw]; rfl
        rw [e]
        have e2 : IntKind.u8.wrap (48 + ((r * 10 / 4294967296 : Nat) : Int)) = 48 + (r : Int) * 10 / 4294967296 := by
          rw [hbw]
          have : (UInt8.ofNat (48 + r * 10 / 4294967296)).toNat = 48 + r * 10 / 4294967296 := by
            rw [UInt8.toNat_ofNat']; omega
          rw [this]; omega
        rw [e2]
        exact .inr h5
      · show 33 - tz 32 (((r * 10 % 4294967296 : Nat) : Int)).toNat < 33 - tz 32 ((r : Int)).toNat
        rw [Int.toNat_natCast, Int.toNat_natCast]
        omega
    · obtain rfl : r = 0 := by omega
      rw [tail_zero, List.append_nil] at hr3
      subst hr3
      go_wp2_with (go_at_call 33; refine (Tryz.Builder_String_any_k ws.heap.size ws.heap.size _ _ hr5 hr4).mono ?_)
      rintro e w6 ⟨rfl, h6, b6, k6⟩
      go_wp2
      go_ret
      exact ⟨rfl, br.trans (b6.mono ss)⟩
set_option maxHeartbeats 4000000 in
set_option maxRecDepth 1000000 in
theorem text_pos_some (n : Int) (hn : I64 n) (hv : -9223372036854775807 ≤ n) (hneg : ¬ n < 0) (m : Nat) (hm : absI n = (m : Int)) (hm1 : m ≤ 9223372036854775807) (h0 : 0 < m % 4294967296) (w : World) (htab : TabB w.heap.size w) :
    Calls Tryz.prog 7 #[.int .i64 n] w fun e w' => e = .returned (.string ⟨(textN m false).toArray⟩) ∧ Below w.heap.size w w' := by
  have hmask := maskN m hm1
  have hdl := dec_len m hm1
  have hz : (⟨(Lib.decDigits (m / 4294967296)).toArray⟩ : ByteArray).size = (Lib.decDigits (m / 4294967296)).length := by show (Lib.decDigits (m / 4294967296)).toArray.size = _; simp
  go_enter Tryz.func7, Tryz.ntmps7
  go_wp2_with (first | (go_at_call 28; refine (valid_any _ _).mono ?_; rintro e wv ⟨rfl, bv⟩; rw [show decide (-9223372036854775807 ≤ n) = true from decide_eq_true hv]))
  go_wp2_with (first | (go_at_call 29; refine (psize_any _ _ hn).mono ?_; rintro e ws ⟨rfl, bs⟩; rw [hm]))
  replace bs := bv.trans (bs.mono bv.size)
  have ss := bs.size
  obtain ⟨w1, hw1⟩ : ∃ w1, w1 = ws.alloc (.cells #[.pointer none, .slice none 0 0] 66) := ⟨_, rfl⟩
  have h1 : IsB ws.heap.size ws.heap.size [] w1 := by rw [hw1]; exact Lib.IsBuilderF.of (Lib.fresh_isBuilder 66 5 _)
  have s1 : ws.heap.size ≤ w1.heap.size := by rw [hw1]; simp [World.size_alloc]
  have b1' : Below w.heap.size w w1 := by rw [hw1]; exact bs.trans (((Below.refl ws.heap.size ws).alloc (Nat.le_refl _) _).mono ss)
  go_wp2_with (first | (go_at_call 32; rw [← hw1]; refine (fmtU2 (m / 4294967296) (by omega) _ (fun w' hb => htab w' (b1'.trans (hb.mono b1'.size)))).mono ?_))
  rintro e wf ⟨rfl, k, os, rfl⟩
  have b2 := b1'.trans (Lib.below_grow w.heap.size w1 b1'.size k os)
  have h2 : IsB ws.heap.size ws.heap.size (Lib.byteCells []) _ := isB_grow h1 k os
  have s2 := Lib.size_grow w1 k os
  generalize grow (w1.drewN k) os = wg at b2 h2 s2 ⊢
  go_wp2_with (first | (go_at_call 31; refine (writeString_k _ _ _ _ _ h2 (by rw [hz, bc_len]; simp; omega) (by omega)).mono ?_))
  rintro e w2 ⟨rfl, h3, b3, k3⟩
  replace b3 := b2.trans (b3.mono ss)
  have h3' : IsB ws.heap.size ws.heap.size (Lib.byteCells ([] ++ Lib.decDigits (m / 4294967296))) w2 := .inr h3
  have s3 := b3.size
  have sw : ws.heap.size ≤ w2.heap.size := Nat.le_of_lt h3.lt
  clear h3 h2 b2
  obtain ⟨p, hp⟩ : ∃ p, p = [] ++ Lib.decDigits (m / 4294967296) := ⟨_, rfl⟩
  have hpl : p.length ≤ 30 := by rw [hp]; simp; omega
  rw [← hp] at h3'
  go_wp2_with (first | (go_at_call 30; refine (writeByte_k _ _ _ 46 _ h3' (by rw [bc_len]; omega) sw).mono ?_))
  rintro e w3 ⟨rfl, h4, b4, k4⟩
  replace b4 := b3.trans (b4.mono ss)
  have h4' : IsB ws.heap.size ws.heap.size (Lib.byteCells (p ++ [46])) w3 := by rw [← cells_app]; exact .inr h4
  have hfin : p ++ [46] ++ tailF 32 (m % 4294967296) = textN m false := by rw [hp]; unfold textN; rw [if_neg (show ¬ m % 4294967296 = 0 by omega)]; simp
  clear h4 h3' k3
  go_wp2
  go_loopw [5] (fun i wr => Below w.heap.size w wr ∧ ∃ (r : Nat) (d : List UInt8), i = .int .u64 (r : Int) ∧ r < 4294967296 ∧ d.length + (tailF 32 r).length ≤ 100 ∧ d ++ tailF 32 r = textN m false ∧ ws.heap.size ≤ wr.heap.size ∧ IsB ws.heap.size ws.heap.size (Lib.byteCells d) wr) (fun i _ => 33 - tz 32 (intOf i).toNat)
  case atStart => exact ⟨b4, m % 4294967296, _, by rw [Int.natCast_emod]; rfl, Nat.mod_lt _ (by decide), by have := tail_len 32 (m % 4294967296); simp; omega, hfin, by have := b4.size; have := h4'.elim (fun x => x.lt) (fun x => x.lt); omega, h4'⟩
  case round =>
    obtain ⟨br, r, d, rfl, hr1, hr2, hr3, hr4, hr5⟩ := hrel
    by_cases hr0 : 0 < r
    · have hq : r * 10 / 4294967296 < 10 := by omega
      have hbw := byteW (r * 10 / 4294967296) hq
      rw [tail_next hr0 hr1] at hr2 hr3
      have hb1 := hr5
      have hrI : (0 : Int) < (r : Int) := by omega
      go_wp2_with (first | (go_at_call 30; refine (writeByte_k _ _ _ _ _ hr5 (by rw [bc_len]; simp at hr2; omega) hr4).mono ?_))
      rintro e w5 ⟨rfl, h5, b5, k5⟩
      go_wp2
      have hmk : bits .and .u64 ((r : Int) * 10) 4294967295 = ((r * 10 % 4294967296 : Nat) : Int) := by
        have := maskN (r * 10) (by omega)
        rwa [Int.natCast_mul] at this
      obtain ⟨g1, g2, g3⟩ := tz_step hr0 hr1
      rw [hmk]
      refine ⟨⟨br.trans (b5.mono ss), r * 10 % 4294967296, d ++ [UInt8.ofNat (48 + r * 10 / 4294967296)], rfl, Nat.mod_lt _ (by decide), by simp at hr2 ⊢; omega, by rw [← hr3]; simp, by have := h5.lt; omega, ?_⟩, ?_⟩
      · rw [← cells_app]
        have e : Lib.byteCells [UInt8.ofNat (48 + r * 10 / 4294967296)] = [.int .u8 (IntKind.u8.wrap (48 + ((r * 10 / 4294967296 : Nat) : Int)))] := by rw [hbw]; rfl
        rw [e]
        have e2 : IntKind.u8.wrap (48 + ((r * 10 / 4294967296 : Nat) : Int)) = 48 + (r : Int) * 10 / 4294967296 := by
          rw [hbw]
          have : (UInt8.ofNat (48 + r * 10 / 4294967296)).toNat = 48 + r * 10 / 4294967296 := by
            rw [UInt8.toNat_ofNat']; omega
          rw [this]; omega
        rw [e2]
        exact .inr h5
      · show 33 - tz 32 (((r * 10 % 4294967296 : Nat) : Int)).toNat < 33 - tz 32 ((r : Int)).toNat
        rw [Int.toNat_natCast, Int.toNat_natCast]
        omega
    · obtain rfl : r = 0 := by omega
      rw [tail_zero, List.append_nil] at hr3
      subst hr3
      go_wp2_with (go_at_call 33; refine (Tryz.Builder_String_any_k ws.heap.size ws.heap.size _ _ hr5 hr4).mono ?_)
      rintro e w6 ⟨rfl, h6, b6, k6⟩
      go_wp2
      go_ret
      exact ⟨rfl, br.trans (b6.mono ss)⟩
set_option maxHeartbeats 4000000 in
set_option maxRecDepth 1000000 in
theorem text_neg_none (n : Int) (hn : I64 n) (hv : -9223372036854775807 ≤ n) (hneg : n < 0) (m : Nat) (hm : absI n = (m : Int)) (hm1 : m ≤ 9223372036854775807) (h0 : m % 4294967296 = 0) (w : World) (htab : TabB w.heap.size w) :
    Calls Tryz.prog 7 #[.int .i64 n] w fun e w' => e = .returned (.string ⟨(textN m true).toArray⟩) ∧ Below w.heap.size w w' := by
  have hmask := maskN m hm1
  have hdl := dec_len m hm1
  have hz : (⟨(Lib.decDigits (m / 4294967296)).toArray⟩ : ByteArray).size = (Lib.decDigits (m / 4294967296)).length := by show (Lib.decDigits (m / 4294967296)).toArray.size = _; simp
  go_enter Tryz.func7, Tryz.ntmps7
  go_wp2_with (first | (go_at_call 28; refine (valid_any _ _).mono ?_; rintro e wv ⟨rfl, bv⟩; rw [show decide (-9223372036854775807 ≤ n) = true from decide_eq_true hv]))
  go_wp2_with (first | (go_at_call 29; refine (psize_any _ _ hn).mono ?_; rintro e ws ⟨rfl, bs⟩; rw [hm]))
  replace bs := bv.trans (bs.mono bv.size)
  have ss := bs.size
  go_wp2_with (first | (go_at_call 30; refine (writeByte_k _ _ [] 45 _ (Lib.IsBuilderF.of (Lib.fresh_isBuilder 66 5 _)) (by decide) (by simp)).mono ?_))
  rintro e w1 ⟨rfl, h1, b1, k1⟩
  have s1 := b1.size
  simp only [World.size_alloc] at s1
  have b1' := bs.trans (((Below.refl ws.heap.size ws).alloc (Nat.le_refl _) _).trans b1 |>.mono ss)
  go_wp2_with (first | (go_at_call 32; refine (fmtU2 (m / 4294967296) (by omega) _ (fun w' hb => htab w' (b1'.trans (hb.mono b1'.size)))).mono ?_))
  rintro e wf ⟨rfl, k, os, rfl⟩
  have b2 := b1'.trans (Lib.below_grow w.heap.size w1 b1'.size k os)
  have h2 : IsB ws.heap.size ws.heap.size (Lib.byteCells [45]) _ := isB_grow (.inr h1) k os
  have s2 := Lib.size_grow w1 k os
  generalize grow (w1.drewN k) os = wg at b2 h2 s2 ⊢
  go_wp2_with (first | (go_at_call 31; refine (writeString_k _ _ _ _ _ h2 (by rw [hz, bc_len]; simp; omega) (by omega)).mono ?_))
  rintro e w2 ⟨rfl, h3, b3, k3⟩
  replace b3 := b2.trans (b3.mono ss)
  have h3' : IsB ws.heap.size ws.heap.size (Lib.byteCells ([45] ++ Lib.decDigits (m / 4294967296))) w2 := .inr h3
  have s3 := b3.size
  have sw : ws.heap.size ≤ w2.heap.size := Nat.le_of_lt h3.lt
  clear h3 h2 b2
  obtain ⟨p, hp⟩ : ∃ p, p = [45] ++ Lib.decDigits (m / 4294967296) := ⟨_, rfl⟩
  have hpl : p.length ≤ 30 := by rw [hp]; simp; omega
  rw [← hp] at h3'
  have hm0 : ((m : Int) % 4294967296) = 0 := by omega
  have hfin : p = textN m true := by rw [hp]; unfold textN; rw [if_pos h0]; simp
  go_wp2
  go_loopw [5] (fun i wr => Below w.heap.size w wr ∧ ∃ (r : Nat) (d : List UInt8), i = .int .u64 (r : Int) ∧ r < 4294967296 ∧ d.length + (tailF 32 r).length ≤ 100 ∧ d ++ tailF 32 r = textN m true ∧ ws.heap.size ≤ wr.heap.size ∧ IsB ws.heap.size ws.heap.size (Lib.byteCells d) wr) (fun i _ => 33 - tz 32 (intOf i).toNat)
  case atStart => exact ⟨b3, 0, p, rfl, by decide, by rw [tail_zero]; simp; omega, by rw [tail_zero, List.append_nil]; exact hfin, sw, h3'⟩
  case round =>
    obtain ⟨br, r, d, rfl, hr1, hr2, hr3, hr4, hr5⟩ := hrel
    by_cases hr0 : 0 < r
    · have hq : r * 10 / 4294967296 < 10 := by omega
      have hbw := byteW (r * 10 / 4294967296) hq
      rw [tail_next hr0 hr1] at hr2 hr3
      have hb1 := hr5
      have hrI : (0 : Int) < (r : Int) := by omega
      go_wp2_with (first | (go_at_call 30; refine (writeByte_k _ _ _ _ _ hr5 (by rw [bc_len]; simp at hr2; omega) hr4).mono ?_))
      rintro e w5 ⟨rfl, h5, b5, k5⟩
      go_wp2
      have hmk : bits .and .u64 ((r : Int) * 10) 4294967295 = ((r * 10 % 4294967296 : Nat) : Int) := by
        have := maskN (r * 10) (by omega)
        rwa [Int.natCast_mul] at this
      obtain ⟨g1, g2, g3⟩ := tz_step hr0 hr1
      rw [hmk]
      refine ⟨⟨br.trans (b5.mono ss), r * 10 % 4294967296, d ++ [UInt8.ofNat (48 + r * 10 / 4294967296)], rfl, Nat.mod_lt _ (by decide), by simp at hr2 ⊢; omega, by rw [← hr3]; simp, by have := h5.lt; omega, ?_⟩, ?_⟩
      · rw [← cells_app]
        have e : Lib.byteCells [UInt8.ofNat (48 + r * 10 / 4294967296)] = [.int .u8 (IntKind.u8.wrap (48 + ((r * 10 / 4294967296 : Nat) : Int)))] := by rw [hbw]; rfl
        rw [e]
        have e2 : IntKind.u8.wrap (48 + ((r * 10 / 4294967296 : Nat) : Int)) = 48 + (r : Int) * 10 / 4294967296 := by
          rw [hbw]
          have : (UInt8.ofNat (48 + r * 10 / 4294967296)).toNat = 48 + r * 10 / 4294967296 := by
            rw [UInt8.toNat_ofNat']; omega
          rw [this]; omega
        rw [e2]
        exact .inr h5
      · show 33 - tz 32 (((r * 10 % 4294967296 : Nat) : Int)).toNat < 33 - tz 32 ((r : Int)).toNat
        rw [Int.toNat_natCast, Int.toNat_natCast]
        omega
    · obtain rfl : r = 0 := by omega
      rw [tail_zero, List.append_nil] at hr3
      subst hr3
      go_wp2_with (go_at_call 33; refine (Tryz.Builder_String_any_k ws.heap.size ws.heap.size _ _ hr5 hr4).mono ?_)
      rintro e w6 ⟨rfl, h6, b6, k6⟩
      go_wp2
      go_ret
      exact ⟨rfl, br.trans (b6.mono ss)⟩
set_option maxHeartbeats 4000000 in
set_option maxRecDepth 1000000 in
theorem text_pos_none (n : Int) (hn : I64 n) (hv : -9223372036854775807 ≤ n) (hneg : ¬ n < 0) (m : Nat) (hm : absI n = (m : Int)) (hm1 : m ≤ 9223372036854775807) (h0 : m % 4294967296 = 0) (w : World) (htab : TabB w.heap.size w) :
    Calls Tryz.prog 7 #[.int .i64 n] w fun e w' => e = .returned (.string ⟨(textN m false).toArray⟩) ∧ Below w.heap.size w w' := by
  have hmask := maskN m hm1
  have hdl := dec_len m hm1
  have hz : (⟨(Lib.decDigits (m / 4294967296)).toArray⟩ : ByteArray).size = (Lib.decDigits (m / 4294967296)).length := by show (Lib.decDigits (m / 4294967296)).toArray.size = _; simp
  go_enter Tryz.func7, Tryz.ntmps7
  go_wp2_with (first | (go_at_call 28; refine (valid_any _ _).mono ?_; rintro e wv ⟨rfl, bv⟩; rw [show decide (-9223372036854775807 ≤ n) = true from decide_eq_true hv]))
  go_wp2_with (first | (go_at_call 29; refine (psize_any _ _ hn).mono ?_; rintro e ws ⟨rfl, bs⟩; rw [hm]))
  replace bs := bv.trans (bs.mono bv.size)
  have ss := bs.size
  obtain ⟨w1, hw1⟩ : ∃ w1, w1 = ws.alloc (.cells #[.pointer none, .slice none 0 0] 66) := ⟨_, rfl⟩
  have h1 : IsB ws.heap.size ws.heap.size [] w1 := by rw [hw1]; exact Lib.IsBuilderF.of (Lib.fresh_isBuilder 66 5 _)
  have s1 : ws.heap.size ≤ w1.heap.size := by rw [hw1]; simp [World.size_alloc]
  have b1' : Below w.heap.size w w1 := by rw [hw1]; exact bs.trans (((Below.refl ws.heap.size ws).alloc (Nat.le_refl _) _).mono ss)
  go_wp2_with (first | (go_at_call 32; rw [← hw1]; refine (fmtU2 (m / 4294967296) (by omega) _ (fun w' hb => htab w' (b1'.trans (hb.mono b1'.size)))).mono ?_))
  rintro e wf ⟨rfl, k, os, rfl⟩
  have b2 := b1'.trans (Lib.below_grow w.heap.size w1 b1'.size k os)
  have h2 : IsB ws.heap.size ws.heap.size (Lib.byteCells []) _ := isB_grow h1 k os
  have s2 := Lib.size_grow w1 k os
  generalize grow (w1.drewN k) os = wg at b2 h2 s2 ⊢
  go_wp2_with (first | (go_at_call 31; refine (writeString_k _ _ _ _ _ h2 (by rw [hz, bc_len]; simp; omega) (by omega)).mono ?_))
  rintro e w2 ⟨rfl, h3, b3, k3⟩
  replace b3 := b2.trans (b3.mono ss)
  have h3' : IsB ws.heap.size ws.heap.size (Lib.byteCells ([] ++ Lib.decDigits (m / 4294967296))) w2 := .inr h3
  have s3 := b3.size
  have sw : ws.heap.size ≤ w2.heap.size := Nat.le_of_lt h3.lt
  clear h3 h2 b2
  obtain ⟨p, hp⟩ : ∃ p, p = [] ++ Lib.decDigits (m / 4294967296) := ⟨_, rfl⟩
  have hpl : p.length ≤ 30 := by rw [hp]; simp; omega
  rw [← hp] at h3'
  have hm0 : ((m : Int) % 4294967296) = 0 := by omega
  have hfin : p = textN m false := by rw [hp]; unfold textN; rw [if_pos h0]; simp
  go_wp2
  go_loopw [5] (fun i wr => Below w.heap.size w wr ∧ ∃ (r : Nat) (d : List UInt8), i = .int .u64 (r : Int) ∧ r < 4294967296 ∧ d.length + (tailF 32 r).length ≤ 100 ∧ d ++ tailF 32 r = textN m false ∧ ws.heap.size ≤ wr.heap.size ∧ IsB ws.heap.size ws.heap.size (Lib.byteCells d) wr) (fun i _ => 33 - tz 32 (intOf i).toNat)
  case atStart => exact ⟨b3, 0, p, rfl, by decide, by rw [tail_zero]; simp; omega, by rw [tail_zero, List.append_nil]; exact hfin, sw, h3'⟩
  case round =>
    obtain ⟨br, r, d, rfl, hr1, hr2, hr3, hr4, hr5⟩ := hrel
    by_cases hr0 : 0 < r
    · have hq : r * 10 / 4294967296 < 10 := by omega
      have hbw := byteW (r * 10 / 4294967296) hq
      rw [tail_next hr0 hr1] at hr2 hr3
      have hb1 := hr5
      have hrI : (0 : Int) < (r : Int) := by omega
      go_wp2_with (first | (go_at_call 30; refine (writeByte_k _ _ _ _ _ hr5 (by rw [bc_len]; simp at hr2; omega) hr4).mono ?_))
      rintro e w5 ⟨rfl, h5, b5, k5⟩
      go_wp2
      have hmk : bits .and .u64 ((r : Int) * 10) 4294967295 = ((r * 10 % 4294967296 : Nat) : Int) := by
        have := maskN (r * 10) (by omega)
        rwa [Int.natCast_mul] at this
      obtain ⟨g1, g2, g3⟩ := tz_step hr0 hr1
      rw [hmk]
      refine ⟨⟨br.trans (b5.mono ss), r * 10 % 4294967296, d ++ [UInt8.ofNat (48 + r * 10 / 4294967296)], rfl, Nat.mod_lt _ (by decide), by simp at hr2 ⊢; omega, by rw [← hr3]; simp, by have := h5.lt; omega, ?_⟩, ?_⟩
      · rw [← cells_app]
        have e : Lib.byteCells [UInt8.ofNat (48 + r * 10 / 4294967296)] = [.int .u8 (IntKind.u8.wrap (48 + ((r * 10 / 4294967296 : Nat) : Int)))] := by rw [hbw]; rfl
        rw [e]
        have e2 : IntKind.u8.wrap (48 + ((r * 10 / 4294967296 : Nat) : Int)) = 48 + (r : Int) * 10 / 4294967296 := by
          rw [hbw]
          have : (UInt8.ofNat (48 + r * 10 / 4294967296)).toNat = 48 + r * 10 / 4294967296 := by
            rw [UInt8.toNat_ofNat']; omega
          rw [this]; omega
        rw [e2]
        exact .inr h5
      · show 33 - tz 32 (((r * 10 % 4294967296 : Nat) : Int)).toNat < 33 - tz 32 ((r : Int)).toNat
        rw [Int.toNat_natCast, Int.toNat_natCast]
        omega
    · obtain rfl : r = 0 := by omega
      rw [tail_zero, List.append_nil] at hr3
      subst hr3
      go_wp2_with (go_at_call 33; refine (Tryz.Builder_String_any_k ws.heap.size ws.heap.size _ _ hr5 hr4).mono ?_)
      rintro e w6 ⟨rfl, h6, b6, k6⟩
      go_wp2
      go_ret
      exact ⟨rfl, br.trans (b6.mono ss)⟩
set_option maxHeartbeats 4000000 in
set_option maxRecDepth 1000000 in
/-- span.Text, any number. -/
theorem text_any (n : Int) (hn : I64 n) (w : World) (htab : TabB w.heap.size w) : Calls Tryz.prog 7 #[.int .i64 n] w (Vc.Ret (.string ⟨(textV n).toArray⟩) w) := by
  by_cases hv : -9223372036854775807 ≤ n
  · obtain ⟨h1, h2⟩ := hn
    have hm : absI n = ((n.natAbs : Nat) : Int) := by unfold absI; split <;> omega
    have e : textV n = textN n.natAbs (decide (n < 0)) := if_pos hv
    rw [e]
    by_cases hneg : n < 0
    · rw [decide_eq_true hneg]
      by_cases h0 : n.natAbs % 4294967296 = 0
      · exact text_neg_none n ⟨h1, h2⟩ hv hneg _ hm (by omega) h0 w htab
      · exact text_neg_some n ⟨h1, h2⟩ hv hneg _ hm (by omega) (by omega) w htab
    · rw [decide_eq_false hneg]
      by_cases h0 : n.natAbs % 4294967296 = 0
      · exact text_pos_none n ⟨h1, h2⟩ hv hneg _ hm (by omega) h0 w htab
      · exact text_pos_some n ⟨h1, h2⟩ hv hneg _ hm (by omega) (by omega) w htab
  · exact text_no n hn hv w
end Go.Proofs.YtcoakpdafpclpaaGreatDoor
