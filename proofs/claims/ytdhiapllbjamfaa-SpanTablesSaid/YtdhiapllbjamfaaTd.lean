/- Contracts: what a table has at a span, by the reference; the law SpanTables. -/
import Derived.Test.YtdhiapllbjamfaaTc
set_option linter.unusedVariables false
set_option linter.unusedSimpArgs false
namespace Go.Proofs.Ytdhiapllbjamfaa
open Go Go.RowKit Ul Vc
attribute [local irreducible] Go.Calls

def num1 (x : Int) : List Value := [.int .i64 x]
theorem num1_len (x : Int) : (num1 x).length = 1 := rfl
theorem rLook {w : World} {v : Value} {l : List Pt} (h : Tab w v l) (hl : ∀ p ∈ l, I64 p.1) (a b : Int) (ha : I64 a) (hbb : I64 b) : Calls Try.prog 56 #[v, Vc.S a b] w (Vc.Ret (Vc.RV (look l a b)) w) := by
  have h0 := h
  obtain ⟨b0, p0, x1, rfl, hb, hc⟩ := tab_form h
  clear h
  refine vc_ullageref01_Look p0 (l.length : Int) x1 a b b0 w _ ?_
  (repeat apply Exists.intro); refine And.intro (fun _ _ => rchkT (sl_below (by assumption) h0)) ?_
  refine iteI (fun h1 => ?_) (fun h1 => ?_)
  · obtain ⟨k0, k1, kg⟩ := chkT_ok h1
    have nb0 : ¬ (b0 = true) := fun hb0 => by have := hb hb0; omega
    have nb : (¬ (b0 = true)) ∨ ((l.length : Int) = 0) := .inl nb0
    (repeat apply Exists.intro); refine And.intro (fun _ _ => rcheck_any _ _ _) ?_
    refine iteI (fun h2 => ?_) (fun h2 => ?_)
    · refine ⟨fun y => ∃ i : Nat, i ≤ l.length ∧ y = [.l ((plc l a b i).flatMap num1), .i (i : Int)], upTo2 (l.length : Int), ⟨0, by omega, rfl⟩, ?_⟩
      rintro l0 x6 ⟨i, hi, hy⟩
      simp only [List.cons.injEq, Vc.Vl.i.injEq, Vc.Vl.l.injEq, and_true] at hy
      obtain ⟨e0, rfl⟩ := hy
      have hlen : l0.length = (plc l a b i).length := by
        have := congrArg List.length e0
        rw [List.length_append, List.length_map, flat_len num1_len] at this
        simpa using this
      have hl2 := plc_len l a b i
      refine ⟨by omega, nb, ?_⟩
      refine iteI (fun h3 => ?_) (fun h3 => ?_)
      · have hlt : i < l.length := by omega
        have hp := List.getElem?_eq_getElem hlt
        generalize l[i] = p at hp
        obtain ⟨c0, c1, c2⟩ := hc i p hp
        refine ⟨nb0, by omega, by omega, _, c0, ?_⟩
        refine iteI (fun h4 => ?_) (fun h4 => ?_)
        · refine ⟨nb0, by omega, by omega, _, c0, ?_⟩
          refine iteI (fun h5 => ?_) (fun h5 => ?_)
          · refine ⟨nb0, by omega, by omega, _, c0, ?_⟩
            rintro _ rfl
            refine ⟨by omega, ?_⟩
            rintro _ rfl
            rw [wrap_up i (by omega)]
            refine ⟨⟨i + 1, by omega, ?_⟩, by simp only [upTo2]; omega⟩
            rw [plc_in hp h4 h5, List.flatMap_append]
            simp only [List.append_nil] at e0
            rw [e0]
            rfl
          · rintro _ rfl
            rw [wrap_up i (by omega)]
            refine ⟨⟨i + 1, by omega, ?_⟩, by simp only [upTo2]; omega⟩
            rw [plc_out hp (by omega), e0]
        · rintro _ rfl
          rw [wrap_up i (by omega)]
          refine ⟨⟨i + 1, by omega, ?_⟩, by simp only [upTo2]; omega⟩
          rw [plc_out hp (by omega), e0]
      · obtain rfl : i = l.length := by omega
        have hI := plc_i64 (i := l.length) hl ha hbb
        have hlook : look l a b = fit (minL ((plc l a b l.length).map fun x => (lineV l false x).1)) (maxL ((plc l a b l.length).map fun x => (lineV l true x).2)) := if_pos ⟨h1, h2⟩
        have b1 : ∀ y ∈ (plc l a b l.length).map fun x => (lineV l false x).1, -42535295865117307932921825928971026432 ≤ y ∧ y ≤ 42535295865117307932921825928971026432 := fun y hy => by
          obtain ⟨x, hx, rfl⟩ := List.mem_map.1 hy
          exact (val_bd h1 false x (hI x hx)).2.1
        have b2 : ∀ y ∈ (plc l a b l.length).map fun x => (lineV l true x).2, -42535295865117307932921825928971026432 ≤ y ∧ y ≤ 42535295865117307932921825928971026432 := fun y hy => by
          obtain ⟨x, hx, rfl⟩ := List.mem_map.1 hy
          exact (val_bd h1 true x (hI x hx)).2.2
        have hpos : 2 ≤ (plc l a b l.length).length := by unfold plc; simp
        rw [hlook]
        clear hlook
        generalize plc l a b l.length = pl at *
        have hN : (((0 + (l0.length + 0)) / 1 : Nat) : Int) = (pl.length : Int) := by rw [hlen]; simp
        rw [hN]
        have cell : ∀ (k : Nat) (x : Int), pl[k]? = some x → (l0.map (·.1) ++ ([] : List Value))[k * 1 + 0]? = some (.int .i64 x) := fun k x hk => by
          rw [e0]; exact flat_at num1_len hk (by decide)
        refine ⟨fun y => ∃ (k : Nat) (lo hi : Int), k ≤ pl.length ∧ (k = 0 → lo = 0 ∧ hi = 0) ∧ (0 < k → lo = minL ((pl.take k).map fun x => (lineV l false x).1) ∧ hi = maxL ((pl.take k).map fun x => (lineV l true x).2)) ∧ y = [.i (k : Int), .i (hiW lo), .i (loW lo), .i (hiW hi), .i (loW hi)],
          upTo (pl.length : Int), ⟨0, 0, 0, by omega, fun _ => ⟨rfl, rfl⟩, fun h => by omega, by simp only [hiW_0, loW_0]; rfl⟩, ?_⟩
        rintro x7 x8 x9 x10 x11 ⟨k, lo, hi, hk, hz, hm, hy⟩
        simp only [List.cons.injEq, Vc.Vl.i.injEq, and_true] at hy
        obtain ⟨rfl, rfl, rfl, rfl, rfl⟩ := hy
        rintro _ rfl
        refine iteI (fun h4 => ?_) (fun h4 => ?_)
        · have hkl : k < pl.length := by omega
          have hx := List.getElem?_eq_getElem hkl
          generalize pl[k] = x at hx
          have hxI := hI x (List.mem_of_getElem? hx)
          have htk : pl.take (k + 1) = pl.take k ++ [x] := by rw [List.take_add_one, hx]; rfl
          rintro _ rfl
          refine ⟨by omega, by omega, _, cell k x hx, ?_⟩
          (repeat apply Exists.intro); refine And.intro (fun _ _ => rline (sl_below (by assumption) h0) h1 false x hxI) ?_
          rintro _ rfl
          refine ⟨by omega, by omega, _, cell k x hx, ?_⟩
          (repeat apply Exists.intro); refine And.intro (fun _ _ => rline (sl_below (by assumption) h0) h1 true x hxI) ?_
          refine iteI (fun h5 => ?_) (fun h5 => ?_)
          · refine iteI (fun _ => ?_) (fun h6 => absurd h5 h6)
            rintro _ rfl
            rw [wrap_up k (by omega)]
            obtain rfl : k = 0 := by omega
            refine ⟨⟨1, (lineV l false x).1, (lineV l true x).2, by omega, fun h => by omega, fun _ => ?_, rfl⟩, by simp only [upTo]; omega⟩
            rw [show (1 : Nat) = 0 + 1 from rfl, htk]
            simp [minL, maxL]
          · have hk0 : 0 < k := by omega
            obtain ⟨m1, m2⟩ := hm hk0
            have ne1 : (pl.take k).map (fun x => (lineV l false x).1) ≠ [] := by
              intro he
              have := congrArg List.length he
              rw [List.length_map, List.length_take, List.length_nil] at this
              omega
            have ne2 : (pl.take k).map (fun x => (lineV l true x).2) ≠ [] := by
              intro he
              have := congrArg List.length he
              rw [List.length_map, List.length_take, List.length_nil] at this
              omega
            have s1 : minL ((pl.take (k + 1)).map fun x => (lineV l false x).1) = min lo (lineV l false x).1 := by rw [htk, List.map_append, m1]; exact minL_snoc ne1 _
            have s2 : maxL ((pl.take (k + 1)).map fun x => (lineV l true x).2) = max hi (lineV l true x).2 := by rw [htk, List.map_append, m2]; exact maxL_snoc ne2 _
            (repeat apply Exists.intro); refine And.intro (fun _ _ => less_W _ _ _) ?_
            refine iteI (fun c1 => ?_) (fun c1 => ?_)
            all_goals
              refine iteI (fun h6 => absurd h6 h5) (fun _ => ?_)
              (repeat apply Exists.intro); refine And.intro (fun _ _ => less_W _ _ _) ?_
              refine iteI (fun c2 => ?_) (fun c2 => ?_)
              all_goals
                simp only [decide_eq_true_eq] at c1 c2
                rintro _ rfl
                rw [wrap_up k (by omega)]
                refine ⟨⟨k + 1, _, _, by omega, fun h => by omega, fun _ => ⟨?_, ?_⟩, rfl⟩, by simp only [upTo]; omega⟩
                · rw [s1]; omega
                · rw [s2]; omega
        · have hkl : k = pl.length := by omega
          obtain ⟨m1, m2⟩ := hm (by omega)
          rw [hkl, List.take_length] at m1 m2
          have g1 := minL_bd (B := 42535295865117307932921825928971026432) (by decide) b1
          have g2 := maxL_bd (B := 42535295865117307932921825928971026432) (by decide) b2
          rw [← m1] at g1
          rw [← m2] at g2
          (repeat apply Exists.intro); refine And.intro (fun _ _ => out_any _ _ _ (by constructor <;> omega) (by constructor <;> omega)) ?_
          rw [m1, m2]
    · unfold look; rw [if_neg (fun hx => h2 hx.2)]
  · unfold look; rw [if_neg (fun hx => h1 hx.1)]
theorem pc_one (p : Pt) : ∀ v ∈ pc p, v.oneCell' = true := by
  intro v hv
  simp only [pc, List.mem_cons, List.not_mem_nil, or_false] at hv
  rcases hv with rfl | rfl | rfl <;> rfl
theorem walk_spanTables {w : World} {v : Value} {l : List Pt} (h : Tab w v l) (hg : ∀ p ∈ l, I64 p.1 ∧ I64 p.2.1 ∧ I64 p.2.2) (a b : Int) (ha : (Lit.int .i64 a).wf = true) (hbb : (Lit.int .i64 b).wf = true) :
    Calls Try.prog 9 #[v, Vc.S a b] w (Vc.Ret (.bool true) w) := by
  have hl : ∀ p ∈ l, I64 p.1 := fun p hp => (hg p hp).1
  replace ha := wf64 ha; replace hbb := wf64 hbb
  have h0 := h
  obtain ⟨b0, p0, x1, rfl, hb, hc⟩ := tab_form h
  clear h
  have nb : (¬ (b0 = true)) ∨ ((l.length : Int) = 0) := by
    by_cases hb0 : b0 = true
    · right; have := hb hb0; omega
    · left; exact hb0
  obtain ⟨L, hL⟩ := ov_list pc_one l
  have hlen : L.length = l.length * 3 := by
    have := congrArg List.length hL
    rwa [List.length_map, flat_len pc_len] at this
  refine vc_ullagelaw01_SpanTables p0 (l.length : Int) x1 a b b0 w _ ?_
  refine ⟨by omega, nb, ?_⟩
  refine iteI (fun h1 => ?_) (fun h1 => ?_)
  · rfl
  · refine ⟨L, by rw [hL]; exact h0, ?_⟩
    rintro _ rfl
    refine ⟨by omega, ?_⟩
    refine ⟨_, _, _, fun _ _ _ hm => pLook (l := l) (by have := own_sl hm.1; rw [List.append_nil, hL] at this; exact this) hl a b ha hbb, ?_⟩
    (repeat apply Exists.intro); refine And.intro (fun _ _ => rLook (sl_below (by assumption) h0) hl a b ha hbb) ?_
    refine ⟨by omega, nb, ?_⟩
    refine ⟨fun y => ∃ (c : Bool) (i : Nat), i ≤ l.length ∧ y = [.b c, .i (i : Int)], upTo2 (l.length : Int), ⟨false, 0, by omega, rfl⟩, ?_⟩
    rintro b1 x11 ⟨c, i, hi, hy⟩
    simp only [List.cons.injEq, Vc.Vl.i.injEq, Vc.Vl.b.injEq, and_true] at hy
    obtain ⟨rfl, rfl⟩ := hy
    refine iteI (fun h2 => ?_) (fun h2 => ?_)
    · have hlt : i < l.length := by omega
      have nb0 : ¬ (b0 = true) := fun hb0 => by have := hb hb0; omega
      have hp := List.getElem?_eq_getElem hlt
      generalize l[i] = p at hp
      obtain ⟨c0, c1, c2⟩ := hc i p hp
      have cell : ∀ (o : Nat) (u : Value), o < 3 → (pc p)[o]? = some u → (L.map (·.1) ++ ([] : List Value))[i * 3 + o]? = some u := fun o u ho hu => by
        rw [List.append_nil, hL, flat_at pc_len hp ho]; exact hu
      rintro _ rfl
      refine ⟨by omega, by omega, _, cell 0 _ (by decide) rfl, _, cell 1 _ (by decide) rfl, _, cell 2 _ (by decide) rfl, nb0, by omega, by omega, _, c0, _, c1, _, c2, ?_⟩
      refine iteI (fun h3 => ?_) (fun h3 => ?_)
      · rintro _ rfl
        rw [wrap_up i (by omega)]
        exact ⟨⟨_, i + 1, by omega, rfl⟩, by simp only [upTo2]; omega⟩
      · exact absurd ⟨rfl, rfl, rfl⟩ h3
    · (repeat apply Exists.intro); refine And.intro (fun _ _ => pchkT (sl_below (by assumption) h0)) ?_
      (repeat apply Exists.intro); refine And.intro (fun _ _ => rchkT (sl_below (by assumption) h0)) ?_
      refine iteI (fun h3 => ?_) (fun h3 => absurd rfl h3)
      (repeat apply Exists.intro); refine And.intro (fun _ _ => same_eq _ _ _ _) ?_
      simp
end Go.Proofs.Ytdhiapllbjamfaa
