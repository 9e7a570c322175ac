/- Contracts: quotients of spans, both; the law SpanProducts. -/
import Derived.Test.YtdhiapllbjamfaaCw
set_option linter.unusedVariables false
set_option linter.unusedSimpArgs false
namespace Vc
open Go Go.RowKit
theorem row_at {lo b code n base sz k : Nat} {xs : List Value} {t : TypeId} {w : World} (h : RowOk lo b code n base xs sz t w) (hk : xs.length = k * sz) (k0 : 0 < k) :
    ∃ m : Nat, ownV b code n base = .slice (some ⟨b, 0, none⟩) k m ∧ k ≤ m ∧ ∀ j u, xs[j]? = some u → w.cell? ⟨b, j, none⟩ = some u := by
  obtain ⟨h1, h2, h3⟩ := h
  have hn : n = k := Nat.eq_of_mul_eq_mul_right h2 (by rw [← h1, hk])
  subst hn
  rcases h3 with ⟨_, h0⟩ | ⟨c1, c2, c3, c4, c5, cur, c6, c7, c8⟩
  · omega
  · subst c2
    refine ⟨code - 1, ?_, c4, fun j u hj => ?_⟩
    · unfold ownV; rw [if_neg (by omega)]
    · have hlt : j < n * sz := by
        have := (List.getElem?_eq_some_iff.1 hj).1
        omega
      rw [← c8, List.getElem?_take, if_pos hlt] at hj
      simp only [World.cell?, c6]
      simpa using hj
end Vc
namespace Go.Proofs.Ytdhiapllbjamfaa
open Go Go.RowKit Ul Vc
attribute [local irreducible] Go.Calls

/-- A wide number's cells. -/
def c3 (p : Bool × Int) : List Value := [.bool p.1, .int .u64 (hiW p.2), .int .u64 (loW p.2)]
theorem c3_at {ps : List (Bool × Int)} : ∀ {i : Nat} {q : Bool × Int} {o : Nat}, ps[i]? = some q → o < 3 → (ps.flatMap c3)[i * 3 + o]? = (c3 q)[o]? := by
  induction ps with
  | nil => intro i q o h; simp at h
  | cons p ps ih =>
    intro i q o h ho
    rw [List.flatMap_cons]
    have hl : (c3 p).length = 3 := rfl
    cases i with
    | zero =>
      simp only [List.getElem?_cons_zero, Option.some.injEq] at h
      subst h
      rw [List.getElem?_append_left (by omega)]
      simp
    | succ i =>
      rw [List.getElem?_append_right (by omega), ← ih (by simpa using h) ho]
      congr 1
      omega
def upTo (n : Int) : List Vc.Vl → Nat
  | .i x :: _ => (n - x).toNat
  | _ => 0
theorem take_fold {α β : Type} (f : β → α → β) (b : β) {l : List α} {i : Nat} {x : α} (h : l[i]? = some x) : (l.take (i + 1)).foldl f b = f ((l.take i).foldl f b) x := by
  rw [List.take_add_one, h, List.foldl_append]; rfl
theorem nn_fold {f : Bool × Int → Bool × Int → Bool × Int} (hf : ∀ p q, f p q = p ∨ f p q = q) : ∀ (l : List (Bool × Int)) (p : Bool × Int), (∀ q ∈ p :: l, 0 ≤ q.2) → 0 ≤ (l.foldl f p).2
  | [], p, h => h p (by simp)
  | q :: l, p, h => by
    rw [List.foldl_cons]
    refine nn_fold hf l (f p q) fun r hr => ?_
    rcases List.mem_cons.1 hr with rfl | hr
    · rcases hf p q with e | e <;> rw [e] <;> exact h _ (by simp)
    · exact h r (by simp [hr])
theorem bmin_or (p q : Bool × Int) : bmin p q = p ∨ bmin p q = q := by unfold bmin; split <;> simp
theorem bmax_or (p q : Bool × Int) : bmax p q = p ∨ bmax p q = q := by unfold bmax; split <;> simp
/-- The least and the greatest of some wide numbers. -/
theorem hull_list {b m : Nat} (p : Bool × Int) (ps : List (Bool × Int)) {w : World} (hnn : ∀ q ∈ p :: ps, 0 ≤ q.2) (hm : ps.length + 1 ≤ m) (hmm : ps.length < 1000000) (h : ∀ j u, ((p :: ps).flatMap c3)[j]? = some u → w.cell? ⟨b, j, none⟩ = some u) :
    Calls Try.prog 88 #[.slice (some ⟨b, 0, none⟩) (ps.length + 1) m] w (Vc.Ret (.tuple #[VP (ps.foldl bmin p), VP (ps.foldl bmax p)]) w) := by
  have g : ∀ (i : Nat) (q : Bool × Int), (p :: ps)[i]? = some q → w.cell? ⟨b, 0 + i * 3 + 0, none⟩ = some (.bool q.1) ∧ w.cell? ⟨b, 0 + i * 3 + 1, none⟩ = some (.int .u64 (hiW q.2)) ∧ w.cell? ⟨b, 0 + i * 3 + 2, none⟩ = some (.int .u64 (loW q.2)) := fun i q hq => by
    simp only [Nat.zero_add]
    exact ⟨h _ _ (c3_at hq (by decide)), h _ _ (c3_at hq (by decide)), h _ _ (c3_at hq (by decide))⟩
  have g0 := g 0 p rfl
  refine vc_span_hull_n (b, 0) (((ps.length + 1 : Nat) : Nat) : Int) (m : Int) w _ ?_
  refine ⟨by omega, p.1, g0.1, hiW p.2, g0.2.1, loW p.2, g0.2.2, by omega, p.1, g0.1, hiW p.2, g0.2.1, loW p.2, g0.2.2, by omega, by omega, by omega, by omega, ?_⟩
  rintro x6 hx6 x7 hx7
  have ex : x6 = (ps.length : Int) := by omega
  refine iteI (fun hc => ?_) (fun hc => ?_)
  · refine ⟨by omega, ?_⟩
    refine ⟨fun l => ∃ i : Nat, i ≤ ps.length ∧ l = [.i (i : Int), .b ((ps.take i).foldl bmin p).1, .i (hiW ((ps.take i).foldl bmin p).2), .i (loW ((ps.take i).foldl bmin p).2), .b ((ps.take i).foldl bmax p).1, .i (hiW ((ps.take i).foldl bmax p).2), .i (loW ((ps.take i).foldl bmax p).2)],
      upTo (ps.length : Int), ⟨0, by omega, rfl⟩, ?_⟩
    rintro x8 b2 x9 x10 b3 x11 x12 ⟨i, hi0, hl⟩
    simp only [List.cons.injEq, Vc.Vl.i.injEq, Vc.Vl.b.injEq, and_true] at hl
    obtain ⟨rfl, rfl, rfl, rfl, rfl, rfl, rfl⟩ := hl
    refine iteI (fun hi1 => ?_) (fun hi1 => ?_)
    · have hq := List.getElem?_eq_getElem (l := ps) (i := i) (by omega)
      generalize hqe : ps[i] = q at hq
      have n1 := nn_fold bmin_or (ps.take i) p fun r hr => hnn r (by
        rcases List.mem_cons.1 hr with rfl | hr
        · simp
        · exact List.mem_cons_of_mem _ (List.mem_of_mem_take hr))
      have n2 := nn_fold bmax_or (ps.take i) p fun r hr => hnn r (by
        rcases List.mem_cons.1 hr with rfl | hr
        · simp
        · exact List.mem_cons_of_mem _ (List.mem_of_mem_take hr))
      have nq : 0 ≤ q.2 := hnn q (List.mem_cons_of_mem _ (List.mem_of_getElem? hq))
      have g0 := g (i + 1) q (by simpa using hq)
      have t1 := take_fold bmin p hq
      have t2 := take_fold bmax p hq
      generalize (ps.take i).foldl bmin p = lo at *
      generalize (ps.take i).foldl bmax p = hi at *
      have e0 : Int.toNat (1 + (i : Int)) = i + 1 := by omega
      refine ⟨by omega, by omega, ?_⟩
      rintro _ rfl
      rw [e0]
      refine ⟨_, g0.1, _, g0.2.1, _, g0.2.2, ?_⟩
      (repeat apply Exists.intro); refine And.intro (fun _ _ => less_any q lo _ nq n1) ?_
      refine iteI (fun c1 => ?_) (fun c1 => ?_)
      all_goals
        (repeat apply Exists.intro); refine And.intro (fun _ _ => less_any hi q _ n2 nq) ?_
        refine iteI (fun c2 => ?_) (fun c2 => ?_)
        all_goals
          simp only [decide_eq_true_eq] at c1 c2
          rintro _ rfl
          have ew : IntKind.i64.wrap ((i : Int) + 1) = ((i + 1 : Nat) : Int) := by rw [Vc.i64_id (by omega)]; omega
          rw [ew]
          refine ⟨⟨i + 1, by omega, ?_⟩, ?_⟩
          · rw [t1, t2]
            simp only [bmin, bmax, c1, c2, if_true, if_false]
          · simp only [upTo]; omega
    · have : ps.take i = ps := List.take_of_length_le (by omega)
      rw [this]
  · refine ⟨by omega, ?_⟩
    have h0 : ps = [] := List.eq_nil_of_length_eq_zero (by omega)
    refine ⟨fun l => l = [.i 0, .b p.1, .i (hiW p.2), .i (loW p.2), .b p.1, .i (hiW p.2), .i (loW p.2)], fun _ => 0, rfl, ?_⟩
    rintro x8 b2 x9 x10 b3 x11 x12 hl
    simp only [List.cons.injEq, Vc.Vl.i.injEq, Vc.Vl.b.injEq, and_true] at hl
    obtain ⟨rfl, rfl, rfl, rfl, rfl, rfl, rfl⟩ := hl
    refine iteI (fun hi1 => ?_) (fun hi1 => ?_)
    · subst h0; simp at ex; omega
    · subst h0; rfl
/-- The same of a row of the call's own. -/
theorem rowhull {lo b code n base : Nat} (p : Bool × Int) (ps : List (Bool × Int)) {t : TypeId} {w : World} (hnn : ∀ q ∈ p :: ps, 0 ≤ q.2) (hmm : ps.length < 1000000) (h : RowOk lo b code n base ((p :: ps).flatMap c3) 3 t w) :
    Calls Try.prog 88 #[ownV b code n base] w (Vc.Ret (.tuple #[VP (ps.foldl bmin p), VP (ps.foldl bmax p)]) w) := by
  have hlen : ∀ l : List (Bool × Int), (l.flatMap c3).length = l.length * 3 := by
    intro l
    induction l with
    | nil => rfl
    | cons a l ih => rw [List.flatMap_cons, List.length_append, ih]; simp [c3]; omega
  obtain ⟨m, h1, h2, h3⟩ := row_at (k := ps.length + 1) h (by rw [hlen]; rfl) (by omega)
  rw [h1]
  exact hull_list p ps hnn h2 hmm h3

/-- A quotient of two numbers: sign and size, rounded down, and up. -/
def qd (a c : Int) : Bool × Int := (decide (a < 0) != decide (c < 0), qdn (decide (a < 0) != decide (c < 0)) (absI a * 4294967296) (absI c))
def qu (a c : Int) : Bool × Int := (decide (a < 0) != decide (c < 0), qup (decide (a < 0) != decide (c < 0)) (absI a * 4294967296) (absI c))
theorem qd_sv (a c : Int) (h0 : c ≠ 0) : svp (qd a c) = rdn a c ∧ svp (qu a c) = rup a c := by
  unfold svp qd qu
  rw [(q_sv _ _ _).1, (q_sv _ _ _).2]
  exact r_sv a c h0
theorem qd_bd (a c : Int) (ha : I64 a) (h0 : c ≠ 0) : (0 ≤ (qd a c).2 ∧ (qd a c).2 ≤ 39614081257132168796771975169) ∧ (0 ≤ (qu a c).2 ∧ (qu a c).2 ≤ 39614081257132168796771975169) := by
  have xa := absI_bd a ha.1 ha.2
  have xc : 0 < absI c := by unfold absI; split <;> omega
  have q := qdn_0 (decide (a < 0) != decide (c < 0)) (absI a * 4294967296) (absI c) (by omega) xc
  unfold qd qu
  constructor <;> constructor <;> simp only <;> omega
theorem pquo_any (a c : Int) (w : World) (ha : I64 a) (hc : I64 c) (h0 : c ≠ 0) : Calls Try.prog 95 #[.int .i64 a, .int .i64 c] w (Vc.Ret (.tuple #[VP (qd a c), VP (qu a c)]) w) := pratio_any a c w ha hc h0
theorem pdiv_any (a b c d : Int) (w : World) (ha : I64 a) (hb : I64 b) (hc : I64 c) (hd : I64 d) : Calls Try.prog 53 #[Vc.S a b, Vc.S c d] w (Vc.Ret (Vc.RV (div a b c d)) w) := by
  have body : (ok a b && ok c d) = true → ¬ (c ≤ 0 ∧ 0 ≤ d) → c ≠ 0 ∧ d ≠ 0 := by
    intro h1 h2
    simp only [ok, Bool.and_eq_true, decide_eq_true_eq] at h1
    omega
  refine vc_span_Div _ _ _ _ w _ ?_
  refine ⟨_, fun _ _ _ hm => checked2 hm.1.2, ?_⟩
  refine iteI (fun h => ?_) (fun h => ?_)
  · have hok := chk2_ok h
    have go : ¬ (c ≤ 0 ∧ 0 ≤ d) → div a b c d = fit (svp (bmin (bmin (bmin (qd a c) (qd a d)) (qd b c)) (qd b d))) (svp (bmax (bmax (bmax (qu a c) (qu a d)) (qu b c)) (qu b d))) := by
      intro h2
      obtain ⟨c0, d0⟩ := body hok h2
      rw [svp_bmin, svp_bmin, svp_bmin, svp_bmax, svp_bmax, svp_bmax, (qd_sv a c c0).1, (qd_sv a d d0).1, (qd_sv b c c0).1, (qd_sv b d d0).1, (qd_sv a c c0).2, (qd_sv a d d0).2, (qd_sv b c c0).2, (qd_sv b d d0).2]
      unfold div
      rw [if_pos hok, if_neg h2]
      rfl
    refine iteI (fun h1 => ?_) (fun h1 => ?_)
    · refine iteI (fun h2 => ?_) (fun h2 => ?_)
      · unfold div; rw [if_pos hok, if_pos ⟨h1, h2⟩]
      · have hnz : ¬ (c ≤ 0 ∧ 0 ≤ d) := fun hx => h2 hx.2
        obtain ⟨c0, d0⟩ := body hok hnz
        rw [go hnz]
        have b1 := qd_bd a c ha c0; have b2 := qd_bd a d ha d0; have b3 := qd_bd b c hb c0; have b4 := qd_bd b d hb d0
        (repeat apply Exists.intro); refine And.intro (fun _ _ => pquo_any _ _ _ ha hc c0) ?_
        (repeat apply Exists.intro); refine And.intro (fun _ _ => pquo_any _ _ _ ha hd d0) ?_
        (repeat apply Exists.intro); refine And.intro (fun _ _ => pquo_any _ _ _ hb hc c0) ?_
        (repeat apply Exists.intro); refine And.intro (fun _ _ => pquo_any _ _ _ hb hd d0) ?_
        refine ⟨_, _, _, _, _, _, fun _ _ _ hm => rowhull (qd a c) [qd a d, qd b c, qd b d] (by simpa using ⟨b1.1.1, b2.1.1, b3.1.1, b4.1.1⟩) (by simp) hm.1, ?_⟩
        refine ⟨_, _, _, _, _, _, fun _ _ _ hm => rowhull (qu a c) [qu a d, qu b c, qu b d] (by simpa using ⟨b1.2.1, b2.2.1, b3.2.1, b4.2.1⟩) (by simp) hm.1, ?_⟩
        have m1 := bmin_bd (bmin_bd (bmin_bd b1.1 b2.1) b3.1) b4.1
        have m2 := bmax_bd (bmax_bd (bmax_bd b1.2 b2.2) b3.2) b4.2
        (repeat apply Exists.intro); refine And.intro (fun _ _ => fit_any _ _ _ _ _ m1.1 m2.1) ?_
        rfl
    · have hnz : ¬ (c ≤ 0 ∧ 0 ≤ d) := fun hx => h1 hx.1
      obtain ⟨c0, d0⟩ := body hok hnz
      rw [go hnz]
      have b1 := qd_bd a c ha c0; have b2 := qd_bd a d ha d0; have b3 := qd_bd b c hb c0; have b4 := qd_bd b d hb d0
      (repeat apply Exists.intro); refine And.intro (fun _ _ => pquo_any _ _ _ ha hc c0) ?_
      (repeat apply Exists.intro); refine And.intro (fun _ _ => pquo_any _ _ _ ha hd d0) ?_
      (repeat apply Exists.intro); refine And.intro (fun _ _ => pquo_any _ _ _ hb hc c0) ?_
      (repeat apply Exists.intro); refine And.intro (fun _ _ => pquo_any _ _ _ hb hd d0) ?_
      refine ⟨_, _, _, _, _, _, fun _ _ _ hm => rowhull (qd a c) [qd a d, qd b c, qd b d] (by simpa using ⟨b1.1.1, b2.1.1, b3.1.1, b4.1.1⟩) (by simp) hm.1, ?_⟩
      refine ⟨_, _, _, _, _, _, fun _ _ _ hm => rowhull (qu a c) [qu a d, qu b c, qu b d] (by simpa using ⟨b1.2.1, b2.2.1, b3.2.1, b4.2.1⟩) (by simp) hm.1, ?_⟩
      have m1 := bmin_bd (bmin_bd (bmin_bd b1.1 b2.1) b3.1) b4.1
      have m2 := bmax_bd (bmax_bd (bmax_bd b1.2 b2.2) b3.2) b4.2
      (repeat apply Exists.intro); refine And.intro (fun _ _ => fit_any _ _ _ _ _ m1.1 m2.1) ?_
      rfl
  · unfold div; rw [if_neg (chk2_no h).1, (chk2_no h).2]
theorem rdiv_any (a b c d : Int) (w : World) (ha : I64 a) (hb : I64 b) (hc : I64 c) (hd : I64 d) : Calls Try.prog 54 #[Vc.S a b, Vc.S c d] w (Vc.Ret (Vc.RV (div a b c d)) w) := by
  refine vc_ullageref01_Div _ _ _ _ w _ ?_
  (repeat apply Exists.intro); refine And.intro (fun _ _ => both_any _ _ _ _ _) ?_
  have nz : (ok a b && ok c d) = true → ¬ (c ≤ 0 ∧ 0 ≤ d) → c ≠ 0 ∧ d ≠ 0 := by
    intro h1 h2
    simp only [ok, Bool.and_eq_true, decide_eq_true_eq] at h1
    omega
  have lst : ¬ (c ≤ 0 ∧ 0 ≤ d) → (ok a b && ok c d) = true → div a b c d = fit (min4 (rdn a c) (rdn a d) (rdn b c) (rdn b d)) (max4 (rup a c) (rup a d) (rup b c) (rup b d)) := by
    intro h1 h2; unfold div; rw [if_pos h2, if_neg h1]
  refine iteI (fun h => ?_) (fun h => ?_)
  · have hok := chk2_ok h
    refine iteI (fun h1 => ?_) (fun h1 => ?_)
    · refine iteI (fun h2 => ?_) (fun h2 => ?_)
      · unfold div; rw [if_pos hok, if_pos ⟨h1, h2⟩]
      · have hnz : ¬ (c ≤ 0 ∧ 0 ≤ d) := fun hx => h2 hx.2
        rw [lst hnz hok]
        obtain ⟨c0, d0⟩ := nz hok hnz
        have v1 := fun w => rover_any a c w ha hc c0
        have v2 := fun w => rover_any a d w ha hd d0
        have v3 := fun w => rover_any b c w hb hc c0
        have v4 := fun w => rover_any b d w hb hd d0
        obtain ⟨p1, p2⟩ := r_bd a c ha c0
        obtain ⟨p3, p4⟩ := r_bd a d ha d0
        obtain ⟨p5, p6⟩ := r_bd b c hb c0
        obtain ⟨p7, p8⟩ := r_bd b d hb d0
        generalize rdn a c = P at *
        generalize rdn a d = Q at *
        generalize rdn b c = R at *
        generalize rdn b d = T at *
        generalize rup a c = P' at *
        generalize rup a d = Q' at *
        generalize rup b c = R' at *
        generalize rup b d = T' at *
        unfold min4 max4
        (repeat apply Exists.intro); refine And.intro (fun _ _ => wide_W _ _ ha.1 ha.2) ?_
        (repeat apply Exists.intro); refine And.intro (fun _ _ => wide_W _ _ hc.1 hc.2) ?_
        (repeat apply Exists.intro); refine And.intro (fun _ _ => v1 _) ?_
        (repeat apply Exists.intro); refine And.intro (fun _ _ => wide_W _ _ ha.1 ha.2) ?_
        (repeat apply Exists.intro); refine And.intro (fun _ _ => wide_W _ _ hd.1 hd.2) ?_
        (repeat apply Exists.intro); refine And.intro (fun _ _ => v2 _) ?_
        (repeat apply Exists.intro); refine And.intro (fun _ _ => less_W _ _ _) ?_
        refine iteI (fun c1 => ?_) (fun c1 => ?_)
        all_goals
          (repeat apply Exists.intro); refine And.intro (fun _ _ => less_W _ _ _) ?_
          refine iteI (fun c2 => ?_) (fun c2 => ?_)
          all_goals
            (repeat apply Exists.intro); refine And.intro (fun _ _ => wide_W _ _ hb.1 hb.2) ?_
            (repeat apply Exists.intro); refine And.intro (fun _ _ => wide_W _ _ hc.1 hc.2) ?_
            (repeat apply Exists.intro); refine And.intro (fun _ _ => v3 _) ?_
            (repeat apply Exists.intro); refine And.intro (fun _ _ => less_W _ _ _) ?_
            refine iteI (fun c3 => ?_) (fun c3 => ?_)
            all_goals
              (repeat apply Exists.intro); refine And.intro (fun _ _ => less_W _ _ _) ?_
              refine iteI (fun c4 => ?_) (fun c4 => ?_)
              all_goals
                (repeat apply Exists.intro); refine And.intro (fun _ _ => wide_W _ _ hb.1 hb.2) ?_
                (repeat apply Exists.intro); refine And.intro (fun _ _ => wide_W _ _ hd.1 hd.2) ?_
                (repeat apply Exists.intro); refine And.intro (fun _ _ => v4 _) ?_
                (repeat apply Exists.intro); refine And.intro (fun _ _ => less_W _ _ _) ?_
                refine iteI (fun c5 => ?_) (fun c5 => ?_)
                all_goals
                  (repeat apply Exists.intro); refine And.intro (fun _ _ => less_W _ _ _) ?_
                  refine iteI (fun c6 => ?_) (fun c6 => ?_)
                  all_goals
                    simp only [decide_eq_true_eq] at c1 c2 c3 c4 c5 c6
                    (repeat apply Exists.intro); refine And.intro (fun _ _ => out_any _ _ _ (by assumption) (by assumption)) ?_
                    exact fit_eq (by omega) (by omega)
    · have hnz : ¬ (c ≤ 0 ∧ 0 ≤ d) := fun hx => h1 hx.1
      rw [lst hnz hok]
      obtain ⟨c0, d0⟩ := nz hok hnz
      have v1 := fun w => rover_any a c w ha hc c0
      have v2 := fun w => rover_any a d w ha hd d0
      have v3 := fun w => rover_any b c w hb hc c0
      have v4 := fun w => rover_any b d w hb hd d0
      obtain ⟨p1, p2⟩ := r_bd a c ha c0
      obtain ⟨p3, p4⟩ := r_bd a d ha d0
      obtain ⟨p5, p6⟩ := r_bd b c hb c0
      obtain ⟨p7, p8⟩ := r_bd b d hb d0
      generalize rdn a c = P at *
      generalize rdn a d = Q at *
      generalize rdn b c = R at *
      generalize rdn b d = T at *
      generalize rup a c = P' at *
      generalize rup a d = Q' at *
      generalize rup b c = R' at *
      generalize rup b d = T' at *
      unfold min4 max4
      (repeat apply Exists.intro); refine And.intro (fun _ _ => wide_W _ _ ha.1 ha.2) ?_
      (repeat apply Exists.intro); refine And.intro (fun _ _ => wide_W _ _ hc.1 hc.2) ?_
      (repeat apply Exists.intro); refine And.intro (fun _ _ => v1 _) ?_
      (repeat apply Exists.intro); refine And.intro (fun _ _ => wide_W _ _ ha.1 ha.2) ?_
      (repeat apply Exists.intro); refine And.intro (fun _ _ => wide_W _ _ hd.1 hd.2) ?_
      (repeat apply Exists.intro); refine And.intro (fun _ _ => v2 _) ?_
      (repeat apply Exists.intro); refine And.intro (fun _ _ => less_W _ _ _) ?_
      refine iteI (fun c1 => ?_) (fun c1 => ?_)
      all_goals
        (repeat apply Exists.intro); refine And.intro (fun _ _ => less_W _ _ _) ?_
        refine iteI (fun c2 => ?_) (fun c2 => ?_)
        all_goals
          (repeat apply Exists.intro); refine And.intro (fun _ _ => wide_W _ _ hb.1 hb.2) ?_
          (repeat apply Exists.intro); refine And.intro (fun _ _ => wide_W _ _ hc.1 hc.2) ?_
          (repeat apply Exists.intro); refine And.intro (fun _ _ => v3 _) ?_
          (repeat apply Exists.intro); refine And.intro (fun _ _ => less_W _ _ _) ?_
          refine iteI (fun c3 => ?_) (fun c3 => ?_)
          all_goals
            (repeat apply Exists.intro); refine And.intro (fun _ _ => less_W _ _ _) ?_
            refine iteI (fun c4 => ?_) (fun c4 => ?_)
            all_goals
              (repeat apply Exists.intro); refine And.intro (fun _ _ => wide_W _ _ hb.1 hb.2) ?_
              (repeat apply Exists.intro); refine And.intro (fun _ _ => wide_W _ _ hd.1 hd.2) ?_
              (repeat apply Exists.intro); refine And.intro (fun _ _ => v4 _) ?_
              (repeat apply Exists.intro); refine And.intro (fun _ _ => less_W _ _ _) ?_
              refine iteI (fun c5 => ?_) (fun c5 => ?_)
              all_goals
                (repeat apply Exists.intro); refine And.intro (fun _ _ => less_W _ _ _) ?_
                refine iteI (fun c6 => ?_) (fun c6 => ?_)
                all_goals
                  simp only [decide_eq_true_eq] at c1 c2 c3 c4 c5 c6
                  (repeat apply Exists.intro); refine And.intro (fun _ _ => out_any _ _ _ (by assumption) (by assumption)) ?_
                  exact fit_eq (by omega) (by omega)
  · unfold div; rw [if_neg (chk2_no h).1]
theorem walk_spanProducts (a b : Int) (ha : (Lit.int .i64 a).wf = true) (hb : (Lit.int .i64 b).wf = true) (c d : Int) (hc : (Lit.int .i64 c).wf = true) (hd : (Lit.int .i64 d).wf = true) (w : World) :
    Calls Try.prog 8 #[Vc.S a b, Vc.S c d] w (Vc.Ret (.bool true) w) := by
  replace ha := wf64 ha; replace hb := wf64 hb; replace hc := wf64 hc; replace hd := wf64 hd
  refine vc_ullagelaw01_SpanProducts _ _ _ _ w _ ?_
  (repeat apply Exists.intro); refine And.intro (fun _ _ => pmul_any _ _ _ _ _ ha hb hc hd) ?_
  (repeat apply Exists.intro); refine And.intro (fun _ _ => rmul_any _ _ _ _ _ ha hb hc hd) ?_
  (repeat apply Exists.intro); refine And.intro (fun _ _ => pdiv_any _ _ _ _ _ ha hb hc hd) ?_
  (repeat apply Exists.intro); refine And.intro (fun _ _ => rdiv_any _ _ _ _ _ ha hb hc hd) ?_
  (repeat' (first | (intro _ hx) | ((repeat apply Exists.intro); first | refine And.intro (fun _ _ => same_eq _ _ _ _) ?_) | (refine Vc.iteI (fun h => ?_) (fun h => ?_)) | (refine And.intro (by omega) ?_)))
  all_goals simp_all
end Go.Proofs.Ytdhiapllbjamfaa
