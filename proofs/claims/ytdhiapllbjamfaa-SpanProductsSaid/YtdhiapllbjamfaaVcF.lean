/- Vc, part F: operations that compute a value are sound. No program in sight. -/
import Derived.Test.YtdhiapllbjamfaaVcE
set_option linter.unusedVariables false
set_option linter.unusedSimpArgs false
namespace Vc
open Go Go.RowKit
variable {P : Program} {W : World} {Q : Value → Prop} {QM : World → Value → Prop}

theorem eqGuard_agg (op : BinOp) (t : TypeId) (x y : Operand) (a b : Array Value) (w : World) (h : P.eqGuardType P.depth t = false) : (eqGuard op t x y (.agg a) (.agg b)).run P w = .ok () w :=
  run_eqGuard_agg w op t x y a b h
theorem run_beql (t : TypeId) (a b : Bool) (w : World) (h : P.underlying t = some .bool) : (binOp .eql t (.bool a) (.bool b)).run P w = .ok (.bool (a == b)) w := by
  simp only [binOp]
  simp [run_equal_bool w t a b h]
theorem run_bneq (t : TypeId) (a b : Bool) (w : World) (h : P.underlying t = some .bool) : (binOp .neq t (.bool a) (.bool b)).run P w = .ok (.bool (!(a == b))) w := by
  simp only [binOp]
  simp [run_equal_bool w t a b h]

theorem den_bool (e : BE) (ρ : Env) (β : Nat → Nat) : (SV.cv (.one (.bool e.sim))).den ρ β = .bool (e.den ρ) := by
  simp only [SV.den, CV.den, At.den, BE.den_sim]

theorem list_beq (p q : List UInt8) : (p == q) = decide (p = q) := by
  by_cases hc : p = q
  · subst hc; simp
  · rw [decide_eq_false hc]; exact beq_eq_false_iff_ne.2 hc
theorem eqGuard_str (op : BinOp) (t : TypeId) (x y : Operand) (a b : ByteArray) (w : World) : (eqGuard op t x y (.string a) (.string b)).run P w = .ok () w := by
  cases op <;> simp [eqGuard]
theorem doBin_sound {c : Ctr} {op : BinOp} {t : TypeId} {x y : SV} {K : SV → Ctr → Env → Prop} {ρ : Env} (hx : x.wf c = true) (hy : y.wf c = true)
    (h : doBin (PA P W Q QM) P c op t x y K ρ) : Res c ρ K (BinV P op t x y) := by
  unfold doBin at h
  split at h
  · rename_i k a k' b
    have wa : a.wf c = true := hx
    have wb : b.wf c = true := hy
    split at h
    · rename_i ho
      subst ho
      split at h
      · rename_i n
        split at h
        · rename_i hn
          refine (doInt_sound h).mono fun sv ρ'' _ hv => BinV.ints (hv b0).2 fun β w => ?_
          rw [(hv β).1, den_lit, run_ishl t k k' _ _ w hn.1, shl_lit k _ n hn.1 hn.2]
          rfl
        · exact h.elim
      · obtain ⟨h1, h2⟩ := doChk_sound h
        refine (doInt_sound h2).mono fun sv ρ'' hl hv => BinV.ints (hv b0).2 fun β w => ?_
        have h3 : 0 ≤ b.den ρ'' := by rw [IE.den_like hl wb]; exact h1
        rw [(hv β).1, run_ishl t k k' _ _ w h3]
        rfl
    · split at h
      · rename_i ho
        subst ho
        split at h
        · rename_i n
          split at h
          · rename_i hn
            refine (doInt_sound h).mono fun sv ρ'' _ hv => BinV.ints (hv b0).2 fun β w => ?_
            rw [(hv β).1, den_lit, run_ishr t k k' _ _ w hn.1, shr_lit k _ n hn.1 hn.2]
            rfl
          · exact h.elim
        · obtain ⟨h1, h2⟩ := doChk_sound h
          refine (doInt_sound h2).mono fun sv ρ'' hl hv => BinV.ints (hv b0).2 fun β w => ?_
          have h3 : 0 ≤ b.den ρ'' := by rw [IE.den_like hl wb]; exact h1
          rw [(hv β).1, run_ishr t k k' _ _ w h3]
          rfl
      · split at h
        · rename_i hk
          subst hk
          split at h
          · rename_i ha
            refine (doInt_sound h).mono fun sv ρ'' hl hv => BinV.ints (hv b0).2 fun β w => ?_
            rw [(hv β).1, run_ibin op t k _ _ w ha]
            rfl
          · split at h
            · rename_i hq
              obtain ⟨h1, h2⟩ := doChk_sound h
              refine (doInt_sound h2).mono fun sv ρ'' hl hv => BinV.ints (hv b0).2 fun β w => ?_
              have h3 : b.den ρ'' ≠ 0 := by rw [IE.den_like hl wb]; exact h1
              rw [(hv β).1, run_idiv op t k _ _ w hq h3]
              rfl
            · split at h
              · rename_i hc
                refine Res.pure h fun ρ'' hl => BinV.ints (by simp) fun β w => ?_
                rw [den_bool, run_icmp op t k _ _ w hc]
                rfl
              · exact h.elim
        · exact h.elim
  · rename_i a b
    generalize hu : P.underlying t = u at h
    split at h
    · split at h
      · rename_i ho
        subst ho
        refine Res.pure h fun ρ'' hl => ⟨by simp, fun β w xo yo => ?_⟩
        rw [den_bool]
        simp only [SV.den, CV.den, At.den, Sem.run_bind, eqGuard_bool, Result.andThen_ok, run_beql t _ _ w hu, BE.den]
      · split at h
        · rename_i ho
          subst ho
          refine Res.pure h fun ρ'' hl => ⟨by simp, fun β w xo yo => ?_⟩
          rw [den_bool]
          simp only [SV.den, CV.den, At.den, Sem.run_bind, eqGuard_bool, Result.andThen_ok, run_bneq t _ _ w hu, BE.den]
        · exact h.elim
    · exact h.elim
  · rename_i a b
    generalize hk : eqTy P 30 t = u1 at h
    generalize hz : szAgg P t = u2 at h
    split at h
    · rename_i ks n
      generalize he : eqCells ks a b = u3 at h
      split at h
      · rename_i e
        split at h
        · exact h.elim
        · rename_i hg
          have hg' : P.eqGuardType P.depth t = false := by simpa using hg
          have key := fun ρ'' β w => eq_agg hk he ⟨true, n, hz, rfl⟩ ρ'' β w
          split at h
          · rename_i ho
            subst ho
            refine Res.pure h fun ρ'' hl => ⟨by simp, fun β w xo yo => ?_⟩
            rw [den_bool]
            simp only [SV.den, CV.den, Sem.run_bind, eqGuard_agg _ _ _ _ _ _ _ hg', Result.andThen_ok, run_eql_struct, key]
          · split at h
            · rename_i ho
              subst ho
              refine Res.pure h fun ρ'' hl => ⟨by simp, fun β w xo yo => ?_⟩
              rw [den_bool]
              simp only [SV.den, CV.den, Sem.run_bind, eqGuard_agg _ _ _ _ _ _ _ hg', Result.andThen_ok, run_neq_struct, key, BE.den]
            · exact h.elim
      · exact h.elim
    · exact h.elim
  · rename_i x y _ _ 
    generalize hu : P.underlying t = u at h
    generalize hsx : strOf x = sx at h
    generalize hsy : strOf y = sy at h
    split at h
    · rename_i a b
      have dx := fun ρ'' β => strOf_den hsx ρ'' β
      have dy := fun ρ'' β => strOf_den hsy ρ'' β
      split at h
      · rename_i ho
        subst ho
        refine Res.pure h fun ρ'' hl => ⟨by simp, fun β w xo yo => ?_⟩
        rw [den_bool]
        simp only [SV.den, CV.den, dx, dy, Sem.run_bind, eqGuard_str, Result.andThen_ok, BE.den]
        simp only [binOp, Op.stringOp, toList_mk, Sem.run_pure]
        rw [list_beq]
      · split at h
        · rename_i ho
          subst ho
          refine Res.pure h fun ρ'' hl => ⟨by simp, fun β w xo yo => ?_⟩
          rw [den_bool]
          simp only [SV.den, CV.den, dx, dy, Sem.run_bind, eqGuard_str, Result.andThen_ok, BE.den]
          simp only [binOp, Op.stringOp, toList_mk, Sem.run_pure]
          rw [list_beq]
        · exact h.elim
    · exact h.elim
  · exact h.elim

theorem doUn_sound {c : Ctr} {op : UnOp} {x : SV} {K : SV → Ctr → Env → Prop} {ρ : Env} (h : doUn (PA P W Q QM) c op x K ρ) :
    Res c ρ K fun sv ρ'' => sv ≠ .any ∧ x ≠ .any ∧ ∀ β w, (Op.unary op (x.den ρ'' β)).run P w = .ok (sv.den ρ'' β) w := by
  unfold doUn at h
  split at h
  · exact (doInt_sound h).mono fun sv ρ'' _ hv => ⟨(hv b0).2, by simp, fun β w => by rw [(hv β).1]; simp [SV.den, CV.den, At.den, Op.unary, Op.intArith, IP.den]⟩
  · exact (doInt_sound h).mono fun sv ρ'' _ hv => ⟨(hv b0).2, by simp, fun β w => by rw [(hv β).1]; simp [SV.den, CV.den, At.den, Op.unary, Op.intBits, IP.den, bits]⟩
  · exact Res.pure h fun ρ'' _ => ⟨by simp, by simp, fun β w => by rw [den_bool]; simp [SV.den, CV.den, At.den, Op.unary, BE.den]⟩
  · exact h.elim

theorem doConv_sound {c : Ctr} {s d : TypeId} {x : SV} {K : SV → Ctr → Env → Prop} {ρ : Env} (h : doConv (PA P W Q QM) P c s d x K ρ) :
    Res c ρ K fun sv ρ'' => sv ≠ .any ∧ x ≠ .any ∧ ∀ β w, (convert s d (x.den ρ'' β)).run P w = .ok (sv.den ρ'' β) w := by
  unfold doConv at h
  generalize h1 : P.underlying s = u1 at h
  generalize h2 : P.underlying d = u2 at h
  split at h
  · rename_i ds k k0 a
    refine (doInt_sound h).mono fun sv ρ'' _ hv => ⟨(hv b0).2, by simp, fun β w => ?_⟩
    rw [(hv β).1]
    simp only [SV.den, CV.den, At.den, convert, Sem.run_bind, run_underlying h1, run_underlying h2, Result.andThen_ok]
    cases ds <;> simp [Conv.intToInt, IP.den]
  · exact h.elim

theorem run_part_of {t : TypeId} {cs : List At} {off : Nat} {v : CV} (h : partOf P t cs off = some v) (ρ : Env) (β : Nat → Nat) (w : World) :
    (part t (cs.map (At.den ρ β)).toArray off).run P w = .ok (v.den ρ β) w := by
  unfold partOf at h
  split at h
  · rename_i n hz
    split at h
    · simp only [Option.some.injEq] at h
      subst h
      rw [run_partA hz rfl]
      simp [CV.den, List.map_take, List.map_drop]
    · cases h
  · rename_i n hz
    simp only [Option.map_eq_some_iff] at h
    obtain ⟨a, ha, rfl⟩ := h
    exact run_partO hz rfl _ off (a.den ρ β) (by simp [ha]) w
  · cases h

theorem doField_sound {c : Ctr} {t : TypeId} {x : SV} {f : Nat} {K : SV → Ctr → Env → Prop} {ρ : Env} (h : doField (PA P W Q QM) P c t x f K ρ) :
    Res c ρ K fun sv ρ'' => sv ≠ .any ∧ x ≠ .any ∧ ∀ β w, (Instr.field t (x.den ρ'' β) f).run P w = .ok (sv.den ρ'' β) w := by
  unfold doField at h
  generalize h1 : P.underlying t = u1 at h
  split at h
  · rename_i fs cs
    generalize h2 : fs[f]? = u2 at h
    split at h
    · rename_i fd
      generalize h3 : partOf P fd.type cs fd.offset = u3 at h
      split at h
      · rename_i v
        refine Res.pure h fun ρ'' _ => ⟨by simp, by simp, fun β w => ?_⟩
        simp [SV.den, CV.den, Instr.field, run_underlying h1, h2, asAgg, run_part_of h3]
      · exact h.elim
    · exact h.elim
  · exact h.elim

theorem doFieldAddr_sound {c : Ctr} {s : TypeId} {x : SV} {f : Nat} {K : SV → Ctr → Env → Prop} {ρ : Env} (h : doFieldAddr (PA P W Q QM) P c s x f K ρ) :
    Res c ρ K fun sv ρ'' => sv ≠ .any ∧ x ≠ .any ∧ ∀ β w, (Instr.fieldAt s (x.den ρ'' β) f).run P w = .ok (sv.den ρ'' β) w := by
  unfold doFieldAddr at h
  generalize h1 : P.underlying s = u1 at h
  split at h
  · rename_i fs
    generalize h2 : fs[f]? = u2 at h
    split at h
    · rename_i fd
      generalize h3 : szAgg P fd.type = u3 at h
      split at h
      · rename_i g n
        split at h
        · exact h.elim
        · rename_i hn
          have key : ∀ (b o : Nat) (w : World), (fieldPlace ⟨b, o, none⟩ fd).run P w = .ok ⟨b, o + fd.offset, none⟩ w := by
            intro b o w
            simp only [fieldPlace, Sem.run_bind, run_size h3, Result.andThen_ok, hn, if_false, Sem.run_pure, Addr.add]
            split
            · rename_i h0; simp [h0]
            · rfl
          split at h
          · refine Res.pure h fun ρ'' _ => ⟨by simp, by simp, fun β w => ?_⟩
            simp [SV.den, CV.den, At.den, Instr.fieldAt, run_underlying h1, h2, Instr.sureAddr, key]
          · refine Res.pure h fun ρ'' _ => ⟨by simp, by simp, fun β w => ?_⟩
            simp [SV.den, CV.den, At.den, Instr.fieldAt, run_underlying h1, h2, Instr.sureAddr, key, Nat.add_assoc]
          · refine Res.pure h fun ρ'' _ => ⟨by simp, by simp, fun β w => ?_⟩
            simp [SV.den, CV.den, At.den, Instr.fieldAt, run_underlying h1, h2, Instr.sureAddr, key, Nat.add_assoc]
          · exact h.elim
      · exact h.elim
    · exact h.elim
  · exact h.elim
end Vc
