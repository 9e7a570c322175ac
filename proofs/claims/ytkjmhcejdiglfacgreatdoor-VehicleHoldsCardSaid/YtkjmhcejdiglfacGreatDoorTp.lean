import Derived.Test.YtkjmhcejdiglfacGreatDoorOkv
import Derived.Test.YtkjmhcejdiglfacGreatDoorQn
set_option linter.unusedVariables false
set_option linter.unusedSimpArgs false
namespace Go.Proofs.YtkjmhcejdiglfacGreatDoor
open Go Go.RowKit Vc Ul
def sumE(f:En→Int):List En→Int
 | []=>0
 | e::r=>e.n * f e + sumE f r
theorem zii(f:En→Int){es:List En}{k:Nat}{e:En}(h:es[k]? = some e):sumE f (es.take (k + 1))=sumE f (es.take k) + e.n * f e:=by
  induction es generalizing k with
  | nil=>simp at h
  | cons a r ih =>
    cases k with
    | zero=>simp at h;subst h;simp [sumE]
    | succ k =>
      simp only [List.getElem?_cons_succ]at h;simp only [List.take_succ_cons,sumE,ih h];omega
def Fok(f:En→Int):Prop:=∀ e,rng e=true→0≤f e∧f e≤4503599627370496
theorem zme{e:En}(h:rng e=true):(1≤e.n∧e.n≤64)∧(1≤e.tl∧e.tl≤e.th∧e.th≤4503599627370496)∧(1≤e.fl∧e.fl≤e.fh∧e.fh≤4503599627370496):=by
 simp only [rng,bdd,Bool.and_eq_true,decide_eq_true_eq]at h;omega
theorem zyu:Fok (·.tl):=fun e h=>by have:=zme h;simp only;omega
theorem zzu:Fok (·.th):=fun e h=>by have:=zme h;simp only;omega
theorem zas:Fok (·.fl):=fun e h=>by have:=zme h;simp only;omega
theorem zbs:Fok (·.fh):=fun e h=>by have:=zme h;simp only;omega
theorem znd{n x:Int}(h1:1≤n)(h2:n≤64)(h3:0≤x)(h4:x≤4503599627370496):0≤n * x∧n * x≤288230376151711744:=by
 refine⟨Int.mul_nonneg (by omega) h3, ?_⟩
 have:n * x≤64 * 4503599627370496:=Int.mul_le_mul h2 h4 h3 (by omega)
 omega
theorem zjf{f:En→Int}(hf:Fok f):∀ {es:List En},(∀ e∈es,rng e=true)→0≤sumE f es∧sumE f es≤es.length * 288230376151711744
  | [],_=>by simp [sumE]
  | e::r,h=>by
    have h1:=zjf hf (es:=r) fun e he=>h e (List.mem_cons_of_mem _ he);have h2:=h e (List.mem_cons_self ..);have h3:=zme h2;have h4:=hf e h2;have h5:=znd (n:=e.n) (x:=f e) (by omega) (by omega) h4.1 h4.2;simp only [sumE,List.length_cons];omega
theorem zry{f g:En→Int}(hfg:∀ e,rng e=true→f e≤g e):∀ {es:List En},(∀ e∈es,rng e=true)→sumE f es≤sumE g es
  | [],_=>by simp [sumE]
  | e::r,h=>by
    have h1:=zry hfg (es:=r) fun e he=>h e (List.mem_cons_of_mem _ he);have h2:=h e (List.mem_cons_self ..);have h3:=zme h2;have h4:e.n * f e≤e.n * g e:=Int.mul_le_mul_of_nonneg_left (hfg e h2) (by omega);simp only [sumE];omega
theorem zav{f:En→Int}(hf:∀ e,rng e=true→1≤f e):∀ {es:List En},(∀ e∈es,rng e=true)→es ≠ []→1≤sumE f es
  | [],_,h=>absurd rfl h
  | e::r,h,_=>by
    have h2:=h e (List.mem_cons_self ..);have h3:=zme h2;have h4:e.n * 1≤e.n * f e:=Int.mul_le_mul_of_nonneg_left (hf e h2) (by omega)
    have h5:0≤sumE f r:=by
      rcases r with _ | ⟨a,r⟩
      · simp [sumE]
      · have:=zav hf (es:=a::r) (fun e he=>h e (List.mem_cons_of_mem _ he)) (by simp)
        omega
    simp only [sumE];omega
def pAt(f g:En→Int)(v:Vh)(g0 lo hi:Int):Int × Int × Int :=
 if (pCheck v).2.2≠0 then (0,0,2)else if ¬ (0≤g0∧g0≤(v.ss.length:Int) - 1)then (0,0,7)
 else match v.ss[g0.toNat]? with
  | none=>(0,0,7)
  | some s=>if lo < 0∨hi < lo∨4294967296 < hi then (0,0,4)else if 0 < hi∧s.es.any (fun e=>decide (lo < e.le))=true then (0,0,4)else mul lo hi (sumE f s.es) (sumE g s.es)
def scd(n l:Int)(up:Bool):Int:=if up=true then ce (n * l) 4294967296 else fl (n * l) 4294967296
theorem zsy{lo hi a b:Int}(h0:0≤lo)(h1:lo≤hi)(h2:hi≤4294967296)(ha:0≤a)(hab:a≤b)(hb:b≤4611686018427387904):mul lo hi a b=(scd a lo false,scd b hi true,0):=by
 have p1:lo * a≤lo * b:=Int.mul_le_mul_of_nonneg_left hab h0;have p2:lo * a≤hi * a:=Int.mul_le_mul_of_nonneg_right h1 ha;have p3:hi * a≤hi * b:=Int.mul_le_mul_of_nonneg_left hab (by omega);have p4:lo * b≤hi * b:=Int.mul_le_mul_of_nonneg_right h1 (by omega);have p5:hi * b≤4294967296 * b:=Int.mul_le_mul_of_nonneg_right h2 (by omega);have p6:0≤lo * a:=Int.mul_nonneg h0 ha;have e1:min4 (lo * a) (lo * b) (hi * a) (hi * b)=a * lo:=by rw [Int.mul_comm a lo];unfold min4;omega
 have e2:max4 (lo * a) (lo * b) (hi * a) (hi * b)=b * hi:=by rw [Int.mul_comm b hi];unfold max4;omega
 unfold mul;rw [if_pos (by simp only [ok,Bool.and_eq_true,decide_eq_true_eq];omega),e1,e2];have A:a * lo=lo * a:=Int.mul_comm ..;have B:b * hi=hi * b:=Int.mul_comm ..;unfold fit;rw [if_pos]
 ·rfl
 ·unfold fl ce;omega
theorem zyba{f g:En→Int}{v:Vh}{n lo hi:Int}(h:(pCheck v).2.2≠0):RV (0,0,2)=RV (pAt f g v n lo hi):=by unfold pAt;rw [if_pos h]
theorem zqp{f g:En→Int}{v:Vh}{n lo hi:Int}(h:(pCheck v).2.2=0)(h2:¬ (0≤n∧n≤(v.ss.length:Int) - 1)):RV (0,0,7)=RV (pAt f g v n lo hi):=by unfold pAt;rw [if_neg (by omega),if_pos h2]
theorem zeo{f g:En→Int}{v:Vh}{n lo hi:Int}(h:(pCheck v).2.2=0)(h2:0≤n∧n≤(v.ss.length:Int) - 1){s:Stg}(hs:v.ss[n.toNat]? = some s)(h3:lo < 0∨hi < lo∨4294967296 < hi):RV (0,0,4)=RV (pAt f g v n lo hi):=by
 unfold pAt;rw [if_neg (by omega),if_neg (by omega),hs];simp only;rw [if_pos h3]
theorem zbv{f g:En→Int}{v:Vh}{n lo hi:Int}(h:(pCheck v).2.2=0)(h2:0≤n∧n≤(v.ss.length:Int) - 1){s:Stg}(hs:v.ss[n.toNat]? = some s)(h3:¬ (lo < 0∨hi < lo∨4294967296 < hi))(h4:0 < hi∧s.es.any (fun e=>decide (lo < e.le))=true):RV (0,0,4)=RV (pAt f g v n lo hi):=by
 unfold pAt;rw [if_neg (by omega),if_neg (by omega),hs];simp only;rw [if_neg h3,if_pos h4]
theorem zhfa{f g:En→Int}{v:Vh}{n lo hi:Int}(h:(pCheck v).2.2=0)(h2:0≤n∧n≤(v.ss.length:Int) - 1){s:Stg}(hs:v.ss[n.toNat]? = some s)(h3:¬ (lo < 0∨hi < lo∨4294967296 < hi))(h4:¬ (0 < hi∧s.es.any (fun e=>decide (lo < e.le))=true)):pAt f g v n lo hi=mul lo hi (sumE f s.es) (sumE g s.es):=by
 unfold pAt;rw [if_neg (by omega),if_neg (by omega),hs];simp only;rw [if_neg h3,if_neg h4]
def pBurn(v:Vh)(n:Int):Int × Int × Int :=
 if (pCheck v).2.2≠0 then (0,0,2)else if ¬ (0≤n∧n≤(v.ss.length:Int) - 1)then (0,0,7)
 else match v.ss[n.toNat]? with
  | none=>(0,0,7)
  | some s=>if s.es.length=0 then (0,0,9)else div s.pl s.ph (sumE (·.fl) s.es) (sumE (·.fh) s.es)
theorem zifa{v:Vh}{n:Int}(h:(pCheck v).2.2≠0):RV (0,0,2)=RV (pBurn v n):=by unfold pBurn;rw [if_pos h]
theorem zty{v:Vh}{n:Int}(h:(pCheck v).2.2=0)(h2:¬ (0≤n∧n≤(v.ss.length:Int) - 1)):RV (0,0,7)=RV (pBurn v n):=by unfold pBurn;rw [if_neg (by omega),if_pos h2]
theorem zvaa{v:Vh}{n:Int}(h:(pCheck v).2.2=0)(h2:0≤n∧n≤(v.ss.length:Int) - 1){s:Stg}(hs:v.ss[n.toNat]? = some s)(h3:s.es.length=0):RV (0,0,9)=RV (pBurn v n):=by
 unfold pBurn;rw [if_neg (by omega),if_neg (by omega),hs];simp only;rw [if_pos h3]
theorem zjfa{v:Vh}{n:Int}(h:(pCheck v).2.2=0)(h2:0≤n∧n≤(v.ss.length:Int) - 1){s:Stg}(hs:v.ss[n.toNat]? = some s)(h3:¬ s.es.length=0):pBurn v n=div s.pl s.ph (sumE (·.fl) s.es) (sumE (·.fh) s.es):=by
 unfold pBurn;rw [if_neg (by omega),if_neg (by omega),hs];simp only;rw [if_neg h3]
theorem zlda{x d:Int}(hx:x≤0)(hd:0 < d):x / d≤0:=by
 have:=Int.ediv_le_ediv hd hx
 rwa [Int.zero_ediv]at this
theorem zuy(a d:Int)(hd:1≤d):rdn a d=a * 4294967296 / d:=by unfold rdn fl;rw [if_neg (by omega)]
theorem zut(a d:Int)(hd:1≤d):rup a d = -((-(a * 4294967296)) / d):=by unfold rup ce;rw [if_neg (by omega)]
theorem zji{a b c d:Int}(ha:0≤a)(hab:a≤b)(hc:1≤c)(hcd:c≤d):rdn a d≤rdn b c∧0≤rdn a d:=by
 rw [zuy a d (by omega),zuy b c hc];have h1:a * 4294967296 / d≤b * 4294967296 / d:=Int.ediv_le_ediv (by omega) (by omega)
 have h2:b * 4294967296 / d≤b * 4294967296 / c:=by
  refine Int.le_ediv_of_mul_le (by omega) ?_;have h3:=Int.ediv_mul_le (b * 4294967296) (show d≠0 by omega);have h4:0≤b * 4294967296 / d:=Int.ediv_nonneg (by omega) (by omega);have h5:=Int.mul_le_mul_of_nonneg_left hcd h4;omega
 exact⟨by omega,Int.ediv_nonneg (by omega) (by omega)⟩
theorem zki{a b c d:Int}(ha:0≤a)(hab:a≤b)(hc:1≤c)(hcd:c≤d):rup a d≤rup b c:=by
 rw [zut _ _ (by omega),zut _ _ hc]
 have h1:-(b * 4294967296) / c ≤ -(a * 4294967296) / d:=by
  refine Int.le_ediv_of_mul_le (by omega) ?_;have h3:=Int.ediv_mul_le (-(b * 4294967296)) (show c≠0 by omega);have h4:-(b * 4294967296) / c≤0:=zlda (by omega) (by omega);have h5:-(b * 4294967296) / c * d ≤ -(b * 4294967296) / c * c:=Int.mul_le_mul_of_nonpos_left h4 hcd;omega
 omega
theorem zvy(a d:Int)(hd:1≤d):rdn a d≤rup a d:=by
 rw [zut _ _ hd];rw [zuy a d hd];have h1:=Int.ediv_mul_le (a * 4294967296) (show d≠0 by omega);have h2:=Int.ediv_mul_le (-(a * 4294967296)) (show d≠0 by omega);have h3:(a * 4294967296 / d + -(a * 4294967296) / d) * d≤0:=by rw [Int.add_mul];omega
 by_cases h:0 < a * 4294967296 / d + -(a * 4294967296) / d
 ·have:=Int.mul_pos h (show 0 < d by omega);omega
 ·omega
theorem zcv{a b c d:Int}(ha:0≤a)(hab:a≤b)(hb:b≤4503599627370496)(hc:1≤c)(hcd:c≤d)(hd:d≤4611686018427387904) :
  div a b c d=if rdn a d≤9223372036854775807∧rup b c≤9223372036854775807 then (rdn a d,rup b c,0)else (0,0,4):=by
 have m1:=zji ha (Int.le_refl a) hc hcd;have m2:=zji (by omega:0≤b) (Int.le_refl b) hc hcd;have m3:=zji ha hab hc (Int.le_refl c);have m4:=zji ha hab (by omega:1≤d) (Int.le_refl d);have u1:=zki ha (Int.le_refl a) hc hcd;have u2:=zki (by omega:0≤b) (Int.le_refl b) hc hcd;have u3:=zki ha hab hc (Int.le_refl c);have u4:=zki ha hab (by omega:1≤d) (Int.le_refl d);have r1:=zvy a d (by omega);have e1:min4 (rdn a c) (rdn a d) (rdn b c) (rdn b d)=rdn a d:=by unfold min4;omega
 have e2:max4 (rup a c) (rup a d) (rup b c) (rup b d)=rup b c:=by unfold max4;omega
 unfold div;rw [if_pos (by simp only [ok,Bool.and_eq_true,decide_eq_true_eq];omega),if_neg (by omega),e1,e2];unfold fit;by_cases h:rdn a d≤9223372036854775807∧rup b c≤9223372036854775807
 ·rw [if_pos h,if_pos (by omega)]
 ·rw [if_neg h,if_neg (by omega)]
end Go.Proofs.YtkjmhcejdiglfacGreatDoor
