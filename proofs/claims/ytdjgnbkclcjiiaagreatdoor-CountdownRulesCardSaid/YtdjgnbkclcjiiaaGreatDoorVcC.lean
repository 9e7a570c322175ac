import Derived.Deep.LoopGhost
import Derived.Scope
import Derived.Below
import Derived.Orders
import Derived.Handy
import Derived.KernelRfl
set_option linter.unusedVariables false
set_option linter.unusedSimpArgs false
namespace Vc
open Go Go.RowKit
abbrev OV := {v:Value // v.oneCell'=true}
structure Env where
 i:Nat→Int
 b:Nat→Bool
 v:Nat→OV
 p:Nat→Nat × Nat
 s:Nat→List UInt8
 l:Nat→List OV
def Env.setI(ρ:Env)(n:Nat)(x:Int):Env := {ρ with i:=fun j=>if j=n then x else ρ.i j}
def Env.setB(ρ:Env)(n:Nat)(x:Bool):Env := {ρ with b:=fun j=>if j=n then x else ρ.b j}
def Env.setV(ρ:Env)(n:Nat)(x:OV):Env := {ρ with v:=fun j=>if j=n then x else ρ.v j}
def Env.setP(ρ:Env)(n:Nat)(x:Nat × Nat):Env := {ρ with p:=fun j=>if j=n then x else ρ.p j}
def Env.setS(ρ:Env)(n:Nat)(x:List UInt8):Env := {ρ with s:=fun j=>if j=n then x else ρ.s j}
def Env.setL(ρ:Env)(n:Nat)(x:List OV):Env := {ρ with l:=fun j=>if j=n then x else ρ.l j}
def Env.zero:Env:=⟨fun _=>0,fun _=>false,fun _=>⟨.nilFunc,rfl⟩,fun _=>(0,0),fun _=>[],fun _=>[]⟩
structure Ctr where
 ni:Nat
 nb:Nat
 nv:Nat
 np:Nat
 nk:Nat
 ns:Nat
 nl:Nat
 deriving DecidableEq
structure Ctr.le(c d:Ctr):Prop where
 i:c.ni≤d.ni
 b:c.nb≤d.nb
 v:c.nv≤d.nv
 p:c.np≤d.np
 k:c.nk≤d.nk
 s:c.ns≤d.ns
 l:c.nl≤d.nl
theorem Ctr.le_refl(c:Ctr):c.le c:=⟨Nat.le_refl _,Nat.le_refl _,Nat.le_refl _,Nat.le_refl _,Nat.le_refl _,Nat.le_refl _,Nat.le_refl _⟩
theorem Ctr.le_trans{c d e:Ctr}(h:c.le d)(h':d.le e):c.le e :=
 ⟨Nat.le_trans h.i h'.i,Nat.le_trans h.b h'.b,Nat.le_trans h.v h'.v,Nat.le_trans h.p h'.p,Nat.le_trans h.k h'.k,Nat.le_trans h.s h'.s,Nat.le_trans h.l h'.l⟩
theorem Ctr.le_nk(c:Ctr)(n:Nat):c.le {c with nk:=c.nk + n}:=⟨Nat.le_refl _,Nat.le_refl _,Nat.le_refl _,Nat.le_refl _,Nat.le_add_right _ _,Nat.le_refl _,Nat.le_refl _⟩
theorem Ctr.le_nl(c:Ctr)(n:Nat):c.le {c with nl:=c.nl + n}:=⟨Nat.le_refl _,Nat.le_refl _,Nat.le_refl _,Nat.le_refl _,Nat.le_refl _,Nat.le_refl _,Nat.le_add_right _ _⟩
theorem Ctr.le_ni(c:Ctr)(n:Nat):c.le {c with ni:=c.ni + n}:=⟨Nat.le_add_right _ _,Nat.le_refl _,Nat.le_refl _,Nat.le_refl _,Nat.le_refl _,Nat.le_refl _,Nat.le_refl _⟩
structure Env.like(c:Ctr)(ρ ρ':Env):Prop where
 i:∀ j,j < c.ni→ρ'.i j=ρ.i j
 b:∀ j,j < c.nb→ρ'.b j=ρ.b j
 v:∀ j,j < c.nv→ρ'.v j=ρ.v j
 p:∀ j,j < c.np→ρ'.p j=ρ.p j
 s:∀ j,j < c.ns→ρ'.s j=ρ.s j
 l:∀ j,j < c.nl→ρ'.l j=ρ.l j
theorem Env.like_refl(c:Ctr)(ρ:Env):Env.like c ρ ρ:=⟨fun _ _=>rfl,fun _ _=>rfl,fun _ _=>rfl,fun _ _=>rfl,fun _ _=>rfl,fun _ _=>rfl⟩
theorem Env.like_trans{c d:Ctr}{ρ ρ' ρ'':Env}(hc:c.le d)(h:Env.like c ρ ρ')(h':Env.like d ρ' ρ''):Env.like c ρ ρ'' :=
 ⟨fun j hj=>(h'.i j (Nat.lt_of_lt_of_le hj hc.i)).trans (h.i j hj),fun j hj=>(h'.b j (Nat.lt_of_lt_of_le hj hc.b)).trans (h.b j hj),fun j hj=>(h'.v j (Nat.lt_of_lt_of_le hj hc.v)).trans (h.v j hj),
  fun j hj=>(h'.p j (Nat.lt_of_lt_of_le hj hc.p)).trans (h.p j hj),fun j hj=>(h'.s j (Nat.lt_of_lt_of_le hj hc.s)).trans (h.s j hj),fun j hj=>(h'.l j (Nat.lt_of_lt_of_le hj hc.l)).trans (h.l j hj)⟩
inductive IE where
 | lit (n:Int)
 | var (i:Nat)
 deriving DecidableEq
def IE.den(ρ:Env):IE→Int
 | .lit n=>n
 | .var i=>ρ.i i
def IE.wf(c:Ctr):IE→Bool
 | .lit _=>true
 | .var i=>decide (i < c.ni)
theorem IE.den_like{c:Ctr}{ρ ρ':Env}(h:Env.like c ρ ρ'):∀ {e:IE},e.wf c=true→e.den ρ'=e.den ρ
 | .lit _,_=>rfl
 | .var i,hw=>h.i i (by simpa [IE.wf]using hw)
theorem IE.wf_le{c d:Ctr}(h:c.le d):∀ {e:IE},e.wf c=true→e.wf d=true
 | .lit _,_=>rfl
 | .var i,hw=>by simp [IE.wf]at hw ⊢;exact Nat.lt_of_lt_of_le hw h.i
inductive SE where
 | lit (l:List UInt8)
 | var (i:Nat)
 deriving DecidableEq
def SE.den(ρ:Env):SE→List UInt8
 | .lit l=>l
 | .var i=>ρ.s i
def SE.wf(c:Ctr):SE→Bool
 | .lit _=>true
 | .var i=>decide (i < c.ns)
theorem SE.den_like{c:Ctr}{ρ ρ':Env}(h:Env.like c ρ ρ'):∀ {e:SE},e.wf c=true→e.den ρ'=e.den ρ
 | .lit _,_=>rfl
 | .var i,hw=>h.s i (by simpa [SE.wf]using hw)
theorem SE.wf_le{c d:Ctr}(h:c.le d):∀ {e:SE},e.wf c=true→e.wf d=true
 | .lit _,_=>rfl
 | .var i,hw=>by simp [SE.wf]at hw ⊢;exact Nat.lt_of_lt_of_le hw h.s
inductive BE where
 | lit (b:Bool)
 | var (i:Nat)
 | cmp (op:BinOp) (a b:IE)
 | not (a:BE)
 | and (a b:BE)
 | or (a b:BE)
 | eq (a b:BE)
 | seq (a b:SE)
 deriving DecidableEq
def cmpB(op:BinOp)(a b:Int):Bool :=
 match op with
 | .eql=>a == b
 | .neq=>a != b
 | .lss=>decide (a < b)
 | .leq=>decide (a≤b)
 | .gtr=>decide (a > b)
 | .geq=>decide (a ≥ b)
 | _=>false
def cmpP(op:BinOp)(a b:Int):Prop :=
 match op with
 | .eql=>a=b
 | .neq=>a≠b
 | .lss=>a < b
 | .leq=>a≤b
 | .gtr=>b < a
 | .geq=>b≤a
 | _=>False
theorem zeba(op:BinOp)(a b:Int):cmpP op a b↔cmpB op a b=true:=by
 cases op <;> simp [cmpP,cmpB]
def BE.den(ρ:Env):BE→Bool
 | .lit b=>b
 | .var i=>ρ.b i
 | .cmp op a b=>cmpB op (a.den ρ) (b.den ρ)
 | .not a => !a.den ρ
 | .and a b=>a.den ρ && b.den ρ
 | .or a b=>a.den ρ || b.den ρ
 | .eq a b=>a.den ρ == b.den ρ
 | .seq a b=>decide (a.den ρ=b.den ρ)
def BE.prop(ρ:Env):BE→Prop
 | .lit b=>b=true
 | .var i=>ρ.b i=true
 | .cmp op a b=>cmpP op (a.den ρ) (b.den ρ)
 | .not a=>¬ a.prop ρ
 | .and a b=>a.prop ρ∧b.prop ρ
 | .or a b=>a.prop ρ∨b.prop ρ
 | .eq a b=>a.prop ρ↔b.prop ρ
 | .seq a b=>a.den ρ=b.den ρ
theorem BE.prop_iff(ρ:Env):∀ e:BE,e.prop ρ↔e.den ρ=true
  | .lit b=>Iff.rfl
  | .var i=>Iff.rfl
  | .cmp op a b=>zeba op _ _
  | .not a=>by simp [BE.prop,BE.den,BE.prop_iff ρ a]
  | .and a b=>by simp [BE.prop,BE.den,BE.prop_iff ρ a,BE.prop_iff ρ b]
  | .or a b=>by simp [BE.prop,BE.den,BE.prop_iff ρ a,BE.prop_iff ρ b]
  | .eq a b=>by
    simp only [BE.prop,BE.den,BE.prop_iff ρ a,BE.prop_iff ρ b];cases a.den ρ <;> cases b.den ρ <;> simp
  | .seq a b=>by simp [BE.prop,BE.den]
def BE.wf(c:Ctr):BE→Bool
 | .lit _=>true
 | .var i=>decide (i < c.nb)
 | .cmp _ a b=>a.wf c && b.wf c
 | .not a=>a.wf c
 | .and a b | .or a b | .eq a b=>a.wf c && b.wf c
 | .seq a b=>a.wf c && b.wf c
theorem BE.den_like{c:Ctr}{ρ ρ':Env}(h:Env.like c ρ ρ'):∀ {e:BE},e.wf c=true→e.den ρ'=e.den ρ
 | .lit _,_=>rfl
 | .var i,hw=>h.b i (by simpa [BE.wf]using hw)
 | .cmp op a b,hw=>by simp only [BE.wf,Bool.and_eq_true]at hw;simp only [BE.den,IE.den_like h hw.1,IE.den_like h hw.2]
 | .not a,hw=>by simp only [BE.wf]at hw;simp only [BE.den,BE.den_like h hw]
 | .and a b,hw=>by simp only [BE.wf,Bool.and_eq_true]at hw;simp only [BE.den,BE.den_like h hw.1,BE.den_like h hw.2]
 | .or a b,hw=>by simp only [BE.wf,Bool.and_eq_true]at hw;simp only [BE.den,BE.den_like h hw.1,BE.den_like h hw.2]
 | .eq a b,hw=>by simp only [BE.wf,Bool.and_eq_true]at hw;simp only [BE.den,BE.den_like h hw.1,BE.den_like h hw.2]
 | .seq a b,hw=>by simp only [BE.wf,Bool.and_eq_true]at hw;simp only [BE.den,SE.den_like h hw.1,SE.den_like h hw.2]
theorem BE.wf_le{c d:Ctr}(h:c.le d):∀ {e:BE},e.wf c=true→e.wf d=true
 | .lit _,_=>rfl
 | .var i,hw=>by simp [BE.wf]at hw ⊢;exact Nat.lt_of_lt_of_le hw h.b
 | .cmp _ a b,hw=>by simp only [BE.wf,Bool.and_eq_true]at hw ⊢;exact⟨IE.wf_le h hw.1,IE.wf_le h hw.2⟩
 | .not a,hw=>by simp only [BE.wf]at hw ⊢;exact BE.wf_le h hw
 | .and a b,hw=>by simp only [BE.wf,Bool.and_eq_true]at hw ⊢;exact⟨BE.wf_le h hw.1,BE.wf_le h hw.2⟩
 | .or a b,hw=>by simp only [BE.wf,Bool.and_eq_true]at hw ⊢;exact⟨BE.wf_le h hw.1,BE.wf_le h hw.2⟩
 | .eq a b,hw=>by simp only [BE.wf,Bool.and_eq_true]at hw ⊢;exact⟨BE.wf_le h hw.1,BE.wf_le h hw.2⟩
 | .seq a b,hw=>by simp only [BE.wf,Bool.and_eq_true]at hw ⊢;exact⟨SE.wf_le h hw.1,SE.wf_le h hw.2⟩
def BE.sim:BE→BE
  | .cmp op (.lit a) (.lit b)=>.lit (cmpB op a b)
  | .not a=>match a.sim with
    | .lit b=>.lit !b
    | .not c=>c
    | c=>.not c
  | .and a b=>match a.sim,b.sim with
    | .lit false,_=>.lit false
    | .lit true,d=>d
    | _,.lit false=>.lit false
    | c,.lit true=>c
    | c,d=>.and c d
  | .or a b=>match a.sim,b.sim with
    | .lit true,_=>.lit true
    | .lit false,d=>d
    | _,.lit true=>.lit true
    | c,.lit false=>c
    | c,d=>.or c d
  | .eq a b=>match a.sim,b.sim with
    | .lit c,.lit d=>.lit (c == d)
    | .lit true,d=>d
    | c,.lit true=>c
    | .lit false,d=>.not d
    | c,.lit false=>.not c
    | c,d=>.eq c d
  | .seq (.lit a) (.lit b)=>.lit (decide (a=b))
  | e=>e
theorem BE.den_sim(ρ:Env):∀ e:BE,e.sim.den ρ=e.den ρ
  | .lit _=>rfl
  | .var _=>rfl
  | .cmp op a b=>by cases a <;> cases b <;> rfl
  | .not a=>by
    have h:=BE.den_sim ρ a;simp only [BE.sim,BE.den,← h];split <;> simp_all [BE.den]
  | .and a b=>by
    have h:=BE.den_sim ρ a;have h':=BE.den_sim ρ b;simp only [BE.sim,BE.den,← h,← h'];split <;> simp_all [BE.den]
  | .or a b=>by
    have h:=BE.den_sim ρ a;have h':=BE.den_sim ρ b;simp only [BE.sim,BE.den,← h,← h'];split <;> simp_all [BE.den]
  | .eq a b=>by
    have h:=BE.den_sim ρ a;have h':=BE.den_sim ρ b;simp only [BE.sim,BE.den,← h,← h'];split <;> simp_all [BE.den]
  | .seq a b=>by cases a <;> cases b <;> rfl
inductive IP where
 | bin (op:BinOp) (k:IntKind) (a b:IE)
 | shl (k:IntKind) (a:IE) (n:Nat)
 | shr (a:IE) (n:Nat)
 | conv (k:IntKind) (a:IE)
 | neg (k:IntKind) (a:IE)
 | com (k:IntKind) (a:IE)
 | max (a b:IE)
 | min (a b:IE)
 | sum (a b:IE)
 | diff (a b:IE)
 | slen (s:SE)
 | sidx (s:SE) (i:IE)
 | olen (n:Nat) (vs:List Nat) (sz:Nat)
 deriving DecidableEq
def ibin(op:BinOp)(k:IntKind)(a b:Int):Int :=
 match op with
 | .add=>k.wrap (a + b)
 | .sub=>k.wrap (a - b)
 | .mul=>k.wrap (a * b)
 | .quo=>k.wrap (a.tdiv b)
 | .rem=>a.tmod b
 | .shl=>k.wrap (a * 2 ^ (Nat.min b.toNat k.bits))
 | .shr=>a.fdiv (2 ^ (Nat.min b.toNat k.bits))
 | op=>bits op k a b
def IP.den(ρ:Env):IP→Int
 | .bin op k a b=>ibin op k (a.den ρ) (b.den ρ)
 | .shl k a n=>k.wrap (a.den ρ * ((2 ^ n:Nat):Int))
 | .shr a n=>a.den ρ / ((2 ^ n:Nat):Int)
 | .conv k a=>k.wrap (a.den ρ)
 | .neg k a=>k.wrap (0 - a.den ρ)
 | .com k a=>bits .xor k (if k.signed then -1 else k.max) (a.den ρ)
 | .max a b=>if b.den ρ > a.den ρ then b.den ρ else a.den ρ
 | .min a b=>if b.den ρ < a.den ρ then b.den ρ else a.den ρ
 | .sum a b=>a.den ρ + b.den ρ
 | .diff a b=>a.den ρ - b.den ρ
 | .slen s=>((s.den ρ).length:Int)
 | .sidx s i=>(((s.den ρ).getD (i.den ρ).toNat 0).toNat:Int)
 | .olen n vs sz=>(((n + (vs.map fun j=>(ρ.l j).length).sum) / sz:Nat):Int)
def IP.wf(c:Ctr):IP→Bool
 | .bin _ _ a b | .max a b | .min a b | .sum a b | .diff a b=>a.wf c && b.wf c
 | .shl _ a _ | .shr a _ | .conv _ a | .neg _ a | .com _ a=>a.wf c
 | .slen s=>s.wf c
 | .sidx s i=>s.wf c && i.wf c
 | .olen _ vs _=>vs.all fun j=>decide (j < c.nl)
def IP.lits:IP→Bool
 | .bin _ _ (.lit _) (.lit _) | .max (.lit _) (.lit _) | .min (.lit _) (.lit _) | .sum (.lit _) (.lit _) | .diff (.lit _) (.lit _)=>true
 | .shl _ (.lit _) _ | .shr (.lit _) _ | .conv _ (.lit _) | .neg _ (.lit _) | .com _ (.lit _)=>true
 | .slen (.lit _) | .sidx (.lit _) (.lit _) | .olen _ [] _=>true
 | _=>false
theorem IP.den_lits{ρ ρ':Env}:∀ {p:IP},p.lits=true→p.den ρ=p.den ρ':=by
 intro p h;cases p
 case bin op k a b=>cases a <;> cases b <;> first | rfl | (simp [IP.lits]at h)
 case max a b=>cases a <;> cases b <;> first | rfl | (simp [IP.lits]at h)
 case min a b=>cases a <;> cases b <;> first | rfl | (simp [IP.lits]at h)
 case sum a b=>cases a <;> cases b <;> first | rfl | (simp [IP.lits]at h)
 case diff a b=>cases a <;> cases b <;> first | rfl | (simp [IP.lits]at h)
 case shl k a n=>cases a <;> first | rfl | (simp [IP.lits]at h)
 case shr a n=>cases a <;> first | rfl | (simp [IP.lits]at h)
 case slen s=>cases s <;> first | rfl | (simp [IP.lits]at h)
 case sidx s i=>cases s <;> cases i <;> first | rfl | (simp [IP.lits]at h)
 case olen n vs sz=>cases vs <;> first | rfl | (simp [IP.lits]at h)
 all_goals (rename_i a;cases a <;> first | rfl | (simp [IP.lits]at h))
theorem IP.den_like{c:Ctr}{ρ ρ':Env}(h:Env.like c ρ ρ'){p:IP}(hw:p.wf c=true):p.den ρ'=p.den ρ:=by
 cases p
 case slen s=>simp only [IP.den,SE.den_like h hw]
 case sidx s i=>simp only [IP.wf,Bool.and_eq_true]at hw;simp only [IP.den,SE.den_like h hw.1,IE.den_like h hw.2]
 case olen n vs sz =>
  simp only [IP.den];congr 3;refine congrArg List.sum (List.map_congr_left fun j hj => ?_);rw [h.l j (by simpa using List.all_eq_true.1 hw j hj)]
 all_goals (simp only [IP.wf,Bool.and_eq_true]at hw;first | simp only [IP.den,IE.den_like h hw.1,IE.den_like h hw.2] | simp only [IP.den,IE.den_like h hw])
inductive Cell0 where
 | int (k:IntKind) (e:IE)
 | bool (e:BE)
 | str (l:List UInt8)
 | sv (i:Nat)
 | nils
 | lsl (k off len cap:Nat)
 | qsl (q p sz:Nat) (len cap:IE)
 | own (k:Nat)
 deriving DecidableEq
inductive At where
 | int (k:IntKind) (e:IE)
 | bool (e:BE)
 | val (i:Nat)
 | str (l:List UInt8)
 | nilp
 | nils
 | nilf
 | nili
 | nilm
 | loc (k off:Nat)
 | lsl (k off len cap:Nat)
 | ext (p:Nat) (ix:IE) (sz c:Nat)
 | xsl (p:Nat) (ix:IE) (sz:Nat) (len cap:IE)
 | fn (f:FuncId) (caps:List (Nat × Nat))
 | sv (i:Nat)
 | qsl (q p sz:Nat) (len cap:IE)
 | own (k:Nat)
 | oloc (k:Nat) (ix:IE) (sz c:Nat)
 | mfn (f:FuncId) (first caps:List (Nat × Nat))
 | yld (k:Nat)
 | omap (k:Nat)
 | bts (k:Nat)
 | gfn (f:FuncId) (first:List Cell0) (caps:List (Nat × Nat))
 deriving DecidableEq
def Cell0.at:Cell0→At
 | .int k e=>.int k e
 | .bool e=>.bool e
 | .str l=>.str l
 | .sv i=>.sv i
 | .nils=>.nils
 | .lsl k off len cap=>.lsl k off len cap
 | .qsl q p sz len cap=>.qsl q p sz len cap
 | .own k=>.own k
def Cell0.of:At→Option Cell0
 | .int k e=>some (.int k e)
 | .bool e=>some (.bool e)
 | .str l=>some (.str l)
 | .sv i=>some (.sv i)
 | .nils=>some .nils
 | .lsl k off len cap=>some (.lsl k off len cap)
 | .qsl q p sz len cap=>some (.qsl q p sz len cap)
 | .own k=>some (.own k)
 | _=>none
def Cell0.ofs:List At→Option (List Cell0)
  | []=>some []
  | a::r=>match Cell0.of a,Cell0.ofs r with
    | some x,some l=>some (x::l)
    | _,_=>none
theorem Cell0.of_at{a:At}{x:Cell0}(h:Cell0.of a=some x):x.at=a:=by
 cases a <;> simp only [Cell0.of,Option.some.injEq,reduceCtorEq]at h <;> subst h <;> rfl
theorem Cell0.ofs_at:∀ {l:List At} {r:List Cell0},Cell0.ofs l=some r→r.map Cell0.at=l
  | [],r,h=>by simp only [Cell0.ofs,Option.some.injEq]at h;subst h;rfl
  | a::l,r,h=>by
    simp only [Cell0.ofs]at h;split at h
    · rename_i x l' h1 h2;simp only [Option.some.injEq]at h;subst h;rw [List.map_cons,Cell0.of_at h1,Cell0.ofs_at h2]
    · cases h
def unpair:Nat→Nat→Nat × Nat
 | 0,_=>(0,0)
 | k + 1,n=>if n % 2=1 then (0,n / 2)else ((unpair k (n / 2)).1 + 1,(unpair k (n / 2)).2)
theorem zzk:∀ (k a b:Nat),a < k→unpair k (2 ^ a * (2 * b + 1))=(a,b)
  | 0,a,b,h=>by omega
  | k + 1,0,b,_=>by
    unfold unpair;rw [Nat.pow_zero,Nat.one_mul,if_pos (by omega)];congr 1;omega
  | k + 1,a + 1,b,h=>by
    have e:2 ^ (a + 1) * (2 * b + 1)=2 * (2 ^ a * (2 * b + 1)):=by rw [Nat.pow_succ,Nat.mul_comm (2 ^ a) 2,Nat.mul_assoc]
    unfold unpair;rw [e,if_neg (by omega),Nat.mul_div_cancel_left _ (by decide),zzk k a b (by omega)]
def qad(p:Nat × Nat)(n m:Nat):Addr :=
 if n=0∧m=0 then ⟨p.1,(unpair (p.2 + 1) p.2).1,if (unpair (p.2 + 1) p.2).2=0 then none else some ((unpair (p.2 + 1) p.2).2 - 1)⟩else ⟨p.1,p.2,none⟩
theorem zal{p:Nat × Nat}{n m:Nat}(h:¬ (n=0∧m=0)):qad p n m=⟨p.1,p.2,none⟩:=if_neg h
theorem zfba(a:Addr):∃ p,qad p 0 0=a:=by
 obtain⟨b,o,s⟩:=a
 have h:∀ x,unpair (2 ^ o * (2 * x + 1) + 1) (2 ^ o * (2 * x + 1))=(o,x):=fun x=>zzk _ _ _ (by
  have h1:o < 2 ^ o:=Nat.lt_two_pow_self;have h2:2 ^ o * 1≤2 ^ o * (2 * x + 1):=Nat.mul_le_mul_left _ (by omega)
  omega)
 cases s with
 | none=>exact⟨(b,2 ^ o * (2 * 0 + 1)),by unfold qad;simp only [and_self,if_true];rw [h 0];rfl⟩
 | some x=>exact⟨(b,2 ^ o * (2 * (x + 1) + 1)),by unfold qad;simp only [and_self,if_true];rw [h (x + 1)];simp⟩
def ownV(b code n base:Nat):Value:=if code=0 then .slice none 0 0 else .slice (some ⟨b,base,none⟩) n (code - 1)
theorem zfy(b code n base:Nat):(ownV b code n base).oneCell'=true:=by unfold ownV;split <;> rfl
def rowV(md b code n base:Nat):Value:=match md with
 | 0=>ownV b code n base
 | 1=>.map (some b)
 | _=>.slice (some ⟨b,0,none⟩) n (code - 2)
def rowAt(md k:Nat):At:=match md with
 | 0=>.own k
 | 1=>.omap k
 | _=>.bts k
def ptr(b o:Nat):Value := .pointer (some ⟨b,o,none⟩)
def Cell0.den(ρ:Env)(β:Nat→Nat):Cell0→Value
 | .int k e=>.int k (e.den ρ)
 | .bool e=>.bool (e.den ρ)
 | .str l=>.string ⟨l.toArray⟩
 | .sv i=>.string ⟨(ρ.s i).toArray⟩
 | .nils=>.slice none 0 0
 | .lsl k off len cap=>.slice (some ⟨β k,off,none⟩) len cap
 | .qsl q p _ len cap=>if ρ.b q=true then .slice none 0 0 else .slice (some (qad (ρ.p p) (len.den ρ).toNat (cap.den ρ).toNat)) (len.den ρ).toNat (cap.den ρ).toNat
 | .own k=>ownV (β k) (β (k + 1)) (β (k + 2)) (β (k + 3))
def Cell0.wf(c:Ctr):Cell0→Bool
 | .int _ e=>e.wf c
 | .bool e=>e.wf c
 | .sv i=>decide (i < c.ns)
 | .lsl k _ _ _=>decide (k < c.nk)
 | .qsl q p _ l m=>decide (q < c.nb) && decide (p < c.np) && l.wf c && m.wf c
 | .own k=>decide (k + 3 < c.nk)
 | _=>true
def At.den(ρ:Env)(β:Nat→Nat):At→Value
 | .int k e=>.int k (e.den ρ)
 | .bool e=>.bool (e.den ρ)
 | .val i=>(ρ.v i).1
 | .str l=>.string ⟨l.toArray⟩
 | .nilp=>.pointer none
 | .nils=>.slice none 0 0
 | .nilf=>.nilFunc
 | .nili=>.nilIface
 | .nilm=>.map none
 | .loc k off=>.pointer (some ⟨β k,off,none⟩)
 | .lsl k off len cap=>.slice (some ⟨β k,off,none⟩) len cap
 | .ext p ix sz c=>.pointer (some ⟨(ρ.p p).1,(ρ.p p).2 + (ix.den ρ).toNat * sz + c,none⟩)
 | .xsl p ix sz len cap=>.slice (some ⟨(ρ.p p).1,(ρ.p p).2 + (ix.den ρ).toNat * sz,none⟩) (len.den ρ).toNat (cap.den ρ).toNat
 | .fn f caps=>.func (.func f) #[] (caps.map fun c=>.pointer (some ⟨β c.1,c.2,none⟩)).toArray
 | .sv i=>.string ⟨(ρ.s i).toArray⟩
 | .qsl q p _ len cap=>if ρ.b q=true then .slice none 0 0 else .slice (some (qad (ρ.p p) (len.den ρ).toNat (cap.den ρ).toNat)) (len.den ρ).toNat (cap.den ρ).toNat
 | .own k=>ownV (β k) (β (k + 1)) (β (k + 2)) (β (k + 3))
 | .oloc k ix sz c=>.pointer (some ⟨β k,(ix.den ρ).toNat * sz + c,none⟩)
 | .mfn f first caps=>.func (.func f) (first.map fun c=>.pointer (some ⟨β c.1,c.2,none⟩)).toArray (caps.map fun c=>.pointer (some ⟨β c.1,c.2,none⟩)).toArray
 | .yld k=>.func (.yield (β k)) #[] #[]
 | .omap k=>.map (some (β k))
 | .bts k=>.slice (some ⟨β k,0,none⟩) (β (k + 2)) (β (k + 1) - 2)
 | .gfn f first caps=>.func (.func f) #[.agg (first.map (Cell0.den ρ β)).toArray] (caps.map fun c=>.pointer (some ⟨β c.1,c.2,none⟩)).toArray
theorem Cell0.den_at(ρ:Env)(β:Nat→Nat)(x:Cell0):x.at.den ρ β=x.den ρ β:=by cases x <;> rfl
theorem zrv(ρ:Env)(β:Nat→Nat)(md k:Nat):(rowAt md k).den ρ β=rowV md (β k) (β (k + 1)) (β (k + 2)) (β (k + 3)):=by
 match md with
 | 0=>rfl
 | 1=>rfl
 | _ + 2=>rfl
theorem At.den_one(ρ:Env)(β:Nat→Nat):∀ a:At,(a.den ρ β).oneCell'=true
 | .val i=>(ρ.v i).2
 | .qsl q p _ len cap=>by simp only [At.den];split <;> rfl
 | .own k=>zfy _ _ _ _
 | .sv .. | .oloc .. | .mfn .. | .yld .. | .omap .. | .bts .. | .gfn .. => rfl
 | .int .. | .bool .. | .str .. | .nilp | .nils | .nilf | .nili | .nilm | .loc .. | .lsl .. | .ext .. | .xsl .. | .fn .. => rfl
def At.wf(c:Ctr):At→Bool
 | .int _ e=>e.wf c
 | .bool e=>e.wf c
 | .val i=>decide (i < c.nv)
 | .loc k _ | .lsl k _ _ _=>decide (k < c.nk)
 | .ext p ix _ _=>decide (p < c.np) && ix.wf c
 | .xsl p ix _ l m=>decide (p < c.np) && ix.wf c && l.wf c && m.wf c
 | .fn _ caps=>caps.all fun x=>decide (x.1 < c.nk)
 | .sv i=>decide (i < c.ns)
 | .qsl q p _ l m=>decide (q < c.nb) && decide (p < c.np) && l.wf c && m.wf c
 | .own k | .omap k | .bts k=>decide (k + 3 < c.nk)
 | .oloc k ix _ _=>decide (k < c.nk) && ix.wf c
 | .mfn _ first caps=>(first.all fun x=>decide (x.1 < c.nk)) && caps.all fun x=>decide (x.1 < c.nk)
 | .yld k=>decide (k < c.nk)
 | .gfn _ first caps=>(first.all fun x=>x.wf c) && caps.all fun x=>decide (x.1 < c.nk)
 | _=>true
theorem Cell0.wf_at(c:Ctr)(x:Cell0):x.at.wf c=x.wf c:=by cases x <;> rfl
def At.flat:At→Bool
 | .loc .. | .lsl .. | .own .. | .oloc .. | .mfn .. | .yld .. | .omap .. | .bts .. | .gfn .. => false
 | .fn _ caps=>caps.isEmpty
 | _=>true
theorem Cell0.den_like{c:Ctr}{ρ ρ':Env}{β β':Nat→Nat}(h:Env.like c ρ ρ')(hb:∀ k,k < c.nk→β' k=β k):∀ {a:Cell0},a.wf c=true→a.den ρ' β'=a.den ρ β:=by
 intro a hw;cases a <;> simp only [Cell0.wf,Bool.and_eq_true,decide_eq_true_eq]at hw <;> simp only [Cell0.den]
 case int=>rw [IE.den_like h hw]
 case bool=>rw [BE.den_like h hw]
 case sv i=>rw [h.s i hw]
 case lsl k o l m=>rw [hb k hw]
 case qsl q p s l m=>rw [h.b q hw.1.1.1,h.p p hw.1.1.2,IE.den_like h hw.1.2,IE.den_like h hw.2]
 case own k=>rw [hb k (by omega),hb (k + 1) (by omega),hb (k + 2) (by omega),hb (k + 3) (by omega)]
theorem Cell0.wf_le{c d:Ctr}(h:c.le d):∀ {a:Cell0},a.wf c=true→a.wf d=true:=by
 intro a hw;cases a <;> simp only [Cell0.wf,Bool.and_eq_true,decide_eq_true_eq]at hw ⊢
 case int=>exact IE.wf_le h hw
 case bool=>exact BE.wf_le h hw
 case sv=>exact Nat.lt_of_lt_of_le hw h.s
 case lsl=>exact Nat.lt_of_lt_of_le hw h.k
 case qsl=>exact⟨⟨⟨Nat.lt_of_lt_of_le hw.1.1.1 h.b,Nat.lt_of_lt_of_le hw.1.1.2 h.p⟩,IE.wf_le h hw.1.2⟩,IE.wf_le h hw.2⟩
 case own=>exact Nat.lt_of_lt_of_le hw h.k
theorem At.den_like{c:Ctr}{ρ ρ':Env}{β β':Nat→Nat}(h:Env.like c ρ ρ')(hb:∀ k,k < c.nk→β' k=β k):∀ {a:At},a.wf c=true→a.den ρ' β'=a.den ρ β:=by
 intro a hw;cases a <;> simp only [At.wf,Bool.and_eq_true,decide_eq_true_eq]at hw <;> simp only [At.den]
 case int=>rw [IE.den_like h hw]
 case bool=>rw [BE.den_like h hw]
 case val i=>rw [h.v i hw]
 case loc k o=>rw [hb k hw]
 case lsl k o l m=>rw [hb k hw]
 case ext p ix s e=>rw [h.p p hw.1,IE.den_like h hw.2]
 case xsl p ix s l m=>rw [h.p p hw.1.1.1,IE.den_like h hw.1.1.2,IE.den_like h hw.1.2,IE.den_like h hw.2]
 case fn f caps =>
  congr 2;apply List.map_congr_left;intro x hx;rw [hb x.1 (by simpa using List.all_eq_true.1 hw x hx)]
 case sv i=>rw [h.s i hw]
 case qsl q p s l m=>rw [h.b q hw.1.1.1,h.p p hw.1.1.2,IE.den_like h hw.1.2,IE.den_like h hw.2]
 case own k=>rw [hb k (by omega),hb (k + 1) (by omega),hb (k + 2) (by omega),hb (k + 3) (by omega)]
 case oloc k ix s e=>rw [hb k hw.1,IE.den_like h hw.2]
 case omap k=>rw [hb k (by omega)]
 case bts k=>rw [hb k (by omega),hb (k + 1) (by omega),hb (k + 2) (by omega)]
 case mfn f first caps =>
  congr 2
  ·apply List.map_congr_left;intro x hx;rw [hb x.1 (by simpa using List.all_eq_true.1 hw.1 x hx)]
  ·apply List.map_congr_left;intro x hx;rw [hb x.1 (by simpa using List.all_eq_true.1 hw.2 x hx)]
 case yld k=>rw [hb k hw]
 case gfn f first caps =>
  have e1:first.map (Cell0.den ρ' β')=first.map (Cell0.den ρ β):=List.map_congr_left fun x hx=>Cell0.den_like h hb (List.all_eq_true.1 hw.1 x hx)
  have e2:(caps.map fun c=>(.pointer (some ⟨β' c.1,c.2,none⟩):Value))=caps.map fun c=>.pointer (some ⟨β c.1,c.2,none⟩):=List.map_congr_left fun x hx=>by rw [hb x.1 (by simpa using List.all_eq_true.1 hw.2 x hx)]
  rw [e1,e2]
theorem At.wf_le{c d:Ctr}(h:c.le d):∀ {a:At},a.wf c=true→a.wf d=true:=by
 have hcaps:∀ {l:List (Nat × Nat)},(l.all fun x=>decide (x.1 < c.nk))=true→(l.all fun x=>decide (x.1 < d.nk))=true:=fun hw =>
  List.all_eq_true.2 fun x hx=>decide_eq_true (Nat.lt_of_lt_of_le (of_decide_eq_true (List.all_eq_true.1 hw x hx)) h.k)
 intro a hw;cases a <;> simp only [At.wf,Bool.and_eq_true,decide_eq_true_eq]at hw ⊢
 case int=>exact IE.wf_le h hw
 case bool=>exact BE.wf_le h hw
 case val i=>exact Nat.lt_of_lt_of_le hw h.v
 case loc=>exact Nat.lt_of_lt_of_le hw h.k
 case lsl=>exact Nat.lt_of_lt_of_le hw h.k
 case ext=>exact⟨Nat.lt_of_lt_of_le hw.1 h.p,IE.wf_le h hw.2⟩
 case xsl=>exact⟨⟨⟨Nat.lt_of_lt_of_le hw.1.1.1 h.p,IE.wf_le h hw.1.1.2⟩,IE.wf_le h hw.1.2⟩,IE.wf_le h hw.2⟩
 case fn=>exact hcaps hw
 case sv=>exact Nat.lt_of_lt_of_le hw h.s
 case qsl=>exact⟨⟨⟨Nat.lt_of_lt_of_le hw.1.1.1 h.b,Nat.lt_of_lt_of_le hw.1.1.2 h.p⟩,IE.wf_le h hw.1.2⟩,IE.wf_le h hw.2⟩
 case own=>exact Nat.lt_of_lt_of_le hw h.k
 case omap=>exact Nat.lt_of_lt_of_le hw h.k
 case bts=>exact Nat.lt_of_lt_of_le hw h.k
 case oloc=>exact⟨Nat.lt_of_lt_of_le hw.1 h.k,IE.wf_le h hw.2⟩
 case mfn=>exact⟨hcaps hw.1,hcaps hw.2⟩
 case yld=>exact Nat.lt_of_lt_of_le hw h.k
 case gfn f first caps=>exact⟨List.all_eq_true.2 fun x hx=>Cell0.wf_le h (List.all_eq_true.1 hw.1 x hx),hcaps hw.2⟩
def At.ofValue:Value→Option At
 | .bool b=>some (.bool (.lit b))
 | .int k n=>some (.int k (.lit n))
 | .string s=>some (.str s.data.toList)
 | .pointer none=>some .nilp
 | .slice none 0 0=>some .nils
 | .nilFunc=>some .nilf
 | .nilIface=>some .nili
 | .map none=>some .nilm
 | .func (.func f) first caps=>if first.size=0∧caps.size=0 then some (.fn f [])else none
 | _=>none
theorem At.ofValue_den{v:Value}{a:At}(h:At.ofValue v=some a)(c:Ctr)(ρ:Env)(β:Nat→Nat):a.wf c=true∧a.den ρ β=v:=by
  unfold At.ofValue at h
  split at h <;> first
    | (cases h;exact⟨rfl,rfl⟩)
    | (split at h
       · rename_i hs;cases h;refine⟨rfl, ?_⟩;obtain⟨h1,h2⟩:=hs;rw [Array.size_eq_zero_iff]at h1 h2;subst h1 h2;rfl
       · cases h)
    | cases h
inductive CV where
 | one (a:At)
 | agg (l:List At)
 deriving DecidableEq
def CV.den(ρ:Env)(β:Nat→Nat):CV→Value
 | .one a=>a.den ρ β
 | .agg l=>.agg (l.map (At.den ρ β)).toArray
def CV.wf(c:Ctr):CV→Bool
 | .one a=>a.wf c
 | .agg l=>l.all (At.wf c)
def CV.cells:CV→List At
 | .one a=>[a]
 | .agg l=>l
def CV.flat:CV→Bool
 | .one a=>a.flat
 | .agg l=>l.all At.flat
theorem zha{c:Ctr}{ρ ρ':Env}{β β':Nat→Nat}(h:Env.like c ρ ρ')(hb:∀ k,k < c.nk→β' k=β k){l:List At}(hw:l.all (At.wf c)=true) :
  l.map (At.den ρ' β')=l.map (At.den ρ β):=List.map_congr_left fun x hx=>At.den_like h hb (List.all_eq_true.1 hw x hx)
theorem CV.den_like{c:Ctr}{ρ ρ':Env}{β β':Nat→Nat}(h:Env.like c ρ ρ')(hb:∀ k,k < c.nk→β' k=β k):∀ {a:CV},a.wf c=true→a.den ρ' β'=a.den ρ β
 | .one a,hw=>At.den_like h hb hw
 | .agg l,hw=>by simp only [CV.den,zha h hb hw]
theorem zed{c d:Ctr}(h:c.le d){l:List At}(hw:l.all (At.wf c)=true):l.all (At.wf d)=true :=
 List.all_eq_true.2 fun x hx=>At.wf_le h (List.all_eq_true.1 hw x hx)
theorem CV.wf_le{c d:Ctr}(h:c.le d):∀ {a:CV},a.wf c=true→a.wf d=true
 | .one a,hw=>At.wf_le h hw
 | .agg l,hw=>zed h hw
inductive Kn where
 | ifc (i:Nat) (t:TypeId) (v:CV)
 | glo (p g:Nat)
 deriving DecidableEq
def Kn.den(ρ:Env):Kn→Prop
 | .ifc i t v=>(ρ.v i).1=.iface t (v.den ρ (fun _=>0))
 | .glo p g=>ρ.p p=(g,0)
def Kn.wf(c:Ctr):Kn→Bool
 | .ifc i _ v=>decide (i < c.nv) && (v.wf c && v.flat)
 | .glo p _=>decide (p < c.np)
theorem Kn.den_like{c:Ctr}{ρ ρ':Env}(h:Env.like c ρ ρ'):∀ {x:Kn},x.wf c=true→x.den ρ→x.den ρ'
  | .ifc i t v,hw,hd=>by
    simp only [Kn.wf,Bool.and_eq_true,decide_eq_true_eq]at hw;simp only [Kn.den]at hd ⊢;rw [h.v i hw.1,hd,CV.den_like h (fun _ _=>rfl) hw.2.1]
  | .glo p g,hw,hd=>by
    simp only [Kn.wf,decide_eq_true_eq]at hw;simp only [Kn.den]at hd ⊢;rw [h.p p hw,hd]
theorem Kn.wf_le{c d:Ctr}(h:c.le d):∀ {x:Kn},x.wf c=true→x.wf d=true
  | .ifc i t v,hw=>by
    simp only [Kn.wf,Bool.and_eq_true,decide_eq_true_eq]at hw ⊢;exact⟨Nat.lt_of_lt_of_le hw.1 h.v,CV.wf_le h hw.2.1,hw.2.2⟩
  | .glo p g,hw=>by
    simp only [Kn.wf,decide_eq_true_eq]at hw ⊢;exact Nat.lt_of_lt_of_le hw h.p
abbrev KnL:=List Kn
def KnL.den(k:KnL)(ρ:Env):Prop:=∀ x∈k,x.den ρ
def KnL.wf(k:KnL)(c:Ctr):Prop:=∀ x∈k,x.wf c=true
theorem KnL.den_like{k:KnL}{c:Ctr}{ρ ρ':Env}(h:Env.like c ρ ρ')(hw:KnL.wf k c)(hd:KnL.den k ρ):KnL.den k ρ':=fun x hx=>Kn.den_like h (hw x hx) (hd x hx)
theorem KnL.wf_le{k:KnL}{c d:Ctr}(h:c.le d)(hw:KnL.wf k c):KnL.wf k d:=fun x hx=>Kn.wf_le h (hw x hx)
def findG:KnL→Nat→Option Nat
 | [],_=>none
 | .glo p g'::r,g=>if g'=g then some p else findG r g
 | _::r,g=>findG r g
def findP:KnL→Nat→Option Nat
 | [],_=>none
 | .glo p' g::r,p=>if p'=p then some g else findP r p
 | _::r,p=>findP r p
def findI:KnL→Nat→Option (TypeId × CV)
 | [],_=>none
 | .ifc j t v::r,i=>if j=i then some (t,v)else findI r i
 | _::r,i=>findI r i
theorem zki:∀ {k:KnL} {g p:Nat},findG k g=some p→Kn.glo p g∈k
  | [],_,_,h=>by cases h
  | .glo p' g'::r,g,p,h=>by
    simp only [findG]at h;split at h
    · rename_i he;cases h;subst he;exact List.mem_cons_self ..
    · exact List.mem_cons_of_mem _ (zki h)
  | .ifc .. :: r,g,p,h=>List.mem_cons_of_mem _ (zki (k:=r) h)
theorem zbl:∀ {k:KnL} {g p:Nat},findP k p=some g→Kn.glo p g∈k
  | [],_,_,h=>by cases h
  | .glo p' g'::r,g,p,h=>by
    simp only [findP]at h;split at h
    · rename_i he;cases h;subst he;exact List.mem_cons_self ..
    · exact List.mem_cons_of_mem _ (zbl h)
  | .ifc .. :: r,g,p,h=>List.mem_cons_of_mem _ (zbl (k:=r) h)
theorem zfd:∀ {k:KnL} {i:Nat} {t:TypeId} {v:CV},findI k i=some (t,v)→Kn.ifc i t v∈k
  | [],_,_,_,h=>by cases h
  | .ifc j t' v'::r,i,t,v,h=>by
    simp only [findI]at h;split at h
    · rename_i he;cases h;subst he;exact List.mem_cons_self ..
    · exact List.mem_cons_of_mem _ (zfd h)
  | .glo .. :: r,i,t,v,h=>List.mem_cons_of_mem _ (zfd (k:=r) h)
inductive SV where
 | any
 | und
 | cv (c:CV)
 | tup (l:List CV)
 deriving DecidableEq
def SV.den(ρ:Env)(β:Nat→Nat):SV→Value
 | .any=>undef
 | .und=>undef
 | .cv c=>c.den ρ β
 | .tup l=>.tuple (l.map (CV.den ρ β)).toArray
def SV.wf(c:Ctr):SV→Bool
 | .any=>true
 | .und=>true
 | .cv x=>x.wf c
 | .tup l=>l.all (CV.wf c)
theorem SV.den_like{c:Ctr}{ρ ρ':Env}{β β':Nat→Nat}(h:Env.like c ρ ρ')(hb:∀ k,k < c.nk→β' k=β k):∀ {a:SV},a.wf c=true→a.den ρ' β'=a.den ρ β
  | .any,_=>rfl
  | .und,_=>rfl
  | .cv a,hw=>CV.den_like h hb hw
  | .tup l,hw=>by
    simp only [SV.den];rw [List.map_congr_left fun x hx=>CV.den_like h hb (List.all_eq_true.1 hw x hx)]
theorem SV.wf_le{c d:Ctr}(h:c.le d):∀ {a:SV},a.wf c=true→a.wf d=true
 | .any,_=>rfl
 | .und,_=>rfl
 | .cv a,hw=>CV.wf_le h hw
 | .tup l,hw=>List.all_eq_true.2 fun x hx=>CV.wf_le h (List.all_eq_true.1 hw x hx)
def atsOf:List Value→Option (List At)
  | []=>some []
  | v::l=>match At.ofValue v,atsOf l with
    | some a,some r=>some (a::r)
    | _,_=>none
theorem zep:∀ {l:List Value} {r:List At} (_:atsOf l=some r) (c:Ctr) (ρ:Env) (β:Nat→Nat),r.all (At.wf c)=true∧r.map (At.den ρ β)=l
  | [],r,h,_,_,_=>by simp only [atsOf,Option.some.injEq]at h;subst h;exact⟨rfl,rfl⟩
  | v::l,r,h,c,ρ,β=>by
    simp only [atsOf]at h;split at h
    · rename_i a r' ha hr;simp only [Option.some.injEq]at h;subst h;obtain⟨h1,h2⟩:=At.ofValue_den ha c ρ β;obtain⟨h3,h4⟩:=zep hr c ρ β;exact⟨by simp only [List.all_cons,h1,h3,Bool.and_self],by simp only [List.map_cons,h2,h4]⟩
    · cases h
def SV.ofValue:Value→SV
  | .agg cs=>match atsOf cs.toList with
    | some l=>.cv (.agg l)
    | none=>.any
  | v=>match At.ofValue v with
    | some a=>.cv (.one a)
    | none=>.any
theorem SV.ofValue_den(v:Value)(c:Ctr)(ρ:Env)(β:Nat→Nat):(SV.ofValue v).wf c=true∧(SV.ofValue v ≠ .any→(SV.ofValue v).den ρ β=v):=by
 unfold SV.ofValue;split
 ·split
  ·rename_i cs l h;obtain⟨h1,h2⟩:=zep h c ρ β;exact⟨h1,fun _=>by simp only [SV.den,CV.den,h2,Array.toArray_toList]⟩
  ·exact⟨rfl,fun h=>(h rfl).elim⟩
 ·split
  ·rename_i a h;obtain⟨h1,h2⟩:=At.ofValue_den h c ρ β;exact⟨h1,fun _=>h2⟩
  ·exact⟨rfl,fun h=>(h rfl).elim⟩
inductive Sg where
 | ats (l:List At)
 | var (i:Nat)
 deriving DecidableEq
abbrev CE:=List Sg
def Sg.den(ρ:Env)(β:Nat→Nat):Sg→List Value
 | .ats l=>l.map (At.den ρ β)
 | .var i=>(ρ.l i).map (·.1)
def ceDen(ρ:Env)(β:Nat→Nat):CE→List Value
 | []=>[]
 | s::r=>s.den ρ β++ceDen ρ β r
def Sg.wf(c:Ctr):Sg→Bool
 | .ats l=>l.all (At.wf c)
 | .var i=>decide (i < c.nl)
def ceWf(c:Ctr)(l:CE):Bool:=l.all (Sg.wf c)
def ceNum:CE→Nat
 | []=>0
 | .ats l::r=>l.length + ceNum r
 | .var _::r=>ceNum r
def ceVars:CE→List Nat
 | []=>[]
 | .ats _::r=>ceVars r
 | .var i::r=>i::ceVars r
def ceAts:CE→Option (List At)
 | []=>some []
 | .ats l::r=>(ceAts r).map (l ++ ·)
 | .var _::_=>none
def ceApp:CE→CE→CE
 | [],y=>y
 | [.ats l],.ats l'::y=>.ats (l++l')::y
 | s::r,y=>s::ceApp r y
theorem Sg.den_like{c:Ctr}{ρ ρ':Env}{β β':Nat→Nat}(h:Env.like c ρ ρ')(hb:∀ k,k < c.nk→β' k=β k):∀ {s:Sg},s.wf c=true→s.den ρ' β'=s.den ρ β
 | .ats l,hw=>zha h hb hw
 | .var i,hw=>by simp only [Sg.den];rw [h.l i (by simpa [Sg.wf]using hw)]
theorem zga{c:Ctr}{ρ ρ':Env}{β β':Nat→Nat}(h:Env.like c ρ ρ')(hb:∀ k,k < c.nk→β' k=β k):∀ {l:CE},ceWf c l=true→ceDen ρ' β' l=ceDen ρ β l
  | [],_=>rfl
  | s::r,hw=>by
    simp only [ceWf,List.all_cons,Bool.and_eq_true]at hw;simp only [ceDen,Sg.den_like h hb hw.1,zga h hb (l:=r) hw.2]
theorem Sg.wf_le{c d:Ctr}(h:c.le d):∀ {s:Sg},s.wf c=true→s.wf d=true
 | .ats l,hw=>zed h hw
 | .var i,hw=>by simp [Sg.wf]at hw ⊢;exact Nat.lt_of_lt_of_le hw h.l
theorem zmh{c d:Ctr}(h:c.le d){l:CE}(hw:ceWf c l=true):ceWf d l=true :=
 List.all_eq_true.2 fun s hs=>Sg.wf_le h (List.all_eq_true.1 hw s hs)
theorem zlf(ρ:Env)(β:Nat→Nat):∀ (x y:CE),ceDen ρ β (ceApp x y)=ceDen ρ β x++ceDen ρ β y
  | [],y=>rfl
  | [.ats l],[]=>by simp [ceApp,ceDen]
  | [.ats l],.ats l'::y=>by simp [ceApp,ceDen,Sg.den]
  | [.ats l],.var i::y=>by simp [ceApp,ceDen]
  | [.var i],y=>by simp [ceApp,ceDen]
  | .ats l::t::r,y=>by
    have:=zlf ρ β (t::r) y
    simp only [ceApp,ceDen,List.append_assoc]at this ⊢;rw [this]
  | .var i::t::r,y=>by
    have:=zlf ρ β (t::r) y
    simp only [ceApp,ceDen,List.append_assoc]at this ⊢;rw [this]
theorem zco(c:Ctr):∀ (x y:CE),ceWf c x=true→ceWf c y=true→ceWf c (ceApp x y)=true
  | [],y,_,hy=>hy
  | [.ats l],[],hx,_=>hx
  | [.ats l],.ats l'::y,hx,hy=>by
    simp only [ceWf,List.all_cons,List.all_nil,Bool.and_true,Bool.and_eq_true,Sg.wf,ceApp,List.all_append]at *;exact⟨⟨hx,hy.1⟩,hy.2⟩
  | [.ats l],.var i::y,hx,hy=>by
    simp only [ceWf,List.all_cons,List.all_nil,Bool.and_true,Bool.and_eq_true,ceApp]at *;exact⟨hx,hy⟩
  | [.var i],y,hx,hy=>by
    simp only [ceWf,List.all_cons,List.all_nil,Bool.and_true,Bool.and_eq_true,ceApp]at *;exact⟨hx,hy⟩
  | .ats l::t::r,y,hx,hy=>by
    have h1:ceWf c (t::r)=true:=by simp only [ceWf,List.all_cons,Bool.and_eq_true]at hx ⊢;exact hx.2
    have:=zco c (t::r) y h1 hy
    simp only [ceWf,ceApp,List.all_cons,Bool.and_eq_true]at hx this ⊢;exact⟨hx.1,this⟩
  | .var i::t::r,y,hx,hy=>by
    have h1:ceWf c (t::r)=true:=by simp only [ceWf,List.all_cons,Bool.and_eq_true]at hx ⊢;exact hx.2
    have:=zco c (t::r) y h1 hy
    simp only [ceWf,ceApp,List.all_cons,Bool.and_eq_true]at hx this ⊢;exact⟨hx.1,this⟩
theorem zmf(ρ:Env)(β:Nat→Nat):∀ (x:CE),(ceDen ρ β x).length=ceNum x + ((ceVars x).map fun j=>(ρ.l j).length).sum
 | []=>rfl
 | .ats l::r=>by simp only [ceDen,Sg.den,List.length_append,List.length_map,ceNum,ceVars,zmf ρ β r];omega
 | .var i::r=>by simp only [ceDen,Sg.den,List.length_append,List.length_map,ceNum,ceVars,zmf ρ β r,List.map_cons,List.sum_cons];omega
theorem znf(ρ:Env)(β:Nat→Nat):∀ {x:CE} {l:List At},ceAts x=some l→ceDen ρ β x=l.map (At.den ρ β)
  | [],l,h=>by simp only [ceAts,Option.some.injEq]at h;subst h;rfl
  | .ats a::r,l,h=>by
    simp only [ceAts,Option.map_eq_some_iff]at h;obtain⟨l',h1,rfl⟩:=h;simp only [ceDen,Sg.den,znf ρ β h1,List.map_append]
  | .var _::_,l,h=>by simp [ceAts]at h
theorem zib(ρ:Env)(β:Nat→Nat):∀ (x:CE),∀ v∈ceDen ρ β x,v.oneCell'=true
  | [],v,h=>by cases h
  | .ats l::r,v,h=>by
    simp only [ceDen,Sg.den,List.mem_append,List.mem_map]at h;rcases h with ⟨a,_,rfl⟩ | h
    · exact At.den_one ρ β a
    · exact zib ρ β r v h
  | .var i::r,v,h=>by
    simp only [ceDen,Sg.den,List.mem_append,List.mem_map]at h;rcases h with ⟨a,_,rfl⟩ | h
    · exact a.2
    · exact zib ρ β r v h
def byteV:Value→UInt8
 | .int _ n=>UInt8.ofNat n.toNat
 | _=>0
inductive SP where
 | cat (a b:SE)
 | sub (s:SE) (l h:IE)
 | row (ce:CE)
 deriving DecidableEq
def SP.den(ρ:Env):SP→List UInt8
 | .cat a b=>a.den ρ++b.den ρ
 | .sub s l h=>((s.den ρ).drop (l.den ρ).toNat).take ((h.den ρ).toNat - (l.den ρ).toNat)
 | .row ce=>(ceDen ρ (fun _=>0) ce).map byteV
def SP.ok(ρ:Env):SP→Prop
 | .cat a b=>(a.den ρ).length + (b.den ρ).length≤9223372036854775807
 | .sub s l h=>0≤l.den ρ∧l.den ρ≤h.den ρ∧h.den ρ≤((s.den ρ).length:Int)
 | .row ce=>∀ v∈ceDen ρ (fun _=>0) ce,∃ n:Int,v=.int .u8 n
def atsLit:List At→Bool
 | []=>true
 | .int _ (.lit _)::r=>atsLit r
 | _=>false
def atsU8:List At→Bool
 | []=>true
 | .int k (.lit _)::r=>decide (k=.u8) && atsU8 r
 | _=>false
def SP.lits:SP→Bool
 | .cat (.lit _) (.lit _)=>true
 | .sub (.lit _) (.lit _) (.lit _)=>true
 | .row [.ats l]=>atsU8 l
 | .row []=>true
 | _=>false
def SP.okB:SP→Bool
 | .cat (.lit a) (.lit b)=>decide (a.length + b.length≤9223372036854775807)
 | .sub (.lit s) (.lit l) (.lit h)=>decide (0≤l) && decide (l≤h) && decide (h≤(s.length:Int))
 | .row _=>true
 | _=>false
theorem zfp{ρ ρ':Env}{β:Nat→Nat}:∀ {l:List At},atsU8 l=true→l.map (At.den ρ β)=l.map (At.den ρ' β)∧∀ v∈l.map (At.den ρ β),∃ n:Int,v=.int .u8 n
  | [],_=>⟨rfl,fun v h=>by cases h⟩
  | .int k (.lit n)::r,h=>by
    simp only [atsU8,Bool.and_eq_true,decide_eq_true_eq]at h;obtain⟨h1,h2⟩:=zfp (ρ:=ρ) (ρ':=ρ') (β:=β) h.2;refine⟨by simp only [List.map_cons,h1,At.den,IE.den],fun v hv => ?_⟩;simp only [List.map_cons,List.mem_cons]at hv;rcases hv with rfl | hv
    · exact⟨n,by simp only [At.den,IE.den,h.1]⟩
    · exact h2 v hv
  | .int k (.var _)::r,h=>by simp [atsU8]at h
  | .bool _::_,h | .val _::_,h | .str _::_,h | .nilp::_,h | .nils::_,h | .nilf::_,h | .nili::_,h | .nilm::_,h=>by simp [atsU8]at h
  | .loc .. :: _,h | .lsl .. :: _,h | .ext .. :: _,h | .xsl .. :: _,h | .fn .. :: _,h | .sv .. :: _,h | .qsl .. :: _,h | .own .. :: _,h=>by simp [atsU8]at h
  | .oloc .. :: _,h | .mfn .. :: _,h | .yld .. :: _,h | .omap .. :: _,h | .bts .. :: _,h | .gfn .. :: _,h=>by simp [atsU8]at h
theorem SP.lits_den{ρ ρ':Env}:∀ {p:SP},p.lits=true→p.okB=true→p.den ρ=p.den ρ'∧p.ok ρ
  | .cat (.lit a) (.lit b),_,h=>⟨rfl,by simpa only [SP.okB,SP.ok,SE.den,decide_eq_true_eq]using h⟩
  | .sub (.lit s) (.lit l) (.lit h),_,ho=>by
    simp only [SP.okB,Bool.and_eq_true,decide_eq_true_eq]at ho;exact⟨rfl,ho.1.1,ho.1.2,ho.2⟩
  | .row [.ats l],h,_=>by
    obtain⟨h1,h2⟩:=zfp (ρ:=ρ) (ρ':=ρ') (β:=fun _=>0) (l:=l) h;exact⟨by simp only [SP.den,ceDen,Sg.den,h1],fun v hv=>h2 v (by simpa [ceDen,Sg.den]using hv)⟩
  | .row [],_,_=>⟨rfl,fun v hv=>by cases hv⟩
  | .cat (.var _) _,h,_ | .cat (.lit _) (.var _),h,_=>by simp [SP.lits]at h
  | .sub (.var _) _ _,h,_ | .sub (.lit _) (.var _) _,h,_ | .sub (.lit _) (.lit _) (.var _),h,_=>by simp [SP.lits]at h
  | .row (.var _::_),h,_ | .row (.ats _::_::_),h,_=>by simp [SP.lits]at h
def SP.wf(c:Ctr):SP→Bool
 | .cat a b=>a.wf c && b.wf c
 | .sub s l h=>s.wf c && l.wf c && h.wf c
 | .row ce=>ceWf c ce
theorem SP.like{c:Ctr}{ρ ρ':Env}(h:Env.like c ρ ρ'):∀ {p:SP},p.wf c=true→p.den ρ'=p.den ρ∧(p.ok ρ→p.ok ρ')
  | .cat a b,hw=>by
    simp only [SP.wf,Bool.and_eq_true]at hw;simp only [SP.den,SP.ok,SE.den_like h hw.1,SE.den_like h hw.2];exact⟨trivial,fun h=>h⟩
  | .sub s l e,hw=>by
    simp only [SP.wf,Bool.and_eq_true]at hw;simp only [SP.den,SP.ok,SE.den_like h hw.1.1,IE.den_like h hw.1.2,IE.den_like h hw.2];exact⟨trivial,fun h=>h⟩
  | .row ce,hw=>by
    simp only [SP.den,SP.ok,zga (β:=fun _=>0) (β':=fun _=>0) h (fun _ _=>rfl) (show ceWf c ce=true from hw)];exact⟨trivial,fun h=>h⟩
end Vc
set_option linter.unusedVariables false
namespace Vc
open Go Go.RowKit
inductive CK where
 | int (k:IntKind)
 | bool
 | oth
 | str
 | sl (sz:Nat)
 | own (sz:Nat) (t:TypeId)
 deriving DecidableEq
abbrev Mem:=List (Nat × List At × TypeId)
abbrev OMem:=List (Nat × CE × Nat × TypeId)
inductive LP where
 | set (ce:CE) (ix:IE) (sz off:Nat) (l:List At)
 | rep (n:IE) (l:List At)
 | bts (i:Nat)
 deriving DecidableEq
inductive LH where
 | unroll
 | inv (cells:List (Nat × Nat)) (slots kill:List Nat)
 | invb (blks cells:List (Nat × Nat)) (slots kill:List Nat)
 | inva (alts:List (List (Nat × Nat))) (cells:List (Nat × Nat)) (slots kill:List Nat)
inductive Ex where
 | normal
 | exit (id:Nat)
 | ret
 | pan (i:Nat)
 deriving DecidableEq
structure St where
 t:List (Nat × SV)
 n:Nat
 m:Mem
 c:Ctr
 o:OMem := []
 r:List (Nat × Option Ex) := []
 d:List Nat := []
 k:KnL := []
 df:List (FuncId × List (Nat × Nat)) := []
 deriving DecidableEq
inductive Ask where
 | glo (g:Nat) (cs:List At) (t:TypeId)
 | ifc (n:Nat) (t:TypeId) (v:CV)
 | call (f:FuncId) (args:List SV) (m:Mem) (o:OMem) (r:SV)
 | xcall (f:FuncId) (args:List SV) (r:SV)
 | gcall (f:FuncId) (args:List SV) (m:Mem) (o:OMem) (k:Nat) (ce:CE) (sz:Nat) (t:TypeId)
structure Summary where
 n:Nat
 f:FuncId
 args:List SV
 s:St
 asks:List Ask
 v:SV
 s':St
structure Cfg where
 P:Program
 calls:List FuncId
 ext:List FuncId
 inl:List FuncId
 loops:List (Nat × LH)
 globs:List (Nat × List At × TypeId) := []
 sums:List Summary := []
 marks:List FuncId := []
structure Alg(R:Type) where
 fail:String→R
 fin:SV→Mem→OMem→R
 int:Nat→IP→R→R
 chk:BE→R→R
 ite:BE→R→R→R
 call:FuncId→List SV→Mem→OMem→List At→SV→R→R
 xcall:FuncId→List SV→List At→SV→R→R
 load:At→Nat→IE→Nat→Nat→R→R
 loop:OMem→List At→OMem→List At→((OMem→List At→R)→R)→R
 rd:At→CE→IE→Nat→Nat→R→R
 lst:Nat→LP→R→R
 ecp:Nat→At→Nat→R→R
 finL:SV→Mem→OMem→List TypeId→R
 ecall:FuncId→List SV→Mem→OMem→List (Nat × List At × TypeId)→List At→SV→R→R
 str:Nat→SP→R→R
 finR:SV→OMem→Nat→TypeId→R
 rcall:FuncId→List SV→Mem→OMem→Nat→Nat→Nat→TypeId→List At→SV→R→R
 glo:Nat→List At→TypeId→R→R
 ifc:Nat→TypeId→CV→R→R
 alt:R→R→R
 pcall:FuncId→List SV→Mem→OMem→List Nat→List At→TypeId→CV→Nat→R→R
 finP:Nat→R
 gcall:FuncId→List SV→Mem→OMem→Nat→CE→Nat→TypeId→R→R
 mfnd:Nat→CE→List At→List CK→Nat→R→R
 mark:Option Nat→FuncId→List SV→St→R→R
def getS:List (Nat × SV)→Nat→SV
  | [],_=>.any
  | p::r,i=>match Nat.beq p.1 i with
    | true=>p.2
    | false=>getS r i
def getM:Mem→Nat→Option (List At × TypeId)
 | [],_=>none
 | (j,v)::r,i=>if j=i then some v else getM r i
def setM:Mem→Nat→List At→Mem
 | [],_,_=>[]
 | (j,v)::r,i,cs=>if j=i then (j,cs,v.2)::r else (j,v)::setM r i cs
def getO:OMem→Nat→Option (CE × Nat × TypeId)
 | [],_=>none
 | (j,v)::r,i=>if j=i then some v else getO r i
def delO:OMem→Nat→OMem
 | [],_=>[]
 | (j,v)::r,i=>if j=i then delO r i else (j,v)::delO r i
def delOs:OMem→List Nat→OMem
 | o,[]=>o
 | o,k::l=>delOs (delO o k) l
def Sg.flat:Sg→Bool
 | .ats l=>l.all At.flat
 | .var _=>true
def ceFlat(l:CE):Bool:=l.all Sg.flat
def St.ev(st:St):Operand→SV
  | .tmp t=>getS st.t t
  | .const v=>SV.ofValue v
  | .global g=>match findG st.k g with
    | some p=>.cv (.one (.ext p (.lit 0) 0 0))
    | none=>.any
  | .func f=>.cv (.one (.fn f []))
variable {R:Type}
def Ask.run(A:Alg R):Ask→R→R
 | .glo g cs t,k=>A.glo g cs t k
 | .ifc n t v,k=>A.ifc n t v k
 | .call f args m o r,k=>A.call f args m o [] r k
 | .xcall f args r,k=>A.xcall f args [] r k
 | .gcall f args m o k' ce sz t,k=>A.gcall f args m o k' ce sz t k
def askRun(A:Alg R):List Ask→R→R
 | [],k=>k
 | a::l,k=>a.run A (askRun A l k)
def findSum(n:Nat)(f:FuncId)(args:List SV)(s:St):List Summary→Option Summary
  | []=>none
  | e::r=>match Nat.beq e.f f && Nat.beq e.n n with
    | true=>if e.args=args∧e.s=s then some e else findSum n f args s r
    | false=>findSum n f args s r
theorem zof{n:Nat}{f:FuncId}{args:List SV}{s:St}:∀ {l:List Summary} {e:Summary},findSum n f args s l=some e→e∈l∧e.n=n∧e.f=f∧e.args=args∧e.s=s
  | [],e,h=>by cases h
  | x::r,e,h=>by
    unfold findSum at h;cases hb:Nat.beq x.f f && Nat.beq x.n n with
    | true =>
      rw [hb]at h;simp only at h;rw [Bool.and_eq_true]at hb;split at h
      · rename_i hc;cases h;exact⟨by simp,Nat.eq_of_beq_eq_true hb.2,Nat.eq_of_beq_eq_true hb.1,hc.1,hc.2⟩
      · obtain⟨h1,h2⟩:=zof h;exact⟨List.mem_cons_of_mem _ h1,h2⟩
    | false =>
      rw [hb]at h;obtain⟨h1,h2⟩:=zof h;exact⟨List.mem_cons_of_mem _ h1,h2⟩
def nlist{α:Type}(l:List α)(K:List α→R):R :=
 match l with
 | []=>K []
 | a::r=>K (a::r)
def nnat(n:Nat)(K:Nat→R):R :=
 match n with
 | 0=>K 0
 | k + 1=>K (Nat.succ k)
theorem zgy{α:Type}(l:List α)(K:List α→R):nlist l K=K l:=by cases l <;> rfl
theorem zdo(n:Nat)(K:Nat→R):nnat n K=K n:=by cases n <;> rfl
def St.norm(st:St)(K:St→R):R :=
  match st with
  | ⟨t,n,m,c,o,r,d,k,df⟩=>match c with
    | ⟨ni,nb,nv,np,nk,ns,nl⟩ =>
      nlist t fun t=>nnat n fun n=>nlist m fun m=>nnat ni fun ni=>nnat nb fun nb=>nnat nv fun nv=>nnat np fun np=>nnat nk fun nk=>nnat ns fun ns=>nnat nl fun nl =>
        nlist o fun o=>nlist r fun r=>nlist d fun d=>nlist k fun k=>nlist df fun df=>K ⟨t,n,m,⟨ni,nb,nv,np,nk,ns,nl⟩,o,r,d,k,df⟩
theorem St.norm_eq(st:St)(K:St→R):st.norm K=K st:=by
 obtain⟨t,n,m,⟨ni,nb,nv,np,nk,ns,nl⟩,o,r,d,k,df⟩:=st;simp only [St.norm,zgy,zdo]
def revSp{α:Type}(K:List α→R):List α→List α→R
 | [],acc=>K acc
 | a::r,acc=>revSp K r (a::acc)
def forceSp{α:Type}(K:List α→R):List α→List α→R
 | [],acc=>revSp K acc []
 | a::r,acc=>forceSp K r (a::acc)
theorem zrk{α:Type}(K:List α→R):∀ (l acc:List α),revSp K l acc=K (l.reverse++acc)
 | [],acc=>rfl
 | a::r,acc=>by rw [revSp,zrk K r];simp
theorem zcl{α:Type}(K:List α→R):∀ (l acc:List α),forceSp K l acc=K (acc.reverse++l)
 | [],acc=>by rw [forceSp,zrk]
 | a::r,acc=>by rw [forceSp,zcl K r];simp
theorem zlg{α:Type}(K:List α→R)(l:List α):forceSp K l []=K l:=by rw [zcl];rfl
def forceInt(z:Int)(K:Int→R):R :=
 match z with
 | .ofNat n=>nnat n fun n=>K (.ofNat n)
 | .negSucc n=>nnat n fun n=>K (.negSucc n)
theorem zdl(z:Int)(K:Int→R):forceInt z K=K z:=by cases z <;> (unfold forceInt;simp only [zdo])
def forceBE(e:BE)(K:BE→R):R :=
 match e with
 | .lit true=>K (.lit true)
 | .lit false=>K (.lit false)
 | e=>K e
theorem zwu(e:BE)(K:BE→R):forceBE e K=K e:=by unfold forceBE;split <;> rfl
def forceSV(v:SV)(K:SV→R):R :=
 match v with
 | .cv (.one (.bool e))=>forceBE e fun e=>K (.cv (.one (.bool e)))
 | .cv (.agg l)=>forceSp (fun l=>K (.cv (.agg l))) l []
 | v=>K v
theorem zxu(v:SV)(K:SV→R):forceSV v K=K v:=by
 unfold forceSV;split
 ·exact zwu _ _
 ·exact zlg _ _
 ·rfl
def bitAt(s i:Nat):Bool:=Nat.beq (Nat.land (Nat.shiftRight s i) 1) 1
def slimL:Nat→List (Nat × SV)→List (Nat × SV)
  | _,[]=>[]
  | s,p::r=>match bitAt s p.1 with
    | true=>slimL s r
    | false=>p::slimL (Nat.lor s (Nat.shiftLeft 1 p.1)) r
def slimT(K:List (Nat × SV)→R):List (Nat × SV)→Nat→List (Nat × SV)→R
  | [],_,acc=>revSp K acc []
  | p::r,s,acc=>match bitAt s p.1 with
    | true=>slimT K r s acc
    | false=>nnat (Nat.lor s (Nat.shiftLeft 1 p.1)) fun s=>slimT K r s (p::acc)
theorem zel(K:List (Nat × SV)→R):∀ (l:List (Nat × SV)) (s:Nat) (acc:List (Nat × SV)),slimT K l s acc=K (acc.reverse++slimL s l)
  | [],s,acc=>by rw [slimT,zrk,slimL]
  | p::r,s,acc=>by
    rw [slimT,slimL];cases bitAt s p.1 with
    | true=>exact zel K r s acc
    | false=>simp only [zdo,zel K r];simp
def St.slim(st:St)(K:St→R):R:=slimT (fun t=>K {st with t:=t}) st.t 0 []
theorem St.slim_eq(st:St)(K:St→R):st.slim K=K {st with t:=slimL 0 st.t}:=by
 unfold St.slim;rw [zel];rfl
theorem zeo(s i:Nat):bitAt s i=s.testBit i:=by
 have h:Nat.land (Nat.shiftRight s i) 1=(s >>> i) % 2:=Nat.and_one_is_mod _;unfold bitAt;rw [h,Nat.testBit,Nat.one_and_eq_mod_two];rcases Nat.mod_two_eq_zero_or_one (s >>> i)with h | h <;> rw [h] <;> rfl
theorem zsv(s i j:Nat):bitAt (Nat.lor s (Nat.shiftLeft 1 i)) j=(bitAt s j || decide (i=j)):=by
 rw [zeo,zeo];show (s ||| 1 <<< i).testBit j=_;rw [Nat.testBit_or,Nat.testBit_shiftLeft];by_cases h:i=j
 ·subst h;simp
 ·by_cases h2:i≤j
  ·have:(1:Nat).testBit (j - i)=false:=by
    obtain⟨d,hd⟩:∃ d,j - i=d + 1:=⟨j - i - 1,by omega⟩;rw [hd,Nat.testBit_succ];simp
   simp [h,h2,this]
  ·simp [h,h2]
theorem zfl(i:Nat):∀ (l:List (Nat × SV)) (s:Nat),getS (slimL s l) i=if bitAt s i=true then .any else getS l i
  | [],s=>by rw [slimL,getS];split <;> rfl
  | p::r,s=>by
    rw [slimL]
    have hc:∀ q,getS (p::q) i=if p.1=i then p.2 else getS q i:=fun q=>by
      show (match Nat.beq p.1 i with | true=>p.2 | false=>getS q i)=_;cases h:Nat.beq p.1 i with
      | true=>rw [if_pos (Nat.eq_of_beq_eq_true h)]
      | false=>rw [if_neg (Nat.ne_of_beq_eq_false h)]
    cases hb:bitAt s p.1 with
    | true =>
      show getS (slimL s r) i=_;rw [zfl i r s,hc];by_cases h:p.1=i
      · rw [← h,hb];simp
      · rw [if_neg h]
    | false =>
      show getS (p::slimL (Nat.lor s (Nat.shiftLeft 1 p.1)) r) i=_;rw [hc,hc,zfl i r,zsv];by_cases h:p.1=i
      · rw [if_pos h,if_pos h,← h,hb];simp
      · simp [h]
theorem zgn(t:List (Nat × SV))(i:Nat):getS (slimL 0 t) i=getS t i:=by
 rw [zfl,zeo];simp
def St.setC(st:St)(c:Ctr)(K:St→R):R :=
  match st with
  | ⟨t,n,m,_,o,r,d,k,df⟩=>match c with
    | ⟨ni,nb,nv,np,nk,ns,nl⟩=>K ⟨t,n,m,⟨ni,nb,nv,np,nk,ns,nl⟩,o,r,d,k,df⟩
def St.setTC(st:St)(x:Nat × SV)(c:Ctr)(K:St→R):R :=
  match st with
  | ⟨t,n,m,_,o,r,d,k,df⟩=>match c with
    | ⟨ni,nb,nv,np,nk,ns,nl⟩=>K ⟨x::t,n,m,⟨ni,nb,nv,np,nk,ns,nl⟩,o,r,d,k,df⟩
def kEq(a b:IntKind):Bool:=Nat.beq a.ctorIdx b.ctorIdx
theorem ztv(a b:IntKind):kEq a b=true↔a=b:=by cases a <;> cases b <;> decide
def headSV(v:SV)(K:SV→R):R :=
 match v with
 | .cv c=>K (.cv c)
 | .tup l=>K (.tup l)
 | .any=>K .any
 | .und=>K .und
theorem zuv(v:SV)(K:SV→R):headSV v K=K v:=by cases v <;> rfl
def argSp(K:List (Nat × SV)→R):List SV→Nat→List (Nat × SV)→R
 | [],_,acc=>revSp K acc []
 | v::r,i,acc=>headSV v fun v=>nnat (i + 1) fun j=>argSp K r j ((i,v)::acc)
theorem zgp(K:List (Nat × SV)→R):∀ (l:List SV) (i:Nat) (acc:List (Nat × SV)),argSp K l i acc=K (acc.reverse++(List.range' i l.length).zip l)
  | [],i,acc=>by rw [argSp,zrk];simp
  | v::r,i,acc=>by
    rw [argSp,zuv,zdo,zgp K r];simp [List.range'_succ]
theorem zhy(K:List (Nat × SV)→R)(l:List SV):argSp K l 0 []=K ((List.range l.length).zip l):=by
 rw [zgp,List.range_eq_range'];rfl
def St.put(A:Alg R)(st:St)(dst:Option Tmp)(v:SV)(c:Ctr)(K:St→R):R :=
  match dst with
  | none=>st.setC c K
  | some d=>match Nat.blt d st.n with
    | true=>match v.wf c with
      | true=>forceSV v fun v=>st.setTC (d,v) c K
      | false => A.fail "put"
    | false => A.fail "put"
def szAgg(P:Program)(t:TypeId):Option (Bool × Nat) :=
 match P.underlying t,P.info? t with
 | some d,some i=>some (match d with | .struct _ | .array _ _=>true | _=>false,i.size)
 | _,_=>none
def pieces{α:Type}(f:α→Option (List CK)):List α→Option (List CK)
  | []=>some []
  | x::l=>match f x,pieces f l with
    | some a,some b=>some (a++b)
    | _,_=>none
def times{α:Type}(l:List α):Nat→List α
 | 0=>[]
 | n + 1=>l++times l n
def cks(P:Program):Nat→TypeId→Option (List CK)
  | 0,_=>none
  | n + 1,t=>match P.underlying t with
    | some (.int k)=>some [.int k]
    | some .bool=>some [.bool]
    | some (.struct fs)=>pieces (fun f=>cks P n f.type) fs.toList
    | some (.array m e)=>(cks P n e).map (times · m)
    | some .string=>some [.str]
    | some (.slice e)=>match szAgg P e with
      | some (_,s)=>some [.sl s]
      | none=>none
    | some _=>some [.oth]
    | none=>none
def fresh1(c:Ctr):CK→At
 | .int k=>.int k (.var c.ni)
 | .bool=>.bool (.var c.nb)
 | .oth=>.val c.nv
 | .str=>.sv c.ns
 | .sl sz=>.qsl c.nb c.np sz (.var c.ni) (.var (c.ni + 1))
 | .own _ _=>.own c.nk
def freshC(c:Ctr):CK→Ctr
 | .int _ => {c with ni:=c.ni + 1}
 | .bool => {c with nb:=c.nb + 1}
 | .oth => {c with nv:=c.nv + 1}
 | .str => {c with ns:=c.ns + 1}
 | .sl _ => {c with nb:=c.nb + 1,np:=c.np + 1,ni:=c.ni + 2}
 | .own _ _ => {c with nk:=c.nk + 4,nl:=c.nl + 1}
def CK.plain:CK→Bool
 | .own .. => false
 | _=>true
def freshL(c:Ctr):List CK→List At
 | []=>[]
 | k::l=>fresh1 c k::freshL (freshC c k) l
def freshLC(c:Ctr):List CK→Ctr
 | []=>c
 | k::l=>freshLC (freshC c k) l
def freshO(c:Ctr):List CK→OMem
 | []=>[]
 | .own sz t::l=>(c.nk,[.var c.nl],sz,t)::freshO (freshC c (.own sz t)) l
 | k::l=>freshO (freshC c k) l
def shapes(P:Program):List TypeId→Option (List (Bool × List CK))
  | []=>some []
  | t::l=>match szAgg P t,cks P 30 t,shapes P l with
    | some (g,_),some ks,some r=>if (g=true∨ks.length=1)∧ks.all CK.plain=true then some ((g,ks)::r)else none
    | _,_,_=>none
def shapeK:List (Bool × List CK)→List CK
 | []=>[]
 | (_,ks)::r=>ks++shapeK r
def cvOf(g:Bool)(l:List At):CV :=
 match g,l with
 | false,[a]=>.one a
 | _,l=>.agg l
def shapeV:List (Bool × List CK)→List At→List CV
 | [],_=>[]
 | (g,ks)::r,l=>cvOf g (l.take ks.length)::shapeV r (l.drop ks.length)
def resV(cs:List CV):SV :=
 match cs with
 | [c]=>.cv c
 | cs=>.tup cs
def doInt(A:Alg R)(c:Ctr)(k:IntKind)(p:IP)(K:SV→Ctr→R):R :=
  match p.lits with
  | true=>forceInt (p.den Env.zero) fun z=>K (.cv (.one (.int k (.lit z)))) c
  | false => if p.wf c = true then A.int c.ni p (K (.cv (.one (.int k (.var c.ni)))) { c with ni := c.ni + 1 }) else A.fail "int"
def doIE(A:Alg R)(c:Ctr)(p:IP)(K:IE→Ctr→R):R :=
  if p.lits=true then forceInt (p.den Env.zero) fun z=>K (.lit z) c
  else if p.wf c = true then A.int c.ni p (K (.var c.ni) { c with ni := c.ni + 1 }) else A.fail "sum"
def doSum(A:Alg R)(c:Ctr)(op:IE→IE→IP)(a b:IE)(K:IE→Ctr→R):R:=doIE A c (op a b) K
def doOLen(A:Alg R)(c:Ctr)(ce:CE)(sz:Nat)(K:IE→Ctr→R):R:=doIE A c (.olen (ceNum ce) (ceVars ce) sz) K
def doChk(A:Alg R)(e:BE)(r:R):R :=
 match e.sim with
 | .lit true=>r
 | e'=>A.chk e' r
def doFork(A:Alg R)(e:BE)(t f:Unit→R):R :=
 match e with
 | .lit true=>t ()
 | .lit false=>f ()
 | e =>
 match e.sim with
 | .lit true=>t ()
 | .lit false=>f ()
 | .not e'=>A.ite e' (f ()) (t ())
 | .cmp .neq a b=>A.ite (.cmp .eql a b) (f ()) (t ())
 | e'=>A.ite e' (t ()) (f ())
def doCases(A:Alg R)(e:IE)(n:Nat):Nat→(Nat→R)→R
  | 0, _ => A.fail "cases"
  | 1,K=>K (n - 1)
  | j + 2,K=>doFork A (.cmp .eql e (.lit ((n - (j + 2):Nat):Int))) (fun _=>K (n - (j + 2))) (fun _=>doCases A e n (j + 1) K)
def isArith:BinOp→Bool
 | .add | .sub | .mul | .and | .or | .xor | .andNot=>true
 | _=>false
def isCmp:BinOp→Bool
 | .eql | .neq | .lss | .leq | .gtr | .geq=>true
 | _=>false
def eqFs(P:Program)(f:TypeId→Option (List CK)):Nat→List Field→Option (List CK)
  | _,[]=>some []
  | off, fd :: r => if fd.name = "_" ∨ fd.offset ≠ off then none else match f fd.type, szAgg P fd.type with
    | some ks,some (_,n)=>if n=ks.length then (eqFs P f (off + n) r).map (ks ++ ·)else none
    | _,_=>none
def eqTy(P:Program):Nat→TypeId→Option (List CK)
  | 0,_=>none
  | n + 1,t=>match P.underlying t with
    | some (.int k)=>some [.int k]
    | some .bool=>some [.bool]
    | some .string=>some [.str]
    | some (.struct fs)=>if P.stoodInHeld t=true then none else eqFs P (eqTy P n) 0 fs.toList
    | some (.array m e)=>match eqTy P n e,szAgg P e with
      | some ks,some (_,s)=>if s=ks.length then some (times ks m)else none
      | _,_=>none
    | _=>none
def strOf:At→Option SE
 | .str l=>some (.lit l)
 | .sv i=>some (.var i)
 | _=>none
def eqOne(k:CK)(a b:At):Option BE :=
  match k with
  | .int k=>match a,b with
    | .int k1 a,.int k2 b=>if k1=k∧k2=k then some (.cmp .eql a b)else none
    | _,_=>none
  | .bool=>match a,b with
    | .bool a,.bool b=>some (.eq a b)
    | _,_=>none
  | .str=>match strOf a,strOf b with
    | some p,some q=>some (.seq p q)
    | _,_=>none
  | _=>none
def eqCells:List CK→List At→List At→Option BE
  | [],[],[]=>some (.lit true)
  | k::r,a::x,b::y=>match eqOne k a b,eqCells r x y with
    | some e,some e'=>some (.and e e')
    | _,_=>none
  | _,_,_=>none
inductive Nl where
 | isnil
 | held
 | may (q:Nat)
 | unk
 deriving DecidableEq
def nlOf:At→Nl
 | .nilp=>.isnil
 | .loc .. | .ext .. | .oloc .. => .held
 | .nils=>.isnil
 | .lsl .. | .xsl .. => .held
 | .qsl q .. => .may q
 | .nilf=>.isnil
 | .fn .. | .mfn .. | .yld .. | .gfn .. => .held
 | _=>.unk
def nlEq:Nl→Nl→Option BE
 | .isnil,.isnil=>some (.lit true)
 | .isnil,.held | .held,.isnil=>some (.lit false)
 | .isnil,.may q | .may q,.isnil=>some (.var q)
 | _,_=>none
def nlKind:At→Nat
 | .nilp | .loc .. | .ext .. | .oloc .. => 0
 | .nils | .lsl .. | .xsl .. | .qsl .. => 1
 | .nilf | .fn .. | .mfn .. | .yld .. | .gfn .. => 2
 | _=>3
def nilEq(P:Program)(t:TypeId)(x y:At):Option BE :=
  match P.underlying t with
  | some (.pointer e)=>if nlKind x=0∧nlKind y=0 then match nlEq (nlOf x) (nlOf y)with
      | some b=>some b
      | none=>match x,y with
        | .loc k o,.loc k' o'=>match szAgg P e with
          | some (_,n)=>if k=k'∧n≠0 then some (.lit (decide (o=o')))else none
          | none=>none
        | _,_=>none
    else none
  | some (.slice _)=>if nlKind x=1∧nlKind y=1 then nlEq (nlOf x) (nlOf y)else none
  | some (.func _ _ _)=>if nlKind x=2∧nlKind y=2 then nlEq (nlOf x) (nlOf y)else none
  | _=>none
def cvIs(g:Bool)(n:Nat):CV→Bool
 | .one _ => !g && decide (n=1)
 | .agg l=>g && decide (l.length=n)
def shNo(g:Bool)(n:Nat):Nat:=2 * n + if g=true then 1 else 0
structure MapTy where
 key:TypeId
 el:TypeId
 ks:List CK
 gk:Bool
 ge:Bool
 ne:Nat
def MapTy.no(x:MapTy):Nat:=shNo x.gk x.ks.length * 1048576 + shNo x.ge x.ne
def mapTy(P:Program)(t:TypeId):Option MapTy :=
  match P.underlying t with
  | some (.map key el)=>match eqTy P 30 key,szAgg P key,szAgg P el with
    | some ks,some (gk,nk),some (ge,ne)=>if nk=ks.length∧0 < nk∧nk < 500000∧ne < 500000 then some ⟨key,el,ks,gk,ge,ne⟩else none
    | _,_,_=>none
  | _=>none
def valEq:Value→Value→Bool
 | .int k a,.int k' b=>decide (k=k') && a == b
 | .bool a,.bool b=>a == b
 | .string a,.string b=>decide (a.data.toList=b.data.toList)
 | _,_=>false
def keyEq:List Value→List Value→Bool
 | [],[]=>true
 | a::x,b::y=>valEq a b && keyEq x y
 | _,_=>false
def ckVal:CK→Value→Bool
 | .int k,.int k' _=>decide (k'=k)
 | .bool,.bool _=>true
 | .str,.string _=>true
 | _,_=>false
def ckVals:List CK→List Value→Bool
 | [],[]=>true
 | k::r,v::l=>ckVal k v && ckVals r l
 | _,_=>false
def keysOkF(ks:List CK)(n:Nat):Nat→List Value→Bool
 | 0,_=>true
 | _ + 1,[]=>true
 | f + 1,l=>ckVals ks (l.take ks.length) && keysOkF ks n f (l.drop n)
def keysOk(ks:List CK)(n:Nat)(l:List Value):Bool:=keysOkF ks n l.length l
def mfindF(nk n:Nat)(key:List Value):Nat→List Value→Option Nat
 | 0,_=>none
 | _ + 1,[]=>none
 | f + 1,l=>if keyEq key (l.take nk)=true then some 0 else (mfindF nk n key f (l.drop n)).map (· + 1)
def mfind(nk n:Nat)(key l:List Value):Int :=
 match mfindF nk n key l.length l with
 | some i=>(i:Int)
 | none => -1
def keyKind:CK→At→Bool
 | .int k,.int k' _=>decide (k'=k)
 | .bool,.bool _=>true
 | .str,a=>(strOf a).isSome
 | _,_=>false
def keyKinds:List CK→List At→Bool
 | [],[]=>true
 | k::r,a::l=>keyKind k a && keyKinds r l
 | _,_=>false
def doFind(A:Alg R)(c:Ctr)(x:MapTy)(ce:CE)(kc:List At)(K:IE→Ctr→R):R :=
  if keyKinds x.ks kc=true∧ceFlat ce=true∧kc.all At.flat=true∧ceWf c ce=true∧kc.all (At.wf c)=true then
    A.mfnd c.ni ce kc x.ks x.ne (K (.var c.ni) {c with ni:=c.ni + 1})
  else A.fail "map: keys"
def doEntry(A:Alg R)(c:Ctr)(x:MapTy)(kc:List At)(found:Nat→List At→R)(nof:Unit→R):Nat→List At→Nat→R
  | 0, _, _ => A.fail "map: entries"
  | n + 1,cs,i=>if cs=[]then nof ()else
    match eqCells x.ks kc (cs.take x.ks.length)with
    | some e=>if e.wf c=true∧x.ks.length + x.ne≤cs.length then
        doFork A e (fun _=>found i ((cs.drop x.ks.length).take x.ne)) (fun _=>doEntry A c x kc found nof n (cs.drop (x.ks.length + x.ne)) (i + 1))
      else A.fail "map: entries"
    | none => A.fail "map: keys"
def doStr(A:Alg R)(c:Ctr)(p:SP)(K:SV→Ctr→R):R :=
  if p.lits=true∧p.okB=true then forceSp (fun l=>K (.cv (.one (.str l))) c) (p.den Env.zero) []
  else if p.wf c = true then A.str c.ns p (K (.cv (.one (.sv c.ns))) { c with ns := c.ns + 1 }) else A.fail "string"
def doBin(A:Alg R)(P:Program)(c:Ctr)(op:BinOp)(t:TypeId)(x y:SV)(K:SV→Ctr→R):R :=
  match x,y with
  | .cv (.one (.int k a)),.cv (.one (.int k' b)) =>
    if op=.shl then
      match b with
      | .lit n => if 0 ≤ n ∧ n.toNat < k.bits then doInt A c k (.shl k a n.toNat) K else A.fail "shift"
      | b=>doChk A (.cmp .geq b (.lit 0)) (doInt A c k (.bin .shl k a b) K)
    else if op=.shr then
      match b with
      | .lit n => if 0 ≤ n ∧ n.toNat < k.bits then doInt A c k (.shr a n.toNat) K else A.fail "shift"
      | b=>doChk A (.cmp .geq b (.lit 0)) (doInt A c k (.bin .shr k a b) K)
    else if k=k' then
      if isArith op then doInt A c k (.bin op k a b) K
      else if op=.quo∨op=.rem then doChk A (.cmp .neq b (.lit 0)) (doInt A c k (.bin op k a b) K)
      else if isCmp op then K (.cv (.one (.bool (BE.cmp op a b).sim))) c
      else A.fail "binOp"
    else A.fail "binOp: kinds"
  | .cv (.one (.bool a)),.cv (.one (.bool b)) =>
    match P.underlying t with
    | some .bool =>
      if op=.eql then K (.cv (.one (.bool (BE.eq a b).sim))) c
      else if op=.neq then K (.cv (.one (.bool (BE.not (BE.eq a b)).sim))) c
      else A.fail "binOp: bools"
    | _ => A.fail "binOp: bools"
  | .cv (.agg a),.cv (.agg b) =>
    match eqTy P 30 t,szAgg P t with
    | some ks,some (true,_)=>match eqCells ks a b with
      | some e =>
        if P.eqGuardType P.depth t = true then A.fail "binOp: guard"
        else if op=.eql then K (.cv (.one (.bool e.sim))) c
        else if op=.neq then K (.cv (.one (.bool (BE.not e).sim))) c
        else A.fail "binOp: structs"
      | none => A.fail "binOp: cells"
    | _, _ => A.fail "binOp: types"
  | .cv (.one x),.cv (.one y) =>
    match P.underlying t,strOf x,strOf y with
    | some .string,some a,some b =>
      if op=.eql then K (.cv (.one (.bool (BE.seq a b).sim))) c
      else if op=.neq then K (.cv (.one (.bool (BE.not (BE.seq a b)).sim))) c
      else if op=.add then doStr A c (.cat a b) K
      else A.fail "binOp: strings"
    | _,_,_=>match nilEq P t x y with
      | some e =>
        if op=.eql then K (.cv (.one (.bool e.sim))) c
        else if op=.neq then K (.cv (.one (.bool (BE.not e).sim))) c
        else A.fail "binOp: operands"
      | none => A.fail "binOp: operands"
  | _, _ => A.fail "binOp: operands"
def doLoads(A:Alg R)(p:Nat)(ix:IE)(sz:Nat):Nat→List CK→Ctr→(List At→Ctr→R)→R
 | _,[],c,K=>K [] c
 | off,k::l,c,K=>A.load (fresh1 c k) p ix sz off (doLoads A p ix sz (off + 1) l (freshC c k) fun r c'=>K (fresh1 c k::r) c')
def doRds(A:Alg R)(ce:CE)(ix:IE)(sz:Nat):Nat→List CK→Ctr→(List At→Ctr→R)→R
 | _,[],c,K=>K [] c
 | off,k::l,c,K=>A.rd (fresh1 c k) ce ix sz off (doRds A ce ix sz (off + 1) l (freshC c k) fun r c'=>K (fresh1 c k::r) c')
def knownAt(ce:CE)(ix:IE)(sz off:Nat):Option (List At × Nat) :=
 match ix,ceAts ce with
 | .lit j,some cs=>some (cs,j.toNat * sz + off)
 | _,_=>none
def doLoad(A:Alg R)(P:Program)(m:Mem)(o:OMem)(c:Ctr)(t:TypeId)(x:SV)(K:SV→Ctr→R):R :=
  match szAgg P t with
  | none => A.fail "load: type"
  | some (g,n) =>
    match x with
    | .cv (.one (.oloc k ix sz off)) =>
      match getO o k with
      | none => A.fail "load: no such row"
      | some (ce,s0,t0)=>if 0 < s0∨t0=0 then
        match knownAt ce ix sz off with
        | some (cs,p) =>
          if g=true then
            if p + n ≤ cs.length then K (.cv (.agg ((cs.drop p).take n))) c else A.fail "load: beyond"
          else match cs[p]? with
            | some a=>K (.cv (.one a)) c
            | none => A.fail "load: beyond"
        | none =>
          match cks P 30 t with
          | none => A.fail "load: kinds"
          | some ks =>
            if ks.length=(if g=true then n else 1)∧ks.all CK.plain=true∧ceFlat ce=true∧ceWf c ce=true∧ix.wf c=true then
              doRds A ce ix sz off ks c fun l c'=>K (.cv (cvOf g l)) c'
            else A.fail "load: kinds"
        else A.fail "load: a map"
    | .cv (.one (.loc k off)) =>
      match getM m k with
      | none => A.fail "load: no such block"
      | some (cs,_) =>
        if g=true then
          if off + n ≤ cs.length then K (.cv (.agg ((cs.drop off).take n))) c else A.fail "load: beyond"
        else match cs[off]? with
          | some a=>K (.cv (.one a)) c
          | none => A.fail "load: beyond"
    | .cv (.one (.ext p ix sz off)) =>
      match cks P 30 t with
      | none => A.fail "load: kinds"
      | some ks =>
        if ks.length=(if g=true then n else 1)∧ks.all CK.plain=true∧p < c.np∧ix.wf c=true then
          doLoads A p ix sz off ks c fun l c'=>K (.cv (cvOf g l)) c'
        else A.fail "load: kinds"
    | _ => A.fail "load: address"
def doUn(A:Alg R)(c:Ctr)(op:UnOp)(x:SV)(K:SV→Ctr→R):R :=
  match op,x with
  | .neg,.cv (.one (.int k a))=>doInt A c k (.neg k a) K
  | .xor,.cv (.one (.int k a))=>doInt A c k (.com k a) K
  | .not,.cv (.one (.bool a))=>K (.cv (.one (.bool (BE.not a).sim))) c
  | _, _ => A.fail "unOp"
def doConv(A:Alg R)(P:Program)(c:Ctr)(s d:TypeId)(x:SV)(K:SV→Ctr→R):R :=
  match P.underlying s,P.underlying d,x with
  | some _,some (.int k),.cv (.one (.int _ a))=>doInt A c k (.conv k a) K
  | _, _, _ => A.fail "convert"
def partOf(P:Program)(t:TypeId)(cs:List At)(off:Nat):Option CV :=
 match szAgg P t with
 | some (true,n)=>if off + n≤cs.length then some (.agg ((cs.drop off).take n))else none
 | some (false,_)=>(cs[off]?).map .one
 | none=>none
def doField(A:Alg R)(P:Program)(c:Ctr)(t:TypeId)(x:SV)(f:Nat)(K:SV→Ctr→R):R :=
  match P.underlying t,x with
  | some (.struct fs),.cv (.agg cs) =>
    match fs[f]? with
    | some fd=>match partOf P fd.type cs fd.offset with
      | some v=>K (.cv v) c
      | none => A.fail "field: part"
    | none => A.fail "field"
  | _, _ => A.fail "field"
def doFieldAddr(A:Alg R)(P:Program)(c:Ctr)(s:TypeId)(x:SV)(f:Nat)(K:SV→Ctr→R):R :=
  match P.underlying s with
  | some (.struct fs)=>match fs[f]? with
    | some fd=>match szAgg P fd.type with
      | some (_, n) => if n = 0 then A.fail "fieldAddr: no cells" else match x with
        | .cv (.one (.loc k off))=>K (.cv (.one (.loc k (off + fd.offset)))) c
        | .cv (.one (.ext p ix sz off))=>K (.cv (.one (.ext p ix sz (off + fd.offset)))) c
        | .cv (.one (.oloc k ix sz off))=>K (.cv (.one (.oloc k ix sz (off + fd.offset)))) c
        | _ => A.fail "fieldAddr: address"
      | none => A.fail "fieldAddr"
    | none => A.fail "fieldAddr"
  | _ => A.fail "fieldAddr"
def doIndexAddr(A:Alg R)(P:Program)(o:OMem)(c:Ctr)(t:TypeId)(x i:SV)(K:SV→Ctr→R):R :=
  match i with
  | .cv (.one (.int _ e)) =>
    match P.underlying t,x with
    | some (.slice el),.cv (.one (.own k))=>match szAgg P el,getO o k with
      | some (_,s),some (ce,sz,_)=>if s=sz∧0 < sz then
          doOLen A c ce sz fun n c1=>doChk A (.cmp .geq e (.lit 0)) (doChk A (.cmp .lss e n) (K (.cv (.one (.oloc k e sz 0))) c1))
        else A.fail "indexAddr: a part of a row"
      | _, _ => A.fail "indexAddr: no such row"
    | some (.slice el),.cv (.one (.bts k))=>match szAgg P el,getO o k with
      | some (_,s),some (ce,sz,t0)=>if s=1∧sz=0∧t0=0 then
          doOLen A c ce 1 fun n c1=>doChk A (.cmp .geq e (.lit 0)) (doChk A (.cmp .lss e n) (K (.cv (.one (.oloc k e 1 0))) c1))
        else A.fail "indexAddr: bytes"
      | _, _ => A.fail "indexAddr: no such row"
    | some (.slice el),.cv (.one (.qsl q p sz len _))=>match szAgg P el with
      | some (_,s)=>if s=sz then
          doChk A (.not (.var q)) (doChk A (.cmp .geq e (.lit 0)) (doChk A (.cmp .lss e len) (K (.cv (.one (.ext p e sz 0))) c)))
        else A.fail "indexAddr: a part of a slice"
      | none => A.fail "indexAddr"
    | some (.array n el),.cv (.one (.oloc k ix sz off))=>match szAgg P el with
      | some (_,s)=>match e with
        | .lit j => if 0 ≤ j ∧ j.toNat < n then K (.cv (.one (.oloc k ix sz (off + j.toNat * s)))) c else A.fail "indexAddr: beyond"
        | e=>doChk A (.cmp .geq e (.lit 0)) (doChk A (.cmp .lss e (.lit n)) (doCases A e n n fun j=>K (.cv (.one (.oloc k ix sz (off + j * s)))) c))
      | none => A.fail "indexAddr"
    | some (.array n el),.cv (.one (.loc k off))=>match szAgg P el with
      | some (_,s)=>match e with
        | .lit j => if 0 ≤ j ∧ j.toNat < n then K (.cv (.one (.loc k (off + j.toNat * s)))) c else A.fail "indexAddr: beyond"
        | e=>doChk A (.cmp .geq e (.lit 0)) (doChk A (.cmp .lss e (.lit n)) (doCases A e n n fun j=>K (.cv (.one (.loc k (off + j * s)))) c))
      | none => A.fail "indexAddr"
    | some (.array n el),.cv (.one (.ext p ix sz off))=>match szAgg P el with
      | some (_,s)=>match e with
        | .lit j => if 0 ≤ j ∧ j.toNat < n then K (.cv (.one (.ext p ix sz (off + j.toNat * s)))) c else A.fail "indexAddr: beyond"
        | e=>doChk A (.cmp .geq e (.lit 0)) (doChk A (.cmp .lss e (.lit n)) (doCases A e n n fun j=>K (.cv (.one (.ext p ix sz (off + j * s)))) c))
      | none => A.fail "indexAddr"
    | some (.slice el),.cv (.one (.lsl k off len _))=>match szAgg P el with
      | some (_,s)=>match e with
        | .lit j => if 0 ≤ j ∧ j.toNat < len then K (.cv (.one (.loc k (off + j.toNat * s)))) c else A.fail "indexAddr: beyond"
        | e=>doChk A (.cmp .geq e (.lit 0)) (doChk A (.cmp .lss e (.lit len)) (doCases A e len len fun j=>K (.cv (.one (.loc k (off + j * s)))) c))
      | none => A.fail "indexAddr"
    | some (.slice el),.cv (.one (.xsl p ix sz len _))=>match szAgg P el with
      | some (_,s)=>if s=sz then
          doChk A (.cmp .geq e (.lit 0)) (doChk A (.cmp .lss e len) (if ix=.lit 0 then K (.cv (.one (.ext p e sz 0))) c
            else doChk A (.cmp .geq ix (.lit 0)) (doSum A c .sum ix e fun e' c'=>K (.cv (.one (.ext p e' sz 0))) c')))
        else A.fail "indexAddr: a part of a slice"
      | none => A.fail "indexAddr"
    | _, _ => A.fail "indexAddr: operand"
  | _ => A.fail "indexAddr: index"
def doIndex(A:Alg R)(P:Program)(c:Ctr)(t:TypeId)(x i:SV)(K:SV→Ctr→R):R :=
  match i with
  | .cv (.one (.int _ e)) =>
    match P.underlying t,x with
    | some (.array n el),.cv (.agg cs)=>match szAgg P el with
      | some (_,s)=>match e with
        | .lit j=>if 0≤j∧j.toNat < n then match partOf P el cs (j.toNat * s)with
            | some v=>K (.cv v) c
            | none => A.fail "index: part"
          else A.fail "index: beyond"
        | e => doChk A (.cmp .geq e (.lit 0)) (doChk A (.cmp .lss e (.lit n)) (doCases A e n n fun j=>match partOf P el cs (j * s)with
            | some v=>K (.cv v) c
            | none => A.fail "index: part"))
      | none => A.fail "index"
    | some .string,.cv (.one x)=>match strOf x with
      | some s=>doIE A c (.slen s) fun n c1=>doChk A (.cmp .geq e (.lit 0)) (doChk A (.cmp .lss e n) (doInt A c1 .u8 (.sidx s e) K))
      | none => A.fail "index: a string"
    | _, _ => A.fail "index: operand"
  | _ => A.fail "index: index"
def cmpF(op:BinOp)(a b:IE):BE :=
 match a,b with
 | .lit x,.lit y=>.lit (cmpB op x y)
 | a,b=>(BE.cmp op a b).sim
theorem zgba(op:BinOp)(a b:IE):cmpF op a b=(BE.cmp op a b).sim:=by
 unfold cmpF;split <;> simp [BE.sim]
def doBinF(A:Alg R)(P:Program)(c:Ctr)(op:BinOp)(t:TypeId)(k k':IntKind)(a b:IE)(K:SV→Ctr→R):R :=
  match isCmp op with
  | true=>match kEq k k' with
    | true=>K (.cv (.one (.bool (cmpF op a b)))) c
    | false => A.fail "binOp: kinds"
  | false=>match isArith op with
    | true=>match kEq k k' with
      | true=>doInt A c k (.bin op k a b) K
      | false => A.fail "binOp: kinds"
    | false=>doBin A P c op t (.cv (.one (.int k a))) (.cv (.one (.int k' b))) K
theorem zvv(A:Alg R)(P:Program)(c:Ctr)(op:BinOp)(t:TypeId)(k k':IntKind)(a b:IE)(K:SV→Ctr→R):doBinF A P c op t k k' a b K=doBin A P c op t (.cv (.one (.int k a))) (.cv (.one (.int k' b))) K:=by
 by_cases hk:k=k'
 ·have h2:kEq k k'=true:=(ztv k k').2 hk;unfold doBinF;rw [h2];unfold doBin;cases op <;> simp [isCmp,isArith,hk,zgba]
 ·have h2:kEq k k'=false:=by
   cases h:kEq k k' with
   | true=>exact absurd ((ztv k k').1 h) hk
   | false=>rfl
  unfold doBinF;rw [h2];unfold doBin;cases op <;> simp [isCmp,isArith,hk]
def fillA(place:Nat→Option (Nat × Nat))(cells:List At):List (Nat × SV)→Option (List At)
  | []=>some cells
  | (i,.cv v)::r=>match place i with
    | some (off,size)=>if v.cells.length=size∧off + size≤cells.length then fillA place (cells.take off++v.cells++cells.drop (off + size)) r else none
    | none=>none
  | _::_=>none
def zeroA(P:Program)(t:TypeId):Option CV :=
  match P.info? t with
  | some i=>match i.zero with
    | some v=>match SV.ofValue v with
      | .cv c=>some c
      | _=>none
    | none=>none
  | none=>none
def fieldPlaces(P:Program):List Field→Option (List (Nat × Nat))
  | []=>some []
  | f::l=>match szAgg P f.type,fieldPlaces P l with
    | some (_,n),some r=>some ((f.offset,n)::r)
    | _,_=>none
def doBuild(A:Alg R)(P:Program)(c:Ctr)(t:TypeId)(parts:List (Nat × SV))(K:SV→Ctr→R):R :=
  match P.underlying t,zeroA P t with
  | some (.struct fs),some z=>match fieldPlaces P fs.toList with
    | some pl=>match fillA (pl[·]?) z.cells parts with
      | some cs=>K (.cv (.agg cs)) c
      | none => A.fail "build: parts"
    | none => A.fail "build: places"
  | some (.array _ el),some z=>match szAgg P el with
    | some (_,s)=>match fillA (fun i=>some (i * s,s)) z.cells parts with
      | some cs=>K (.cv (.agg cs)) c
      | none => A.fail "build: parts"
    | none => A.fail "build"
  | _, _ => A.fail "build"
def locsOf:List SV→Option (List (Nat × Nat))
 | []=>some []
 | .cv (.one (.loc k o))::r=>(locsOf r).map ((k,o) :: ·)
 | _=>none
def namedO(o:OMem):List At→OMem
  | []=>[]
  | .own k::r=>match getO o k with
    | some v=>(k,v)::namedO o r
    | none=>namedO o r
  | _::r=>namedO o r
def namedM(m:Mem):List At→Mem
  | []=>[]
  | .loc k _::r | .lsl k _ _ _::r=>match getM m k with
    | some v=>(k,v)::namedM m r
    | none=>namedM m r
  | _::r=>namedM m r
def svCells:SV→List At
 | .cv c=>c.cells
 | _=>[]
def svAny:SV→Bool
 | .any=>true
 | .und=>true
 | _=>false
def tupSV:SV→List CV
 | .cv c=>[c]
 | .tup l=>l
 | _=>[]
def ceCells:CE→List At
 | []=>[]
 | .ats l::r=>l++ceCells r
 | .var _::r=>ceCells r
def inside(m:Mem)(o:OMem):List At→List At
 | []=>[]
 | .loc k _::r | .lsl k _ _ _::r=>(match getM m k with | some (cs,_)=>cs | none=>[])++inside m o r
 | .own k::r=>(match getO o k with | some (ce,_,_)=>ceCells ce | none=>[])++inside m o r
 | _::r=>inside m o r
def deep(m:Mem)(o:OMem):Nat→List At→List At
 | 0,l=>l
 | n + 1,l=>l++deep m o n (inside m o l)
def deepSV(m:Mem)(o:OMem)(args:List SV):List At:=deep m o 2 (args.flatMap svCells)
def zig(z:Int):Nat:=if z < 0 then 2 * z.natAbs - 1 else 2 * z.natAbs
def unzig(n:Nat):Int:=if n % 2=1 then -(((n + 1) / 2:Nat):Int)else ((n / 2:Nat):Int)
def litKey:List At→List (Nat × Nat)
 | []=>[]
 | .int _ (.lit z)::r=>(10,zig z)::litKey r
 | .bool (.lit b)::r=>(11,if b=true then 1 else 0)::litKey r
 | .str l::r=>(12,l.length)::(l.map fun b=>(13,b.toNat))++litKey r
 | _::r=>litKey r
def argKey:List SV→List (Nat × Nat)
 | []=>[]
 | .cv v::r=>litKey v.cells++argKey r
 | _::r=>argKey r
def decRes:List CK→List (Nat × Nat)→Option (List At)
 | [],[]=>some []
 | .int k::r,(0,n)::l=>(decRes r l).map (.int k (.lit (unzig n)) :: ·)
 | .bool::r,(1,n)::l=>(decRes r l).map (.bool (.lit (decide (n=1))) :: ·)
 | .str::r,(2,n)::l=>(decRes r (l.drop n)).map (.str ((l.take n).map fun x=>UInt8.ofNat x.2) :: ·)
 | _,_=>none
def firstRes(ks:List CK)(key:List (Nat × Nat)):List (List (Nat × Nat))→Option (List At)
  | []=>none
  | a :: r=>if a.take key.length=key then match decRes ks (a.drop key.length)with
      | some l=>some l
      | none=>firstRes ks key r
    else firstRes ks key r
def resHint(G:Cfg)(f:FuncId)(args:List SV)(ks:List CK):Option (List At) :=
 match G.loops.lookup (700000000000000000 + f)with
 | some (.inva alts _ _ _)=>firstRes ks (argKey args) alts
 | _=>none
def idxByte(b:Nat):List UInt8→Nat→Int
  | [],_ => -1
  | x::r,i=>match Nat.beq x.toNat b with
    | true=>(i:Int)
    | false=>idxByte b r (i + 1)
def preS:List UInt8→List UInt8→Bool
 | [],_=>true
 | _::_,[]=>false
 | a::r,b::s=>Nat.beq a.toNat b.toNat && preS r s
def idxStr(p:List UInt8):List UInt8→Nat→Int
  | [],i=>if p=[]then (i:Int)else -1
  | x::r,i=>match preS p (x::r)with
    | true=>(i:Int)
    | false=>idxStr p r (i + 1)
def extHint(G:Cfg)(f:FuncId)(args:List SV):Option (List At) :=
  match G.loops.lookup (300000000000000000 + f)with
  | some (.inv _ [kd] _)=>match kd,args with
    | 1,[.cv (.one (.str s)),.cv (.one (.int _ (.lit b)))]=>some [.int .i64 (.lit (idxByte b.toNat s 0))]
    | 2,[.cv (.one (.str s)),.cv (.one (.str p))]=>some [.int .i64 (.lit (idxStr p s 0))]
    | 3,[.cv (.one (.int _ (.lit x))),.cv (.one (.int _ (.lit y))),.cv (.one (.int _ (.lit z)))]=>some [.int .u64 (.lit ((x + y + z) % 18446744073709551616)),.int .u64 (.lit ((x + y + z) / 18446744073709551616))]
    | 4,[.cv (.one (.int _ (.lit x))),.cv (.one (.int _ (.lit y))),.cv (.one (.int _ (.lit z)))]=>some [.int .u64 (.lit ((x - y - z) % 18446744073709551616)),.int .u64 (.lit (if x < y + z then 1 else 0))]
    | _,_=>none
  | _=>none
def doCall(A:Alg R)(G:Cfg)(m:Mem)(o:OMem)(c:Ctr)(f:FuncId)(args:List SV)(K:SV→Ctr→R):R :=
  match G.P.funcs[f]? with
  | none => A.fail "call: no such function"
  | some fn=>match shapes G.P fn.resultTypes.toList with
    | none => A.fail "call: results"
    | some ss =>
      if args.any svAny = true ∨ ¬ args.all (SV.wf c) = true then A.fail "call: arguments"
      else if G.ext.contains f=true then
        match extHint G f args with
        | some l => if l.all (At.wf c) = true ∧ l.all At.flat = true then A.xcall f args [] (resV (shapeV ss l)) (K (resV (shapeV ss l)) c) else A.fail "call: hint"
        | none=>A.xcall f args (freshL c (shapeK ss)) (resV (shapeV ss (freshL c (shapeK ss)))) (K (resV (shapeV ss (freshL c (shapeK ss)))) (freshLC c (shapeK ss)))
      else if G.calls.contains f=true then
        match resHint G f args (shapeK ss)with
        | some l => if l.all (At.wf c) = true ∧ l.all At.flat = true then A.call f args (namedM m (deepSV m o args)) (namedO o (deepSV m o args)) [] (resV (shapeV ss l)) (K (resV (shapeV ss l)) c) else A.fail "call: hint"
        | none=>A.call f args (namedM m (deepSV m o args)) (namedO o (deepSV m o args)) (freshL c (shapeK ss)) (resV (shapeV ss (freshL c (shapeK ss)))) (K (resV (shapeV ss (freshL c (shapeK ss)))) (freshLC c (shapeK ss)))
      else A.fail "call: unknown function"
def intOr(d:IE):Option SV→Option IE
 | none=>some d
 | some (.cv (.one (.int _ e)))=>some e
 | some _=>none
def doSliceS(A:Alg R)(P:Program)(c:Ctr)(t:TypeId)(s:SE)(lo hi:Option SV)(K:SV→Ctr→R):R :=
  match P.underlying t,intOr (.lit 0) lo,hi with
  | some .string, some l, none => if l.wf c = true then doIE A c (.slen s) fun n c1 => doStr A c1 (.sub s l n) K else A.fail "slice: string"
  | some .string,some l,some (.cv (.one (.int _ e)))=>doStr A c (.sub s l e) K
  | _, _, _ => A.fail "slice: string"
def doSlice1(A:Alg R)(P:Program)(c:Ctr)(t:TypeId)(x:SV)(lo hi:Option SV)(K:SV→Ctr→R):R :=
  match P.underlying t,x with
  | some (.slice el),.cv (.one (.xsl p ix sz len cap))=>match szAgg P el,intOr (.lit 0) lo,intOr len hi with
    | some (_,s),some l,some h=>if s=sz then
        doChk A (.cmp .geq len (.lit 0)) (doChk A (.cmp .leq len cap) (doChk A (.cmp .geq l (.lit 0)) (doChk A (.cmp .leq l h) (doChk A (.cmp .leq h cap) (
          if l=.lit 0 then K (.cv (.one (.xsl p ix sz h cap))) c
          else doChk A (.cmp .geq ix (.lit 0)) (doSum A c .diff h l fun len' c1=>doSum A c1 .diff cap l fun cap' c2 =>
            doFork A (.cmp .lss l cap) (fun _=>doSum A c2 .sum ix l fun ix' c3=>K (.cv (.one (.xsl p ix' sz len' cap'))) c3) (fun _=>K (.cv (.one (.xsl p ix sz len' cap'))) c2)))))))
      else A.fail "slice: size"
    | _, _, _ => A.fail "slice: bounds"
  | some (.slice el),.cv (.one (.lsl k off len cap))=>match szAgg P el,intOr (.lit 0) lo,intOr (.lit len) hi with
    | some (_,s),some (.lit l),some (.lit h) =>
      if 0 ≤ l ∧ l ≤ h ∧ h ≤ cap then K (.cv (.one (.lsl k (if l.toNat = cap then off else off + l.toNat * s) (h.toNat - l.toNat) (cap - l.toNat)))) c else A.fail "slice: beyond"
    | _, _, _ => A.fail "slice: bounds"
  | some (.array n el),.cv (.one (.ext p (.lit j) sz off))=>match szAgg P el,intOr (.lit 0) lo,intOr (.lit n) hi with
    | some (_,s),some (.lit l),some (.lit h) =>
      if 0 ≤ l ∧ l ≤ h ∧ h ≤ n ∧ j = 0 ∧ off = 0 ∧ 0 < s ∧ p < c.np then K (.cv (.one (.xsl p (.lit (if l.toNat = n then 0 else l)) s (.lit (h - l)) (.lit (n - l))))) c else A.fail "slice: beyond"
    | _, _, _ => A.fail "slice: bounds"
  | some (.array n el),.cv (.one (.loc k off))=>match szAgg P el,intOr (.lit 0) lo,intOr (.lit n) hi with
    | some (_,s),some (.lit l),some (.lit h) =>
      if 0 ≤ l ∧ l ≤ h ∧ h ≤ n then K (.cv (.one (.lsl k (if l.toNat = n then off else off + l.toNat * s) (h.toNat - l.toNat) (n - l.toNat)))) c else A.fail "slice: beyond"
    | _, _, _ => A.fail "slice: bounds"
  | _, _ => A.fail "slice: operand"
def doSlice(A:Alg R)(P:Program)(c:Ctr)(t:TypeId)(x:SV)(lo hi:Option SV)(K:SV→Ctr→R):R :=
  match x with
  | .cv (.one (.qsl q p sz len cap))=>doChk A (.not (.var q)) (doChk A (.cmp .gtr cap (.lit 0)) (doSlice1 A P c t (.cv (.one (.xsl p (.lit 0) sz len cap))) lo hi K))
  | .cv (.one (.str l))=>doSliceS A P c t (.lit l) lo hi K
  | .cv (.one (.sv i))=>doSliceS A P c t (.var i) lo hi K
  | .cv (.one (.own k))=>match P.underlying t,intOr (.lit 0) lo,hi with
    | some (.slice el),some l,none=>match szAgg P el with
      | some _ => if l = .lit 0 then K (.cv (.one (.own k))) c else A.fail "slice: row"
      | none => A.fail "slice: row"
    | _, _, _ => A.fail "slice: row"
  | x=>doSlice1 A P c t x lo hi K
def doLookup(A:Alg R)(P:Program)(o:OMem)(c:Ctr)(t:TypeId)(m k:SV)(ok:Bool)(K:SV→Ctr→R):R :=
  match mapTy P t,m,k with
  | some x,.cv (.one (.omap j)),.cv kv=>match getO o j,zeroA P x.el with
    | some (ce,sz,tc),some z=>match ceAts ce with
      | some cs=>if cvIs x.gk x.ks.length kv=true∧tc=x.no∧sz=0 then
          doEntry A c x kv.cells (fun _ v=>K (if ok=true then .tup [cvOf x.ge v,.one (.bool (.lit true))]else .cv (cvOf x.ge v)) c)
            (fun _=>K (if ok=true then .tup [z,.one (.bool (.lit false))]else .cv z) c) (cs.length + 1) cs 0
        else A.fail "map: key"
      | none=>match cks P 30 x.el with
        | some ls=>if cvIs x.gk x.ks.length kv=true∧tc=x.no∧sz=0∧ls.length=x.ne∧ls.all CK.plain=true then
            doFind A c x ce kv.cells fun i c1=>doFork A (.cmp .geq i (.lit 0))
              (fun _=>doRds A ce i (x.ks.length + x.ne) x.ks.length ls c1 fun l c2=>K (if ok=true then .tup [cvOf x.ge l,.one (.bool (.lit true))]else .cv (cvOf x.ge l)) c2)
              (fun _=>K (if ok=true then .tup [z,.one (.bool (.lit false))]else .cv z) c1)
          else A.fail "map: key"
        | none => A.fail "map: elements"
    | _, _ => A.fail "map: no such"
  | _, _, _ => A.fail "lookup"
def doLen(A:Alg R)(P:Program)(o:OMem)(c:Ctr)(t:Option TypeId)(x:SV)(K:SV→Ctr→R):R :=
  match t.bind P.underlying,x with
  | some (.slice _),.cv (.one (.own k))=>match getO o k with
    | some (ce, sz, _) => if 0 < sz then doOLen A c ce sz fun n c1 => K (.cv (.one (.int .i64 n))) c1 else A.fail "len"
    | none => A.fail "len: no such row"
  | some (.slice _),.cv (.one (.bts k))=>match getO o k with
    | some (ce, sz, t0) => if sz = 0 ∧ t0 = 0 then doOLen A c ce 1 fun n c1 => K (.cv (.one (.int .i64 n))) c1 else A.fail "len: bytes"
    | none => A.fail "len: no such row"
  | some (.slice _),.cv (.one (.qsl q _ _ len _))=>doChk A (.cmp .geq len (.lit 0)) (doChk A (.or (.not (.var q)) (.cmp .eql len (.lit 0))) (K (.cv (.one (.int .i64 len))) c))
  | some .string,.cv (.one (.sv i))=>doIE A c (.slen (.var i)) fun n c1=>K (.cv (.one (.int .i64 n))) c1
  | some (.slice _),.cv (.one (.lsl _ _ len _))=>K (.cv (.one (.int .i64 (.lit len)))) c
  | some (.slice _),.cv (.one .nils)=>K (.cv (.one (.int .i64 (.lit 0)))) c
  | some (.slice _),.cv (.one (.xsl _ _ _ len _))=>doChk A (.cmp .geq len (.lit 0)) (K (.cv (.one (.int .i64 len))) c)
  | some .string,.cv (.one (.str l))=>K (.cv (.one (.int .i64 (.lit l.length)))) c
  | some (.array n _),_=>K (.cv (.one (.int .i64 (.lit n)))) c
  | some (.map _ _),.cv (.one (.omap k))=>match getO o k,t.bind (mapTy P)with
    | some (ce,sz,tc),some x=>match ceAts ce with
      | some cs => if tc = x.no ∧ sz = 0 then K (.cv (.one (.int .i64 (.lit (cs.length / (x.ks.length + x.ne) : Nat))))) c else A.fail "len: map"
      | none => if tc = x.no ∧ sz = 0 then doOLen A c ce (x.ks.length + x.ne) fun n c1 => K (.cv (.one (.int .i64 n))) c1 else A.fail "len: map"
    | _, _ => A.fail "len: map"
  | _, _ => A.fail "len"
def doMinMax(A:Alg R)(c:Ctr)(mx:Bool)(x y:SV)(K:SV→Ctr→R):R :=
  match x,y with
  | .cv (.one (.int k a)),.cv (.one (.int _ b))=>doInt A c k (if mx then .max a b else .min a b) K
  | _, _ => A.fail "min, max"
def ownNil(P:Program)(o:OMem)(op:BinOp)(t:TypeId)(x y:SV):Option (CE × Nat) :=
  if op=.eql∨op=.neq then
    match P.underlying t,x,y with
    | some (.slice _),.cv (.one (.own k)),.cv (.one .nils)=>match getO o k with
      | some (ce,sz,_)=>if 0 < sz then some (ce,sz)else none
      | none=>none
    | _,_,_=>none
  else none
def ifcNil(k:KnL):SV→Option Bool
  | .cv (.one .nili)=>some true
  | .cv (.one (.val i))=>match findI k i with
    | some _=>some false
    | none=>none
  | _=>none
def isCst:Operand→Bool
 | .const _=>true
 | _=>false
def ifcEq(P:Program)(k:KnL)(op:BinOp)(t:TypeId)(xo yo:Operand)(x y:SV):Option Bool :=
  match P.underlying t with
  | some (.interface _)=>match ifcNil k x,ifcNil k y with
    | some a,some b=>if (a=true∨b=true)∧(isCst xo=true∨isCst yo=true)then (if op=.eql then some (a == b)else if op=.neq then some (!(a == b))else none)else none
    | _,_=>none
  | _=>none
def methodOf(P:Program)(t:TypeId)(name:String):Option FuncId :=
  match P.info? t,P.underlying t with
  | some i,some d=>match i.methods.find? (·.name == name)with
    | some m=>match m.func,m.path.toList with
      | some (f,false),[]=>match d with
        | .pointer _=>none
        | _=>some f
      | _,_=>none
    | none=>none
  | _,_=>none
def gloLoad(G:Cfg)(k:KnL)(c:Ctr)(t:TypeId)(x:SV):Option (Nat × List At × TypeId × CV) :=
  match x with
  | .cv (.one (.ext p (.lit j) sz off))=>match findP k p with
    | some g=>match G.globs.lookup g with
      | some (cs,ty)=>match partOf G.P t cs (j.toNat * sz + off)with
        | some v=>if cs.all (At.wf c)=true∧cs.all At.flat=true then some (g,cs,ty,v)else none
        | none=>none
      | none=>none
    | none=>none
  | _=>none
def doAssert(A:Alg R)(P:Program)(k:KnL)(c:Ctr)(x:SV)(asserted:TypeId)(ok:Bool)(K:SV→Ctr→R):R :=
  match P.underlying asserted,x with
  | some (.interface _), _ => A.fail "typeAssert: an interface"
  | some _,.cv (.one (.val i))=>match findI k i with
    | some (t,v) =>
      if t=asserted then K (if ok=true then .tup [v,.one (.bool (.lit true))]else .cv v) c
      else if ok=true then match zeroA P asserted with
        | some z=>K (.tup [z,.one (.bool (.lit false))]) c
        | none => A.fail "typeAssert: zero"
      else A.fail "typeAssert: panics"
    | none => A.fail "typeAssert: unknown"
  | some _,.cv (.one .nili)=>if ok=true then match zeroA P asserted with
      | some z=>K (.tup [z,.one (.bool (.lit false))]) c
      | none => A.fail "typeAssert: zero"
    else A.fail "typeAssert: panics"
  | _, _ => A.fail "typeAssert"
def svRow(m:Mem)(o:OMem):SV→Option CE
  | .cv (.one (.own k))=>match getO o k with
    | some (ce,sz,_)=>if sz=1∧ceFlat ce=true then some ce else none
    | none=>none
  | .cv (.one (.lsl k off len _))=>match getM m k with
    | some (cs,_)=>if off + len≤cs.length∧cs.all At.flat=true then some [.ats ((cs.drop off).take len)]else none
    | none=>none
  | .cv (.one .nils)=>some []
  | _=>none
def argBytes(P:Program)(c:Ctr)(s d:TypeId)(x:SV):Option At :=
  match P.underlying s,P.underlying d with
  | some (.slice e),some .string=>match P.underlying e,x with
    | some (.int .u8),.cv (.one a)=>match a with
      | .qsl .. | .xsl .. => if a.wf c=true then some a else none
      | _=>none
    | _,_=>none
  | _,_=>none
def bytesOf(P:Program)(m:Mem)(o:OMem)(s d:TypeId)(x:SV):Option CE :=
  match P.underlying s,P.underlying d with
  | some (.slice e),some .string=>match P.underlying e with
    | some (.int .u8)=>svRow m o x
    | _=>none
  | _,_=>none
def strBytes(P:Program)(s d:TypeId):Option TypeId :=
  match P.underlying s,P.underlying d with
  | some .string,some (.slice e)=>match P.underlying e with
    | some (.int .u8)=>some e
    | _=>none
  | _,_=>none
def bytesA(l:List UInt8):List At:=l.map fun b=>.int .u8 (.lit b.toNat)
def opv(A:Alg R)(G:Cfg)(st:St)(o:Oper)(K:SV→Ctr→R):R :=
  match o.op with
  | .move x=>K (st.ev x) st.c
  | .assign x=>K (st.ev x) st.c
  | .pick x a b=>match st.ev x with
    | .cv (.one (.bool e))=>doFork A e (fun _=>K (st.ev a) st.c) (fun _=>K (st.ev b) st.c)
    | _ => A.fail "pick"
  | .load t x=>match gloLoad G st.k st.c t (st.ev x)with
    | some (g,cs,ty,v)=>A.glo g cs ty (K (.cv v) st.c)
    | none=>doLoad A G.P st.m st.o st.c t (st.ev x) K
  | .nilCheck x=>match st.ev x with
    | .cv (.one (.loc k off))=>K (.cv (.one (.loc k off))) st.c
    | .cv (.one (.ext p ix sz off))=>K (.cv (.one (.ext p ix sz off))) st.c
    | .cv (.one (.oloc k ix sz off))=>K (.cv (.one (.oloc k ix sz off))) st.c
    | .cv (.one (.fn f caps))=>K (.cv (.one (.fn f caps))) st.c
    | .cv (.one (.mfn f first caps))=>K (.cv (.one (.mfn f first caps))) st.c
    | .cv (.one (.yld k))=>K (.cv (.one (.yld k))) st.c
    | .cv (.one (.gfn f l caps))=>K (.cv (.one (.gfn f l caps))) st.c
    | _ => A.fail "nilCheck"
  | .binOp op t x y _=>match ownNil G.P st.o op t (st.ev x) (st.ev y)with
    | some (ce,sz)=>doOLen A st.c ce sz fun n c1=>doChk A (.cmp .gtr n (.lit 0)) (K (.cv (.one (.bool (.lit (decide (op=.neq)))))) c1)
    | none=>match ifcEq G.P st.k op t x y (st.ev x) (st.ev y)with
      | some b=>K (.cv (.one (.bool (.lit b)))) st.c
      | none=>doBin A G.P st.c op t (st.ev x) (st.ev y) K
  | .lookup t x i ok=>doLookup A G.P st.o st.c t (st.ev x) (st.ev i) ok K
  | .typeAssert x _ asserted ok=>doAssert A G.P st.k st.c (st.ev x) asserted ok K
  | .unOp op _ x=>doUn A st.c op (st.ev x) K
  | .convert s d x=>match bytesOf G.P st.m st.o s d (st.ev x)with
    | some ce=>doStr A st.c (.row ce) K
    | none=>match argBytes G.P st.c s d (st.ev x)with
      | some a=>A.ecp st.c.nl a 1 (doStr A {st.c with nl:=st.c.nl + 1} (.row [.var st.c.nl]) K)
      | none=>doConv A G.P st.c s d (st.ev x) K
  | .field t x f=>doField A G.P st.c t (st.ev x) f K
  | .fieldAddr s x f=>doFieldAddr A G.P st.c s (st.ev x) f K
  | .indexAddr t x i=>doIndexAddr A G.P st.o st.c t (st.ev x) (st.ev i) K
  | .index t x i=>doIndex A G.P st.c t (st.ev x) (st.ev i) K
  | .extract x i=>match st.ev x with
    | .tup l=>match l[i]? with
      | some v=>K (.cv v) st.c
      | none => A.fail "extract"
    | _ => A.fail "extract"
  | .build t parts=>doBuild A G.P st.c t (parts.toList.map fun p=>(p.1,st.ev p.2)) K
  | .slice t x lo hi none=>doSlice A G.P st.c t (st.ev x) (lo.map st.ev) (hi.map st.ev) K
  | .makeFunc (.func f) first caps=>if first.size=0 then match locsOf (caps.toList.map st.ev)with
      | some l=>K (.cv (.one (.fn f l))) st.c
      | none => A.fail "makeFunc"
    else match locsOf (first.toList.map st.ev),locsOf (caps.toList.map st.ev)with
      | some q,some l=>K (.cv (.one (.mfn f q l))) st.c
      | none,some l=>match first.toList.map st.ev with
        | [.cv (.agg cs)]=>match Cell0.ofs cs with
          | some r=>K (.cv (.one (.gfn f r l))) st.c
          | none => A.fail "makeFunc: receiver"
        | _ => A.fail "makeFunc: receiver"
      | _, _ => A.fail "makeFunc"
  | .call {callee := .builtin .len,args,argTypes}=>match args.toList with
    | [x]=>doLen A G.P st.o st.c argTypes[0]? (st.ev x) K
    | _ => A.fail "len"
  | .call {callee := .builtin .max,args,..}=>match args.toList with
    | [x,y]=>doMinMax A st.c true (st.ev x) (st.ev y) K
    | _ => A.fail "max"
  | .call {callee := .builtin .min,args,..}=>match args.toList with
    | [x,y]=>doMinMax A st.c false (st.ev x) (st.ev y) K
    | _ => A.fail "min"
  | .call {callee := .invoke r name,args,..}=>match st.ev r with
    | .cv (.one (.val i))=>match findI st.k i with
      | some (t,v)=>match methodOf G.P t name with
        | some f=>doCall A G st.m st.o st.c f (.cv v::args.toList.map st.ev) K
        | none => A.fail "invoke: method"
      | none => A.fail "invoke: unknown"
    | _ => A.fail "invoke"
  | .call {callee := .value g,args,..}=>match st.ev g with
    | .cv (.one (.fn f caps))=>doCall A G st.m st.o st.c f (args.toList.map st.ev++caps.map fun x=>.cv (.one (.loc x.1 x.2))) K
    | .cv (.one (.mfn f first caps))=>doCall A G st.m st.o st.c f ((first.map fun x=>.cv (.one (.loc x.1 x.2)))++(args.toList.map st.ev++caps.map fun x=>.cv (.one (.loc x.1 x.2)))) K
    | _ => A.fail "call: value"
  | _ => A.fail "operation"
def ovLoad(A:Alg R)(G:Cfg)(st:St)(t:TypeId)(x:Operand)(K:SV→Ctr→R):R:=match gloLoad G st.k st.c t (st.ev x)with
 | some (g,cs,ty,v)=>A.glo g cs ty (K (.cv v) st.c)
 | none=>doLoad A G.P st.m st.o st.c t (st.ev x) K
def ovBin(A:Alg R)(G:Cfg)(st:St)(op:BinOp)(t:TypeId)(x y:Operand)(K:SV→Ctr→R):R:=match ownNil G.P st.o op t (st.ev x) (st.ev y)with
  | some (ce,sz)=>doOLen A st.c ce sz fun n c1=>doChk A (.cmp .gtr n (.lit 0)) (K (.cv (.one (.bool (.lit (decide (op=.neq)))))) c1)
  | none=>match ifcEq G.P st.k op t x y (st.ev x) (st.ev y)with
    | some b=>K (.cv (.one (.bool (.lit b)))) st.c
    | none=>doBin A G.P st.c op t (st.ev x) (st.ev y) K
def ovBinF(A:Alg R)(G:Cfg)(st:St)(op:BinOp)(t:TypeId)(x y:Operand)(K:SV→Ctr→R):R:=match st.ev x with
  | .cv (.one (.int k a))=>match st.ev y with
    | .cv (.one (.int k' b))=>doBinF A G.P st.c op t k k' a b K
    | _=>ovBin A G st op t x y K
  | _=>ovBin A G st op t x y K
theorem zwv(A:Alg R)(G:Cfg)(st:St)(op:BinOp)(t:TypeId)(x y:Operand)(K:SV→Ctr→R):ovBinF A G st op t x y K=ovBin A G st op t x y K:=by
 unfold ovBinF;split
 ·rename_i k a hx;split
  ·rename_i k' b hy;rw [zvv];unfold ovBin
   have h1:ownNil G.P st.o op t (st.ev x) (st.ev y)=none:=by
    rw [hx,hy];unfold ownNil;split
    ·split <;> first | rfl | (rename_i h _;cases h) | simp_all
    ·rfl
   have h2:ifcEq G.P st.k op t x y (st.ev x) (st.ev y)=none:=by
    rw [hx,hy];unfold ifcEq;simp only [ifcNil];split <;> rfl
   rw [h1,h2,hx,hy]
  ·rfl
 ·rfl
def ovExtract(A:Alg R)(st:St)(x:Operand)(i:Nat)(K:SV→Ctr→R):R:=match st.ev x with
  | .tup l=>match l[i]? with
    | some v=>K (.cv v) st.c
    | none => A.fail "extract"
  | _ => A.fail "extract"
def opvF(A:Alg R)(G:Cfg)(st:St)(o:Oper)(K:SV→Ctr→R):R :=
 match o.op with
 | .move x=>K (st.ev x) st.c
 | .assign x=>K (st.ev x) st.c
 | .load t x=>ovLoad A G st t x K
 | .binOp op t x y _=>ovBin A G st op t x y K
 | .unOp op _ x=>doUn A st.c op (st.ev x) K
 | .field t x f=>doField A G.P st.c t (st.ev x) f K
 | .fieldAddr s x f=>doFieldAddr A G.P st.c s (st.ev x) f K
 | .indexAddr t x i=>doIndexAddr A G.P st.o st.c t (st.ev x) (st.ev i) K
 | .index t x i=>doIndex A G.P st.c t (st.ev x) (st.ev i) K
 | .extract x i=>ovExtract A st x i K
 | _=>opv A G st o K
theorem zxv(A:Alg R)(G:Cfg)(st:St)(o:Oper)(K:SV→Ctr→R):opvF A G st o K=opv A G st o K:=by
 obtain⟨dst,op,type,pos,after,guard⟩:=o;cases op <;> first | rfl | (unfold opvF opv ovLoad;rfl) | (unfold opvF opv ovBin;rfl) | (unfold opvF opv ovExtract;rfl)
end Vc
set_option linter.unusedVariables false
namespace Vc
open Go Go.RowKit
variable {R:Type}
def St.new(A:Alg R)(st:St)(dst:Option Tmp)(cs:List At)(t:TypeId)(v:Nat→At)(K:St→R):R :=
  if cs.all (At.wf st.c)=true then
    forceSp (fun cs=>St.put A {st with m:=(st.c.nk,cs,t)::st.m} dst (.cv (.one (v st.c.nk))) {st.c with nk:=st.c.nk + 1} K) cs []
  else A.fail "new"
def opm0(A:Alg R)(G:Cfg)(st:St)(o:Oper)(K:St→R):R :=
  match o.op with
  | .alloc t=>match zeroA G.P t with
    | some z=>St.new A st o.dst z.cells t (.loc · 0) K
    | none => A.fail "alloc"
  | .box t x=>match st.ev x with
    | .cv v=>St.new A st o.dst v.cells t (.loc · 0) K
    | _ => A.fail "box"
  | .makeInterface t x=>match G.P.underlying t,st.ev x with
    | some (.interface _), _ => A.fail "makeInterface"
    | some _,.cv v=>if v.flat=true∧v.wf st.c=true then
        A.ifc st.c.nv t v (St.put A {st with k := .ifc st.c.nv t v::st.k} o.dst (.cv (.one (.val st.c.nv))) {st.c with nv:=st.c.nv + 1} K)
      else A.fail "makeInterface: value"
    | _, _ => A.fail "makeInterface"
  | .store t a x=>match szAgg G.P t,st.ev a,st.ev x with
    | some (_,n),.cv (.one (.loc k off)),.cv v=>match getM st.m k with
      | some (cs,_)=>if v.cells.length=n∧off + n≤cs.length∧v.wf st.c=true then
          St.put A {st with m:=setM st.m k (cs.take off++v.cells++cs.drop (off + n))} o.dst .any st.c K
        else A.fail "store: size"
      | none => A.fail "store: no such block"
    | _, _, _ => A.fail "store"
  | .buildSlice t len parts=>match G.P.underlying t with
    | some (.slice el)=>match szAgg G.P el,zeroA G.P el with
      | some (_,s),some z=>if z.cells.length=s∧0 < s∧0 < len∧len * s≤4096 then
          match fillA (fun i=>some (i * s,s)) (times z.cells len) (parts.toList.map fun p=>(p.1,st.ev p.2))with
          | some cs=>St.new A st o.dst cs el (.lsl · 0 len len) K
          | none => A.fail "buildSlice: parts"
        else A.fail "buildSlice: size"
      | _, _ => A.fail "buildSlice"
    | _ => A.fail "buildSlice"
  | _ => opv A G st o fun v c => if c.nk = st.c.nk then St.put A st o.dst v c K else A.fail "blocks"
def effHint(G:Cfg)(f:FuncId):Option (List (Nat × List Nat)) :=
 match G.loops.lookup (3000000 + f)with
 | some (.inv offs (j::js) _)=>some ((j::js).map fun a=>(a,(offs.filter fun x=>x.1 == a).map (·.2)))
 | _=>none
def kindAt:At→Option CK
 | .int k _=>some (.int k)
 | .bool _=>some .bool
 | .str _=>some .str
 | .sv _=>some .str
 | _=>none
def kindsAt(cs:List At):List Nat→Option (List CK)
  | []=>some []
  | i::r=>match (cs[i]?).bind kindAt,kindsAt cs r with
    | some k,some l=>some (k::l)
    | _,_=>none
def setAts:List At→List Nat→List At→List At
 | cs,i::r,a::l=>setAts (cs.take i++a::cs.drop (i + 1)) r l
 | cs,_,_=>cs
structure EBlk where
 k:Nat
 cs:List At
 t:TypeId
 offs:List Nat
 ks:List CK
def effBlks(m:Mem)(args:List SV):List (Nat × List Nat)→Option (List EBlk)
  | []=>some []
  | (j,offs)::r=>match args[j]?,effBlks m args r with
    | some (.cv (.one (.loc k 0))),some l=>match getM m k with
      | some (cs,t)=>match kindsAt cs offs with
        | some ks=>some (⟨k,cs,t,offs,ks⟩::l)
        | none=>none
      | none=>none
    | _,_=>none
def effNew:List EBlk→List At→List (Nat × List At × TypeId)
 | [],_=>[]
 | e::r,fr=>(e.k,setAts e.cs e.offs (fr.take e.ks.length),e.t)::effNew r (fr.drop e.ks.length)
def setMs:Mem→List (Nat × List At × TypeId)→Mem
 | m,[]=>m
 | m,(k,cs,_)::r=>setMs (setM m k cs) r
def doEff(A:Alg R)(G:Cfg)(st:St)(dst:Option Tmp)(f:FuncId)(args:List SV)(jo:List (Nat × List Nat))(K:St→R):R :=
  match G.P.funcs[f]? with
  | none => A.fail "call: no such function"
  | some fn=>match shapes G.P fn.resultTypes.toList,effBlks st.m args jo with
    | some ss,some bl =>
      let ks:=shapeK ss++bl.flatMap (·.ks);let fr:=freshL st.c ks;let ns:=effNew bl (fr.drop (shapeK ss).length)
      if args.any svAny = true ∨ ¬ args.all (SV.wf st.c) = true then A.fail "call: arguments"
      else if (bl.map (·.k)).Nodup then
        if G.calls.contains f=true then
          A.ecall f args (namedM st.m (deepSV st.m st.o args)) (namedO st.o (deepSV st.m st.o args)) ns fr (resV (shapeV ss fr))
            (St.put A {st with m:=setMs st.m ns} dst (resV (shapeV ss fr)) (freshLC st.c ks) K)
        else A.fail "call: unknown function"
      else A.fail "effect: a block twice"
    | _, _ => A.fail "effect"
def effOf(G:Cfg)(st:St)(o:Oper):Option (FuncId × List SV × List (Nat × List Nat)) :=
  match o.op with
  | .call {callee := .value g,args,..}=>match st.ev g with
    | .cv (.one (.fn f caps))=>match effHint G f with
      | some jo=>if (effBlks st.m (args.toList.map st.ev++caps.map fun x=>.cv (.one (.loc x.1 x.2))) jo).isSome=true then some (f,args.toList.map st.ev++caps.map fun x=>.cv (.one (.loc x.1 x.2)),jo)else none
      | none=>none
    | _=>none
  | _=>none
def setO:OMem→Nat→CE→OMem
 | [],_,_=>[]
 | (j,v)::r,i,ce=>if j=i then (j,ce,v.2)::r else (j,v)::setO r i ce
def rowEffHint(G:Cfg)(f:FuncId):Option Nat :=
 match G.loops.lookup (600000000000000000 + f)with
 | some (.inv _ (j::_) _)=>some j
 | _=>none
def doEffR(A:Alg R)(G:Cfg)(st:St)(dst:Option Tmp)(f:FuncId)(args:List SV)(j:Nat)(K:St→R):R :=
  match G.P.funcs[f]? with
  | none => A.fail "call: no such function"
  | some fn=>match shapes G.P fn.resultTypes.toList,args[j]? with
    | some ss,some (.cv (.one (.own k)))=>match getO st.o k with
      | some (_,sz,t) =>
        let c1:Ctr := {st.c with nl:=st.c.nl + 1};let fr:=freshL c1 (shapeK ss)
        if args.any svAny = true ∨ ¬ args.all (SV.wf st.c) = true then A.fail "call: arguments"
        else if G.calls.contains f=true then
          A.rcall f args (namedM st.m (deepSV st.m st.o args)) (namedO st.o (deepSV st.m st.o args)) k st.c.nl sz t fr (resV (shapeV ss fr))
            (St.put A {st with o:=setO st.o k [.var st.c.nl]} dst (resV (shapeV ss fr)) (freshLC c1 (shapeK ss)) K)
        else A.fail "call: unknown function"
      | none => A.fail "effect: no such row"
    | _, _ => A.fail "effect"
def effROf(G:Cfg)(st:St)(o:Oper):Option (FuncId × List SV × Nat) :=
  match o.op with
  | .call {callee := .value g,args,..}=>match st.ev g with
    | .cv (.one (.fn f caps))=>match rowEffHint G f with
      | some j=>match (args.toList.map st.ev++caps.map fun x=>SV.cv (.one (.loc x.1 x.2)))[j]? with
        | some (.cv (.one (.own _)))=>some (f,args.toList.map st.ev++caps.map fun x=>.cv (.one (.loc x.1 x.2)),j)
        | _=>none
      | none=>none
    | _=>none
  | _=>none
def opm(A:Alg R)(G:Cfg)(st:St)(o:Oper)(K:St→R):R :=
  match effOf G st o with
  | some (f,args,jo)=>doEff A G st o.dst f args jo K
  | none=>match effROf G st o with
    | some (f,args,j)=>doEffR A G st o.dst f args j K
    | none=>opm0 A G st o K
def omAlloc(A:Alg R)(G:Cfg)(st:St)(dst:Option Tmp)(t:TypeId)(K:St→R):R:=match zeroA G.P t with
  | some z=>St.new A st dst z.cells t (.loc · 0) K
  | none => A.fail "alloc"
def omBox(A:Alg R)(st:St)(dst:Option Tmp)(t:TypeId)(x:Operand)(K:St→R):R:=match st.ev x with
  | .cv v=>St.new A st dst v.cells t (.loc · 0) K
  | _ => A.fail "box"
def omStore(A:Alg R)(G:Cfg)(st:St)(dst:Option Tmp)(t:TypeId)(a x:Operand)(K:St→R):R:=match szAgg G.P t,st.ev a,st.ev x with
  | some (_,n),.cv (.one (.loc k off)),.cv v=>match getM st.m k with
    | some (cs,_)=>if v.cells.length=n∧off + n≤cs.length∧v.wf st.c=true then
        forceSp (fun l=>St.put A {st with m:=setM st.m k l} dst .any st.c K) (cs.take off++v.cells++cs.drop (off + n)) []
      else A.fail "store: size"
    | none => A.fail "store: no such block"
  | _, _, _ => A.fail "store"
def opm0F(A:Alg R)(G:Cfg)(st:St)(o:Oper)(K:St→R):R :=
  match o.op with
  | .alloc t=>omAlloc A G st o.dst t K
  | .box t x=>omBox A st o.dst t x K
  | .makeInterface .. => opm0 A G st o K
  | .store t a x=>omStore A G st o.dst t a x K
  | .buildSlice .. => opm0 A G st o K
  | _ => opvF A G st o fun v c => if c.nk = st.c.nk then St.put A st o.dst v c K else A.fail "blocks"
theorem zys(A:Alg R)(G:Cfg)(st:St)(o:Oper)(K:St→R):opm0F A G st o K=opm0 A G st o K:=by
 obtain⟨dst,op,type,pos,after,guard⟩:=o;cases op <;> first | rfl | (unfold opm0F opm0;simp only [zxv];done) | (unfold opm0F opm0 omAlloc;rfl) | (unfold opm0F opm0 omBox;rfl) | (unfold opm0F opm0 omStore;simp only [zlg];done)
theorem zyv(A:Alg R)(G:Cfg)(st:St)(o:Oper)(K:St→R)(h:∀ c,o.op ≠ .call c):opm A G st o K=opm0 A G st o K:=by
 obtain⟨dst,op,type,pos,after,guard⟩:=o;cases op
 case call c=>exact absurd rfl (h c)
 all_goals rfl
def St.newO(A:Alg R)(st:St)(dst:Option Tmp)(eat:List Nat)(ce:CE)(sz:Nat)(el:TypeId)(c:Ctr)(K:St→R)(md:Nat:=0):R :=
  if ceWf c ce=true then
    St.put A {st with o:=(c.nk,ce,sz,el)::delOs st.o eat} dst (.cv (.one (rowAt md c.nk))) {c with nk:=c.nk + 4} K
  else A.fail "row"
def rowOf(o:OMem)(sz:Nat)(el:TypeId):SV→Option (CE × List Nat)
  | .cv (.one .nils)=>some ([],[])
  | .cv (.one (.own k))=>match getO o k with
    | some (ce,s,t)=>if s=sz∧t=el then some (ce,[k])else none
    | none=>none
  | _=>none
def addOf(A:Alg R)(st:St)(sz:Nat)(eat:List Nat)(y:SV)(K:CE→Ctr→R):R :=
  match y with
  | .cv (.one .nils)=>K [] st.c
  | .cv (.one (.lsl k off len _))=>match getM st.m k with
    | some (cs, _) => if off + len * sz ≤ cs.length then K [.ats ((cs.drop off).take (len * sz))] st.c else A.fail "append: beyond"
    | none => A.fail "append: no such block"
  | .cv (.one (.own k))=>match getO st.o k with
    | some (ce, s, _) => if s = sz ∧ eat.contains k = false then K ce st.c else A.fail "append: a row to itself"
    | none => A.fail "append: no such row"
  | .cv (.one x)=>match x with
    | .xsl _ _ s _ _ | .qsl _ _ s _ _ => if s = sz ∧ x.wf st.c = true then A.ecp st.c.nl x sz (K [.var st.c.nl] { st.c with nl := st.c.nl + 1 }) else A.fail "append: a part"
    | _ => A.fail "append: what"
  | _ => A.fail "append: what"
def maxRow:Int:=1073741824
def opa(A:Alg R)(G:Cfg)(st:St)(o:Oper)(K:St→R):R :=
  match o.op with
  | .call {callee := .builtin .append,args,argTypes}=>match args.toList,argTypes.toList with
    | [x,y],[t,t']=>match G.P.underlying t with
      | some (.slice el)=>match G.P.info? el,zeroA G.P el with
        | some i,some z =>
          if t'=t∧0 < i.size∧z.cells.length=i.size∧i.bytes≤131072 then
            match rowOf st.o i.size el (st.ev x)with
            | some (ce,eat)=>addOf A st i.size eat (st.ev y) fun add c1 =>
                doOLen A c1 (ceApp ce add) i.size fun n c2=>doChk A (.cmp .leq n (.lit maxRow)) (St.newO A st o.dst eat (ceApp ce add) i.size el c2 K)
            | none => A.fail "append: to what"
          else A.fail "append: type"
        | _, _ => A.fail "append: element"
      | _ => A.fail "append: slice"
    | _, _ => A.fail "append: arguments"
  | _ => A.fail "append"
def Cell0.ids:Cell0→List Nat
 | .lsl k _ _ _=>[k]
 | .own k=>[k,k + 1,k + 2,k + 3]
 | _=>[]
def idsOf:List At→List Nat
 | []=>[]
 | .loc k _::r | .lsl k _ _ _::r=>k::idsOf r
 | .own k::r | .omap k::r | .bts k::r=>k::(k + 1)::(k + 2)::(k + 3)::idsOf r
 | .oloc k _ _ _::r | .yld k::r=>k::idsOf r
 | .fn _ caps::r=>caps.map (·.1)++idsOf r
 | .mfn _ first caps::r=>first.map (·.1)++caps.map (·.1)++idsOf r
 | .gfn _ first caps::r=>first.flatMap Cell0.ids++caps.map (·.1)++idsOf r
 | _::r=>idsOf r
def nilHint(G:Cfg)(dst:Option Tmp):Option TypeId :=
  match dst with
  | some d=>match G.loops.lookup (900000000 + d)with
    | some (.inv _ [el] _)=>some el
    | _=>none
  | none=>none
def doUpdate(A:Alg R)(G:Cfg)(st:St)(dst:Option Tmp)(t:TypeId)(m k v:SV)(K:St→R):R :=
  match mapTy G.P t,m,k,v with
  | some x,.cv (.one (.omap j)),.cv kv,.cv vv=>match getO st.o j with
    | some (ce,sz,tc)=>match ceAts ce with
      | some cs=>if cvIs x.gk x.ks.length kv=true∧cvIs x.ge x.ne vv=true∧tc=x.no∧sz=0 then
          doEntry A st.c x kv.cells
            (fun i _=>St.put A {st with o:=setO st.o j [.ats (cs.take (i * (x.ks.length + x.ne) + x.ks.length)++vv.cells++cs.drop (i * (x.ks.length + x.ne) + x.ks.length + x.ne))]} dst .any st.c K)
            (fun _=>St.put A {st with o:=setO st.o j [.ats (cs++(kv.cells++vv.cells))]} dst .any st.c K) (cs.length + 1) cs 0
        else A.fail "map: entry"
      | none=>if cvIs x.gk x.ks.length kv=true∧cvIs x.ge x.ne vv=true∧tc=x.no∧sz=0∧vv.flat=true∧vv.wf st.c=true then
          doFind A st.c x ce kv.cells fun i c1=>doFork A (.cmp .geq i (.lit 0))
            (fun _=>A.lst c1.nl (.set ce i (x.ks.length + x.ne) x.ks.length vv.cells) (St.put A {st with o:=setO st.o j [.var c1.nl]} dst .any {c1 with nl:=c1.nl + 1} K))
            (fun _=>St.put A {st with o:=setO st.o j (ceApp ce [.ats (kv.cells++vv.cells)])} dst .any c1 K)
        else A.fail "map: entry"
    | none => A.fail "map: no such"
  | _, _, _, _ => A.fail "mapUpdate"
def opw(A:Alg R)(G:Cfg)(st:St)(o:Oper)(K:St→R):R :=
  match o.op with
  | .makeSlice t l cp=>match G.P.underlying t with
    | some (.slice el)=>match G.P.info? el,zeroA G.P el with
      | some i,some z =>
        if 0 < i.size∧z.cells.length=i.size∧i.bytes≤131072∧z.cells.all At.flat=true∧z.wf st.c=true then
          match st.ev l,st.ev cp with
          | .cv (.one (.int _ e)),.cv (.one (.int _ e2)) =>
            if e=.lit 0 then
              doChk A (.cmp .geq e2 (.lit 0)) (doChk A (.cmp .leq e2 (.lit maxRow)) (St.newO A st o.dst [] [] i.size el st.c K))
            else if e=e2 then
              doChk A (.cmp .geq e (.lit 0)) (doChk A (.cmp .leq e (.lit maxRow)) (match e with
                | .lit n=>St.newO A st o.dst [] [.ats (times z.cells n.toNat)] i.size el st.c K
                | e => if e.wf st.c = true then A.lst st.c.nl (.rep e z.cells) (St.newO A st o.dst [] [.var st.c.nl] i.size el { st.c with nl := st.c.nl + 1 } K) else A.fail "makeSlice: length"))
            else A.fail "makeSlice: capacity"
          | _, _ => A.fail "makeSlice: lengths"
        else A.fail "makeSlice: type"
      | _, _ => A.fail "makeSlice: element"
    | _ => A.fail "makeSlice"
  | .buildSlice t len parts=>match G.P.underlying t with
    | some (.slice el)=>match G.P.info? el with
      | some i=>if len=0∧parts.toList.length=0∧0 < i.size then St.newO A st o.dst [] [] i.size el st.c K else match szAgg G.P el,zeroA G.P el with
        | some (_,s),some z=>if z.cells.length=s∧0 < s∧0 < len∧len * s≤4096 then
            match fillA (fun i=>some (i * s,s)) (times z.cells len) (parts.toList.map fun p=>(p.1,st.ev p.2))with
            | some cs => if cs.length = len * s ∧ idsOf cs = [] then St.newO A st o.dst [] [.ats cs] s el st.c K else A.fail "buildSlice: row"
            | none => A.fail "buildSlice: parts"
          else A.fail "buildSlice: size"
        | _, _ => A.fail "buildSlice: row"
      | none => A.fail "buildSlice: row"
    | _ => A.fail "buildSlice: row"
  | .slice t x lo (some hi) (some mx)=>match G.P.underlying t,st.ev hi,st.ev mx,intOr (.lit 0) (lo.map st.ev)with
    | some (.slice el),.cv (.one (.int _ (.lit 0))),.cv (.one (.int _ (.lit 0))),some (.lit 0)=>match G.P.info? el,st.ev x with
      | some i,.cv (.one (.xsl ..)) | some i,.cv (.one (.own ..)) | some i,.cv (.one .nils) =>
        if 0 < i.size then St.newO A st o.dst [] [] i.size el st.c K else A.fail "slice: row"
      | _, _ => A.fail "slice: row"
    | _, _, _, _ => A.fail "slice: row"
  | .store t a x=>match szAgg G.P t,st.ev a,st.ev x with
    | some (_,n),.cv (.one (.oloc k ix sz off)),.cv v=>match getO st.o k with
      | some (ce,s,_) =>
        if s=sz∧v.cells.length=n∧off + n≤sz∧0 < sz∧v.wf st.c=true∧ix.wf st.c=true∧ceWf st.c ce=true then
          doOLen A st.c ce sz fun m c1=>doChk A (.cmp .geq ix (.lit 0)) (doChk A (.cmp .lss ix m) (
            match knownAt ce ix sz off with
            | some (cs,p)=>St.put A {st with o:=setO st.o k [.ats (cs.take p++v.cells++cs.drop (p + n))]} o.dst .any c1 K
            | none=>if ceFlat ce=true∧v.flat=true then
                A.lst c1.nl (.set ce ix sz off v.cells) (St.put A {st with o:=setO st.o k [.var c1.nl]} o.dst .any {c1 with nl:=c1.nl + 1} K)
              else A.fail "store: row"))
        else A.fail "store: row"
      | none => A.fail "store: no such row"
    | _, _, _ => A.fail "store: row"
  | .convert s d x=>match strBytes G.P s d,st.ev x with
    | some _,.cv (.one (.str l))=>St.newO A st o.dst [] [.ats (bytesA l)] 0 0 st.c K 2
    | some _,.cv (.one (.sv i))=>A.lst st.c.nl (.bts i) (St.newO A st o.dst [] [.var st.c.nl] 0 0 {st.c with nl:=st.c.nl + 1} K 2)
    | _, _ => A.fail "convert: bytes"
  | .makeMap t none=>match mapTy G.P t with
    | some x=>St.newO A st o.dst [] [] 0 x.no st.c K 1
    | none => A.fail "makeMap"
  | .mapUpdate t m k v=>doUpdate A G st o.dst t (st.ev m) (st.ev k) (st.ev v) K
  | .insert t m k v=>doUpdate A G st o.dst t (st.ev m) (st.ev k) (st.ev v) K
  | .assign x=>match st.ev x,nilHint G o.dst with
    | .cv (.one .nils),some el=>match G.P.info? el with
      | some i => if 0 < i.size then St.newO A st o.dst [] [] i.size el st.c K else A.fail "assign: row"
      | none => A.fail "assign: row"
    | _, _ => A.fail "assign: row"
  | _ => A.fail "row: operation"
def St.know(st:St)(d:Nat)(b:Bool):St := {st with t:=(d,.cv (.one (.bool (.lit b))))::st.t}
abbrev Inl(R:Type):=FuncId→List SV→St→(SV→St→R)→R
abbrev Yl(R:Type):=Nat→List SV→St→(SV→St→R)→R
def locSV(x:Nat × Nat):SV := .cv (.one (.loc x.1 x.2))
def rowHint(G:Cfg)(t:TypeId)(dst:Option Tmp):Bool :=
 match dst with
 | some d=>(G.loops.lookup (1000000 + t * 10000 + d)).isSome
 | none=>false
def panHint(G:Cfg)(f:FuncId):Option (TypeId × List Nat) :=
 match G.loops.lookup (800000000000000000 + f)with
 | some (.inv _ (t::js) _)=>some (t,js)
 | _=>none
def locsAt(args:List SV):List Nat→Option (List Nat)
  | []=>some []
  | j::r=>match args[j]?,locsAt args r with
    | some (.cv (.one (.loc k _))),some l=>some (k::l)
    | _,_=>none
def delMs(m:Mem)(ks:List Nat):Mem:=m.filter fun x => !ks.contains x.1
def doPan(A:Alg R)(G:Cfg)(KP:Nat→St→R)(st:St)(f:FuncId)(args:List SV)(t:TypeId)(js:List Nat):R :=
  match szAgg G.P t,cks G.P 30 t,locsAt args js with
  | some (g,_),some ks,some bs =>
    if args.any svAny = true ∨ ¬ args.all (SV.wf st.c) = true then A.fail "panics: arguments"
    else if ks.all CK.plain=true∧G.calls.contains f=true∧bs.Nodup∧bs.all (fun b=>(getM st.m b).isSome)=true then
      let fr:=freshL st.c ks;let c1:=freshLC st.c ks
      A.pcall f args (namedM st.m (deepSV st.m st.o args)) (namedO st.o (deepSV st.m st.o args)) bs fr t (cvOf g fr) c1.nv
        (KP c1.nv {st with m:=delMs st.m bs,c := {c1 with nv:=c1.nv + 1},k := .ifc c1.nv t (cvOf g fr)::st.k})
    else A.fail "panics"
  | _, _, _ => A.fail "panics: type"
def opp(A:Alg R)(G:Cfg)(KP:Nat→St→R)(st:St)(o:Oper)(f:FuncId)(args:List SV)(K:St→R):R :=
 match panHint G f with
 | none=>opm A G st o K
 | some (t,js)=>A.alt (opm A G st o K) (doPan A G KP st f args t js)
def giveHint(G:Cfg)(f:FuncId):Bool:=(G.loops.lookup (400000000000000000 + f)).isSome
def doGive(A:Alg R)(G:Cfg)(st:St)(dst:Option Tmp)(f:FuncId)(args:List SV)(K:St→R):R :=
  match args with
  | [.cv (.one (.own k)),.cv (.one (.int _ (.lit 0))),.cv (.one (.lsl k2 off n _))]=>match getO st.o k,getM st.m k2 with
    | some (ce,sz,t),some (cs,_) =>
      if 0 < sz∧off + n * sz≤cs.length∧args.all (SV.wf st.c)=true∧G.calls.contains f=true then
        A.gcall f args (namedM st.m (deepSV st.m st.o args)) (namedO st.o (deepSV st.m st.o args)) k (ceApp [.ats ((cs.drop off).take (n * sz))] ce) sz t
          (St.newO A st dst [k] (ceApp [.ats ((cs.drop off).take (n * sz))] ce) sz t st.c K)
      else A.fail "give"
    | _, _ => A.fail "give: no such row"
  | _ => A.fail "give: arguments"
def stepO(A:Alg R)(G:Cfg)(inl:Inl R)(yl:Yl R)(dok:Bool)(KP:Nat→St→R)(st:St)(o:Oper)(K:St→R):R :=
  match o.op with
  | .panic x=>match st.ev x with
    | .cv (.one (.val i)) => if (findI st.k i).isSome = true then KP i st else A.fail "panic: unknown"
    | _ => A.fail "panic"
  | .defer c=>match c.callee,c.args.toList,o.dst,dok with
    | .value g,[],none,true=>match st.ev g with
      | .cv (.one (.fn f caps)) => if st.d = [] then K { st with df := (f, caps) :: st.df } else A.fail "defer: function"
      | _ => A.fail "defer: value"
    | _, _, _, _ => A.fail "defer"
  | .call {callee := .invoke r name,args,..}=>match st.ev r with
    | .cv (.one (.val i))=>match findI st.k i with
      | some (t,v)=>match methodOf G.P t name with
        | some f=>if G.inl.contains f=true then
            if (args.toList.map st.ev).any svAny = true then A.fail "inline: arguments"
            else inl f (.cv v::args.toList.map st.ev) st fun v s=>St.put A s o.dst v s.c K
          else opm A G st o K
        | none => A.fail "invoke: method"
      | none => A.fail "invoke: unknown"
    | _ => A.fail "invoke"
  | .call {callee := .value g,args,..}=>match st.ev g with
    | .cv (.one (.fn f caps)) =>
      if giveHint G f=true∧caps=[]then doGive A G st o.dst f (args.toList.map st.ev) K else
      if G.inl.contains f=true then
        if (args.toList.map st.ev).any svAny = true then A.fail "inline: arguments"
        else inl f (args.toList.map st.ev++caps.map locSV) st fun v s=>St.put A s o.dst v s.c K
      else opp A G KP st o f (args.toList.map st.ev++caps.map locSV) K
    | .cv (.one (.mfn f first caps)) =>
      if G.inl.contains f=true then
        if (args.toList.map st.ev).any svAny = true then A.fail "inline: arguments"
        else inl f (first.map locSV++(args.toList.map st.ev++caps.map locSV)) st fun v s=>St.put A s o.dst v s.c K
      else opm A G st o K
    | .cv (.one (.gfn f first caps)) =>
      if G.inl.contains f=true then
        if (args.toList.map st.ev).any svAny = true then A.fail "inline: arguments"
        else inl f (.cv (.agg (first.map Cell0.at))::(args.toList.map st.ev++caps.map locSV)) st fun v s=>St.put A s o.dst v s.c K
      else A.fail "call: method value"
    | .cv (.one (.yld k)) =>
      if (args.toList.map st.ev).any svAny = true then A.fail "yield: arguments"
      else yl k (args.toList.map st.ev) st fun v s=>St.put A s o.dst v s.c K
    | _ => A.fail "call: value"
  | .call {callee := .builtin .append,..}=>opa A G st o K
  | .makeSlice .. => opw A G st o K
  | .makeMap .. => opw A G st o K
  | .convert s d _=>if (strBytes G.P s d).isSome=true then opw A G st o K else opm A G st o K
  | .mapUpdate .. => opw A G st o K
  | .insert .. => opw A G st o K
  | .assign x=>if (nilHint G o.dst).isSome=true∧st.ev x=.cv (.one .nils)then opw A G st o K else opm A G st o K
  | .buildSlice t len _=>if len=0∨rowHint G t o.dst=true then opw A G st o K else opm A G st o K
  | .slice _ _ _ _ (some _)=>opw A G st o K
  | .store _ a _=>match st.ev a with
    | .cv (.one (.oloc ..))=>opw A G st o K
    | _=>opm A G st o K
  | _=>opm A G st o K
def putX(A:Alg R)(st:St)(dst:Option Tmp)(K:St→R)(v:SV)(c:Ctr):R:=match Nat.beq c.nk st.c.nk with
  | true=>St.put A st dst v c K
  | false => A.fail "blocks"
theorem zhba (A : Alg R) (st : St) (dst : Option Tmp) (K : St → R) : putX A st dst K = fun v c => if c.nk = st.c.nk then St.put A st dst v c K else A.fail "blocks" := by
  funext v c;unfold putX;cases h:Nat.beq c.nk st.c.nk with
  | true=>rw [if_pos (Nat.eq_of_beq_eq_true h)]
  | false=>rw [if_neg (Nat.ne_of_beq_eq_false h)]
def nK(K:St→R):St→R:=fun s=>s.norm K
theorem zyea(K:St→R):nK K=K:=by funext s;exact St.norm_eq s K
def soAssign(A:Alg R)(G:Cfg)(st:St)(o:Oper)(x:Operand)(K:St→R):R:=if (nilHint G o.dst).isSome=true∧st.ev x=.cv (.one .nils)then opw A G st o K else putX A st o.dst K (st.ev x) st.c
def stepOF(A:Alg R)(G:Cfg)(inl:Inl R)(yl:Yl R)(dok:Bool)(KP:Nat→St→R)(st:St)(o:Oper)(K:St→R):R :=
 match o.op with
 | .move x=>putX A st o.dst K (st.ev x) st.c
 | .assign x=>soAssign A G st o x K
 | .alloc t=>omAlloc A G st o.dst t (nK K)
 | .box t x=>omBox A st o.dst t x (nK K)
 | .load t x=>ovLoad A G st t x (putX A st o.dst K)
 | .binOp op t x y _=>ovBinF A G st op t x y (putX A st o.dst K)
 | .unOp op _ x=>doUn A st.c op (st.ev x) (putX A st o.dst K)
 | .field t x f=>doField A G.P st.c t (st.ev x) f (putX A st o.dst K)
 | .fieldAddr s x f=>doFieldAddr A G.P st.c s (st.ev x) f (putX A st o.dst K)
 | .indexAddr t x i=>doIndexAddr A G.P st.o st.c t (st.ev x) (st.ev i) (putX A st o.dst K)
 | .index t x i=>doIndex A G.P st.c t (st.ev x) (st.ev i) (putX A st o.dst K)
 | .extract x i=>ovExtract A st x i (putX A st o.dst K)
 | _=>stepO A G inl yl dok KP st o (nK K)
theorem zgl(A:Alg R)(G:Cfg)(inl:Inl R)(yl:Yl R)(dok:Bool)(KP:Nat→St→R):stepOF A G inl yl dok KP=stepO A G inl yl dok KP:=by
 funext st o K;obtain⟨dst,op,type,pos,after,guard⟩:=o
 cases op <;> unfold stepOF <;> (try unfold soAssign) <;> (try dsimp only) <;> (try rw [zyea]) <;> (try rw [zwv]) <;> (try rw [zhba]) <;> first
  | rfl
  | (show opm0F A G st _ K=opm A G st _ K;rw [zys,zyv];intro c h;cases h)
  | (unfold stepO;dsimp only [];split;rfl;(show opm0F A G st _ K=opm A G st _ K;rw [zys,zyv];intro c h;cases h))
def execG(A:Alg R)(step:St→Oper→(St→R)→R)(ops:Array Oper)(st:St)(o:Oper)(j:Nat)(want:Bool)(K:St→R):R :=
  match (ops[j]?).bind (·.dst)with
  | none => A.fail "guard"
  | some d=>if d < st.n then match getS st.t d with
      | .cv (.one (.bool e)) =>
        doFork A e
          (fun _=>if want=true then (st.know d true).norm fun st=>step st o K else (st.know d true).norm fun st=>St.put A st o.dst .und st.c K)
          (fun _=>if want=true then (st.know d false).norm fun st=>St.put A st o.dst .und st.c K else (st.know d false).norm fun st=>step st o K)
      | .und=>St.put A st o.dst .und st.c K
      | _ => A.fail "guard: unknown"
    else A.fail "guard: slot"
def execL(A:Alg R)(step:St→Oper→(St→R)→R)(ops:Array Oper):List Oper→St→(St→R)→R
  | [],st,K=>K st
  | o::r,st,K =>
    match o.guard with
    | none=>step st o fun s=>execL A step ops r s K
    | some (j,want)=>execG A step ops st o j want fun s=>execL A step ops r s K
structure DS where
 rd:List (Nat × Nat)
 wr:List (Nat × Nat)
 al:List (Nat × Nat)
def blksOf:List At→List Nat
 | []=>[]
 | .loc k _::r | .lsl k _ _ _::r=>k::blksOf r
 | .own k::r | .oloc k _ _ _::r | .omap k::r | .bts k::r=>k::blksOf r
 | _::r=>blksOf r
def readsOf(st:St)(o:Oper):List Nat :=
  match o.op with
  | .load _ x=>blksOf (svCells (st.ev x))
  | .lookup _ x _ _=>blksOf (svCells (st.ev x))
  | .indexAddr _ x _=>blksOf (svCells (st.ev x))
  | .convert _ _ x=>blksOf (svCells (st.ev x))
  | .binOp _ _ x _ _=>match st.ev x with
    | .cv (.one (.own k))=>[k]
    | _=>[]
  | .call {callee := .value g,args,..}=>match st.ev g with
    | .cv (.one (.fn _ caps))=>blksOf (deepSV st.m st.o (args.toList.map st.ev++caps.map fun x=>.cv (.one (.loc x.1 x.2))))
    | .cv (.one (.mfn _ first caps))=>blksOf (deepSV st.m st.o ((first.map fun x=>.cv (.one (.loc x.1 x.2)))++(args.toList.map st.ev++caps.map fun x=>.cv (.one (.loc x.1 x.2)))))
    | _=>blksOf ((args.toList.map st.ev).flatMap svCells)
  | .call {callee := .invoke r _,args,..}=>match st.ev r with
    | .cv (.one (.val i))=>match findI st.k i with
      | some (_,v)=>blksOf (deepSV st.m st.o (.cv v::args.toList.map st.ev))
      | none=>[]
    | _=>[]
  | .call {callee := .builtin _,args,..}=>blksOf ((args.toList.map st.ev).flatMap svCells)
  | _=>[]
def ptrsOf:List SV→List Nat
 | []=>[]
 | .cv (.one (.loc k 0))::r=>k::ptrsOf r
 | .cv (.one (.own k))::r=>k::ptrsOf r
 | _::r=>ptrsOf r
def writesOf(st:St)(o:Oper):List Nat :=
  match o.op with
  | .call {callee := .value g,args,..}=>match st.ev g with
    | .cv (.one (.fn _ caps))=>ptrsOf (args.toList.map st.ev++caps.map fun x=>.cv (.one (.loc x.1 x.2)))
    | _=>ptrsOf (args.toList.map st.ev)
  | .store _ x _=>blksOf (svCells (st.ev x))
  | .mapUpdate _ x _ _ | .insert _ x _ _=>blksOf (svCells (st.ev x))
  | .call {callee := .builtin .append,args,..}=>match args.toList with
    | x::_=>blksOf (svCells (st.ev x))
    | []=>[]
  | _=>[]
def direct(ops:Array Oper)(i j:Nat):Bool :=
 match ops[i]? with
 | some o=>o.after.any fun e=>Region.binds .any e && decide (e.on=j)
 | none=>false
def reach(ops:Array Oper):Nat→Nat→Nat→Bool
  | 0,_,_=>false
  | d + 1,i,j=>direct ops i j || match ops[i]? with
    | some o=>o.after.any fun e=>Region.binds .any e && reach ops d e.on j
    | none=>false
def svIds:SV→List Nat
 | .cv c=>idsOf c.cells
 | .tup l=>idsOf (l.flatMap CV.cells)
 | _=>[]
def drawOk(ops:Array Oper):Bool :=
  (List.range ops.size).all fun i=>match ops[i]? with
    | none=>false
    | some o=>(o.after.all fun e => !Region.binds .any e || decide (e.on < i)) && (List.range ops.size).all fun j=>match ops[j]? with
      | none=>false
      | some p =>
        match p.dst with
          | none=>true
          | some d=>decide (i=j∨o.dst≠some d) && (!(o.looksAt ops).contains d || (decide (j < i) && direct ops i j) || (decide (i < j) && direct ops j i))
def DS.old(d:DS)(ops:Array Oper)(i k:Nat):Bool :=
 match d.al.lookup k with
 | none=>true
 | some j=>reach ops 3 i j
def valIds(st:St)(o:Oper):List Nat :=
 match o.op with
 | .store _ _ x=>svIds (st.ev x)
 | .box _ x=>svIds (st.ev x)
 | .mapUpdate _ _ k v | .insert _ _ k v=>svIds (st.ev k)++svIds (st.ev v)
 | .buildSlice _ _ parts=>parts.toList.flatMap fun p=>svIds (st.ev p.2)
 | _=>[]
def okD(ops:Array Oper)(i:Nat)(d:DS)(o:Oper)(s:St):Bool :=
 match o.dst with
  | none=>true
  | some x=>(svIds (getS s.t x)).all (d.old ops i)
def dirs(ops:Array Oper)(i:Nat):List Nat :=
 match ops[i]? with
 | some o=>(o.after.toList.filter (Region.binds .any ·)).map (·.on)
 | none=>[]
def addAll(acc:List Nat):List Nat→List Nat
 | []=>acc
 | x::r=>addAll (if acc.contains x=true then acc else x::acc) r
def behind(ops:Array Oper):Nat→List Nat→List Nat
 | 0,acc=>acc
 | d + 1,acc=>behind ops d (addAll acc (acc.flatMap (dirs ops)))
def beh(ops:Array Oper)(i j:Nat):Bool:=(behind ops 10 (addAll [] (dirs ops i))).contains j
def ordr(ops:Array Oper)(i j:Nat):Bool:=direct ops i j || beh ops i j
def ordB(ops:Array Oper)(x y:Nat × Nat):Bool :=
 decide (x.1≠y.1) || decide (x.2=y.2) || (decide (y.2 < x.2) && ordr ops x.2 y.2) || (decide (x.2 < y.2) && ordr ops y.2 x.2)
def apartB(ops:Array Oper)(rd wr:List (Nat × Nat)):Bool :=
 (rd.all fun x=>wr.all fun y=>ordB ops x y) && wr.all fun x=>wr.all fun y=>ordB ops x y
def newIds(a b i:Nat):List (Nat × Nat):=(List.range (b - a)).map fun j=>(a + j,i)
def rowsB(al:List (Nat × Nat))(o:OMem):Bool:=o.all fun x=>[1,2,3].all fun d=>decide (al.lookup (x.1 + d)=al.lookup x.1)
def opd(A:Alg R)(G:Cfg)(st:St)(o:Oper)(K:St→R):R :=
  match o.op with
  | .call {callee := .builtin .append,..}=>opa A G st o K
  | .buildSlice t len _=>if len=0∨rowHint G t o.dst=true then opw A G st o K else opm A G st o K
  | .store _ a _=>match st.ev a with
    | .cv (.one (.oloc ..))=>opw A G st o K
    | _=>opm A G st o K
  | .makeMap .. => opw A G st o K
  | .mapUpdate .. => opw A G st o K
  | .insert .. => opw A G st o K
  | .convert s d _=>if (strBytes G.P s d).isSome=true then opw A G st o K else opm A G st o K
  | _=>opm A G st o K
def stepD(A:Alg R)(G:Cfg)(ops:Array Oper)(i:Nat)(d:DS)(st:St)(o:Oper)(K:DS→St→R):R :=
  if (readsOf st o++writesOf st o++valIds st o).all (d.old ops i)=true then
    opd A G st o fun s =>
      if (okD ops i d o s && rowsB (newIds st.c.nk s.c.nk i++d.al) s.o)=true then
        K {rd:=(readsOf st o).map (·,i)++d.rd,wr:=(writesOf st o).map (·,i)++d.wr,al:=newIds st.c.nk s.c.nk i++d.al} s
      else A.fail "drawn: blocks"
  else A.fail "drawn: order"
def execD(A:Alg R)(G:Cfg)(ops:Array Oper):Nat→List Oper→DS→St→(St→R)→R
  | _, [], d, st, K => if apartB ops d.rd d.wr = true then K st else A.fail "drawn: read and written"
  | i,o::r,d,st,K =>
    match o.guard with
    | none=>stepD A G ops i d st o fun d' s=>execD A G ops (i + 1) r d' s K
    | some (j,want)=>match (ops[j]?).bind (·.dst)with
      | none => A.fail "guard"
      | some x=>if x < st.n then match getS st.t x with
          | .cv (.one (.bool e)) =>
            doFork A e
              (fun _=>if want=true then stepD A G ops i d (st.know x true) o fun d' s=>execD A G ops (i + 1) r d' s K else St.put A (st.know x true) o.dst .und st.c fun s=>execD A G ops (i + 1) r d s K)
              (fun _=>if want=true then St.put A (st.know x false) o.dst .und st.c fun s=>execD A G ops (i + 1) r d s K else stepD A G ops i d (st.know x false) o fun d' s=>execD A G ops (i + 1) r d' s K)
          | .und=>St.put A st o.dst .und st.c fun s=>execD A G ops (i + 1) r d s K
          | _ => A.fail "guard: unknown"
        else A.fail "guard: slot"
def cutOf(ops:Array Oper):Nat→Nat
 | 0=>0
 | n + 1=>if (List.range n).all (fun j=>(behind ops 10 (addAll [] (dirs ops n))).contains j)=true then cutOf ops n else n + 1
def isAnch(P:Program)(o:Oper):Bool :=
 match o.op with
 | .call {callee := .builtin .len,..}=>false
 | .call {callee := .builtin .min,..}=>false
 | .call {callee := .builtin .max,..}=>false
 | .call _=>true
 | .convert s d _=>(strBytes P s d).isSome
 | .move _ | .assign _ | .pick .. | .load .. | .nilCheck _ | .binOp .. | .unOp .. | .field .. | .fieldAddr .. | .indexAddr .. | .index .. | .extract .. | .build .. | .typeAssert .. | .lookup .. | .makeFunc .. | .makeInterface .. => false
 | .slice _ _ _ _ m=>m.isSome
 | _=>true
def closD(ops:Array Oper):Nat→List Nat→List Nat
 | 0,acc=>acc
 | j + 1,acc=>closD ops j (if acc.contains j=true then addAll acc (dirs ops j)else acc)
def before(ops:Array Oper)(i:Nat):List Nat:=closD ops i (addAll [] (dirs ops i))
def ripe(ops:Array Oper):List Nat→List Nat→List Nat
 | done,[]=>done
 | done,j::r=>if (dirs ops j).all done.contains=true then ripe ops (done ++ [j]) r else ripe ops done r
def canon(ops:Array Oper)(fl:List Nat):List Nat→List Nat→List Nat
 | done,[]=>ripe ops done (fl.filter fun j => !done.contains j)
 | done,a::r=>let d:=ripe ops done (fl.filter fun j => !done.contains j);canon ops fl (d ++ [a]) r
def anchL(P:Program)(ops:Array Oper):List Nat:=(List.range ops.size).filter fun i=>match ops[i]? with | some o=>isAnch P o | none=>false
def floatL(P:Program)(ops:Array Oper):List Nat:=(List.range ops.size).filter fun i=>match ops[i]? with | some o => !isAnch P o | none=>false
def canonL(P:Program)(ops:Array Oper):List Nat:=canon ops (floatL P ops) [] (anchL P ops)
def okC(P:Program)(ops:Array Oper):List Nat→Bool
  | []=>true
  | i::r=>decide (i < ops.size) && !r.contains i && (dirs ops i).all (fun j => !(i::r).contains j) &&
    (match ops[i]? with
     | some o => !isAnch P o || r.all (fun x=>(dirs ops x).any fun j=>(i::r).contains j)
     | none=>false) && okC P ops r
def isCall(o:Oper):Bool :=
 match o.op with
 | .call {callee := .value _,..}=>true
 | .call {callee := .invoke ..,..}=>true
 | _=>false
def canonOk(P:Program)(ops:Array Oper):Bool :=
 ops.toList.any isCall && okC P ops (canonL P ops) && (List.range ops.size).all fun j=>(canonL P ops).contains j
structure Pend where
 j:Nat
 dst:Option Tmp
 rd:List Nat
 ld:Option (Nat × Nat × Bool × Nat):=none
def ldOf(P:Program)(st:St)(o:Oper):Option (Nat × Nat × Bool × Nat) :=
  match o.op with
  | .load t x=>match szAgg P t,st.ev x with
    | some (g,n),.cv (.one (.loc k off))=>some (k,off,g,n)
    | _,_=>none
  | _=>none
def ldVal(q:Nat × Nat × Bool × Nat)(cs:List At):Option CV :=
 if q.2.2.1=true then if q.2.1 + q.2.2.2≤cs.length then some (.agg ((cs.drop q.2.1).take q.2.2.2))else none else (cs[q.2.1]?).map .one
def reld(t:List (Nat × SV))(m:Mem)(p:Pend):Bool :=
  match p.ld,p.dst with
  | some q,some d=>match getM m q.1,getS t d with
    | some (cs,_),.cv u=>decide (ldVal q cs=some u)
    | _,_=>false
  | _,_=>false
def hideP(t:List (Nat × SV)):List Pend→List (Nat × SV)
  | []=>t
  | p::r=>match p.dst with
    | some d=>(d,.any)::hideP t r
    | none=>hideP t r
def putT(t:List (Nat × SV))(dst:Option Tmp)(v:SV):List (Nat × SV) :=
 match dst with
 | some d=>(d,v)::t
 | none=>t
def opf(A:Alg R)(G:Cfg)(st:St)(o:Oper)(K:SV→Ctr→KnL→R):R :=
  match o.op with
  | .makeInterface t x=>match G.P.underlying t,st.ev x with
    | some (.interface _), _ => A.fail "makeInterface"
    | some _,.cv v=>if v.flat=true∧v.wf st.c=true then
        A.ifc st.c.nv t v (K (.cv (.one (.val st.c.nv))) {st.c with nv:=st.c.nv + 1} (.ifc st.c.nv t v::st.k))
      else A.fail "makeInterface: value"
    | _, _ => A.fail "makeInterface"
  | _ => opvF A G st o fun v c => if c.nk = st.c.nk ∧ v.wf c = true then K v c st.k else A.fail "drawn: value"
def sameE(s st:St)(k:Nat):Bool:=decide (getM s.m k=getM st.m k) && decide (getO s.o k=getO st.o k)
def dstOk(n:Nat):Option Tmp→Bool
 | some d=>decide (d < n)
 | none=>true
inductive Gd where
 | yes
 | no
 | ask (e:BE) (want:Bool)
 | bad
def guardOf(ops:Array Oper)(st:St)(o:Oper):Gd :=
  match o.guard with
  | none=>.yes
  | some (j,want)=>match (ops[j]?).bind (·.dst)with
    | none=>.bad
    | some d=>if d < st.n then match getS st.t d with
        | .cv (.one (.bool e))=>.ask e want
        | .und=>.no
        | _=>.bad
      else .bad
abbrev Kf:=List (BE × Bool)
def doForkK(A:Alg R)(F:Kf)(e:BE)(t f:Kf→R):R :=
 match F.lookup e with
 | some true=>t F
 | some false=>f F
 | none=>doFork A e (fun _=>t ((e,true)::F)) (fun _=>f ((e,false)::F))
def doGuard(A:Alg R)(F:Kf)(g:Gd)(go no:Kf→R):R :=
  match g with
  | .yes=>go F
  | .no=>no F
  | .ask e want=>doForkK A F e (fun F=>if want=true then go F else no F) (fun F=>if want=true then no F else go F)
  | .bad => A.fail "guard: unknown"
def ancY(A:Alg R)(G:Cfg)(step:St→Oper→(St→R)→R)(ops:Array Oper)(st:St)(F:Kf)(P:List Pend)(i:Nat)(o:Oper)(K:St→Kf→List Pend→R):R :=
  let bf:=before ops i;let P0:=P.filter fun p => !bf.contains p.j;let st0:St := {st with t:=hideP st.t P0}
  doGuard A F (guardOf ops st0 o)
    (fun F => step st0 o fun s => if P0.all (fun p => p.rd.all (sameE s st) || reld st.t s.m p) = true then K { s with t := putT st.t o.dst (match o.dst with | some d => getS s.t d | none => .any), n := st.n } F P0 else A.fail "drawn: read and written")
    (fun F=>K {st with t:=putT st.t o.dst .und} F P0)
def opfK(A:Alg R)(G:Cfg)(st:St)(F:Kf)(o:Oper)(K:SV→Ctr→KnL→Kf→R):R :=
  match o.op with
  | .pick x a b=>match st.ev x with
    | .cv (.one (.bool e))=>doForkK A F e (fun F=>K (st.ev a) st.c st.k F) (fun F=>K (st.ev b) st.c st.k F)
    | _ => A.fail "pick"
  | _=>opf A G st o fun v c k=>K v c k F
def floY(A:Alg R)(G:Cfg)(ops:Array Oper)(st:St)(F:Kf)(P:List Pend)(i:Nat)(o:Oper)(K:St→Kf→List Pend→R):R :=
 doGuard A F (guardOf ops st o)
  (fun F=>opfK A G st F o fun v c k F=>K {st with t:=putT st.t o.dst v,c:=c,k:=k} F (⟨i,o.dst,readsOf st o,ldOf G.P st o⟩::P))
  (fun F=>K {st with t:=putT st.t o.dst .und} F (⟨i,o.dst,[],none⟩::P))
def execY(A:Alg R)(G:Cfg)(step:St→Oper→(St→R)→R)(ops:Array Oper):List Nat→St→Kf→List Pend→(St→R)→R
  | [],st,_,_,K=>K st
  | i::r,st,F,P,K=>st.norm fun st=>match ops[i]? with
    | none => A.fail "drawn: operation"
    | some o =>
      if dstOk st.n o.dst=true then
        if isAnch G.P o=true then ancY A G step ops st F P i o fun s F P=>execY A G step ops r s F P K
        else floY A G ops st F P i o fun s F P=>execY A G step ops r s F P K
      else A.fail "drawn: slot"
def drawnX(A:Alg R)(G:Cfg)(inl:Inl R)(yl:Yl R)(dok:Bool)(KP:Nat→St→R)(ops:Array Oper)(st:St)(K:St→R):R :=
  if drawOk ops=true then
    if canonOk G.P ops=true then execY A G (stepOF A G inl yl dok KP) ops (canonL G.P ops) st [] [] K else
    execD A G ops 0 (ops.toList.take (cutOf ops ops.size)) ⟨[],[],[]⟩ st fun s=>execL A (stepOF A G inl yl dok KP) ops (ops.toList.drop (cutOf ops ops.size)) s K
  else A.fail "drawn: form"
def keyOf:Code→Nat
 | .region id ops _=>1000000000000 * ops.size + id
 | .seq a _=>keyOf a
 | .block _ b=>keyOf b
 | .scope b=>keyOf b
 | .loop b=>keyOf b
 | .cond _ a _=>keyOf a
 | _=>0
def resOf(P:Program)(st:St):List ResultVar→Option (List CV)
  | []=>some []
  | .tmp t::r=>match getS st.t t,resOf P st r with
    | .cv v,some l=>some (v::l)
    | _,_=>none
  | .cell a t::r=>match getS st.t a,resOf P st r with
    | .cv (.one (.loc k off)),some l=>match getM st.m k with
      | some (cs,_)=>match partOf P t cs off with
        | some v=>some (v::l)
        | none=>none
      | none=>none
    | _,_=>none
def kindOf(o:OMem):At→Option CK
  | .int k _=>some (.int k)
  | .bool _=>some .bool
  | .val _=>some .oth
  | .str _=>some .str
  | .sv _=>some .str
  | .qsl _ _ sz _ _=>some (.sl sz)
  | .own k=>match getO o k with
    | some (ce,sz,t)=>if ceFlat ce=true then some (.own sz t)else none
    | none=>none
  | _=>none
def kindsOf(o:OMem):List At→Option (List CK)
  | []=>some []
  | a::l=>match kindOf o a,kindsOf o l with
    | some k,some r=>some (k::r)
    | _,_=>none
def cellsAt(st:St):List (Nat × Nat)→Option (List (Nat × Nat))
  | []=>some []
  | (s,off)::r=>match getS st.t s,cellsAt st r with
    | .cv (.one (.loc k o)),some l=>some ((k,o + off)::l)
    | .cv (.one (.omap k)),some l=>some ((k,off)::l)
    | _,_=>none
def readS(t:List (Nat × SV)):List Nat→Option (List CV)
  | []=>some []
  | s::r=>match getS t s,readS t r with
    | .cv v,some l=>some (v::l)
    | _,_=>none
def readM(m:Mem)(os:OMem):List (Nat × Nat)→Option (List At)
  | []=>some []
  | (k,o)::r=>match getM m k,readM m os r with
    | some (cs,_),some l=>match cs[o]? with
      | some a=>some (a::l)
      | none=>none
    | none,some l=>match getO os k with
      | some (_,0,_ + 1)=>some (.own k::l)
      | _=>none
    | _,_=>none
def isInt:At→Bool
 | .int .. | .bool _=>true
 | _=>false
def LH.parts(m:Mem):LH→Option (List (Nat × Nat) × List (Nat × Nat) × List Nat × List Nat)
  | .unroll=>none
  | .inv cells slots kill=>some ([],cells,slots,kill)
  | .invb blks cells slots kill=>some (blks,cells,slots,kill)
  | .inva alts cells slots kill=>match alts.find? (fun a=>match readM m [] a with | some l=>l.all isInt | none=>false)with
    | some blks=>some (blks,cells,slots,kill)
    | none=>none
def CV.shape:CV→Bool × Nat
 | .one _=>(false,1)
 | .agg l=>(true,l.length)
def cvLike:CV→List At→CV
 | .one a,l=>.one (l.headD a)
 | .agg x,l=>.agg (l.take x.length)
def writeS(t:List (Nat × SV)):List Nat→List CV→List At→List (Nat × SV)
 | s::r,v::vs,l=>writeS ((s,.cv (cvLike v l))::t) r vs (l.drop v.cells.length)
 | _,_,_=>t
def writeM(m:Mem):List (Nat × Nat)→List At→Mem
  | (k,o)::r,a::l=>match getM m k with
    | some (cs,_)=>writeM (setM m k (cs.set o a)) r l
    | none=>writeM m r l
  | _,_=>m
def killS(t:List (Nat × SV)):List Nat→List (Nat × SV)
 | []=>t
 | s::r=>(s,.any)::killS t r
def cellsSame(k:Nat)(free:List (Nat × Nat)):Nat→List At→List At→Bool
 | _,[],[]=>true
 | o,a::x,b::y=>(free.contains (k,o) || decide (a=b)) && cellsSame k free (o + 1) x y
 | _,_,_=>false
def ownIds:List At→List Nat
 | []=>[]
 | .own k::l=>k::ownIds l
 | _::l=>ownIds l
def renV(kf k:Nat):SV→SV
 | .cv (.one (.own j))=>if j=kf then .cv (.one (.own k))else .cv (.one (.own j))
 | v=>v
def renT(kf k:Nat):List (Nat × SV)→List (Nat × SV)
 | []=>[]
 | (i,v)::r=>(i,renV kf k v)::renT kf k r
def renO(kf k:Nat):OMem→OMem
 | []=>[]
 | (j,v)::r=>(if j=kf then k else j,v)::renO kf k r
def renS:List (Nat × Nat)→St→St
 | [],st=>st
 | (kf,k)::r,st=>renS r {st with t:=renT kf k st.t,o:=renO kf k st.o}
def keepIds(G:Cfg)(st:St)(key:Nat):List Nat :=
  match G.loops.lookup (500000000000000000 + key)with
  | some (.inv _ slots _)=>slots.filterMap fun s=>match getS st.t s with
    | .cv (.one (.own k))=>some k
    | _=>none
  | _=>[]
def isMap(o:OMem)(k:Nat):Bool :=
 match getO o k with
 | some (_,0,_ + 1)=>true
 | _=>false
def sameSt(a b:St)(slots:List Nat)(free:List (Nat × Nat))(own:List Nat):Bool :=
 decide (b.n=a.n∧b.r=a.r∧b.d=a.d∧b.df=a.df) && (a.o.all fun x=>own.contains x.1 || decide (getO b.o x.1=getO a.o x.1)) && (a.t.all fun x=>slots.contains x.1 || decide (getS a.t x.1=.any) || decide (getS b.t x.1=getS a.t x.1)) &&
 (a.m.all fun x=>match getM b.m x.1 with
  | some (cs,t)=>decide (t=x.2.2) && cellsSame x.1 free 0 x.2.1 cs
  | none=>false)
def unroll(A:Alg R)(f:St→(Ex→St→R)→R)(K:Ex→St→R):Nat→St→R
  | 0, _ => A.fail "rounds"
  | m + 1,st=>f st fun e s=>match e with
    | .normal=>s.slim fun s=>unroll A f K m s
    | e=>K e s
def getR:List (Nat × Option Ex)→Nat→Option (Option Ex)
 | [],_=>none
 | (j,v)::r,i=>if j=i then some v else getR r i
def rdRdy(r:List (Nat × Option Ex)):Option Nat→Bool
 | none=>true
 | some k=>(getR r k).isSome
def setR:List (Nat × Option Ex)→Nat→Option Ex→List (Nat × Option Ex)
 | [],_,_=>[]
 | (j,v)::r,i,e=>if j=i then (j,e)::setR r i e else (j,v)::setR r i e
def delR:List (Nat × Option Ex)→Nat→List (Nat × Option Ex)
 | [],_=>[]
 | (j,v)::r,i=>if j=i then delR r i else (j,v)::delR r i
def putSs:List (Nat × SV)→List Nat→List SV→List (Nat × SV)
 | t,p::ps,v::vs=>putSs ((p,v)::t) ps vs
 | t,_,_=>t
def liveIds(m:Mem)(o:OMem):Nat→List Nat→List Nat→List Nat
  | 0,todo,seen=>todo++seen
  | _ + 1,[],seen=>seen
  | n + 1,k::r,seen=>if seen.contains k=true then liveIds m o n r seen else
    liveIds m o n ((match getM m k with | some (cs,_)=>idsOf cs | none=>[])++(match getO o k with | some (ce,_,_)=>idsOf (ceCells ce) | none=>[])++r) (k::seen)
def St.prune(n0:Nat)(v:SV)(st:St):St :=
 if (st.m.takeWhile fun x=>decide (n0≤x.1)).length < 24 then st else
  let old:=(st.m.filter fun x=>decide (x.1 < n0)).flatMap (fun x=>(idsOf x.2.1).filter fun k=>decide (n0≤k))++(st.o.filter fun x=>decide (x.1 < n0)).flatMap (fun x=>(idsOf (ceCells x.2.1)).filter fun k=>decide (n0≤k));let lv:=liveIds st.m st.o 3000 (svIds v++old) []
  {st with m:=st.m.filter fun x=>decide (x.1 < n0) || lv.contains x.1,o:=st.o.filter fun x=>decide (x.1 < n0) || lv.contains x.1}
def recBody:Code→Option (Tmp × Code)
  | .seq (.region _ ops false) rest=>match ops.toList with
    | [⟨some d,.call {callee := .builtin .recover,args,..},_,_,_,none⟩]=>if args.toList.length=0 then some (d,rest)else none
    | _=>none
  | _=>none
def leave(A:Alg R)(G:Cfg)(ex:Code→St→(Ex→St→R)→R)(fn:Func)(e:Ex)(s:St)(KR:SV→St→R)(KP:Nat→St→R):R :=
  match s.df with
  | []=>match e with
    | .exit _ => A.fail "leave: exit"
    | .pan i=>match s.d with
      | []=>KP i s
      | _ => A.fail "leave: marks"
    | _=>match resOf G.P s fn.results.toList with
      | some l=>KR (resV l) s
      | none => A.fail "leave: results"
  | [(g,caps)]=>match s.d,G.P.funcs[g]? with
    | [],some gn=>match gn.body with
      | some b=>match recBody b with
        | some (dst,rest) =>
          if gn.results.toList=[]∧G.inl.contains g=true then
            let args:=caps.map locSV
            let rv:Option SV:=match e with
              | .exit _=>none
              | .pan i=>if (findI s.k i).isSome=true then some (.cv (.one (.val i)))else none
              | _=>some (.cv (.one .nili))
            match rv with
            | none => A.fail "leave: exit"
            | some rv=>St.put A {t:=(List.range args.length).zip args,n:=args.length + (gn.ntmps - args.length),m:=s.m,c:=s.c,o:=s.o,r:=s.r,d := [],k:=s.k} (some dst) rv s.c fun s1 =>
              ex rest s1 fun e2 s2 =>
                let back:R:=match s2.d,s2.df with
                  | [],[]=>match resOf G.P {t:=s.t,n:=s.n,m:=s2.m,c:=s2.c,o:=s2.o,r:=s2.r,d:=s.d,k:=s2.k} fn.results.toList with
                    | some l=>KR (resV l) {t:=s.t,n:=s.n,m:=s2.m,c:=s2.c,o:=s2.o,r:=s2.r,d:=s.d,k:=s2.k}
                    | none => A.fail "leave: results"
                  | _, _ => A.fail "leave: closure"
                match e2 with
                | .normal=>back
                | .ret=>back
                | _ => A.fail "leave: closure"
          else A.fail "leave: closure's results"
        | none => A.fail "leave: closure's form"
      | none => A.fail "leave: closure's body"
    | _, _ => A.fail "leave: closure"
  | _ => A.fail "leave: closures"
def inlX(A:Alg R)(G:Cfg)(ex:Option Nat→Yl R→Code→St→(Ex→St→R)→R)(yl:Yl R)(K:Ex→St→R):Inl R:=fun f args s K'=>match G.P.funcs[f]? with
  | none => A.fail "inline: no such function"
  | some fn=>match fn.body with
    | none => A.fail "inline: no body"
    | some b =>
      argSp (fun t=>({t:=t,n:=args.length + (fn.ntmps - args.length),m:=s.m,c:=s.c,o:=s.o,r:=s.r,d := [],k:=s.k}:St).norm fun s0=>ex none yl b s0 fun e s' =>
        leave A G (ex none yl) fn e s' (fun v s2=>K' v (St.prune s.c.nk v {t:=s.t,n:=s.n,m:=s2.m,c:=s2.c,o:=s2.o,r:=s2.r,d:=s.d,k:=s2.k,df:=s.df}))
          fun i s2=>K (.pan i) {t:=s.t,n:=s.n,m:=s2.m,c:=s2.c,o:=s2.o,r:=s2.r,d:=s.d,k:=s2.k,df:=s.df}) args 0 []
def inlY(A:Alg R)(G:Cfg)(n:Nat)(ex:Option Nat→Yl R→Code→St→(Ex→St→R)→R)(yl:Yl R)(K:Ex→St→R):Inl R:=fun f args s K'=>match G.sums with
  | []=>match G.marks with
    | []=>inlX A G ex yl K f args s K'
    | _::_=>match G.marks.contains f with
      | true=>A.mark (some n) f args s (inlX A G ex yl K f args s fun v s'=>A.mark none f [v] s' (K' v s'))
      | false=>inlX A G ex yl K f args s K'
  | _::_=>match findSum n f args s G.sums with
    | some e=>askRun A e.asks (K' e.v e.s')
    | none=>inlX A G ex yl K f args s K'
def condX(A:Alg R)(ex:Code→St→(Ex→St→R)→R)(d:Tmp)(a b:Code)(st:St)(K:Ex→St→R):R:=match getS st.t d with
  | .cv (.one (.bool e)) => if d < st.n then doFork A e (fun _ => (st.know d true).norm fun st => ex a st K) (fun _ => (st.know d false).norm fun st => ex b st K) else A.fail "cond: slot"
  | _ => A.fail "cond: unknown"
def rangeX(A:Alg R)(G:Cfg)(ex:Option Nat→Yl R→Code→St→(Ex→St→R)→R)(rd:Option Nat)(yl:Yl R)(g:Tmp)(ps:Array Tmp)(assign body:Code)(st:St)(K:Ex→St→R):R:=match getS st.t g with
  | .cv (.one (.fn f caps)) =>
    if G.inl.contains f=true∧g < st.n∧rdRdy st.r rd=true∧st.df=[]then
      let kr:=st.c.nk
      let yl':Yl R:=fun k args s K' =>
        if k=kr then
          if getR s.r kr=some none∧args.length=ps.size∧(ps.all fun p=>decide (p < st.n))=true then
            ex (some kr) yl assign {t:=putSs st.t ps.toList args,n:=st.n,m:=s.m,c:=s.c,o:=s.o,r:=s.r,d := [],k:=s.k} fun e s1=>match e with
              | .normal=>if getR s1.r kr=some none then ex (some kr) yl body {s1 with r:=setR s1.r kr (some .normal)} fun e s2 =>
                if getR s2.r kr=some (some .normal)∧s2.df=[]then match e with
                  | .normal=>K' (.cv (.one (.bool (.lit true)))) {t:=s.t,n:=s.n,m:=s2.m,c:=s2.c,o:=s2.o,r:=setR s2.r kr none,d:=s.d,k:=s2.k,df:=s.df}
                  | .pan _ => A.fail "yield: panic"
                  | e=>K' (.cv (.one (.bool (.lit false)))) {t:=s.t,n:=s.n,m:=s2.m,c:=s2.c,o:=s2.o,r:=setR s2.r kr (some e),d:=s.d,k:=s2.k,df:=s.df}
                else A.fail "yield: record"
                else A.fail "yield: record at first"
              | _ => A.fail "yield: assignment"
          else A.fail "yield: not ready"
        else yl k args s K'
      match G.P.funcs[f]? with
      | none => A.fail "range: no such function"
      | some fn=>match fn.body with
        | none => A.fail "range: no body"
        | some b =>
          let args:=SV.cv (.one (.yld kr))::caps.map locSV
          ex none yl' b {t:=(List.range args.length).zip args,n:=args.length + (fn.ntmps - args.length),m:=st.m,c := {st.c with nk:=kr + 2},o:=st.o,r:=(kr,none)::st.r,d := [],k:=st.k} fun e s' =>
            if ¬ s'.df = [] then A.fail "range: defers" else
            match e with
            | .exit _ => A.fail "range: exit"
            | .pan _ => A.fail "range: panic"
            | _=>match resOf G.P s' fn.results.toList with
              | some _=>match getR s'.r kr with
                | some none=>K .normal {t:=st.t,n:=st.n,m:=s'.m,c:=s'.c,o:=s'.o,r:=delR s'.r kr,d:=if rd.isSome=true then st.d else (kr + 1)::st.d,k:=s'.k}
                | some (some .normal) => A.fail "range: busy"
                | some (some (.pan _)) => A.fail "range: panic"
                | some (some e)=>K e {t:=st.t,n:=st.n,m:=s'.m,c:=s'.c,o:=s'.o,r:=delR s'.r kr,d:=if rd.isSome=true then st.d else (kr + 1)::st.d,k:=s'.k}
                | none => A.fail "range: record"
              | none => A.fail "range: results"
    else A.fail "range: function"
  | _ => A.fail "range: value"
def loopX(A:Alg R)(G:Cfg)(ex:Option Nat→Yl R→Code→St→(Ex→St→R)→R)(n:Nat)(rd:Option Nat)(yl:Yl R)(b:Code)(st:St)(K:Ex→St→R):R:=match (G.loops.lookup (keyOf b)).bind (LH.parts st.m)with
  | some (blks,cells,slots,kill)=>match cellsAt st cells,readS st.t slots with
    | some fc,some vs =>
      let free:=blks++fc
      match readM st.m st.o free with
      | none => A.fail "loop: cells"
      | some ms =>
        let at0:=vs.flatMap CV.cells++ms
        match kindsOf st.o at0 with
        | none => A.fail "loop: kinds"
        | some ks =>
          if (ownIds at0).Nodup then
            let fr:=freshL st.c ks;let fo:=freshO st.c ks;let prs:=((ownIds fr).zip (ownIds at0)).filter fun p=>(keepIds G st (keyOf b)).contains p.2 || isMap st.o p.2
            let st1:St:=renS prs {t:=writeS (killS st.t kill) slots vs fr,n:=st.n,m:=writeM st.m free (fr.drop (vs.flatMap CV.cells).length),c:=freshLC st.c ks,o:=fo++delOs st.o (ownIds at0),r:=st.r,d:=st.d,k:=st.k,df:=st.df}
            A.loop st.o at0 fo fr fun cont =>
              ex rd yl b st1 fun e s=>match e with
                | .normal=>match readS s.t slots,readM s.m s.o free with
                  | some vs',some ms' =>
                    if sameSt st1 s slots free (fo.map (·.1)++prs.map (·.2))=true∧((ownIds fr).zip (ownIds (vs'.flatMap CV.cells++ms'))).all (fun p=>prs.all fun q=>q.1 != p.1 || q.2 == p.2)=true∧vs'.map CV.shape=vs.map CV.shape∧kindsOf s.o (vs'.flatMap CV.cells++ms')=some ks∧(ownIds (vs'.flatMap CV.cells++ms')).Nodup ∧
                        (ownIds (vs'.flatMap CV.cells++ms')).all (fun k=>fo.any (fun x=>x.1 == k) || (delOs st.o (ownIds at0)).all fun x=>x.1 != k)=true then
                      cont s.o (vs'.flatMap CV.cells++ms')
                    else A.fail "loop: not the same"
                  | _, _ => A.fail "loop: values"
                | e=>K e s
          else A.fail "loop: rows twice"
    | _, _ => A.fail "loop: slots"
  | none=>unroll A (ex rd yl b) K n st
def exec(A:Alg R)(G:Cfg):Nat→Option Nat→Yl R→Code→St→(Ex→St→R)→R
  | 0, _, _, _, _, _ => A.fail "fuel"
  | n + 1,rd,yl,c,st,K =>
    match c with
    | .skip=>K .normal st
    | .label _=>K .normal st
    | .ret=>K .ret st
    | .exit id=>K (.exit id) st
    | .region _ ops draw=>if draw=true then drawnX A G (inlY A G n (exec A G n) yl K) yl rd.isNone (fun i s=>K (.pan i) s) ops st (K .normal)else execL A (stepOF A G (inlY A G n (exec A G n) yl K) yl rd.isNone fun i s=>K (.pan i) s) ops ops.toList st (K .normal)
    | .seq a b=>exec A G n rd yl a st fun e s=>match e with
      | .normal=>exec A G n rd yl b s K
      | e=>K e s
    | .cond (.tmp d) a b=>condX A (exec A G n rd yl) d a b st K
    | .cond (.const (.bool t)) a b=>if t=true then exec A G n rd yl a st K else exec A G n rd yl b st K
    | .block id b=>exec A G n rd yl b st fun e s=>match e with
      | .exit i=>if i=id then K .normal s else K (.exit i) s
      | e=>K e s
    | .scope b => if rd = none then exec A G n rd yl b st K else A.fail "scope in a round"
    | .rangeFunc (.tmp g) ps assign body=>rangeX A G (exec A G n) rd yl g ps assign body st K
    | .loop b=>loopX A G (exec A G n) n rd yl b st K
    | _ => A.fail "code"
def execF(A:Alg R)(G:Cfg)(n:Nat)(fn:Func)(b:Code)(args:List SV)(c:Ctr)(k:KnL := []):R :=
  exec A G n none (fun _ _ _ _ => A.fail "yield") b { t := (List.range args.length).zip args, n := args.length + (fn.ntmps - args.length), m := [], c := c, k := k } fun e s =>
    leave A G (exec A G n none fun _ _ _ _ => A.fail "yield") fn e s (fun v s2 => A.fin v (namedM s2.m ((tupSV v).flatMap CV.cells)) (namedO s2.o ((tupSV v).flatMap CV.cells))) fun i _ => A.finP i
def execFL(A:Alg R)(G:Cfg)(n:Nat)(fn:Func)(b:Code)(args:List SV)(bs:List (List At × TypeId))(c:Ctr)(k:KnL := []):R :=
  exec A G n none (fun _ _ _ _ => A.fail "yield") b { t := (List.range args.length).zip args, n := args.length + (fn.ntmps - args.length), m := (List.range bs.length).zip bs, c := c, k := k } fun e s =>
    leave A G (exec A G n none fun _ _ _ _ => A.fail "yield") fn e s (fun v s2 => A.finL v (namedM s2.m ((List.range bs.length).map (fun k => At.loc k 0) ++ (tupSV v).flatMap CV.cells)) (namedO s2.o ((tupSV v).flatMap CV.cells)) (bs.map (·.2))) fun i _ => A.finP i
end Vc
