import Derived.Deep.LoopGhost
import Derived.Scope
import Derived.Below
import Derived.Orders
import Derived.Handy
import Derived.KernelRfl
set_option linter.unusedVariables false
set_option linter.unusedSimpArgs false
namespace Vc
open Go Go.RowKit
abbrev OV := {v:Value // v.oneCell'=true}
structure Env where
 i:Nat->Int
 b:Nat->Bool
 v:Nat->OV
 p:Nat->Nat × Nat
 s:Nat->List UInt8
 l:Nat->List OV
def Env.gX(ρ:Env)(n:Nat)(x:Int):Env := {ρ with i:=λj=>if j=n then x else ρ.i j}
def Env.mP(ρ:Env)(n:Nat)(x:Bool):Env := {ρ with b:=λj=>if j=n then x else ρ.b j}
def Env.oP(ρ:Env)(n:Nat)(x:OV):Env := {ρ with v:=λj=>if j=n then x else ρ.v j}
def Env.rR(ρ:Env)(n:Nat)(x:Nat × Nat):Env := {ρ with p:=λj=>if j=n then x else ρ.p j}
def Env.qH(ρ:Env)(n:Nat)(x:List UInt8):Env := {ρ with s:=λj=>if j=n then x else ρ.s j}
def Env.lh(ρ:Env)(n:Nat)(x:List OV):Env := {ρ with l:=λj=>if j=n then x else ρ.l j}
def Env.zero:Env:=⟨λ_=>0,λ_=>false,λ_=>⟨.nilFunc,rfl⟩,λ_=>(0,0),λ_=>[],λ_=>[]⟩
structure aw where
 ni:Nat
 nb:Nat
 nv:Nat
 np:Nat
 nk:Nat
 ns:Nat
 nl:Nat
 deriving DecidableEq
structure aw.le(c d:aw):Prop where
 i:c.ni<=d.ni
 b:c.nb<=d.nb
 v:c.nv<=d.nv
 p:c.np<=d.np
 k:c.nk<=d.nk
 s:c.ns<=d.ns
 l:c.nl<=d.nl
theorem aw.le_refl(c:aw):c.le c:=⟨Nat.le_refl _,Nat.le_refl _,Nat.le_refl _,Nat.le_refl _,Nat.le_refl _,Nat.le_refl _,Nat.le_refl _⟩
theorem aw.le_trans{c d e:aw}(h:c.le d)(h':d.le e):c.le e :=
 ⟨Nat.le_trans h.i h'.i,Nat.le_trans h.b h'.b,Nat.le_trans h.v h'.v,Nat.le_trans h.p h'.p,Nat.le_trans h.k h'.k,Nat.le_trans h.s h'.s,Nat.le_trans h.l h'.l⟩
theorem aw.mC(c:aw)(n:Nat):c.le {c with nk:=c.nk+n}:=⟨Nat.le_refl _,Nat.le_refl _,Nat.le_refl _,Nat.le_refl _,Nat.le_add_right _ _,Nat.le_refl _,Nat.le_refl _⟩
theorem aw.qI(c:aw)(n:Nat):c.le {c with nl:=c.nl+n}:=⟨Nat.le_refl _,Nat.le_refl _,Nat.le_refl _,Nat.le_refl _,Nat.le_refl _,Nat.le_refl _,Nat.le_add_right _ _⟩
theorem aw.tf(c:aw)(n:Nat):c.le {c with ni:=c.ni+n}:=⟨Nat.le_add_right _ _,Nat.le_refl _,Nat.le_refl _,Nat.le_refl _,Nat.le_refl _,Nat.le_refl _,Nat.le_refl _⟩
structure Env.aE(c:aw)(ρ ah:Env):Prop where
 i:∀j,j<c.ni->ah.i j=ρ.i j
 b:∀j,j<c.nb->ah.b j=ρ.b j
 v:∀j,j<c.nv->ah.v j=ρ.v j
 p:∀j,j<c.np->ah.p j=ρ.p j
 s:∀j,j<c.ns->ah.s j=ρ.s j
 l:∀j,j<c.nl->ah.l j=ρ.l j
theorem Env.aq(c:aw)(ρ:Env):Env.aE c ρ ρ:=⟨λ_ _=>rfl,λ_ _=>rfl,λ_ _=>rfl,λ_ _=>rfl,λ_ _=>rfl,λ_ _=>rfl⟩
theorem Env.aj{c d:aw}{ρ ah U:Env}(hc:c.le d)(h:Env.aE c ρ ah)(h':Env.aE d ah U):Env.aE c ρ U :=
 ⟨λj hj=>(h'.i j (Nat.lt_of_lt_of_le hj hc.i)).trans (h.i j hj),λj hj=>(h'.b j (Nat.lt_of_lt_of_le hj hc.b)).trans (h.b j hj),λj hj=>(h'.v j (Nat.lt_of_lt_of_le hj hc.v)).trans (h.v j hj),
  λj hj=>(h'.p j (Nat.lt_of_lt_of_le hj hc.p)).trans (h.p j hj),λj hj=>(h'.s j (Nat.lt_of_lt_of_le hj hc.s)).trans (h.s j hj),λj hj=>(h'.l j (Nat.lt_of_lt_of_le hj hc.l)).trans (h.l j hj)⟩
inductive IE where
 |lit (n:Int)
 |var (i:Nat)
 deriving DecidableEq
def IE.den(ρ:Env):IE->Int
 | .lit n=>n
 | .var i=>ρ.i i
def IE.wf(c:aw):IE->Bool
 | .lit _=>true
 | .var i=>decide (i<c.ni)
theorem IE.ae{c:aw}{ρ ah:Env}(h:Env.aE c ρ ah):∀{e:IE},e.wf c=true->e.den ah=e.den ρ
 | .lit _,_=>rfl
 | .var i,hw=>h.i i (by simpa [IE.wf]using hw)
theorem IE.aT{c d:aw}(h:c.le d):∀{e:IE},e.wf c=true->e.wf d=true
 | .lit _,_=>rfl
 | .var i,hw=>by simp [IE.wf]at hw ⊢;exact Nat.lt_of_lt_of_le hw h.i
inductive SE where
 |lit (l:List UInt8)
 |var (i:Nat)
 deriving DecidableEq
def SE.den(ρ:Env):SE->List UInt8
 | .lit l=>l
 | .var i=>ρ.s i
def SE.wf(c:aw):SE->Bool
 | .lit _=>true
 | .var i=>decide (i<c.ns)
theorem SE.ae{c:aw}{ρ ah:Env}(h:Env.aE c ρ ah):∀{e:SE},e.wf c=true->e.den ah=e.den ρ
 | .lit _,_=>rfl
 | .var i,hw=>h.s i (by simpa [SE.wf]using hw)
theorem SE.aT{c d:aw}(h:c.le d):∀{e:SE},e.wf c=true->e.wf d=true
 | .lit _,_=>rfl
 | .var i,hw=>by simp [SE.wf]at hw ⊢;exact Nat.lt_of_lt_of_le hw h.s
inductive BE where
 |lit (b:Bool)
 |var (i:Nat)
 |cmp (op:BinOp) (a b:IE)
 |not (a:BE)
 |and (a b:BE)
 |or (a b:BE)
 |eq (a b:BE)
 |seq (a b:SE)
 deriving DecidableEq
def iN(op:BinOp)(a b:Int):Bool :=
 match op with
 | .eql=>a == b
 | .neq=>a != b
 | .lss=>decide (a<b)
 | .leq=>decide (a<=b)
 | .gtr=>decide (a > b)
 | .geq=>decide (a >= b)
 |_=>false
def AX(op:BinOp)(a b:Int):Prop :=
 match op with
 | .eql=>a=b
 | .neq=>a≠b
 | .lss=>a<b
 | .leq=>a<=b
 | .gtr=>b<a
 | .geq=>b<=a
 |_=>False
theorem HN(op:BinOp)(a b:Int):AX op a b↔iN op a b=true:=by
 cases op<;>simp [AX,iN]
def BE.den(ρ:Env):BE->Bool
 | .lit b=>b
 | .var i=>ρ.b i
 | .cmp op a b=>iN op (a.den ρ) (b.den ρ)
 | .not a => !a.den ρ
 | .and a b=>a.den ρ && b.den ρ
 | .or a b=>a.den ρ || b.den ρ
 | .eq a b=>a.den ρ == b.den ρ
 | .seq a b=>decide (a.den ρ=b.den ρ)
def BE.prop(ρ:Env):BE->Prop
 | .lit b=>b=true
 | .var i=>ρ.b i=true
 | .cmp op a b=>AX op (a.den ρ) (b.den ρ)
 | .not a=>¬a.prop ρ
 | .and a b=>a.prop ρ/\b.prop ρ
 | .or a b=>a.prop ρ∨b.prop ρ
 | .eq a b=>a.prop ρ↔b.prop ρ
 | .seq a b=>a.den ρ=b.den ρ
theorem BE.ed(ρ:Env):∀e:BE,e.prop ρ↔e.den ρ=true
  | .lit b=>Iff.rfl
  | .var i=>Iff.rfl
  | .cmp op a b=>HN op _ _
  | .not a=>by simp [BE.prop,BE.den,BE.ed ρ a]
  | .and a b=>by simp [BE.prop,BE.den,BE.ed ρ a,BE.ed ρ b]
  | .or a b=>by simp [BE.prop,BE.den,BE.ed ρ a,BE.ed ρ b]
  | .eq a b=>by
    simp only [BE.prop,BE.den,BE.ed ρ a,BE.ed ρ b];cases a.den ρ<;>cases b.den ρ<;>simp
  | .seq a b=>by simp [BE.prop,BE.den]
def BE.wf(c:aw):BE->Bool
 | .lit _=>true
 | .var i=>decide (i<c.nb)
 | .cmp _ a b=>a.wf c && b.wf c
 | .not a=>a.wf c
 | .and a b | .or a b | .eq a b=>a.wf c && b.wf c
 | .seq a b=>a.wf c && b.wf c
theorem BE.ae{c:aw}{ρ ah:Env}(h:Env.aE c ρ ah):∀{e:BE},e.wf c=true->e.den ah=e.den ρ
 | .lit _,_=>rfl
 | .var i,hw=>h.b i (by simpa [BE.wf]using hw)
 | .cmp op a b,hw=>by simp only [BE.wf,Bool.and_eq_true]at hw;simp only [BE.den,IE.ae h hw.1,IE.ae h hw.2]
 | .not a,hw=>by simp only [BE.wf]at hw;simp only [BE.den,BE.ae h hw]
 | .and a b,hw=>by simp only [BE.wf,Bool.and_eq_true]at hw;simp only [BE.den,BE.ae h hw.1,BE.ae h hw.2]
 | .or a b,hw=>by simp only [BE.wf,Bool.and_eq_true]at hw;simp only [BE.den,BE.ae h hw.1,BE.ae h hw.2]
 | .eq a b,hw=>by simp only [BE.wf,Bool.and_eq_true]at hw;simp only [BE.den,BE.ae h hw.1,BE.ae h hw.2]
 | .seq a b,hw=>by simp only [BE.wf,Bool.and_eq_true]at hw;simp only [BE.den,SE.ae h hw.1,SE.ae h hw.2]
theorem BE.aT{c d:aw}(h:c.le d):∀{e:BE},e.wf c=true->e.wf d=true
 | .lit _,_=>rfl
 | .var i,hw=>by simp [BE.wf]at hw ⊢;exact Nat.lt_of_lt_of_le hw h.b
 | .cmp _ a b,hw=>by simp only [BE.wf,Bool.and_eq_true]at hw ⊢;exact⟨IE.aT h hw.1,IE.aT h hw.2⟩
 | .not a,hw=>by simp only [BE.wf]at hw ⊢;exact BE.aT h hw
 | .and a b,hw=>by simp only [BE.wf,Bool.and_eq_true]at hw ⊢;exact⟨BE.aT h hw.1,BE.aT h hw.2⟩
 | .or a b,hw=>by simp only [BE.wf,Bool.and_eq_true]at hw ⊢;exact⟨BE.aT h hw.1,BE.aT h hw.2⟩
 | .eq a b,hw=>by simp only [BE.wf,Bool.and_eq_true]at hw ⊢;exact⟨BE.aT h hw.1,BE.aT h hw.2⟩
 | .seq a b,hw=>by simp only [BE.wf,Bool.and_eq_true]at hw ⊢;exact⟨SE.aT h hw.1,SE.aT h hw.2⟩
def BE.lb:BE->BE
  | .cmp op (.lit a) (.lit b)=>.lit (iN op a b)
  | .not a=>match a.lb with
    | .lit b=>.lit !b
    | .not c=>c
    |c=>.not c
  | .and a b=>match a.lb,b.lb with
    | .lit false,_=>.lit false
    | .lit true,d=>d
    |_,.lit false=>.lit false
    |c,.lit true=>c
    |c,d=>.and c d
  | .or a b=>match a.lb,b.lb with
    | .lit true,_=>.lit true
    | .lit false,d=>d
    |_,.lit true=>.lit true
    |c,.lit false=>c
    |c,d=>.or c d
  | .eq a b=>match a.lb,b.lb with
    | .lit c,.lit d=>.lit (c == d)
    | .lit true,d=>d
    |c,.lit true=>c
    | .lit false,d=>.not d
    |c,.lit false=>.not c
    |c,d=>.eq c d
  | .seq (.lit a) (.lit b)=>.lit (decide (a=b))
  |e=>e
theorem BE.fY(ρ:Env):∀e:BE,e.lb.den ρ=e.den ρ
  | .lit _=>rfl
  | .var _=>rfl
  | .cmp op a b=>by cases a<;>cases b<;>rfl
  | .not a=>by
    have h:=BE.fY ρ a;simp only [BE.lb,BE.den,<-h];split<;>simp_all [BE.den]
  | .and a b=>by
    have h:=BE.fY ρ a;have h':=BE.fY ρ b;simp only [BE.lb,BE.den,<-h,<-h'];split<;>simp_all [BE.den]
  | .or a b=>by
    have h:=BE.fY ρ a;have h':=BE.fY ρ b;simp only [BE.lb,BE.den,<-h,<-h'];split<;>simp_all [BE.den]
  | .eq a b=>by
    have h:=BE.fY ρ a;have h':=BE.fY ρ b;simp only [BE.lb,BE.den,<-h,<-h'];split<;>simp_all [BE.den]
  | .seq a b=>by cases a<;>cases b<;>rfl
inductive IP where
 |bin (op:BinOp) (k:IntKind) (a b:IE)
 |shl (k:IntKind) (a:IE) (n:Nat)
 |shr (a:IE) (n:Nat)
 |conv (k:IntKind) (a:IE)
 |neg (k:IntKind) (a:IE)
 |Gc (k:IntKind) (a:IE)
 |max (a b:IE)
 |min (a b:IE)
 |sum (a b:IE)
 |diff (a b:IE)
 |qJ (s:SE)
 |uf (s:SE) (i:IE)
 |rS (n:Nat) (vs:List Nat) (sz:Nat)
 deriving DecidableEq
def lZ(op:BinOp)(k:IntKind)(a b:Int):Int :=
 match op with
 | .add=>k.wrap (a+b)
 | .sub=>k.wrap (a-b)
 | .mul=>k.wrap (a*b)
 | .quo=>k.wrap (a.tdiv b)
 | .rem=>a.tmod b
 | .shl=>k.wrap (a*2 ^ (Nat.min b.toNat k.bits))
 | .shr=>a.fdiv (2 ^ (Nat.min b.toNat k.bits))
 |op=>bits op k a b
def IP.den(ρ:Env):IP->Int
 | .bin op k a b=>lZ op k (a.den ρ) (b.den ρ)
 | .shl k a n=>k.wrap (a.den ρ*((2 ^ n:Nat):Int))
 | .shr a n=>a.den ρ / ((2 ^ n:Nat):Int)
 | .conv k a=>k.wrap (a.den ρ)
 | .neg k a=>k.wrap (0-a.den ρ)
 | .Gc k a=>bits .xor k (if k.signed then -1 else k.max) (a.den ρ)
 | .max a b=>if b.den ρ > a.den ρ then b.den ρ else a.den ρ
 | .min a b=>if b.den ρ<a.den ρ then b.den ρ else a.den ρ
 | .sum a b=>a.den ρ+b.den ρ
 | .diff a b=>a.den ρ-b.den ρ
 | .qJ s=>((s.den ρ).length:Int)
 | .uf s i=>(((s.den ρ).getD (i.den ρ).toNat 0).toNat:Int)
 | .rS n vs sz=>(((n+(vs.map λj=>(ρ.l j).length).sum) / sz:Nat):Int)
def IP.wf(c:aw):IP->Bool
 | .bin _ _ a b | .max a b | .min a b | .sum a b | .diff a b=>a.wf c && b.wf c
 | .shl _ a _ | .shr a _ | .conv _ a | .neg _ a | .Gc _ a=>a.wf c
 | .qJ s=>s.wf c
 | .uf s i=>s.wf c && i.wf c
 | .rS _ vs _=>vs.all λj=>decide (j<c.nl)
def IP.lits:IP->Bool
 | .bin _ _ (.lit _) (.lit _) | .max (.lit _) (.lit _) | .min (.lit _) (.lit _) | .sum (.lit _) (.lit _) | .diff (.lit _) (.lit _)=>true
 | .shl _ (.lit _) _ | .shr (.lit _) _ | .conv _ (.lit _) | .neg _ (.lit _) | .Gc _ (.lit _)=>true
 | .qJ (.lit _) | .uf (.lit _) (.lit _) | .rS _ [] _=>true
 |_=>false
theorem IP.qK{ρ ah:Env}:∀{p:IP},p.lits=true->p.den ρ=p.den ah:=by
 intro p h;cases p
 case bin op k a b=>cases a<;>cases b<;>first|rfl | (simp [IP.lits]at h)
 case max a b=>cases a<;>cases b<;>first|rfl | (simp [IP.lits]at h)
 case min a b=>cases a<;>cases b<;>first|rfl | (simp [IP.lits]at h)
 case sum a b=>cases a<;>cases b<;>first|rfl | (simp [IP.lits]at h)
 case diff a b=>cases a<;>cases b<;>first|rfl | (simp [IP.lits]at h)
 case shl k a n=>cases a<;>first|rfl | (simp [IP.lits]at h)
 case shr a n=>cases a<;>first|rfl | (simp [IP.lits]at h)
 case qJ s=>cases s<;>first|rfl | (simp [IP.lits]at h)
 case uf s i=>cases s<;>cases i<;>first|rfl | (simp [IP.lits]at h)
 case rS n vs sz=>cases vs<;>first|rfl | (simp [IP.lits]at h)
 all_goals (rename_i a;cases a<;>first|rfl | (simp [IP.lits]at h))
theorem IP.ae{c:aw}{ρ ah:Env}(h:Env.aE c ρ ah){p:IP}(hw:p.wf c=true):p.den ah=p.den ρ:=by
 cases p
 case qJ s=>simp only [IP.den,SE.ae h hw]
 case uf s i=>simp only [IP.wf,Bool.and_eq_true]at hw;simp only [IP.den,SE.ae h hw.1,IE.ae h hw.2]
 case rS n vs sz =>
  simp only [IP.den];congr 3;refine congrArg List.sum (List.map_congr_left λj hj => ?_);rw [h.l j (by simpa using List.all_eq_true.1 hw j hj)]
 all_goals (simp only [IP.wf,Bool.and_eq_true]at hw;first|simp only [IP.den,IE.ae h hw.1,IE.ae h hw.2]|simp only [IP.den,IE.ae h hw])
inductive aW where
 |int (k:IntKind) (e:IE)
 |bool (e:BE)
 |str (l:List UInt8)
 |sv (i:Nat)
 |dK
 |gY (k off len cap:Nat)
 |gV (q p sz:Nat) (len cap:IE)
 |own (k:Nat)
 deriving DecidableEq
inductive At where
 |int (k:IntKind) (e:IE)
 |bool (e:BE)
 |val (i:Nat)
 |str (l:List UInt8)
 |qL
 |dK
 |rU
 |oQ
 |kD
 |loc (k off:Nat)
 |gY (k off len cap:Nat)
 |ext (p:Nat) (ix:IE) (sz c:Nat)
 |nm (p:Nat) (ix:IE) (sz:Nat) (len cap:IE)
 |fn (f:FuncId) (aI:List (Nat × Nat))
 |sv (i:Nat)
 |gV (q p sz:Nat) (len cap:IE)
 |own (k:Nat)
 |gg (k:Nat) (ix:IE) (sz c:Nat)
 |ir (f:FuncId) (first aI:List (Nat × Nat))
 |rV (k:Nat)
 |omap (k:Nat)
 |qz (k:Nat)
 |qM (f:FuncId) (first:List aW) (aI:List (Nat × Nat))
 deriving DecidableEq
def aW.at:aW->At
 | .int k e=>.int k e
 | .bool e=>.bool e
 | .str l=>.str l
 | .sv i=>.sv i
 | .dK=>.dK
 | .gY k off len cap=>.gY k off len cap
 | .gV q p sz len cap=>.gV q p sz len cap
 | .own k=>.own k
def aW.of:At->Option aW
 | .int k e=>some (.int k e)
 | .bool e=>some (.bool e)
 | .str l=>some (.str l)
 | .sv i=>some (.sv i)
 | .dK=>some .dK
 | .gY k off len cap=>some (.gY k off len cap)
 | .gV q p sz len cap=>some (.gV q p sz len cap)
 | .own k=>some (.own k)
 |_=>none
def aW.CA:List At->Option (List aW)
  | []=>some []
  |a::r=>match aW.of a,aW.CA r with
    |some x,some l=>some (x::l)
    |_,_=>none
theorem aW.Di{a:At}{x:aW}(h:aW.of a=some x):x.at=a:=by
 cases a<;>simp only [aW.of,Option.some.injEq,reduceCtorEq]at h<;>subst h<;>rfl
theorem aW.vq:∀{l:List At} {r:List aW},aW.CA l=some r->r.map aW.at=l
  | [],r,h=>by simp only [aW.CA,Option.some.injEq]at h;subst h;rfl
  |a::l,r,h=>by
    simp only [aW.CA]at h;split at h
    · rename_i x l' h1 h2;simp only [Option.some.injEq]at h;subst h;rw [List.map_cons,aW.Di h1,aW.vq h2]
    · cases h
def jA:Nat->Nat->Nat × Nat
 |0,_=>(0,0)
 |k+1,n=>if n % 2=1 then (0,n / 2)else ((jA k (n / 2)).1+1,(jA k (n / 2)).2)
theorem Od:∀(k a b:Nat),a<k->jA k (2 ^ a*(2*b+1))=(a,b)
  |0,a,b,h=>by omega
  |k+1,0,b,_=>by
    unfold jA;rw [Nat.pow_zero,Nat.one_mul,if_pos (by omega)];congr 1;omega
  |k+1,a+1,b,h=>by
    have e:2 ^ (a+1)*(2*b+1)=2*(2 ^ a*(2*b+1)):=by rw [Nat.pow_succ,Nat.mul_comm (2 ^ a) 2,Nat.mul_assoc]
    unfold jA;rw [e,if_neg (by omega),Nat.mul_div_cancel_left _ (by decide),Od k a b (by omega)]
def aO(p:Nat × Nat)(n m:Nat):Addr :=
 if n=0/\m=0 then ⟨p.1,(jA (p.2+1) p.2).1,if (jA (p.2+1) p.2).2=0 then none else some ((jA (p.2+1) p.2).2-1)⟩else ⟨p.1,p.2,none⟩
theorem HO{p:Nat × Nat}{n m:Nat}(h:¬(n=0/\m=0)):aO p n m=⟨p.1,p.2,none⟩:=if_neg h
theorem HP(a:Addr):∃p,aO p 0 0=a:=by
 obtain⟨b,o,s⟩:=a
 have h:∀x,jA (2 ^ o*(2*x+1)+1) (2 ^ o*(2*x+1))=(o,x):=λx=>Od _ _ _ (by
  have h1:o<2 ^ o:=Nat.lt_two_pow_self;have h2:2 ^ o*1<=2 ^ o*(2*x+1):=Nat.mul_le_mul_left _ (by omega)
  omega)
 cases s with
 |none=>exact⟨(b,2 ^ o*(2*0+1)),by unfold aO;simp only [and_self,if_true];rw [h 0];rfl⟩
 |some x=>exact⟨(b,2 ^ o*(2*(x+1)+1)),by unfold aO;simp only [and_self,if_true];rw [h (x+1)];simp⟩
def dC(b code n base:Nat):Value:=if code=0 then .slice none 0 0 else .slice (some ⟨b,base,none⟩) n (code-1)
theorem HQ(b code n base:Nat):(dC b code n base).oneCell'=true:=by unfold dC;split<;>rfl
def oR(md b code n base:Nat):Value:=match md with
 |0=>dC b code n base
 |1=>.map (some b)
 |_=>.slice (some ⟨b,0,none⟩) n (code-2)
def rowAt(md k:Nat):At:=match md with
 |0=>.own k
 |1=>.omap k
 |_=>.qz k
def ptr(b o:Nat):Value := .pointer (some ⟨b,o,none⟩)
def aW.den(ρ:Env)(β:Nat->Nat):aW->Value
 | .int k e=>.int k (e.den ρ)
 | .bool e=>.bool (e.den ρ)
 | .str l=>.string ⟨l.toArray⟩
 | .sv i=>.string ⟨(ρ.s i).toArray⟩
 | .dK=>.slice none 0 0
 | .gY k off len cap=>.slice (some ⟨β k,off,none⟩) len cap
 | .gV q p _ len cap=>if ρ.b q=true then .slice none 0 0 else .slice (some (aO (ρ.p p) (len.den ρ).toNat (cap.den ρ).toNat)) (len.den ρ).toNat (cap.den ρ).toNat
 | .own k=>dC (β k) (β (k+1)) (β (k+2)) (β (k+3))
def aW.wf(c:aw):aW->Bool
 | .int _ e=>e.wf c
 | .bool e=>e.wf c
 | .sv i=>decide (i<c.ns)
 | .gY k _ _ _=>decide (k<c.nk)
 | .gV q p _ l m=>decide (q<c.nb) && decide (p<c.np) && l.wf c && m.wf c
 | .own k=>decide (k+3<c.nk)
 |_=>true
def At.den(ρ:Env)(β:Nat->Nat):At->Value
 | .int k e=>.int k (e.den ρ)
 | .bool e=>.bool (e.den ρ)
 | .val i=>(ρ.v i).1
 | .str l=>.string ⟨l.toArray⟩
 | .qL=>.pointer none
 | .dK=>.slice none 0 0
 | .rU=>.nilFunc
 | .oQ=>.nilIface
 | .kD=>.map none
 | .loc k off=>.pointer (some ⟨β k,off,none⟩)
 | .gY k off len cap=>.slice (some ⟨β k,off,none⟩) len cap
 | .ext p ix sz c=>.pointer (some ⟨(ρ.p p).1,(ρ.p p).2+(ix.den ρ).toNat*sz+c,none⟩)
 | .nm p ix sz len cap=>.slice (some ⟨(ρ.p p).1,(ρ.p p).2+(ix.den ρ).toNat*sz,none⟩) (len.den ρ).toNat (cap.den ρ).toNat
 | .fn f aI=>.func (.func f) #[] (aI.map λc=>.pointer (some ⟨β c.1,c.2,none⟩)).toArray
 | .sv i=>.string ⟨(ρ.s i).toArray⟩
 | .gV q p _ len cap=>if ρ.b q=true then .slice none 0 0 else .slice (some (aO (ρ.p p) (len.den ρ).toNat (cap.den ρ).toNat)) (len.den ρ).toNat (cap.den ρ).toNat
 | .own k=>dC (β k) (β (k+1)) (β (k+2)) (β (k+3))
 | .gg k ix sz c=>.pointer (some ⟨β k,(ix.den ρ).toNat*sz+c,none⟩)
 | .ir f first aI=>.func (.func f) (first.map λc=>.pointer (some ⟨β c.1,c.2,none⟩)).toArray (aI.map λc=>.pointer (some ⟨β c.1,c.2,none⟩)).toArray
 | .rV k=>.func (.yield (β k)) #[] #[]
 | .omap k=>.map (some (β k))
 | .qz k=>.slice (some ⟨β k,0,none⟩) (β (k+2)) (β (k+1)-2)
 | .qM f first aI=>.func (.func f) #[.agg (first.map (aW.den ρ β)).toArray] (aI.map λc=>.pointer (some ⟨β c.1,c.2,none⟩)).toArray
theorem aW.vt(ρ:Env)(β:Nat->Nat)(x:aW):x.at.den ρ β=x.den ρ β:=by cases x<;>rfl
theorem Sy(ρ:Env)(β:Nat->Nat)(md k:Nat):(rowAt md k).den ρ β=oR md (β k) (β (k+1)) (β (k+2)) (β (k+3)):=by
 match md with
 |0=>rfl
 |1=>rfl
 |_+2=>rfl
theorem At.iz(ρ:Env)(β:Nat->Nat):∀a:At,(a.den ρ β).oneCell'=true
 | .val i=>(ρ.v i).2
 | .gV q p _ len cap=>by simp only [At.den];split<;>rfl
 | .own k=>HQ _ _ _ _
 | .sv .. | .gg .. | .ir .. | .rV .. | .omap .. | .qz .. | .qM .. => rfl
 | .int .. | .bool .. | .str .. | .qL | .dK | .rU | .oQ | .kD | .loc .. | .gY .. | .ext .. | .nm .. | .fn .. => rfl
def At.wf(c:aw):At->Bool
 | .int _ e=>e.wf c
 | .bool e=>e.wf c
 | .val i=>decide (i<c.nv)
 | .loc k _ | .gY k _ _ _=>decide (k<c.nk)
 | .ext p ix _ _=>decide (p<c.np) && ix.wf c
 | .nm p ix _ l m=>decide (p<c.np) && ix.wf c && l.wf c && m.wf c
 | .fn _ aI=>aI.all λx=>decide (x.1<c.nk)
 | .sv i=>decide (i<c.ns)
 | .gV q p _ l m=>decide (q<c.nb) && decide (p<c.np) && l.wf c && m.wf c
 | .own k | .omap k | .qz k=>decide (k+3<c.nk)
 | .gg k ix _ _=>decide (k<c.nk) && ix.wf c
 | .ir _ first aI=>(first.all λx=>decide (x.1<c.nk)) && aI.all λx=>decide (x.1<c.nk)
 | .rV k=>decide (k<c.nk)
 | .qM _ first aI=>(first.all λx=>x.wf c) && aI.all λx=>decide (x.1<c.nk)
 |_=>true
theorem aW.Dj(c:aw)(x:aW):x.at.wf c=x.wf c:=by cases x<;>rfl
def At.flat:At->Bool
 | .loc .. | .gY .. | .own .. | .gg .. | .ir .. | .rV .. | .omap .. | .qz .. | .qM .. => false
 | .fn _ aI=>aI.isEmpty
 |_=>true
theorem aW.ae{c:aw}{ρ ah:Env}{β an:Nat->Nat}(h:Env.aE c ρ ah)(hb:∀k,k<c.nk->an k=β k):∀{a:aW},a.wf c=true->a.den ah an=a.den ρ β:=by
 intro a hw;cases a<;>simp only [aW.wf,Bool.and_eq_true,decide_eq_true_eq]at hw<;>simp only [aW.den]
 case int=>rw [IE.ae h hw]
 case bool=>rw [BE.ae h hw]
 case sv i=>rw [h.s i hw]
 case gY k o l m=>rw [hb k hw]
 case gV q p s l m=>rw [h.b q hw.1.1.1,h.p p hw.1.1.2,IE.ae h hw.1.2,IE.ae h hw.2]
 case own k=>rw [hb k (by omega),hb (k+1) (by omega),hb (k+2) (by omega),hb (k+3) (by omega)]
theorem aW.aT{c d:aw}(h:c.le d):∀{a:aW},a.wf c=true->a.wf d=true:=by
 intro a hw;cases a<;>simp only [aW.wf,Bool.and_eq_true,decide_eq_true_eq]at hw ⊢
 case int=>exact IE.aT h hw
 case bool=>exact BE.aT h hw
 case sv=>exact Nat.lt_of_lt_of_le hw h.s
 case gY=>exact Nat.lt_of_lt_of_le hw h.k
 case gV=>exact⟨⟨⟨Nat.lt_of_lt_of_le hw.1.1.1 h.b,Nat.lt_of_lt_of_le hw.1.1.2 h.p⟩,IE.aT h hw.1.2⟩,IE.aT h hw.2⟩
 case own=>exact Nat.lt_of_lt_of_le hw h.k
theorem At.ae{c:aw}{ρ ah:Env}{β an:Nat->Nat}(h:Env.aE c ρ ah)(hb:∀k,k<c.nk->an k=β k):∀{a:At},a.wf c=true->a.den ah an=a.den ρ β:=by
 intro a hw;cases a<;>simp only [At.wf,Bool.and_eq_true,decide_eq_true_eq]at hw<;>simp only [At.den]
 case int=>rw [IE.ae h hw]
 case bool=>rw [BE.ae h hw]
 case val i=>rw [h.v i hw]
 case loc k o=>rw [hb k hw]
 case gY k o l m=>rw [hb k hw]
 case ext p ix s e=>rw [h.p p hw.1,IE.ae h hw.2]
 case nm p ix s l m=>rw [h.p p hw.1.1.1,IE.ae h hw.1.1.2,IE.ae h hw.1.2,IE.ae h hw.2]
 case fn f aI =>
  congr 2;apply List.map_congr_left;intro x hx;rw [hb x.1 (by simpa using List.all_eq_true.1 hw x hx)]
 case sv i=>rw [h.s i hw]
 case gV q p s l m=>rw [h.b q hw.1.1.1,h.p p hw.1.1.2,IE.ae h hw.1.2,IE.ae h hw.2]
 case own k=>rw [hb k (by omega),hb (k+1) (by omega),hb (k+2) (by omega),hb (k+3) (by omega)]
 case gg k ix s e=>rw [hb k hw.1,IE.ae h hw.2]
 case omap k=>rw [hb k (by omega)]
 case qz k=>rw [hb k (by omega),hb (k+1) (by omega),hb (k+2) (by omega)]
 case ir f first aI =>
  congr 2
  ·apply List.map_congr_left;intro x hx;rw [hb x.1 (by simpa using List.all_eq_true.1 hw.1 x hx)]
  ·apply List.map_congr_left;intro x hx;rw [hb x.1 (by simpa using List.all_eq_true.1 hw.2 x hx)]
 case rV k=>rw [hb k hw]
 case qM f first aI =>
  have e1:first.map (aW.den ah an)=first.map (aW.den ρ β):=List.map_congr_left λx hx=>aW.ae h hb (List.all_eq_true.1 hw.1 x hx)
  have e2:(aI.map λc=>(.pointer (some ⟨an c.1,c.2,none⟩):Value))=aI.map λc=>.pointer (some ⟨β c.1,c.2,none⟩):=List.map_congr_left λx hx=>by rw [hb x.1 (by simpa using List.all_eq_true.1 hw.2 x hx)]
  rw [e1,e2]
theorem At.aT{c d:aw}(h:c.le d):∀{a:At},a.wf c=true->a.wf d=true:=by
 have nC:∀{l:List (Nat × Nat)},(l.all λx=>decide (x.1<c.nk))=true->(l.all λx=>decide (x.1<d.nk))=true:=λhw =>
  List.all_eq_true.2 λx hx=>decide_eq_true (Nat.lt_of_lt_of_le (of_decide_eq_true (List.all_eq_true.1 hw x hx)) h.k)
 intro a hw;cases a<;>simp only [At.wf,Bool.and_eq_true,decide_eq_true_eq]at hw ⊢
 case int=>exact IE.aT h hw
 case bool=>exact BE.aT h hw
 case val i=>exact Nat.lt_of_lt_of_le hw h.v
 case loc=>exact Nat.lt_of_lt_of_le hw h.k
 case gY=>exact Nat.lt_of_lt_of_le hw h.k
 case ext=>exact⟨Nat.lt_of_lt_of_le hw.1 h.p,IE.aT h hw.2⟩
 case nm=>exact⟨⟨⟨Nat.lt_of_lt_of_le hw.1.1.1 h.p,IE.aT h hw.1.1.2⟩,IE.aT h hw.1.2⟩,IE.aT h hw.2⟩
 case fn=>exact nC hw
 case sv=>exact Nat.lt_of_lt_of_le hw h.s
 case gV=>exact⟨⟨⟨Nat.lt_of_lt_of_le hw.1.1.1 h.b,Nat.lt_of_lt_of_le hw.1.1.2 h.p⟩,IE.aT h hw.1.2⟩,IE.aT h hw.2⟩
 case own=>exact Nat.lt_of_lt_of_le hw h.k
 case omap=>exact Nat.lt_of_lt_of_le hw h.k
 case qz=>exact Nat.lt_of_lt_of_le hw h.k
 case gg=>exact⟨Nat.lt_of_lt_of_le hw.1 h.k,IE.aT h hw.2⟩
 case ir=>exact⟨nC hw.1,nC hw.2⟩
 case rV=>exact Nat.lt_of_lt_of_le hw h.k
 case qM f first aI=>exact⟨List.all_eq_true.2 λx hx=>aW.aT h (List.all_eq_true.1 hw.1 x hx),nC hw.2⟩
def At.ofValue:Value->Option At
 | .bool b=>some (.bool (.lit b))
 | .int k n=>some (.int k (.lit n))
 | .string s=>some (.str s.data.toList)
 | .pointer none=>some .qL
 | .slice none 0 0=>some .dK
 | .nilFunc=>some .rU
 | .nilIface=>some .oQ
 | .map none=>some .kD
 | .func (.func f) first aI=>if first.size=0/\aI.size=0 then some (.fn f [])else none
 |_=>none
theorem At.db{v:Value}{a:At}(h:At.ofValue v=some a)(c:aw)(ρ:Env)(β:Nat->Nat):a.wf c=true/\a.den ρ β=v:=by
  unfold At.ofValue at h
  split at h<;>first
    | (cases h;exact⟨rfl,rfl⟩)
    | (split at h
       · rename_i hs;cases h;refine⟨rfl, ?_⟩;obtain⟨h1,h2⟩:=hs;rw [Array.size_eq_zero_iff]at h1 h2;subst h1 h2;rfl
       · cases h)
    |cases h
inductive CV where
 |one (a:At)
 |agg (l:List At)
 deriving DecidableEq
def CV.den(ρ:Env)(β:Nat->Nat):CV->Value
 | .one a=>a.den ρ β
 | .agg l=>.agg (l.map (At.den ρ β)).toArray
def CV.wf(c:aw):CV->Bool
 | .one a=>a.wf c
 | .agg l=>l.all (At.wf c)
def CV.cells:CV->List At
 | .one a=>[a]
 | .agg l=>l
def CV.flat:CV->Bool
 | .one a=>a.flat
 | .agg l=>l.all At.flat
theorem xZ{c:aw}{ρ ah:Env}{β an:Nat->Nat}(h:Env.aE c ρ ah)(hb:∀k,k<c.nk->an k=β k){l:List At}(hw:l.all (At.wf c)=true) :
  l.map (At.den ah an)=l.map (At.den ρ β):=List.map_congr_left λx hx=>At.ae h hb (List.all_eq_true.1 hw x hx)
theorem CV.ae{c:aw}{ρ ah:Env}{β an:Nat->Nat}(h:Env.aE c ρ ah)(hb:∀k,k<c.nk->an k=β k):∀{a:CV},a.wf c=true->a.den ah an=a.den ρ β
 | .one a,hw=>At.ae h hb hw
 | .agg l,hw=>by simp only [CV.den,xZ h hb hw]
theorem AY{c d:aw}(h:c.le d){l:List At}(hw:l.all (At.wf c)=true):l.all (At.wf d)=true :=
 List.all_eq_true.2 λx hx=>At.aT h (List.all_eq_true.1 hw x hx)
theorem CV.aT{c d:aw}(h:c.le d):∀{a:CV},a.wf c=true->a.wf d=true
 | .one a,hw=>At.aT h hw
 | .agg l,hw=>AY h hw
inductive Kn where
 |j8 (i:Nat) (t:TypeId) (v:CV)
 |ai (p g:Nat)
 deriving DecidableEq
def Kn.den(ρ:Env):Kn->Prop
 | .j8 i t v=>(ρ.v i).1=.iface t (v.den ρ (λ_=>0))
 | .ai p g=>ρ.p p=(g,0)
def Kn.wf(c:aw):Kn->Bool
 | .j8 i _ v=>decide (i<c.nv) && (v.wf c && v.flat)
 | .ai p _=>decide (p<c.np)
theorem Kn.ae{c:aw}{ρ ah:Env}(h:Env.aE c ρ ah):∀{x:Kn},x.wf c=true->x.den ρ->x.den ah
  | .j8 i t v,hw,hd=>by
    simp only [Kn.wf,Bool.and_eq_true,decide_eq_true_eq]at hw;simp only [Kn.den]at hd ⊢;rw [h.v i hw.1,hd,CV.ae h (λ_ _=>rfl) hw.2.1]
  | .ai p g,hw,hd=>by
    simp only [Kn.wf,decide_eq_true_eq]at hw;simp only [Kn.den]at hd ⊢;rw [h.p p hw,hd]
theorem Kn.aT{c d:aw}(h:c.le d):∀{x:Kn},x.wf c=true->x.wf d=true
  | .j8 i t v,hw=>by
    simp only [Kn.wf,Bool.and_eq_true,decide_eq_true_eq]at hw ⊢;exact⟨Nat.lt_of_lt_of_le hw.1 h.v,CV.aT h hw.2.1,hw.2.2⟩
  | .ai p g,hw=>by
    simp only [Kn.wf,decide_eq_true_eq]at hw ⊢;exact Nat.lt_of_lt_of_le hw h.p
abbrev cd:=List Kn
def cd.den(k:cd)(ρ:Env):Prop:=∀x∈k,x.den ρ
def cd.wf(k:cd)(c:aw):Prop:=∀x∈k,x.wf c=true
theorem cd.ae{k:cd}{c:aw}{ρ ah:Env}(h:Env.aE c ρ ah)(hw:cd.wf k c)(hd:cd.den k ρ):cd.den k ah:=λx hx=>Kn.ae h (hw x hx) (hd x hx)
theorem cd.aT{k:cd}{c d:aw}(h:c.le d)(hw:cd.wf k c):cd.wf k d:=λx hx=>Kn.aT h (hw x hx)
def o6:cd->Nat->Option Nat
 | [],_=>none
 | .ai p g'::r,g=>if g'=g then some p else o6 r g
 |_::r,g=>o6 r g
def o7:cd->Nat->Option Nat
 | [],_=>none
 | .ai p' g::r,p=>if p'=p then some g else o7 r p
 |_::r,p=>o7 r p
def gL:cd->Nat->Option (TypeId × CV)
 | [],_=>none
 | .j8 j t v::r,i=>if j=i then some (t,v)else gL r i
 |_::r,i=>gL r i
theorem Ge:∀{k:cd} {g p:Nat},o6 k g=some p->Kn.ai p g∈k
  | [],_,_,h=>by cases h
  | .ai p' g'::r,g,p,h=>by
    simp only [o6]at h;split at h
    · rename_i he;cases h;subst he;exact List.mem_cons_self ..
    · exact List.mem_cons_of_mem _ (Ge h)
  | .j8 .. :: r,g,p,h=>List.mem_cons_of_mem _ (Ge (k:=r) h)
theorem HR:∀{k:cd} {g p:Nat},o7 k p=some g->Kn.ai p g∈k
  | [],_,_,h=>by cases h
  | .ai p' g'::r,g,p,h=>by
    simp only [o7]at h;split at h
    · rename_i he;cases h;subst he;exact List.mem_cons_self ..
    · exact List.mem_cons_of_mem _ (HR h)
  | .j8 .. :: r,g,p,h=>List.mem_cons_of_mem _ (HR (k:=r) h)
theorem AZ:∀{k:cd} {i:Nat} {t:TypeId} {v:CV},gL k i=some (t,v)->Kn.j8 i t v∈k
  | [],_,_,_,h=>by cases h
  | .j8 j t' v'::r,i,t,v,h=>by
    simp only [gL]at h;split at h
    · rename_i he;cases h;subst he;exact List.mem_cons_self ..
    · exact List.mem_cons_of_mem _ (AZ h)
  | .ai .. :: r,i,t,v,h=>List.mem_cons_of_mem _ (AZ (k:=r) h)
inductive SV where
 |any
 |eH
 |cv (c:CV)
 |dt (l:List CV)
 deriving DecidableEq
def SV.den(ρ:Env)(β:Nat->Nat):SV->Value
 | .any=>undef
 | .eH=>undef
 | .cv c=>c.den ρ β
 | .dt l=>.tuple (l.map (CV.den ρ β)).toArray
def SV.wf(c:aw):SV->Bool
 | .any=>true
 | .eH=>true
 | .cv x=>x.wf c
 | .dt l=>l.all (CV.wf c)
theorem SV.ae{c:aw}{ρ ah:Env}{β an:Nat->Nat}(h:Env.aE c ρ ah)(hb:∀k,k<c.nk->an k=β k):∀{a:SV},a.wf c=true->a.den ah an=a.den ρ β
  | .any,_=>rfl
  | .eH,_=>rfl
  | .cv a,hw=>CV.ae h hb hw
  | .dt l,hw=>by
    simp only [SV.den];rw [List.map_congr_left λx hx=>CV.ae h hb (List.all_eq_true.1 hw x hx)]
theorem SV.aT{c d:aw}(h:c.le d):∀{a:SV},a.wf c=true->a.wf d=true
 | .any,_=>rfl
 | .eH,_=>rfl
 | .cv a,hw=>CV.aT h hw
 | .dt l,hw=>List.all_eq_true.2 λx hx=>CV.aT h (List.all_eq_true.1 hw x hx)
def mD:List Value->Option (List At)
  | []=>some []
  |v::l=>match At.ofValue v,mD l with
    |some a,some r=>some (a::r)
    |_,_=>none
theorem Oe:∀{l:List Value} {r:List At} (_:mD l=some r) (c:aw) (ρ:Env) (β:Nat->Nat),r.all (At.wf c)=true/\r.map (At.den ρ β)=l
  | [],r,h,_,_,_=>by simp only [mD,Option.some.injEq]at h;subst h;exact⟨rfl,rfl⟩
  |v::l,r,h,c,ρ,β=>by
    simp only [mD]at h;split at h
    · rename_i a r' ha hr;simp only [Option.some.injEq]at h;subst h;obtain⟨h1,h2⟩:=At.db ha c ρ β;obtain⟨h3,h4⟩:=Oe hr c ρ β;exact⟨by simp only [List.all_cons,h1,h3,Bool.and_self],by simp only [List.map_cons,h2,h4]⟩
    · cases h
def SV.ofValue:Value->SV
  | .agg cs=>match mD cs.toList with
    |some l=>.cv (.agg l)
    |none=>.any
  |v=>match At.ofValue v with
    |some a=>.cv (.one a)
    |none=>.any
theorem SV.db(v:Value)(c:aw)(ρ:Env)(β:Nat->Nat):(SV.ofValue v).wf c=true/\(SV.ofValue v ≠ .any->(SV.ofValue v).den ρ β=v):=by
 unfold SV.ofValue;split
 ·split
  ·rename_i cs l h;obtain⟨h1,h2⟩:=Oe h c ρ β;exact⟨h1,λ_=>by simp only [SV.den,CV.den,h2,Array.toArray_toList]⟩
  ·exact⟨rfl,λh=>(h rfl).elim⟩
 ·split
  ·rename_i a h;obtain⟨h1,h2⟩:=At.db h c ρ β;exact⟨h1,λ_=>h2⟩
  ·exact⟨rfl,λh=>(h rfl).elim⟩
inductive Sg where
 |cG (l:List At)
 |var (i:Nat)
 deriving DecidableEq
abbrev CE:=List Sg
def Sg.den(ρ:Env)(β:Nat->Nat):Sg->List Value
 | .cG l=>l.map (At.den ρ β)
 | .var i=>(ρ.l i).map (·.1)
def av(ρ:Env)(β:Nat->Nat):CE->List Value
 | []=>[]
 |s::r=>s.den ρ β++av ρ β r
def Sg.wf(c:aw):Sg->Bool
 | .cG l=>l.all (At.wf c)
 | .var i=>decide (i<c.nl)
def cH(c:aw)(l:CE):Bool:=l.all (Sg.wf c)
def nD:CE->Nat
 | []=>0
 | .cG l::r=>l.length+nD r
 | .var _::r=>nD r
def kS:CE->List Nat
 | []=>[]
 | .cG _::r=>kS r
 | .var i::r=>i::kS r
def eR:CE->Option (List At)
 | []=>some []
 | .cG l::r=>(eR r).map (l ++ ·)
 | .var _::_=>none
def dw:CE->CE->CE
 | [],y=>y
 | [.cG l],.cG l'::y=>.cG (l++l')::y
 |s::r,y=>s::dw r y
theorem Sg.ae{c:aw}{ρ ah:Env}{β an:Nat->Nat}(h:Env.aE c ρ ah)(hb:∀k,k<c.nk->an k=β k):∀{s:Sg},s.wf c=true->s.den ah an=s.den ρ β
 | .cG l,hw=>xZ h hb hw
 | .var i,hw=>by simp only [Sg.den];rw [h.l i (by simpa [Sg.wf]using hw)]
theorem uX{c:aw}{ρ ah:Env}{β an:Nat->Nat}(h:Env.aE c ρ ah)(hb:∀k,k<c.nk->an k=β k):∀{l:CE},cH c l=true->av ah an l=av ρ β l
  | [],_=>rfl
  |s::r,hw=>by
    simp only [cH,List.all_cons,Bool.and_eq_true]at hw;simp only [av,Sg.ae h hb hw.1,uX h hb (l:=r) hw.2]
theorem Sg.aT{c d:aw}(h:c.le d):∀{s:Sg},s.wf c=true->s.wf d=true
 | .cG l,hw=>AY h hw
 | .var i,hw=>by simp [Sg.wf]at hw ⊢;exact Nat.lt_of_lt_of_le hw h.l
theorem A0{c d:aw}(h:c.le d){l:CE}(hw:cH c l=true):cH d l=true :=
 List.all_eq_true.2 λs hs=>Sg.aT h (List.all_eq_true.1 hw s hs)
theorem Dk(ρ:Env)(β:Nat->Nat):∀(x y:CE),av ρ β (dw x y)=av ρ β x++av ρ β y
  | [],y=>rfl
  | [.cG l],[]=>by simp [dw,av]
  | [.cG l],.cG l'::y=>by simp [dw,av,Sg.den]
  | [.cG l],.var i::y=>by simp [dw,av]
  | [.var i],y=>by simp [dw,av]
  | .cG l::t::r,y=>by
    have:=Dk ρ β (t::r) y
    simp only [dw,av,List.append_assoc]at this ⊢;rw [this]
  | .var i::t::r,y=>by
    have:=Dk ρ β (t::r) y
    simp only [dw,av,List.append_assoc]at this ⊢;rw [this]
theorem HS(c:aw):∀(x y:CE),cH c x=true->cH c y=true->cH c (dw x y)=true
  | [],y,_,hy=>hy
  | [.cG l],[],hx,_=>hx
  | [.cG l],.cG l'::y,hx,hy=>by
    simp only [cH,List.all_cons,List.all_nil,Bool.and_true,Bool.and_eq_true,Sg.wf,dw,List.all_append]at *;exact⟨⟨hx,hy.1⟩,hy.2⟩
  | [.cG l],.var i::y,hx,hy=>by
    simp only [cH,List.all_cons,List.all_nil,Bool.and_true,Bool.and_eq_true,dw]at *;exact⟨hx,hy⟩
  | [.var i],y,hx,hy=>by
    simp only [cH,List.all_cons,List.all_nil,Bool.and_true,Bool.and_eq_true,dw]at *;exact⟨hx,hy⟩
  | .cG l::t::r,y,hx,hy=>by
    have h1:cH c (t::r)=true:=by simp only [cH,List.all_cons,Bool.and_eq_true]at hx ⊢;exact hx.2
    have:=HS c (t::r) y h1 hy
    simp only [cH,dw,List.all_cons,Bool.and_eq_true]at hx this ⊢;exact⟨hx.1,this⟩
  | .var i::t::r,y,hx,hy=>by
    have h1:cH c (t::r)=true:=by simp only [cH,List.all_cons,Bool.and_eq_true]at hx ⊢;exact hx.2
    have:=HS c (t::r) y h1 hy
    simp only [cH,dw,List.all_cons,Bool.and_eq_true]at hx this ⊢;exact⟨hx.1,this⟩
theorem HT(ρ:Env)(β:Nat->Nat):∀(x:CE),(av ρ β x).length=nD x+((kS x).map λj=>(ρ.l j).length).sum
 | []=>rfl
 | .cG l::r=>by simp only [av,Sg.den,List.length_append,List.length_map,nD,kS,HT ρ β r];omega
 | .var i::r=>by simp only [av,Sg.den,List.length_append,List.length_map,nD,kS,HT ρ β r,List.map_cons,List.sum_cons];omega
theorem Dl(ρ:Env)(β:Nat->Nat):∀{x:CE} {l:List At},eR x=some l->av ρ β x=l.map (At.den ρ β)
  | [],l,h=>by simp only [eR,Option.some.injEq]at h;subst h;rfl
  | .cG a::r,l,h=>by
    simp only [eR,Option.map_eq_some_iff]at h;obtain⟨l',h1,rfl⟩:=h;simp only [av,Sg.den,Dl ρ β h1,List.map_append]
  | .var _::_,l,h=>by simp [eR]at h
theorem vu(ρ:Env)(β:Nat->Nat):∀(x:CE),∀v∈av ρ β x,v.oneCell'=true
  | [],v,h=>by cases h
  | .cG l::r,v,h=>by
    simp only [av,Sg.den,List.mem_append,List.mem_map]at h;rcases h with ⟨a,_,rfl⟩|h
    · exact At.iz ρ β a
    · exact vu ρ β r v h
  | .var i::r,v,h=>by
    simp only [av,Sg.den,List.mem_append,List.mem_map]at h;rcases h with ⟨a,_,rfl⟩|h
    · exact a.2
    · exact vu ρ β r v h
def nE:Value->UInt8
 | .int _ n=>UInt8.ofNat n.toNat
 |_=>0
inductive SP where
 |cat (a b:SE)
 |sub (s:SE) (l h:IE)
 |row (ce:CE)
 deriving DecidableEq
def SP.den(ρ:Env):SP->List UInt8
 | .cat a b=>a.den ρ++b.den ρ
 | .sub s l h=>((s.den ρ).drop (l.den ρ).toNat).take ((h.den ρ).toNat-(l.den ρ).toNat)
 | .row ce=>(av ρ (λ_=>0) ce).map nE
def SP.ok(ρ:Env):SP->Prop
 | .cat a b=>(a.den ρ).length+(b.den ρ).length<=9223372036854775807
 | .sub s l h=>0<=l.den ρ/\l.den ρ<=h.den ρ/\h.den ρ<=((s.den ρ).length:Int)
 | .row ce=>∀v∈av ρ (λ_=>0) ce,∃n:Int,v=.int .u8 n
def A1:List At->Bool
 | []=>true
 | .int _ (.lit _)::r=>A1 r
 |_=>false
def mE:List At->Bool
 | []=>true
 | .int k (.lit _)::r=>decide (k=.u8) && mE r
 |_=>false
def SP.lits:SP->Bool
 | .cat (.lit _) (.lit _)=>true
 | .sub (.lit _) (.lit _) (.lit _)=>true
 | .row [.cG l]=>mE l
 | .row []=>true
 |_=>false
def SP.okB:SP->Bool
 | .cat (.lit a) (.lit b)=>decide (a.length+b.length<=9223372036854775807)
 | .sub (.lit s) (.lit l) (.lit h)=>decide (0<=l) && decide (l<=h) && decide (h<=(s.length:Int))
 | .row _=>true
 |_=>false
theorem Of{ρ ah:Env}{β:Nat->Nat}:∀{l:List At},mE l=true->l.map (At.den ρ β)=l.map (At.den ah β)/\∀v∈l.map (At.den ρ β),∃n:Int,v=.int .u8 n
  | [],_=>⟨rfl,λv h=>by cases h⟩
  | .int k (.lit n)::r,h=>by
    simp only [mE,Bool.and_eq_true,decide_eq_true_eq]at h;obtain⟨h1,h2⟩:=Of (ρ:=ρ) (ah:=ah) (β:=β) h.2;refine⟨by simp only [List.map_cons,h1,At.den,IE.den],λv hv => ?_⟩;simp only [List.map_cons,List.mem_cons]at hv;rcases hv with rfl|hv
    · exact⟨n,by simp only [At.den,IE.den,h.1]⟩
    · exact h2 v hv
  | .int k (.var _)::r,h=>by simp [mE]at h
  | .bool _::_,h | .val _::_,h | .str _::_,h | .qL::_,h | .dK::_,h | .rU::_,h | .oQ::_,h | .kD::_,h=>by simp [mE]at h
  | .loc .. :: _,h | .gY .. :: _,h | .ext .. :: _,h | .nm .. :: _,h | .fn .. :: _,h | .sv .. :: _,h | .gV .. :: _,h | .own .. :: _,h=>by simp [mE]at h
  | .gg .. :: _,h | .ir .. :: _,h | .rV .. :: _,h | .omap .. :: _,h | .qz .. :: _,h | .qM .. :: _,h=>by simp [mE]at h
theorem SP.qN{ρ ah:Env}:∀{p:SP},p.lits=true->p.okB=true->p.den ρ=p.den ah/\p.ok ρ
  | .cat (.lit a) (.lit b),_,h=>⟨rfl,by simpa only [SP.okB,SP.ok,SE.den,decide_eq_true_eq]using h⟩
  | .sub (.lit s) (.lit l) (.lit h),_,ho=>by
    simp only [SP.okB,Bool.and_eq_true,decide_eq_true_eq]at ho;exact⟨rfl,ho.1.1,ho.1.2,ho.2⟩
  | .row [.cG l],h,_=>by
    obtain⟨h1,h2⟩:=Of (ρ:=ρ) (ah:=ah) (β:=λ_=>0) (l:=l) h;exact⟨by simp only [SP.den,av,Sg.den,h1],λv hv=>h2 v (by simpa [av,Sg.den]using hv)⟩
  | .row [],_,_=>⟨rfl,λv hv=>by cases hv⟩
  | .cat (.var _) _,h,_ | .cat (.lit _) (.var _),h,_=>by simp [SP.lits]at h
  | .sub (.var _) _ _,h,_ | .sub (.lit _) (.var _) _,h,_ | .sub (.lit _) (.lit _) (.var _),h,_=>by simp [SP.lits]at h
  | .row (.var _::_),h,_ | .row (.cG _::_::_),h,_=>by simp [SP.lits]at h
def SP.wf(c:aw):SP->Bool
 | .cat a b=>a.wf c && b.wf c
 | .sub s l h=>s.wf c && l.wf c && h.wf c
 | .row ce=>cH c ce
theorem SP.aE{c:aw}{ρ ah:Env}(h:Env.aE c ρ ah):∀{p:SP},p.wf c=true->p.den ah=p.den ρ/\(p.ok ρ->p.ok ah)
  | .cat a b,hw=>by
    simp only [SP.wf,Bool.and_eq_true]at hw;simp only [SP.den,SP.ok,SE.ae h hw.1,SE.ae h hw.2];exact⟨trivial,λh=>h⟩
  | .sub s l e,hw=>by
    simp only [SP.wf,Bool.and_eq_true]at hw;simp only [SP.den,SP.ok,SE.ae h hw.1.1,IE.ae h hw.1.2,IE.ae h hw.2];exact⟨trivial,λh=>h⟩
  | .row ce,hw=>by
    simp only [SP.den,SP.ok,uX (β:=λ_=>0) (an:=λ_=>0) h (λ_ _=>rfl) (show cH c ce=true from hw)];exact⟨trivial,λh=>h⟩
end Vc
set_option linter.unusedVariables false
namespace Vc
open Go Go.RowKit
inductive CK where
 |int (k:IntKind)
 |bool
 |uY
 |str
 |sl (sz:Nat)
 |own (sz:Nat) (t:TypeId)
 deriving DecidableEq
abbrev Mem:=List (Nat × List At × TypeId)
abbrev bq:=List (Nat × CE × Nat × TypeId)
inductive LP where
 |set (ce:CE) (ix:IE) (sz off:Nat) (l:List At)
 |rep (n:IE) (l:List At)
 |qz (i:Nat)
 deriving DecidableEq
inductive LH where
 |kT
 |inv (cells:List (Nat × Nat)) (bp kill:List Nat)
 |HU (qO cells:List (Nat × Nat)) (bp kill:List Nat)
 |ug (alts:List (List (Nat × Nat))) (cells:List (Nat × Nat)) (bp kill:List Nat)
inductive Ex where
 |normal
 |exit (id:Nat)
 |ret
 |j4 (i:Nat)
 deriving DecidableEq
structure St where
 t:List (Nat × SV)
 n:Nat
 m:Mem
 c:aw
 o:bq := []
 r:List (Nat × Option Ex) := []
 d:List Nat := []
 k:cd := []
 df:List (FuncId × List (Nat × Nat)) := []
 deriving DecidableEq
inductive Ask where
 |ai (g:Nat) (cs:List At) (t:TypeId)
 |j8 (n:Nat) (t:TypeId) (v:CV)
 |call (f:FuncId) (args:List SV) (m:Mem) (o:bq) (r:SV)
 |o8 (f:FuncId) (args:List SV) (r:SV)
 |qP (f:FuncId) (args:List SV) (m:Mem) (o:bq) (k:Nat) (ce:CE) (sz:Nat) (t:TypeId)
structure fZ where
 n:Nat
 f:FuncId
 args:List SV
 s:St
 asks:List Ask
 v:SV
 s':St
structure bW where
 P:Program
 calls:List FuncId
 ext:List FuncId
 inl:List FuncId
 loops:List (Nat × LH)
 aZ:List (Nat × List At × TypeId) := []
 jR:List fZ := []
 marks:List FuncId := []
structure b_(R:Type) where
 fail:String->R
 fin:SV->Mem->bq->R
 int:Nat->IP->R->R
 A2:BE->R->R
 ite:BE->R->R->R
 call:FuncId->List SV->Mem->bq->List At->SV->R->R
 o8:FuncId->List SV->List At->SV->R->R
 load:At->Nat->IE->Nat->Nat->R->R
 loop:bq->List At->bq->List At->((bq->List At->R)->R)->R
 rd:At->CE->IE->Nat->Nat->R->R
 uh:Nat->LP->R->R
 Gf:Nat->At->Nat->R->R
 Dm:SV->Mem->bq->List TypeId->R
 zM:FuncId->List SV->Mem->bq->List (Nat × List At × TypeId)->List At->SV->R->R
 str:Nat->SP->R->R
 HV:SV->bq->Nat->TypeId->R
 zN:FuncId->List SV->Mem->bq->Nat->Nat->Nat->TypeId->List At->SV->R->R
 ai:Nat->List At->TypeId->R->R
 j8:Nat->TypeId->CV->R->R
 alt:R->R->R
 zO:FuncId->List SV->Mem->bq->List Nat->List At->TypeId->CV->Nat->R->R
 x_:Nat->R
 qP:FuncId->List SV->Mem->bq->Nat->CE->Nat->TypeId->R->R
 Dn:Nat->CE->List At->List CK->Nat->R->R
 mark:Option Nat->FuncId->List SV->St->R->R
def ay:List (Nat × SV)->Nat->SV
  | [],_=>.any
  |p::r,i=>match Nat.beq p.1 i with
    |true=>p.2
    |false=>ay r i
def getM:Mem->Nat->Option (List At × TypeId)
 | [],_=>none
 | (j,v)::r,i=>if j=i then some v else getM r i
def j9:Mem->Nat->List At->Mem
 | [],_,_=>[]
 | (j,v)::r,i,cs=>if j=i then (j,cs,v.2)::r else (j,v)::j9 r i cs
def aM:bq->Nat->Option (CE × Nat × TypeId)
 | [],_=>none
 | (j,v)::r,i=>if j=i then some v else aM r i
def ui:bq->Nat->bq
 | [],_=>[]
 | (j,v)::r,i=>if j=i then ui r i else (j,v)::ui r i
def cf:bq->List Nat->bq
 |o,[]=>o
 |o,k::l=>cf (ui o k) l
def Sg.flat:Sg->Bool
 | .cG l=>l.all At.flat
 | .var _=>true
def gZ(l:CE):Bool:=l.all Sg.flat
def St.ev(st:St):Operand->SV
  | .tmp t=>ay st.t t
  | .const v=>SV.ofValue v
  | .global g=>match o6 st.k g with
    |some p=>.cv (.one (.ext p (.lit 0) 0 0))
    |none=>.any
  | .func f=>.cv (.one (.fn f []))
variable {R:Type}
def Ask.run(A:b_ R):Ask->R->R
 | .ai g cs t,k=>A.ai g cs t k
 | .j8 n t v,k=>A.j8 n t v k
 | .call f args m o r,k=>A.call f args m o [] r k
 | .o8 f args r,k=>A.o8 f args [] r k
 | .qP f args m o k' ce sz t,k=>A.qP f args m o k' ce sz t k
def j_(A:b_ R):List Ask->R->R
 | [],k=>k
 |a::l,k=>a.run A (j_ A l k)
def ky(n:Nat)(f:FuncId)(args:List SV)(s:St):List fZ->Option fZ
  | []=>none
  |e::r=>match Nat.beq e.f f && Nat.beq e.n n with
    |true=>if e.args=args/\e.s=s then some e else ky n f args s r
    |false=>ky n f args s r
theorem HW{n:Nat}{f:FuncId}{args:List SV}{s:St}:∀{l:List fZ} {e:fZ},ky n f args s l=some e->e∈l/\e.n=n/\e.f=f/\e.args=args/\e.s=s
  | [],e,h=>by cases h
  |x::r,e,h=>by
    unfold ky at h;cases hb:Nat.beq x.f f && Nat.beq x.n n with
    |true =>
      rw [hb]at h;simp only at h;rw [Bool.and_eq_true]at hb;split at h
      · rename_i hc;cases h;exact⟨by simp,Nat.eq_of_beq_eq_true hb.2,Nat.eq_of_beq_eq_true hb.1,hc.1,hc.2⟩
      · obtain⟨h1,h2⟩:=HW h;exact⟨List.mem_cons_of_mem _ h1,h2⟩
    |false =>
      rw [hb]at h;obtain⟨h1,h2⟩:=HW h;exact⟨List.mem_cons_of_mem _ h1,h2⟩
def mF{α:Type}(l:List α)(K:List α->R):R :=
 match l with
 | []=>K []
 |a::r=>K (a::r)
def l_(n:Nat)(K:Nat->R):R :=
 match n with
 |0=>K 0
 |k+1=>K (Nat.succ k)
theorem HX{α:Type}(l:List α)(K:List α->R):mF l K=K l:=by cases l<;>rfl
theorem Gg(n:Nat)(K:Nat->R):l_ n K=K n:=by cases n<;>rfl
def St.norm(st:St)(K:St->R):R :=
  match st with
  |⟨t,n,m,c,o,r,d,k,df⟩=>match c with
    |⟨ni,nb,nv,np,nk,ns,nl⟩ =>
      mF t λt=>l_ n λn=>mF m λm=>l_ ni λni=>l_ nb λnb=>l_ nv λnv=>l_ np λnp=>l_ nk λnk=>l_ ns λns=>l_ nl λnl =>
        mF o λo=>mF r λr=>mF d λd=>mF k λk=>mF df λdf=>K ⟨t,n,m,⟨ni,nb,nv,np,nk,ns,nl⟩,o,r,d,k,df⟩
theorem St.norm_eq(st:St)(K:St->R):st.norm K=K st:=by
 obtain⟨t,n,m,⟨ni,nb,nv,np,nk,ns,nl⟩,o,r,d,k,df⟩:=st;simp only [St.norm,HX,Gg]
def o9{α:Type}(K:List α->R):List α->List α->R
 | [],acc=>K acc
 |a::r,acc=>o9 K r (a::acc)
def gQ{α:Type}(K:List α->R):List α->List α->R
 | [],acc=>o9 K acc []
 |a::r,acc=>gQ K r (a::acc)
theorem Gh{α:Type}(K:List α->R):∀(l acc:List α),o9 K l acc=K (l.reverse++acc)
 | [],acc=>rfl
 |a::r,acc=>by rw [o9,Gh K r];simp
theorem Og{α:Type}(K:List α->R):∀(l acc:List α),gQ K l acc=K (acc.reverse++l)
 | [],acc=>by rw [gQ,Gh]
 |a::r,acc=>by rw [gQ,Og K r];simp
theorem Gi{α:Type}(K:List α->R)(l:List α):gQ K l []=K l:=by rw [Og];rfl
def lj(z:Int)(K:Int->R):R :=
 match z with
 | .ofNat n=>l_ n λn=>K (.ofNat n)
 | .negSucc n=>l_ n λn=>K (.negSucc n)
theorem Oh(z:Int)(K:Int->R):lj z K=K z:=by cases z<;>(unfold lj;simp only [Gg])
def pB(e:BE)(K:BE->R):R :=
 match e with
 | .lit true=>K (.lit true)
 | .lit false=>K (.lit false)
 |e=>K e
theorem Sz(e:BE)(K:BE->R):pB e K=K e:=by unfold pB;split<;>rfl
def pC(v:SV)(K:SV->R):R :=
 match v with
 | .cv (.one (.bool e))=>pB e λe=>K (.cv (.one (.bool e)))
 | .cv (.agg l)=>gQ (λl=>K (.cv (.agg l))) l []
 |v=>K v
theorem SA(v:SV)(K:SV->R):pC v K=K v:=by
 unfold pC;split
 ·exact Sz _ _
 ·exact Gi _ _
 ·rfl
def ln(s i:Nat):Bool:=Nat.beq (Nat.land (Nat.shiftRight s i) 1) 1
def gM:Nat->List (Nat × SV)->List (Nat × SV)
  |_,[]=>[]
  |s,p::r=>match ln s p.1 with
    |true=>gM s r
    |false=>p::gM (Nat.lor s (Nat.shiftLeft 1 p.1)) r
def o_(K:List (Nat × SV)->R):List (Nat × SV)->Nat->List (Nat × SV)->R
  | [],_,acc=>o9 K acc []
  |p::r,s,acc=>match ln s p.1 with
    |true=>o_ K r s acc
    |false=>l_ (Nat.lor s (Nat.shiftLeft 1 p.1)) λs=>o_ K r s (p::acc)
theorem HY(K:List (Nat × SV)->R):∀(l:List (Nat × SV)) (s:Nat) (acc:List (Nat × SV)),o_ K l s acc=K (acc.reverse++gM s l)
  | [],s,acc=>by rw [o_,Gh,gM]
  |p::r,s,acc=>by
    rw [o_,gM];cases ln s p.1 with
    |true=>exact HY K r s acc
    |false=>simp only [Gg,HY K r];simp
def St.vw(st:St)(K:St->R):R:=o_ (λt=>K {st with t:=t}) st.t 0 []
theorem St.ya(st:St)(K:St->R):st.vw K=K {st with t:=gM 0 st.t}:=by
 unfold St.vw;rw [HY];rfl
theorem HZ(s i:Nat):ln s i=s.testBit i:=by
 have h:Nat.land (Nat.shiftRight s i) 1=(s >>> i) % 2:=Nat.and_one_is_mod _;unfold ln;rw [h,Nat.testBit,Nat.one_and_eq_mod_two];rcases Nat.mod_two_eq_zero_or_one (s >>> i)with h|h<;>rw [h]<;>rfl
theorem SB(s i j:Nat):ln (Nat.lor s (Nat.shiftLeft 1 i)) j=(ln s j || decide (i=j)):=by
 rw [HZ,HZ];show (s ||| 1 <<< i).testBit j=_;rw [Nat.testBit_or,Nat.testBit_shiftLeft];by_cases h:i=j
 ·subst h;simp
 ·by_cases h2:i<=j
  ·have:(1:Nat).testBit (j-i)=false:=by
    obtain⟨d,hd⟩:∃d,j-i=d+1:=⟨j-i-1,by omega⟩;rw [hd,Nat.testBit_succ];simp
   simp [h,h2,this]
  ·simp [h,h2]
theorem H0(i:Nat):∀(l:List (Nat × SV)) (s:Nat),ay (gM s l) i=if ln s i=true then .any else ay l i
  | [],s=>by rw [gM,ay];split<;>rfl
  |p::r,s=>by
    rw [gM]
    have hc:∀q,ay (p::q) i=if p.1=i then p.2 else ay q i:=λq=>by
      show (match Nat.beq p.1 i with|true=>p.2|false=>ay q i)=_;cases h:Nat.beq p.1 i with
      |true=>rw [if_pos (Nat.eq_of_beq_eq_true h)]
      |false=>rw [if_neg (Nat.ne_of_beq_eq_false h)]
    cases hb:ln s p.1 with
    |true =>
      show ay (gM s r) i=_;rw [H0 i r s,hc];by_cases h:p.1=i
      · rw [<-h,hb];simp
      · rw [if_neg h]
    |false =>
      show ay (p::gM (Nat.lor s (Nat.shiftLeft 1 p.1)) r) i=_;rw [hc,hc,H0 i r,SB];by_cases h:p.1=i
      · rw [if_pos h,if_pos h,<-h,hb];simp
      · simp [h]
theorem Oi(t:List (Nat × SV))(i:Nat):ay (gM 0 t) i=ay t i:=by
 rw [H0,HZ];simp
def St.H2(st:St)(c:aw)(K:St->R):R :=
  match st with
  |⟨t,n,m,_,o,r,d,k,df⟩=>match c with
    |⟨ni,nb,nv,np,nk,ns,nl⟩=>K ⟨t,n,m,⟨ni,nb,nv,np,nk,ns,nl⟩,o,r,d,k,df⟩
def St.Dp(st:St)(x:Nat × SV)(c:aw)(K:St->R):R :=
  match st with
  |⟨t,n,m,_,o,r,d,k,df⟩=>match c with
    |⟨ni,nb,nv,np,nk,ns,nl⟩=>K ⟨x::t,n,m,⟨ni,nb,nv,np,nk,ns,nl⟩,o,r,d,k,df⟩
def CB(a b:IntKind):Bool:=Nat.beq a.ctorIdx b.ctorIdx
theorem Oj(a b:IntKind):CB a b=true↔a=b:=by cases a<;>cases b<;>decide
def vx(v:SV)(K:SV->R):R :=
 match v with
 | .cv c=>K (.cv c)
 | .dt l=>K (.dt l)
 | .any=>K .any
 | .eH=>K .eH
theorem SC(v:SV)(K:SV->R):vx v K=K v:=by cases v<;>rfl
def pa(K:List (Nat × SV)->R):List SV->Nat->List (Nat × SV)->R
 | [],_,acc=>o9 K acc []
 |v::r,i,acc=>vx v λv=>l_ (i+1) λj=>pa K r j ((i,v)::acc)
theorem Ol(K:List (Nat × SV)->R):∀(l:List SV) (i:Nat) (acc:List (Nat × SV)),pa K l i acc=K (acc.reverse++(List.range' i l.length).zip l)
  | [],i,acc=>by rw [pa,Gh];simp
  |v::r,i,acc=>by
    rw [pa,SC,Gg,Ol K r];simp [List.range'_succ]
theorem H3(K:List (Nat × SV)->R)(l:List SV):pa K l 0 []=K ((List.range l.length).zip l):=by
 rw [Ol,List.range_eq_range'];rfl
def St.put(A:b_ R)(st:St)(dst:Option Tmp)(v:SV)(c:aw)(K:St->R):R :=
  match dst with
  |none=>st.H2 c K
  |some d=>match Nat.blt d st.n with
    |true=>match v.wf c with
      |true=>pC v λv=>st.Dp (d,v) c K
      |false => A.fail "put"
    |false => A.fail "put"
def aP(P:Program)(t:TypeId):Option (Bool × Nat) :=
 match P.underlying t,P.info? t with
 |some d,some i=>some (match d with | .struct _ | .array _ _=>true|_=>false,i.size)
 |_,_=>none
def pieces{α:Type}(f:α->Option (List CK)):List α->Option (List CK)
  | []=>some []
  |x::l=>match f x,pieces f l with
    |some a,some b=>some (a++b)
    |_,_=>none
def times{α:Type}(l:List α):Nat->List α
 |0=>[]
 |n+1=>l++times l n
def vy(P:Program):Nat->TypeId->Option (List CK)
  |0,_=>none
  |n+1,t=>match P.underlying t with
    |some (.int k)=>some [.int k]
    |some .bool=>some [.bool]
    |some (.struct fs)=>pieces (λf=>vy P n f.type) fs.toList
    |some (.array m e)=>(vy P n e).map (times · m)
    |some .string=>some [.str]
    |some (.slice e)=>match aP P e with
      |some (_,s)=>some [.sl s]
      |none=>none
    |some _=>some [.uY]
    |none=>none
def bz(c:aw):CK->At
 | .int k=>.int k (.var c.ni)
 | .bool=>.bool (.var c.nb)
 | .uY=>.val c.nv
 | .str=>.sv c.ns
 | .sl sz=>.gV c.nb c.np sz (.var c.ni) (.var (c.ni+1))
 | .own _ _=>.own c.nk
def bd(c:aw):CK->aw
 | .int _ => {c with ni:=c.ni+1}
 | .bool => {c with nb:=c.nb+1}
 | .uY => {c with nv:=c.nv+1}
 | .str => {c with ns:=c.ns+1}
 | .sl _ => {c with nb:=c.nb+1,np:=c.np+1,ni:=c.ni+2}
 | .own _ _ => {c with nk:=c.nk+4,nl:=c.nl+1}
def CK.plain:CK->Bool
 | .own .. => false
 |_=>true
def ax(c:aw):List CK->List At
 | []=>[]
 |k::l=>bz c k::ax (bd c k) l
def aX(c:aw):List CK->aw
 | []=>c
 |k::l=>aX (bd c k) l
def bo(c:aw):List CK->bq
 | []=>[]
 | .own sz t::l=>(c.nk,[.var c.nl],sz,t)::bo (bd c (.own sz t)) l
 |k::l=>bo (bd c k) l
def iO(P:Program):List TypeId->Option (List (Bool × List CK))
  | []=>some []
  |t::l=>match aP P t,vy P 30 t,iO P l with
    |some (g,_),some ks,some r=>if (g=true∨ks.length=1)/\ks.all CK.plain=true then some ((g,ks)::r)else none
    |_,_,_=>none
def cw:List (Bool × List CK)->List CK
 | []=>[]
 | (_,ks)::r=>ks++cw r
def eY(g:Bool)(l:List At):CV :=
 match g,l with
 |false,[a]=>.one a
 |_,l=>.agg l
def bX:List (Bool × List CK)->List At->List CV
 | [],_=>[]
 | (g,ks)::r,l=>eY g (l.take ks.length)::bX r (l.drop ks.length)
def cZ(cs:List CV):SV :=
 match cs with
 | [c]=>.cv c
 |cs=>.dt cs
def iA(A:b_ R)(c:aw)(k:IntKind)(p:IP)(K:SV->aw->R):R :=
  match p.lits with
  |true=>lj (p.den Env.zero) λz=>K (.cv (.one (.int k (.lit z)))) c
  |false => if p.wf c = true then A.int c.ni p (K (.cv (.one (.int k (.var c.ni)))) { c with ni := c.ni+1 }) else A.fail "int"
def rW(A:b_ R)(c:aw)(p:IP)(K:IE->aw->R):R :=
  if p.lits=true then lj (p.den Env.zero) λz=>K (.lit z) c
  else if p.wf c = true then A.int c.ni p (K (.var c.ni) { c with ni := c.ni+1 }) else A.fail "sum"
def qQ(A:b_ R)(c:aw)(op:IE->IE->IP)(a b:IE)(K:IE->aw->R):R:=rW A c (op a b) K
def iP(A:b_ R)(c:aw)(ce:CE)(sz:Nat)(K:IE->aw->R):R:=rW A c (.rS (nD ce) (kS ce) sz) K
def bH(A:b_ R)(e:BE)(r:R):R :=
 match e.lb with
 | .lit true=>r
 |e'=>A.A2 e' r
def gC(A:b_ R)(e:BE)(t f:Unit->R):R :=
 match e with
 | .lit true=>t ()
 | .lit false=>f ()
 |e =>
 match e.lb with
 | .lit true=>t ()
 | .lit false=>f ()
 | .not e'=>A.ite e' (f ()) (t ())
 | .cmp .neq a b=>A.ite (.cmp .eql a b) (f ()) (t ())
 |e'=>A.ite e' (t ()) (f ())
def jB(A:b_ R)(e:IE)(n:Nat):Nat->(Nat->R)->R
  |0, _ => A.fail "cases"
  |1,K=>K (n-1)
  |j+2,K=>gC A (.cmp .eql e (.lit ((n-(j+2):Nat):Int))) (λ_=>K (n-(j+2))) (λ_=>jB A e n (j+1) K)
def kz:BinOp->Bool
 | .add | .sub | .mul | .and | .or | .xor | .andNot=>true
 |_=>false
def pb:BinOp->Bool
 | .eql | .neq | .lss | .leq | .gtr | .geq=>true
 |_=>false
def uj(P:Program)(f:TypeId->Option (List CK)):Nat->List Field->Option (List CK)
  |_,[]=>some []
  |off, fd :: r => if fd.name = "_" ∨ fd.offset ≠ off then none else match f fd.type, aP P fd.type with
    |some ks,some (_,n)=>if n=ks.length then (uj P f (off+n) r).map (ks ++ ·)else none
    |_,_=>none
def kU(P:Program):Nat->TypeId->Option (List CK)
  |0,_=>none
  |n+1,t=>match P.underlying t with
    |some (.int k)=>some [.int k]
    |some .bool=>some [.bool]
    |some .string=>some [.str]
    |some (.struct fs)=>if P.stoodInHeld t=true then none else uj P (kU P n) 0 fs.toList
    |some (.array m e)=>match kU P n e,aP P e with
      |some ks,some (_,s)=>if s=ks.length then some (times ks m)else none
      |_,_=>none
    |_=>none
def strOf:At->Option SE
 | .str l=>some (.lit l)
 | .sv i=>some (.var i)
 |_=>none
def gh(k:CK)(a b:At):Option BE :=
  match k with
  | .int k=>match a,b with
    | .int k1 a,.int k2 b=>if k1=k/\k2=k then some (.cmp .eql a b)else none
    |_,_=>none
  | .bool=>match a,b with
    | .bool a,.bool b=>some (.eq a b)
    |_,_=>none
  | .str=>match strOf a,strOf b with
    |some p,some q=>some (.seq p q)
    |_,_=>none
  |_=>none
def bj:List CK->List At->List At->Option BE
  | [],[],[]=>some (.lit true)
  |k::r,a::x,b::y=>match gh k a b,bj r x y with
    |some e,some e'=>some (.and e e')
    |_,_=>none
  |_,_,_=>none
inductive Nl where
 |lq
 |held
 |may (q:Nat)
 |SD
 deriving DecidableEq
def pD:At->Nl
 | .qL=>.lq
 | .loc .. | .ext .. | .gg .. => .held
 | .dK=>.lq
 | .gY .. | .nm .. => .held
 | .gV q .. => .may q
 | .rU=>.lq
 | .fn .. | .ir .. | .rV .. | .qM .. => .held
 |_=>.SD
def uk:Nl->Nl->Option BE
 | .lq,.lq=>some (.lit true)
 | .lq,.held | .held,.lq=>some (.lit false)
 | .lq,.may q | .may q,.lq=>some (.var q)
 |_,_=>none
def ee:At->Nat
 | .qL | .loc .. | .ext .. | .gg .. => 0
 | .dK | .gY .. | .nm .. | .gV .. => 1
 | .rU | .fn .. | .ir .. | .rV .. | .qM .. => 2
 |_=>3
def pc(P:Program)(t:TypeId)(x y:At):Option BE :=
  match P.underlying t with
  | some (.pointer e)=>if ee x=0/\ee y=0 then match uk (pD x) (pD y)with
      |some b=>some b
      |none=>match x,y with
        | .loc k o,.loc k' o'=>match aP P e with
          |some (_,n)=>if k=k'/\n≠0 then some (.lit (decide (o=o')))else none
          |none=>none
        |_,_=>none
    else none
  |some (.slice _)=>if ee x=1/\ee y=1 then uk (pD x) (pD y)else none
  |some (.func _ _ _)=>if ee x=2/\ee y=2 then uk (pD x) (pD y)else none
  |_=>none
def nF(g:Bool)(n:Nat):CV->Bool
 | .one _ => !g && decide (n=1)
 | .agg l=>g && decide (l.length=n)
def dD(g:Bool)(n:Nat):Nat:=2*n+if g=true then 1 else 0
structure g_ where
 key:TypeId
 el:TypeId
 ks:List CK
 gk:Bool
 ge:Bool
 ne:Nat
def g_.no(x:g_):Nat:=dD x.gk x.ks.length*1048576+dD x.ge x.ne
def gi(P:Program)(t:TypeId):Option g_ :=
  match P.underlying t with
  |some (.map key el)=>match kU P 30 key,aP P key,aP P el with
    |some ks,some (gk,nk),some (ge,ne)=>if nk=ks.length/\0<nk/\nk<500000/\ne<500000 then some ⟨key,el,ks,gk,ge,ne⟩else none
    |_,_,_=>none
  |_=>none
def tg:Value->Value->Bool
 | .int k a,.int k' b=>decide (k=k') && a == b
 | .bool a,.bool b=>a == b
 | .string a,.string b=>decide (a.data.toList=b.data.toList)
 |_,_=>false
def mG:List Value->List Value->Bool
 | [],[]=>true
 |a::x,b::y=>tg a b && mG x y
 |_,_=>false
def nG:CK->Value->Bool
 | .int k,.int k' _=>decide (k'=k)
 | .bool,.bool _=>true
 | .str,.string _=>true
 |_,_=>false
def hJ:List CK->List Value->Bool
 | [],[]=>true
 |k::r,v::l=>nG k v && hJ r l
 |_,_=>false
def lr(ks:List CK)(n:Nat):Nat->List Value->Bool
 |0,_=>true
 |_+1,[]=>true
 |f+1,l=>hJ ks (l.take ks.length) && lr ks n f (l.drop n)
def vz(ks:List CK)(n:Nat)(l:List Value):Bool:=lr ks n l.length l
def du(nk n:Nat)(key:List Value):Nat->List Value->Option Nat
 |0,_=>none
 |_+1,[]=>none
 |f+1,l=>if mG key (l.take nk)=true then some 0 else (du nk n key f (l.drop n)).map (·+1)
def nH(nk n:Nat)(key l:List Value):Int :=
 match du nk n key l.length l with
 |some i=>(i:Int)
 |none => -1
def iB:CK->At->Bool
 | .int k,.int k' _=>decide (k'=k)
 | .bool,.bool _=>true
 | .str,a=>(strOf a).isSome
 |_,_=>false
def gj:List CK->List At->Bool
 | [],[]=>true
 |k::r,a::l=>iB k a && gj r l
 |_,_=>false
def pE(A:b_ R)(c:aw)(x:g_)(ce:CE)(kc:List At)(K:IE->aw->R):R :=
  if gj x.ks kc=true/\gZ ce=true/\kc.all At.flat=true/\cH c ce=true/\kc.all (At.wf c)=true then
    A.Dn c.ni ce kc x.ks x.ne (K (.var c.ni) {c with ni:=c.ni+1})
  else A.fail "map: keys"
def lu(A:b_ R)(c:aw)(x:g_)(kc:List At)(found:Nat->List At->R)(Dq:Unit->R):Nat->List At->Nat->R
  |0, _, _ => A.fail "map: entries"
  |n+1,cs,i=>if cs=[]then Dq ()else
    match bj x.ks kc (cs.take x.ks.length)with
    | some e=>if e.wf c=true/\x.ks.length + x.ne<=cs.length then
        gC A e (λ_=>found i ((cs.drop x.ks.length).take x.ne)) (λ_=>lu A c x kc found Dq n (cs.drop (x.ks.length+x.ne)) (i+1))
      else A.fail "map: entries"
    |none => A.fail "map: keys"
def nI(A:b_ R)(c:aw)(p:SP)(K:SV->aw->R):R :=
  if p.lits=true/\p.okB=true then gQ (λl=>K (.cv (.one (.str l))) c) (p.den Env.zero) []
  else if p.wf c = true then A.str c.ns p (K (.cv (.one (.sv c.ns))) { c with ns := c.ns+1 }) else A.fail "string"
def mH(A:b_ R)(P:Program)(c:aw)(op:BinOp)(t:TypeId)(x y:SV)(K:SV->aw->R):R :=
  match x,y with
  | .cv (.one (.int k a)),.cv (.one (.int k' b)) =>
    if op=.shl then
      match b with
      | .lit n => if 0 <= n /\ n.toNat<k.bits then iA A c k (.shl k a n.toNat) K else A.fail "shift"
      |b=>bH A (.cmp .geq b (.lit 0)) (iA A c k (.bin .shl k a b) K)
    else if op=.shr then
      match b with
      | .lit n => if 0 <= n /\ n.toNat<k.bits then iA A c k (.shr a n.toNat) K else A.fail "shift"
      |b=>bH A (.cmp .geq b (.lit 0)) (iA A c k (.bin .shr k a b) K)
    else if k=k' then
      if kz op then iA A c k (.bin op k a b) K
      else if op=.quo∨op=.rem then bH A (.cmp .neq b (.lit 0)) (iA A c k (.bin op k a b) K)
      else if pb op then K (.cv (.one (.bool (BE.cmp op a b).lb))) c
      else A.fail "binOp"
    else A.fail "binOp: zdp"
  | .cv (.one (.bool a)),.cv (.one (.bool b)) =>
    match P.underlying t with
    |some .bool =>
      if op=.eql then K (.cv (.one (.bool (BE.eq a b).lb))) c
      else if op=.neq then K (.cv (.one (.bool (BE.not (BE.eq a b)).lb))) c
      else A.fail "binOp: bools"
    |_ => A.fail "binOp: bools"
  | .cv (.agg a),.cv (.agg b) =>
    match kU P 30 t,aP P t with
    |some ks,some (true,_)=>match bj ks a b with
      |some e =>
        if P.eqGuardType P.depth t = true then A.fail "binOp: guard"
        else if op=.eql then K (.cv (.one (.bool e.lb))) c
        else if op=.neq then K (.cv (.one (.bool (BE.not e).lb))) c
        else A.fail "binOp: structs"
      |none => A.fail "binOp: cells"
    |_, _ => A.fail "binOp: types"
  | .cv (.one x),.cv (.one y) =>
    match P.underlying t,strOf x,strOf y with
    |some .string,some a,some b =>
      if op=.eql then K (.cv (.one (.bool (BE.seq a b).lb))) c
      else if op=.neq then K (.cv (.one (.bool (BE.not (BE.seq a b)).lb))) c
      else if op=.add then nI A c (.cat a b) K
      else A.fail "binOp: strings"
    |_,_,_=>match pc P t x y with
      |some e =>
        if op=.eql then K (.cv (.one (.bool e.lb))) c
        else if op=.neq then K (.cv (.one (.bool (BE.not e).lb))) c
        else A.fail "binOp: operands"
      |none => A.fail "binOp: operands"
  |_, _ => A.fail "binOp: operands"
def pF(A:b_ R)(p:Nat)(ix:IE)(sz:Nat):Nat->List CK->aw->(List At->aw->R)->R
 |_,[],c,K=>K [] c
 |off,k::l,c,K=>A.load (bz c k) p ix sz off (pF A p ix sz (off+1) l (bd c k) λr c'=>K (bz c k::r) c')
def th(A:b_ R)(ce:CE)(ix:IE)(sz:Nat):Nat->List CK->aw->(List At->aw->R)->R
 |_,[],c,K=>K [] c
 |off,k::l,c,K=>A.rd (bz c k) ce ix sz off (th A ce ix sz (off+1) l (bd c k) λr c'=>K (bz c k::r) c')
def iC(ce:CE)(ix:IE)(sz off:Nat):Option (List At × Nat) :=
 match ix,eR ce with
 | .lit j,some cs=>some (cs,j.toNat*sz+off)
 |_,_=>none
def nJ(A:b_ R)(P:Program)(m:Mem)(o:bq)(c:aw)(t:TypeId)(x:SV)(K:SV->aw->R):R :=
  match aP P t with
  |none => A.fail "load: type"
  |some (g,n) =>
    match x with
    | .cv (.one (.gg k ix sz off)) =>
      match aM o k with
      |none => A.fail "load: no such row"
      |some (ce,s0,t0)=>if 0<s0∨t0=0 then
        match iC ce ix sz off with
        |some (cs,p) =>
          if g=true then
            if p+n <= cs.length then K (.cv (.agg ((cs.drop p).take n))) c else A.fail "load: beyond"
          else match cs[p]? with
            |some a=>K (.cv (.one a)) c
            |none => A.fail "load: beyond"
        |none =>
          match vy P 30 t with
          |none => A.fail "load: zdp"
          |some ks =>
            if ks.length=(if g=true then n else 1)/\ks.all CK.plain=true/\gZ ce=true/\cH c ce=true/\ix.wf c=true then
              th A ce ix sz off ks c λl c'=>K (.cv (eY g l)) c'
            else A.fail "load: zdp"
        else A.fail "load: a map"
    | .cv (.one (.loc k off)) =>
      match getM m k with
      |none => A.fail "load: no such block"
      |some (cs,_) =>
        if g=true then
          if off+n <= cs.length then K (.cv (.agg ((cs.drop off).take n))) c else A.fail "load: beyond"
        else match cs[off]? with
          |some a=>K (.cv (.one a)) c
          |none => A.fail "load: beyond"
    | .cv (.one (.ext p ix sz off)) =>
      match vy P 30 t with
      |none => A.fail "load: zdp"
      |some ks =>
        if ks.length=(if g=true then n else 1)/\ks.all CK.plain=true/\p<c.np/\ix.wf c=true then
          pF A p ix sz off ks c λl c'=>K (.cv (eY g l)) c'
        else A.fail "load: zdp"
    |_ => A.fail "load: address"
def vA(A:b_ R)(c:aw)(op:UnOp)(x:SV)(K:SV->aw->R):R :=
  match op,x with
  | .neg,.cv (.one (.int k a))=>iA A c k (.neg k a) K
  | .xor,.cv (.one (.int k a))=>iA A c k (.Gc k a) K
  | .not,.cv (.one (.bool a))=>K (.cv (.one (.bool (BE.not a).lb))) c
  |_, _ => A.fail "unOp"
def rX(A:b_ R)(P:Program)(c:aw)(s d:TypeId)(x:SV)(K:SV->aw->R):R :=
  match P.underlying s,P.underlying d,x with
  |some _,some (.int k),.cv (.one (.int _ a))=>iA A c k (.conv k a) K
  |_, _, _ => A.fail "convert"
def partOf(P:Program)(t:TypeId)(cs:List At)(off:Nat):Option CV :=
 match aP P t with
 |some (true,n)=>if off+n<=cs.length then some (.agg ((cs.drop off).take n))else none
 |some (false,_)=>(cs[off]?).map .one
 |none=>none
def lx(A:b_ R)(P:Program)(c:aw)(t:TypeId)(x:SV)(f:Nat)(K:SV->aw->R):R :=
  match P.underlying t,x with
  |some (.struct fs),.cv (.agg cs) =>
    match fs[f]? with
    |some fd=>match partOf P fd.type cs fd.offset with
      |some v=>K (.cv v) c
      |none => A.fail "field: part"
    |none => A.fail "field"
  |_, _ => A.fail "field"
def gm(A:b_ R)(P:Program)(c:aw)(s:TypeId)(x:SV)(f:Nat)(K:SV->aw->R):R :=
  match P.underlying s with
  |some (.struct fs)=>match fs[f]? with
    |some fd=>match aP P fd.type with
      |some (_, n) => if n = 0 then A.fail "fieldAddr: no cells" else match x with
        | .cv (.one (.loc k off))=>K (.cv (.one (.loc k (off+fd.offset)))) c
        | .cv (.one (.ext p ix sz off))=>K (.cv (.one (.ext p ix sz (off+fd.offset)))) c
        | .cv (.one (.gg k ix sz off))=>K (.cv (.one (.gg k ix sz (off+fd.offset)))) c
        |_ => A.fail "fieldAddr: address"
      |none => A.fail "fieldAddr"
    |none => A.fail "fieldAddr"
  |_ => A.fail "fieldAddr"
def gp(A:b_ R)(P:Program)(o:bq)(c:aw)(t:TypeId)(x i:SV)(K:SV->aw->R):R :=
  match i with
  | .cv (.one (.int _ e)) =>
    match P.underlying t,x with
    |some (.slice el),.cv (.one (.own k))=>match aP P el,aM o k with
      | some (_,s),some (ce,sz,_)=>if s=sz/\0 < sz then
          iP A c ce sz λn c1=>bH A (.cmp .geq e (.lit 0)) (bH A (.cmp .lss e n) (K (.cv (.one (.gg k e sz 0))) c1))
        else A.fail "indexAddr: a part of a row"
      |_, _ => A.fail "indexAddr: no such row"
    |some (.slice el),.cv (.one (.qz k))=>match aP P el,aM o k with
      | some (_,s),some (ce,sz,t0)=>if s=1/\sz=0/\t0=0 then
          iP A c ce 1 λn c1=>bH A (.cmp .geq e (.lit 0)) (bH A (.cmp .lss e n) (K (.cv (.one (.gg k e 1 0))) c1))
        else A.fail "indexAddr: bytes"
      |_, _ => A.fail "indexAddr: no such row"
    |some (.slice el),.cv (.one (.gV q p sz len _))=>match aP P el with
      | some (_,s)=>if s=sz then
          bH A (.not (.var q)) (bH A (.cmp .geq e (.lit 0)) (bH A (.cmp .lss e len) (K (.cv (.one (.ext p e sz 0))) c)))
        else A.fail "indexAddr: a part of a slice"
      |none => A.fail "indexAddr"
    |some (.array n el),.cv (.one (.gg k ix sz off))=>match aP P el with
      |some (_,s)=>match e with
        | .lit j => if 0 <= j /\ j.toNat<n then K (.cv (.one (.gg k ix sz (off+j.toNat*s)))) c else A.fail "indexAddr: beyond"
        |e=>bH A (.cmp .geq e (.lit 0)) (bH A (.cmp .lss e (.lit n)) (jB A e n n λj=>K (.cv (.one (.gg k ix sz (off+j*s)))) c))
      |none => A.fail "indexAddr"
    |some (.array n el),.cv (.one (.loc k off))=>match aP P el with
      |some (_,s)=>match e with
        | .lit j => if 0 <= j /\ j.toNat<n then K (.cv (.one (.loc k (off+j.toNat*s)))) c else A.fail "indexAddr: beyond"
        |e=>bH A (.cmp .geq e (.lit 0)) (bH A (.cmp .lss e (.lit n)) (jB A e n n λj=>K (.cv (.one (.loc k (off+j*s)))) c))
      |none => A.fail "indexAddr"
    |some (.array n el),.cv (.one (.ext p ix sz off))=>match aP P el with
      |some (_,s)=>match e with
        | .lit j => if 0 <= j /\ j.toNat<n then K (.cv (.one (.ext p ix sz (off+j.toNat*s)))) c else A.fail "indexAddr: beyond"
        |e=>bH A (.cmp .geq e (.lit 0)) (bH A (.cmp .lss e (.lit n)) (jB A e n n λj=>K (.cv (.one (.ext p ix sz (off+j*s)))) c))
      |none => A.fail "indexAddr"
    |some (.slice el),.cv (.one (.gY k off len _))=>match aP P el with
      |some (_,s)=>match e with
        | .lit j => if 0 <= j /\ j.toNat<len then K (.cv (.one (.loc k (off+j.toNat*s)))) c else A.fail "indexAddr: beyond"
        |e=>bH A (.cmp .geq e (.lit 0)) (bH A (.cmp .lss e (.lit len)) (jB A e len len λj=>K (.cv (.one (.loc k (off+j*s)))) c))
      |none => A.fail "indexAddr"
    |some (.slice el),.cv (.one (.nm p ix sz len _))=>match aP P el with
      | some (_,s)=>if s=sz then
          bH A (.cmp .geq e (.lit 0)) (bH A (.cmp .lss e len) (if ix=.lit 0 then K (.cv (.one (.ext p e sz 0))) c
            else bH A (.cmp .geq ix (.lit 0)) (qQ A c .sum ix e λe' c'=>K (.cv (.one (.ext p e' sz 0))) c')))
        else A.fail "indexAddr: a part of a slice"
      |none => A.fail "indexAddr"
    |_, _ => A.fail "indexAddr: operand"
  |_ => A.fail "indexAddr: index"
def ly(A:b_ R)(P:Program)(c:aw)(t:TypeId)(x i:SV)(K:SV->aw->R):R :=
  match i with
  | .cv (.one (.int _ e)) =>
    match P.underlying t,x with
    |some (.array n el),.cv (.agg cs)=>match aP P el with
      |some (_,s)=>match e with
        | .lit j=>if 0<=j/\j.toNat < n then match partOf P el cs (j.toNat * s)with
            |some v=>K (.cv v) c
            |none => A.fail "index: part"
          else A.fail "index: beyond"
        | e => bH A (.cmp .geq e (.lit 0)) (bH A (.cmp .lss e (.lit n)) (jB A e n n fun j=>match partOf P el cs (j * s)with
            |some v=>K (.cv v) c
            |none => A.fail "index: part"))
      |none => A.fail "index"
    |some .string,.cv (.one x)=>match strOf x with
      |some s=>rW A c (.qJ s) λn c1=>bH A (.cmp .geq e (.lit 0)) (bH A (.cmp .lss e n) (iA A c1 .u8 (.uf s e) K))
      |none => A.fail "index: a string"
    |_, _ => A.fail "index: operand"
  |_ => A.fail "index: index"
def A3(op:BinOp)(a b:IE):BE :=
 match a,b with
 | .lit x,.lit y=>.lit (iN op x y)
 |a,b=>(BE.cmp op a b).lb
theorem H4(op:BinOp)(a b:IE):A3 op a b=(BE.cmp op a b).lb:=by
 unfold A3;split<;>simp [BE.lb]
def pG(A:b_ R)(P:Program)(c:aw)(op:BinOp)(t:TypeId)(k k':IntKind)(a b:IE)(K:SV->aw->R):R :=
  match pb op with
  |true=>match CB k k' with
    |true=>K (.cv (.one (.bool (A3 op a b)))) c
    |false => A.fail "binOp: zdp"
  |false=>match kz op with
    |true=>match CB k k' with
      |true=>iA A c k (.bin op k a b) K
      |false => A.fail "binOp: zdp"
    |false=>mH A P c op t (.cv (.one (.int k a))) (.cv (.one (.int k' b))) K
theorem SF(A:b_ R)(P:Program)(c:aw)(op:BinOp)(t:TypeId)(k k':IntKind)(a b:IE)(K:SV->aw->R):pG A P c op t k k' a b K=mH A P c op t (.cv (.one (.int k a))) (.cv (.one (.int k' b))) K:=by
 by_cases hk:k=k'
 ·have h2:CB k k'=true:=(Oj k k').2 hk;unfold pG;rw [h2];unfold mH;cases op<;>simp [pb,kz,hk,H4]
 ·have h2:CB k k'=false:=by
   cases h:CB k k' with
   |true=>exact absurd ((Oj k k').1 h) hk
   |false=>rfl
  unfold pG;rw [h2];unfold mH;cases op<;>simp [pb,kz,hk]
def dc(place:Nat->Option (Nat × Nat))(cells:List At):List (Nat × SV)->Option (List At)
  | []=>some cells
  | (i,.cv v)::r=>match place i with
    |some (off,size)=>if v.cells.length=size/\off+size<=cells.length then dc place (cells.take off++v.cells++cells.drop (off+size)) r else none
    |none=>none
  |_::_=>none
def de(P:Program)(t:TypeId):Option CV :=
  match P.info? t with
  |some i=>match i.zero with
    |some v=>match SV.ofValue v with
      | .cv c=>some c
      |_=>none
    |none=>none
  |none=>none
def ei(P:Program):List Field->Option (List (Nat × Nat))
  | []=>some []
  |f::l=>match aP P f.type,ei P l with
    |some (_,n),some r=>some ((f.offset,n)::r)
    |_,_=>none
def lz(A:b_ R)(P:Program)(c:aw)(t:TypeId)(parts:List (Nat × SV))(K:SV->aw->R):R :=
  match P.underlying t,de P t with
  |some (.struct fs),some z=>match ei P fs.toList with
    |some pl=>match dc (pl[·]?) z.cells parts with
      |some cs=>K (.cv (.agg cs)) c
      |none => A.fail "build: parts"
    |none => A.fail "build: places"
  |some (.array _ el),some z=>match aP P el with
    |some (_,s)=>match dc (λi=>some (i*s,s)) z.cells parts with
      |some cs=>K (.cv (.agg cs)) c
      |none => A.fail "build: parts"
    |none => A.fail "build"
  |_, _ => A.fail "build"
def gD:List SV->Option (List (Nat × Nat))
 | []=>some []
 | .cv (.one (.loc k o))::r=>(gD r).map ((k,o) :: ·)
 |_=>none
def eI(o:bq):List At->bq
  | []=>[]
  | .own k::r=>match aM o k with
    |some v=>(k,v)::eI o r
    |none=>eI o r
  |_::r=>eI o r
def c9(m:Mem):List At->Mem
  | []=>[]
  | .loc k _::r | .gY k _ _ _::r=>match getM m k with
    |some v=>(k,v)::c9 m r
    |none=>c9 m r
  |_::r=>c9 m r
def aV:SV->List At
 | .cv c=>c.cells
 |_=>[]
def ka:SV->Bool
 | .any=>true
 | .eH=>true
 |_=>false
def nL:SV->List CV
 | .cv c=>[c]
 | .dt l=>l
 |_=>[]
def kA:CE->List At
 | []=>[]
 | .cG l::r=>l++kA r
 | .var _::r=>kA r
def inside(m:Mem)(o:bq):List At->List At
 | []=>[]
 | .loc k _::r | .gY k _ _ _::r=>(match getM m k with|some (cs,_)=>cs|none=>[])++inside m o r
 | .own k::r=>(match aM o k with|some (ce,_,_)=>kA ce|none=>[])++inside m o r
 |_::r=>inside m o r
def deep(m:Mem)(o:bq):Nat->List At->List At
 |0,l=>l
 |n+1,l=>l++deep m o n (inside m o l)
def cR(m:Mem)(o:bq)(args:List SV):List At:=deep m o 2 (args.flatMap aV)
def SG(z:Int):Nat:=if z<0 then 2*z.natAbs-1 else 2*z.natAbs
def Dr(n:Nat):Int:=if n % 2=1 then -(((n+1) / 2:Nat):Int)else ((n / 2:Nat):Int)
def nM:List At->List (Nat × Nat)
 | []=>[]
 | .int _ (.lit z)::r=>(10,SG z)::nM r
 | .bool (.lit b)::r=>(11,if b=true then 1 else 0)::nM r
 | .str l::r=>(12,l.length)::(l.map λb=>(13,b.toNat))++nM r
 |_::r=>nM r
def rY:List SV->List (Nat × Nat)
 | []=>[]
 | .cv v::r=>nM v.cells++rY r
 |_::r=>rY r
def pH:List CK->List (Nat × Nat)->Option (List At)
 | [],[]=>some []
 | .int k::r,(0,n)::l=>(pH r l).map (.int k (.lit (Dr n)) :: ·)
 | .bool::r,(1,n)::l=>(pH r l).map (.bool (.lit (decide (n=1))) :: ·)
 | .str::r,(2,n)::l=>(pH r (l.drop n)).map (.str ((l.take n).map λx=>UInt8.ofNat x.2) :: ·)
 |_,_=>none
def nN(ks:List CK)(key:List (Nat × Nat)):List (List (Nat × Nat))->Option (List At)
  | []=>none
  | a :: r=>if a.take key.length=key then match pH ks (a.drop key.length)with
      |some l=>some l
      |none=>nN ks key r
    else nN ks key r
def ti(G:bW)(f:FuncId)(args:List SV)(ks:List CK):Option (List At) :=
 match G.loops.lookup (700000000000000000+f)with
 |some (.ug alts _ _ _)=>nN ks (rY args) alts
 |_=>none
def tk(b:Nat):List UInt8->Nat->Int
  | [],_ => -1
  |x::r,i=>match Nat.beq x.toNat b with
    |true=>(i:Int)
    |false=>tk b r (i+1)
def Ds:List UInt8->List UInt8->Bool
 | [],_=>true
 |_::_,[]=>false
 |a::r,b::s=>Nat.beq a.toNat b.toNat && Ds r s
def vB(p:List UInt8):List UInt8->Nat->Int
  | [],i=>if p=[]then (i:Int)else -1
  |x::r,i=>match Ds p (x::r)with
    |true=>(i:Int)
    |false=>vB p r (i+1)
def tm(G:bW)(f:FuncId)(args:List SV):Option (List At) :=
  match G.loops.lookup (300000000000000000+f)with
  |some (.inv _ [kd] _)=>match kd,args with
    |1,[.cv (.one (.str s)),.cv (.one (.int _ (.lit b)))]=>some [.int .i64 (.lit (tk b.toNat s 0))]
    |2,[.cv (.one (.str s)),.cv (.one (.str p))]=>some [.int .i64 (.lit (vB p s 0))]
    |3,[.cv (.one (.int _ (.lit x))),.cv (.one (.int _ (.lit y))),.cv (.one (.int _ (.lit z)))]=>some [.int .u64 (.lit ((x+y+z) % 18446744073709551616)),.int .u64 (.lit ((x+y+z) / 18446744073709551616))]
    |4,[.cv (.one (.int _ (.lit x))),.cv (.one (.int _ (.lit y))),.cv (.one (.int _ (.lit z)))]=>some [.int .u64 (.lit ((x-y-z) % 18446744073709551616)),.int .u64 (.lit (if x<y+z then 1 else 0))]
    |_,_=>none
  |_=>none
def ma(A:b_ R)(G:bW)(m:Mem)(o:bq)(c:aw)(f:FuncId)(args:List SV)(K:SV->aw->R):R :=
  match G.P.funcs[f]? with
  |none => A.fail "call: no such function"
  |some fn=>match iO G.P fn.resultTypes.toList with
    |none => A.fail "call: results"
    |some ss =>
      if args.any ka = true ∨ ¬args.all (SV.wf c) = true then A.fail "call: arguments"
      else if G.ext.contains f=true then
        match tm G f args with
        |some l => if l.all (At.wf c) = true /\ l.all At.flat = true then A.o8 f args [] (cZ (bX ss l)) (K (cZ (bX ss l)) c) else A.fail "call: hint"
        |none=>A.o8 f args (ax c (cw ss)) (cZ (bX ss (ax c (cw ss)))) (K (cZ (bX ss (ax c (cw ss)))) (aX c (cw ss)))
      else if G.calls.contains f=true then
        match ti G f args (cw ss)with
        |some l => if l.all (At.wf c) = true /\ l.all At.flat = true then A.call f args (c9 m (cR m o args)) (eI o (cR m o args)) [] (cZ (bX ss l)) (K (cZ (bX ss l)) c) else A.fail "call: hint"
        |none=>A.call f args (c9 m (cR m o args)) (eI o (cR m o args)) (ax c (cw ss)) (cZ (bX ss (ax c (cw ss)))) (K (cZ (bX ss (ax c (cw ss)))) (aX c (cw ss)))
      else A.fail "call: unknown function"
def dE(d:IE):Option SV->Option IE
 |none=>some d
 |some (.cv (.one (.int _ e)))=>some e
 |some _=>none
def lA(A:b_ R)(P:Program)(c:aw)(t:TypeId)(s:SE)(lo hi:Option SV)(K:SV->aw->R):R :=
  match P.underlying t,dE (.lit 0) lo,hi with
  |some .string, some l, none => if l.wf c = true then rW A c (.qJ s) λn c1 => nI A c1 (.sub s l n) K else A.fail "slice: string"
  |some .string,some l,some (.cv (.one (.int _ e)))=>nI A c (.sub s l e) K
  |_, _, _ => A.fail "slice: string"
def lC(A:b_ R)(P:Program)(c:aw)(t:TypeId)(x:SV)(lo hi:Option SV)(K:SV->aw->R):R :=
  match P.underlying t,x with
  |some (.slice el),.cv (.one (.nm p ix sz len cap))=>match aP P el,dE (.lit 0) lo,dE len hi with
    | some (_,s),some l,some h=>if s=sz then
        bH A (.cmp .geq len (.lit 0)) (bH A (.cmp .leq len cap) (bH A (.cmp .geq l (.lit 0)) (bH A (.cmp .leq l h) (bH A (.cmp .leq h cap) (
          if l=.lit 0 then K (.cv (.one (.nm p ix sz h cap))) c
          else bH A (.cmp .geq ix (.lit 0)) (qQ A c .diff h l λA4 c1=>qQ A c1 .diff cap l λA5 c2 =>
            gC A (.cmp .lss l cap) (λ_=>qQ A c2 .sum ix l λOm c3=>K (.cv (.one (.nm p Om sz A4 A5))) c3) (λ_=>K (.cv (.one (.nm p ix sz A4 A5))) c2)))))))
      else A.fail "slice: size"
    |_, _, _ => A.fail "slice: bounds"
  |some (.slice el),.cv (.one (.gY k off len cap))=>match aP P el,dE (.lit 0) lo,dE (.lit len) hi with
    |some (_,s),some (.lit l),some (.lit h) =>
      if 0 <= l /\ l <= h /\ h <= cap then K (.cv (.one (.gY k (if l.toNat = cap then off else off+l.toNat*s) (h.toNat-l.toNat) (cap-l.toNat)))) c else A.fail "slice: beyond"
    |_, _, _ => A.fail "slice: bounds"
  |some (.array n el),.cv (.one (.ext p (.lit j) sz off))=>match aP P el,dE (.lit 0) lo,dE (.lit n) hi with
    |some (_,s),some (.lit l),some (.lit h) =>
      if 0 <= l /\ l <= h /\ h <= n /\ j = 0 /\ off = 0 /\ 0<s /\ p<c.np then K (.cv (.one (.nm p (.lit (if l.toNat = n then 0 else l)) s (.lit (h-l)) (.lit (n-l))))) c else A.fail "slice: beyond"
    |_, _, _ => A.fail "slice: bounds"
  |some (.array n el),.cv (.one (.loc k off))=>match aP P el,dE (.lit 0) lo,dE (.lit n) hi with
    |some (_,s),some (.lit l),some (.lit h) =>
      if 0 <= l /\ l <= h /\ h <= n then K (.cv (.one (.gY k (if l.toNat = n then off else off+l.toNat*s) (h.toNat-l.toNat) (n-l.toNat)))) c else A.fail "slice: beyond"
    |_, _, _ => A.fail "slice: bounds"
  |_, _ => A.fail "slice: operand"
def pI(A:b_ R)(P:Program)(c:aw)(t:TypeId)(x:SV)(lo hi:Option SV)(K:SV->aw->R):R :=
  match x with
  | .cv (.one (.gV q p sz len cap))=>bH A (.not (.var q)) (bH A (.cmp .gtr cap (.lit 0)) (lC A P c t (.cv (.one (.nm p (.lit 0) sz len cap))) lo hi K))
  | .cv (.one (.str l))=>lA A P c t (.lit l) lo hi K
  | .cv (.one (.sv i))=>lA A P c t (.var i) lo hi K
  | .cv (.one (.own k))=>match P.underlying t,dE (.lit 0) lo,hi with
    |some (.slice el),some l,none=>match aP P el with
      |some _ => if l = .lit 0 then K (.cv (.one (.own k))) c else A.fail "slice: row"
      |none => A.fail "slice: row"
    |_, _, _ => A.fail "slice: row"
  |x=>lC A P c t x lo hi K
def nO(A:b_ R)(P:Program)(o:bq)(c:aw)(t:TypeId)(m k:SV)(ok:Bool)(K:SV->aw->R):R :=
  match gi P t,m,k with
  |some x,.cv (.one .kD),.cv kv=>match de P x.el with
    |some z => if nF x.gk x.ks.length kv = true then K (if ok = true then .dt [z, .one (.bool (.lit false))] else .cv z) c else A.fail "nil map: key"
    |none => A.fail "nil map: zero"
  |some x,.cv (.one (.omap j)),.cv kv=>match aM o j,de P x.el with
    |some (ce,sz,tc),some z=>match eR ce with
      | some cs=>if nF x.gk x.ks.length kv=true/\tc=x.no/\sz=0 then
          lu A c x kv.cells (λ_ v=>K (if ok=true then .dt [eY x.ge v,.one (.bool (.lit true))]else .cv (eY x.ge v)) c)
            (λ_=>K (if ok=true then .dt [z,.one (.bool (.lit false))]else .cv z) c) (cs.length+1) cs 0
        else A.fail "map: key"
      |none=>match vy P 30 x.el with
        | some ls=>if nF x.gk x.ks.length kv=true/\tc=x.no/\sz=0/\ls.length=x.ne/\ls.all CK.plain=true then
            pE A c x ce kv.cells λi c1=>gC A (.cmp .geq i (.lit 0))
              (λ_=>th A ce i (x.ks.length+x.ne) x.ks.length ls c1 λl c2=>K (if ok=true then .dt [eY x.ge l,.one (.bool (.lit true))]else .cv (eY x.ge l)) c2)
              (λ_=>K (if ok=true then .dt [z,.one (.bool (.lit false))]else .cv z) c1)
          else A.fail "map: key"
        |none => A.fail "map: elements"
    |_, _ => A.fail "map: no such"
  |_, _, _ => A.fail "lookup"
def vC(A:b_ R)(P:Program)(o:bq)(c:aw)(t:Option TypeId)(x:SV)(K:SV->aw->R):R :=
  match t.bind P.underlying,x with
  |some (.slice _),.cv (.one (.own k))=>match aM o k with
    |some (ce, sz, _) => if 0<sz then iP A c ce sz λn c1 => K (.cv (.one (.int .i64 n))) c1 else A.fail "len"
    |none => A.fail "len: no such row"
  |some (.slice _),.cv (.one (.qz k))=>match aM o k with
    |some (ce, sz, t0) => if sz = 0 /\ t0 = 0 then iP A c ce 1 λn c1 => K (.cv (.one (.int .i64 n))) c1 else A.fail "len: bytes"
    |none => A.fail "len: no such row"
  |some (.slice _),.cv (.one (.gV q _ _ len _))=>bH A (.cmp .geq len (.lit 0)) (bH A (.or (.not (.var q)) (.cmp .eql len (.lit 0))) (K (.cv (.one (.int .i64 len))) c))
  |some .string,.cv (.one (.sv i))=>rW A c (.qJ (.var i)) λn c1=>K (.cv (.one (.int .i64 n))) c1
  |some (.slice _),.cv (.one (.gY _ _ len _))=>K (.cv (.one (.int .i64 (.lit len)))) c
  |some (.slice _),.cv (.one .dK)=>K (.cv (.one (.int .i64 (.lit 0)))) c
  |some (.slice _),.cv (.one (.nm _ _ _ len _))=>bH A (.cmp .geq len (.lit 0)) (K (.cv (.one (.int .i64 len))) c)
  |some .string,.cv (.one (.str l))=>K (.cv (.one (.int .i64 (.lit l.length)))) c
  |some (.array n _),_=>K (.cv (.one (.int .i64 (.lit n)))) c
  |some (.map _ _),.cv (.one (.omap k))=>match aM o k,t.bind (gi P)with
    |some (ce,sz,tc),some x=>match eR ce with
      |some cs => if tc = x.no /\ sz = 0 then K (.cv (.one (.int .i64 (.lit (cs.length / (x.ks.length+x.ne) : Nat))))) c else A.fail "len: map"
      |none => if tc = x.no /\ sz = 0 then iP A c ce (x.ks.length+x.ne) λn c1 => K (.cv (.one (.int .i64 n))) c1 else A.fail "len: map"
    |_, _ => A.fail "len: map"
  |_, _ => A.fail "len"
def lE(A:b_ R)(c:aw)(mx:Bool)(x y:SV)(K:SV->aw->R):R :=
  match x,y with
  | .cv (.one (.int k a)),.cv (.one (.int _ b))=>iA A c k (if mx then .max a b else .min a b) K
  |_, _ => A.fail "min, max"
def mb(P:Program)(o:bq)(op:BinOp)(t:TypeId)(x y:SV):Option (CE × Nat) :=
  if op=.eql∨op=.neq then
    match P.underlying t,x,y with
    |some (.slice _),.cv (.one (.own k)),.cv (.one .dK)=>match aM o k with
      |some (ce,sz,_)=>if 0<sz then some (ce,sz)else none
      |none=>none
    |_,_,_=>none
  else none
def kV(k:cd):SV->Option Bool
  | .cv (.one .oQ)=>some true
  | .cv (.one (.val i))=>match gL k i with
    |some _=>some false
    |none=>none
  |_=>none
def pd:Operand->Bool
 | .const _=>true
 |_=>false
def nP(P:Program)(k:cd)(op:BinOp)(t:TypeId)(xo yo:Operand)(x y:SV):Option Bool :=
  match P.underlying t with
  |some (.interface _)=>match kV k x,kV k y with
    |some a,some b=>if (a=true∨b=true)/\(pd xo=true∨pd yo=true)then (if op=.eql then some (a == b)else if op=.neq then some (!(a == b))else none)else none
    |_,_=>none
  |_=>none
def methodOf(P:Program)(t:TypeId)(name:String):Option FuncId :=
  match P.info? t,P.underlying t with
  |some i,some d=>match i.methods.find? (·.name == name)with
    |some m=>match m.func,m.path.toList with
      |some (f,false),[]=>match d with
        | .pointer _=>none
        |_=>some f
      |_,_=>none
    |none=>none
  |_,_=>none
def lF(G:bW)(k:cd)(c:aw)(t:TypeId)(x:SV):Option (Nat × List At × TypeId × CV) :=
  match x with
  | .cv (.one (.ext p (.lit j) sz off))=>match o7 k p with
    |some g=>match G.aZ.lookup g with
      |some (cs,ty)=>match partOf G.P t cs (j.toNat*sz+off)with
        |some v=>if cs.all (At.wf c)=true/\cs.all At.flat=true then some (g,cs,ty,v)else none
        |none=>none
      |none=>none
    |none=>none
  |_=>none
def doAssert(A:b_ R)(P:Program)(k:cd)(c:aw)(x:SV)(asserted:TypeId)(ok:Bool)(K:SV->aw->R):R :=
  match P.underlying asserted,x with
  |some (.interface _), _ => A.fail "typeAssert: an interface"
  |some _,.cv (.one (.val i))=>match gL k i with
    |some (t,v) =>
      if t=asserted then K (if ok=true then .dt [v,.one (.bool (.lit true))]else .cv v) c
      else if ok=true then match de P asserted with
        |some z=>K (.dt [z,.one (.bool (.lit false))]) c
        |none => A.fail "typeAssert: zero"
      else A.fail "typeAssert: panics"
    |none => A.fail "typeAssert: unknown"
  | some _,.cv (.one .oQ)=>if ok=true then match de P asserted with
      |some z=>K (.dt [z,.one (.bool (.lit false))]) c
      |none => A.fail "typeAssert: zero"
    else A.fail "typeAssert: panics"
  |_, _ => A.fail "typeAssert"
def zP(m:Mem)(o:bq):SV->Option CE
  | .cv (.one (.own k))=>match aM o k with
    |some (ce,sz,_)=>if sz=1/\gZ ce=true then some ce else none
    |none=>none
  | .cv (.one (.gY k off len _))=>match getM m k with
    |some (cs,_)=>if off+len<=cs.length/\cs.all At.flat=true then some [.cG ((cs.drop off).take len)]else none
    |none=>none
  | .cv (.one .dK)=>some []
  |_=>none
def lG(P:Program)(c:aw)(s d:TypeId)(x:SV):Option At :=
  match P.underlying s,P.underlying d with
  |some (.slice e),some .string=>match P.underlying e,x with
    |some (.int .u8),.cv (.one a)=>match a with
      | .gV .. | .nm .. => if a.wf c=true then some a else none
      |_=>none
    |_,_=>none
  |_,_=>none
def bytesOf(P:Program)(m:Mem)(o:bq)(s d:TypeId)(x:SV):Option CE :=
  match P.underlying s,P.underlying d with
  |some (.slice e),some .string=>match P.underlying e with
    |some (.int .u8)=>zP m o x
    |_=>none
  |_,_=>none
def hU(P:Program)(s d:TypeId):Option TypeId :=
  match P.underlying s,P.underlying d with
  |some .string,some (.slice e)=>match P.underlying e with
    |some (.int .u8)=>some e
    |_=>none
  |_,_=>none
def nQ(l:List UInt8):List At:=l.map λb=>.int .u8 (.lit b.toNat)
def vD(A:b_ R)(G:bW)(st:St)(o:Oper)(K:SV->aw->R):R :=
  match o.op with
  | .move x=>K (st.ev x) st.c
  | .assign x=>K (st.ev x) st.c
  | .pick x a b=>match st.ev x with
    | .cv (.one (.bool e))=>gC A e (λ_=>K (st.ev a) st.c) (λ_=>K (st.ev b) st.c)
    |_ => A.fail "pick"
  | .load t x=>match lF G st.k st.c t (st.ev x)with
    |some (g,cs,ty,v)=>A.ai g cs ty (K (.cv v) st.c)
    |none=>nJ A G.P st.m st.o st.c t (st.ev x) K
  | .nilCheck x=>match st.ev x with
    | .cv (.one (.loc k off))=>K (.cv (.one (.loc k off))) st.c
    | .cv (.one (.ext p ix sz off))=>K (.cv (.one (.ext p ix sz off))) st.c
    | .cv (.one (.gg k ix sz off))=>K (.cv (.one (.gg k ix sz off))) st.c
    | .cv (.one (.fn f aI))=>K (.cv (.one (.fn f aI))) st.c
    | .cv (.one (.ir f first aI))=>K (.cv (.one (.ir f first aI))) st.c
    | .cv (.one (.rV k))=>K (.cv (.one (.rV k))) st.c
    | .cv (.one (.qM f l aI))=>K (.cv (.one (.qM f l aI))) st.c
    |_ => A.fail "nilCheck"
  | .binOp op t x y _=>match mb G.P st.o op t (st.ev x) (st.ev y)with
    |some (ce,sz)=>iP A st.c ce sz λn c1=>bH A (.cmp .gtr n (.lit 0)) (K (.cv (.one (.bool (.lit (decide (op=.neq)))))) c1)
    |none=>match nP G.P st.k op t x y (st.ev x) (st.ev y)with
      |some b=>K (.cv (.one (.bool (.lit b)))) st.c
      |none=>mH A G.P st.c op t (st.ev x) (st.ev y) K
  | .lookup t x i ok=>nO A G.P st.o st.c t (st.ev x) (st.ev i) ok K
  | .typeAssert x _ asserted ok=>doAssert A G.P st.k st.c (st.ev x) asserted ok K
  | .unOp op _ x=>vA A st.c op (st.ev x) K
  | .convert s d x=>match bytesOf G.P st.m st.o s d (st.ev x)with
    |some ce=>nI A st.c (.row ce) K
    |none=>match lG G.P st.c s d (st.ev x)with
      |some a=>A.Gf st.c.nl a 1 (nI A {st.c with nl:=st.c.nl+1} (.row [.var st.c.nl]) K)
      |none=>rX A G.P st.c s d (st.ev x) K
  | .field t x f=>lx A G.P st.c t (st.ev x) f K
  | .fieldAddr s x f=>gm A G.P st.c s (st.ev x) f K
  | .indexAddr t x i=>gp A G.P st.o st.c t (st.ev x) (st.ev i) K
  | .index t x i=>ly A G.P st.c t (st.ev x) (st.ev i) K
  | .extract x i=>match st.ev x with
    | .dt l=>match l[i]? with
      |some v=>K (.cv v) st.c
      |none => A.fail "extract"
    |_ => A.fail "extract"
  | .build t parts=>lz A G.P st.c t (parts.toList.map λp=>(p.1,st.ev p.2)) K
  | .slice t x lo hi none=>pI A G.P st.c t (st.ev x) (lo.map st.ev) (hi.map st.ev) K
  | .makeFunc (.func f) first aI=>if first.size=0 then match gD (aI.toList.map st.ev)with
      |some l=>K (.cv (.one (.fn f l))) st.c
      |none => A.fail "makeFunc"
    else match gD (first.toList.map st.ev),gD (aI.toList.map st.ev)with
      |some q,some l=>K (.cv (.one (.ir f q l))) st.c
      |none,some l=>match first.toList.map st.ev with
        | [.cv (.agg cs)]=>match aW.CA cs with
          |some r=>K (.cv (.one (.qM f r l))) st.c
          |none => A.fail "makeFunc: receiver"
        |_ => A.fail "makeFunc: receiver"
      |_, _ => A.fail "makeFunc"
  | .call {callee := .builtin .len,args,argTypes}=>match args.toList with
    | [x]=>vC A G.P st.o st.c argTypes[0]? (st.ev x) K
    |_ => A.fail "len"
  | .call {callee := .builtin .max,args,..}=>match args.toList with
    | [x,y]=>lE A st.c true (st.ev x) (st.ev y) K
    |_ => A.fail "max"
  | .call {callee := .builtin .min,args,..}=>match args.toList with
    | [x,y]=>lE A st.c false (st.ev x) (st.ev y) K
    |_ => A.fail "min"
  | .call {callee := .invoke r name,args,..}=>match st.ev r with
    | .cv (.one (.val i))=>match gL st.k i with
      |some (t,v)=>match methodOf G.P t name with
        |some f=>ma A G st.m st.o st.c f (.cv v::args.toList.map st.ev) K
        |none => A.fail "invoke: method"
      |none => A.fail "invoke: unknown"
    |_ => A.fail "invoke"
  | .call {callee := .value g,args,..}=>match st.ev g with
    | .cv (.one (.fn f aI))=>ma A G st.m st.o st.c f (args.toList.map st.ev++aI.map λx=>.cv (.one (.loc x.1 x.2))) K
    | .cv (.one (.ir f first aI))=>ma A G st.m st.o st.c f ((first.map λx=>.cv (.one (.loc x.1 x.2)))++(args.toList.map st.ev++aI.map λx=>.cv (.one (.loc x.1 x.2)))) K
    |_ => A.fail "call: value"
  |_ => A.fail "operation"
def rZ(A:b_ R)(G:bW)(st:St)(t:TypeId)(x:Operand)(K:SV->aw->R):R:=match lF G st.k st.c t (st.ev x)with
 |some (g,cs,ty,v)=>A.ai g cs ty (K (.cv v) st.c)
 |none=>nJ A G.P st.m st.o st.c t (st.ev x) K
def pe(A:b_ R)(G:bW)(st:St)(op:BinOp)(t:TypeId)(x y:Operand)(K:SV->aw->R):R:=match mb G.P st.o op t (st.ev x) (st.ev y)with
  |some (ce,sz)=>iP A st.c ce sz λn c1=>bH A (.cmp .gtr n (.lit 0)) (K (.cv (.one (.bool (.lit (decide (op=.neq)))))) c1)
  |none=>match nP G.P st.k op t x y (st.ev x) (st.ev y)with
    |some b=>K (.cv (.one (.bool (.lit b)))) st.c
    |none=>mH A G.P st.c op t (st.ev x) (st.ev y) K
def r9(A:b_ R)(G:bW)(st:St)(op:BinOp)(t:TypeId)(x y:Operand)(K:SV->aw->R):R:=match st.ev x with
  | .cv (.one (.int k a))=>match st.ev y with
    | .cv (.one (.int k' b))=>pG A G.P st.c op t k k' a b K
    |_=>pe A G st op t x y K
  |_=>pe A G st op t x y K
theorem SH(A:b_ R)(G:bW)(st:St)(op:BinOp)(t:TypeId)(x y:Operand)(K:SV->aw->R):r9 A G st op t x y K=pe A G st op t x y K:=by
 unfold r9;split
 ·rename_i k a hx;split
  ·rename_i k' b hy;rw [SF];unfold pe
   have h1:mb G.P st.o op t (st.ev x) (st.ev y)=none:=by
    rw [hx,hy];unfold mb;split
    ·split<;>first|rfl | (rename_i h _;cases h)|simp_all
    ·rfl
   have h2:nP G.P st.k op t x y (st.ev x) (st.ev y)=none:=by
    rw [hx,hy];unfold nP;simp only [kV];split<;>rfl
   rw [h1,h2,hx,hy]
  ·rfl
 ·rfl
def mc(A:b_ R)(st:St)(x:Operand)(i:Nat)(K:SV->aw->R):R:=match st.ev x with
  | .dt l=>match l[i]? with
    |some v=>K (.cv v) st.c
    |none => A.fail "extract"
  |_ => A.fail "extract"
def um(A:b_ R)(G:bW)(st:St)(o:Oper)(K:SV->aw->R):R :=
 match o.op with
 | .move x=>K (st.ev x) st.c
 | .assign x=>K (st.ev x) st.c
 | .load t x=>rZ A G st t x K
 | .binOp op t x y _=>pe A G st op t x y K
 | .unOp op _ x=>vA A st.c op (st.ev x) K
 | .field t x f=>lx A G.P st.c t (st.ev x) f K
 | .fieldAddr s x f=>gm A G.P st.c s (st.ev x) f K
 | .indexAddr t x i=>gp A G.P st.o st.c t (st.ev x) (st.ev i) K
 | .index t x i=>ly A G.P st.c t (st.ev x) (st.ev i) K
 | .extract x i=>mc A st x i K
 |_=>vD A G st o K
theorem On(A:b_ R)(G:bW)(st:St)(o:Oper)(K:SV->aw->R):um A G st o K=vD A G st o K:=by
 obtain⟨dst,op,type,pos,after,guard⟩:=o;cases op<;>first|rfl | (unfold um vD rZ;rfl) | (unfold um vD pe;rfl) | (unfold um vD mc;rfl)
end Vc
set_option linter.unusedVariables false
namespace Vc
open Go Go.RowKit
variable {R:Type}
def St.new(A:b_ R)(st:St)(dst:Option Tmp)(cs:List At)(t:TypeId)(v:Nat->At)(K:St->R):R :=
  if cs.all (At.wf st.c)=true then
    gQ (λcs=>St.put A {st with m:=(st.c.nk,cs,t)::st.m} dst (.cv (.one (v st.c.nk))) {st.c with nk:=st.c.nk+1} K) cs []
  else A.fail "new"
def mQ(A:b_ R)(G:bW)(st:St)(o:Oper)(K:St->R):R :=
  match o.op with
  | .alloc t=>match de G.P t with
    |some z=>St.new A st o.dst z.cells t (.loc · 0) K
    |none => A.fail "alloc"
  | .box t x=>match st.ev x with
    | .cv v=>St.new A st o.dst v.cells t (.loc · 0) K
    |_ => A.fail "box"
  | .makeInterface t x=>match G.P.underlying t,st.ev x with
    |some (.interface _), _ => A.fail "makeInterface"
    | some _,.cv v=>if v.flat=true/\v.wf st.c=true then
        A.j8 st.c.nv t v (St.put A {st with k := .j8 st.c.nv t v::st.k} o.dst (.cv (.one (.val st.c.nv))) {st.c with nv:=st.c.nv+1} K)
      else A.fail "makeInterface: value"
    |_, _ => A.fail "makeInterface"
  | .store t a x=>match aP G.P t,st.ev a,st.ev x with
    |some (_,n),.cv (.one (.loc k off)),.cv v=>match getM st.m k with
      | some (cs,_)=>if v.cells.length=n/\off + n<=cs.length/\v.wf st.c=true then
          St.put A {st with m:=j9 st.m k (cs.take off++v.cells++cs.drop (off+n))} o.dst .any st.c K
        else A.fail "store: size"
      |none => A.fail "store: no such block"
    |_, _, _ => A.fail "store"
  | .buildSlice t len parts=>match G.P.underlying t with
    |some (.slice el)=>match aP G.P el,de G.P el with
      | some (_,s),some z=>if z.cells.length=s/\0 < s/\0 < len/\len * s<=4096 then
          match dc (λi=>some (i*s,s)) (times z.cells len) (parts.toList.map λp=>(p.1,st.ev p.2))with
          |some cs=>St.new A st o.dst cs el (.gY · 0 len len) K
          |none => A.fail "buildSlice: parts"
        else A.fail "buildSlice: size"
      |_, _ => A.fail "buildSlice"
    |_ => A.fail "buildSlice"
  |_ => vD A G st o λv c => if c.nk = st.c.nk then St.put A st o.dst v c K else A.fail "blocks"
def yb(G:bW)(f:FuncId):Option (List (Nat × List Nat)) :=
 match G.loops.lookup (3000000+f)with
 |some (.inv kE (j::js) _)=>some ((j::js).map λa=>(a,(kE.filter λx=>x.1 == a).map (·.2)))
 |_=>none
def vE:At->Option CK
 | .int k _=>some (.int k)
 | .bool _=>some .bool
 | .str _=>some .str
 | .sv _=>some .str
 |_=>none
def kB(cs:List At):List Nat->Option (List CK)
  | []=>some []
  |i::r=>match (cs[i]?).bind vE,kB cs r with
    |some k,some l=>some (k::l)
    |_,_=>none
def iQ:List At->List Nat->List At->List At
 |cs,i::r,a::l=>iQ (cs.take i++a::cs.drop (i+1)) r l
 |cs,_,_=>cs
structure vF where
 k:Nat
 cs:List At
 t:TypeId
 kE:List Nat
 ks:List CK
def jC(m:Mem)(args:List SV):List (Nat × List Nat)->Option (List vF)
  | []=>some []
  | (j,kE)::r=>match args[j]?,jC m args r with
    |some (.cv (.one (.loc k 0))),some l=>match getM m k with
      |some (cs,t)=>match kB cs kE with
        |some ks=>some (⟨k,cs,t,kE,ks⟩::l)
        |none=>none
      |none=>none
    |_,_=>none
def kW:List vF->List At->List (Nat × List At × TypeId)
 | [],_=>[]
 |e::r,fr=>(e.k,iQ e.cs e.kE (fr.take e.ks.length),e.t)::kW r (fr.drop e.ks.length)
def gN:Mem->List (Nat × List At × TypeId)->Mem
 |m,[]=>m
 |m,(k,cs,_)::r=>gN (j9 m k cs) r
def vG(A:b_ R)(G:bW)(st:St)(dst:Option Tmp)(f:FuncId)(args:List SV)(jo:List (Nat × List Nat))(K:St->R):R :=
  match G.P.funcs[f]? with
  |none => A.fail "call: no such function"
  |some fn=>match iO G.P fn.resultTypes.toList,jC st.m args jo with
    |some ss,some bl =>
      let ks:=cw ss++bl.flatMap (·.ks);let fr:=ax st.c ks;let ns:=kW bl (fr.drop (cw ss).length)
      if args.any ka = true ∨ ¬args.all (SV.wf st.c) = true then A.fail "call: arguments"
      else if (bl.map (·.k)).Nodup then
        if G.calls.contains f=true then
          A.zM f args (c9 st.m (cR st.m st.o args)) (eI st.o (cR st.m st.o args)) ns fr (cZ (bX ss fr))
            (St.put A {st with m:=gN st.m ns} dst (cZ (bX ss fr)) (aX st.c ks) K)
        else A.fail "call: unknown function"
      else A.fail "effect: a block twice"
    |_, _ => A.fail "effect"
def qR(G:bW)(st:St)(o:Oper):Option (FuncId × List SV × List (Nat × List Nat)) :=
  match o.op with
  | .call {callee := .value g,args,..}=>match st.ev g with
    | .cv (.one (.fn f aI))=>match yb G f with
      |some jo=>if (jC st.m (args.toList.map st.ev++aI.map λx=>.cv (.one (.loc x.1 x.2))) jo).isSome=true then some (f,args.toList.map st.ev++aI.map λx=>.cv (.one (.loc x.1 x.2)),jo)else none
      |none=>none
    |_=>none
  |_=>none
def eC:bq->Nat->CE->bq
 | [],_,_=>[]
 | (j,v)::r,i,ce=>if j=i then (j,ce,v.2)::r else (j,v)::eC r i ce
def r_(G:bW)(f:FuncId):Option Nat :=
 match G.loops.lookup (600000000000000000+f)with
 |some (.inv _ (j::_) _)=>some j
 |_=>none
def sd(A:b_ R)(G:bW)(st:St)(dst:Option Tmp)(f:FuncId)(args:List SV)(j:Nat)(K:St->R):R :=
  match G.P.funcs[f]? with
  |none => A.fail "call: no such function"
  |some fn=>match iO G.P fn.resultTypes.toList,args[j]? with
    |some ss,some (.cv (.one (.own k)))=>match aM st.o k with
      |some (_,sz,t) =>
        let c1:aw := {st.c with nl:=st.c.nl+1};let fr:=ax c1 (cw ss)
        if args.any ka = true ∨ ¬args.all (SV.wf st.c) = true then A.fail "call: arguments"
        else if G.calls.contains f=true then
          A.zN f args (c9 st.m (cR st.m st.o args)) (eI st.o (cR st.m st.o args)) k st.c.nl sz t fr (cZ (bX ss fr))
            (St.put A {st with o:=eC st.o k [.var st.c.nl]} dst (cZ (bX ss fr)) (aX c1 (cw ss)) K)
        else A.fail "call: unknown function"
      |none => A.fail "effect: no such row"
    |_, _ => A.fail "effect"
def nR(G:bW)(st:St)(o:Oper):Option (FuncId × List SV × Nat) :=
  match o.op with
  | .call {callee := .value g,args,..}=>match st.ev g with
    | .cv (.one (.fn f aI))=>match r_ G f with
      |some j=>match (args.toList.map st.ev++aI.map λx=>SV.cv (.one (.loc x.1 x.2)))[j]? with
        |some (.cv (.one (.own _)))=>some (f,args.toList.map st.ev++aI.map λx=>.cv (.one (.loc x.1 x.2)),j)
        |_=>none
      |none=>none
    |_=>none
  |_=>none
def oG(A:b_ R)(G:bW)(st:St)(o:Oper)(K:St->R):R :=
  match qR G st o with
  |some (f,args,jo)=>vG A G st o.dst f args jo K
  |none=>match nR G st o with
    |some (f,args,j)=>sd A G st o.dst f args j K
    |none=>mQ A G st o K
def pJ(A:b_ R)(G:bW)(st:St)(dst:Option Tmp)(t:TypeId)(K:St->R):R:=match de G.P t with
  |some z=>St.new A st dst z.cells t (.loc · 0) K
  |none => A.fail "alloc"
def vH(A:b_ R)(st:St)(dst:Option Tmp)(t:TypeId)(x:Operand)(K:St->R):R:=match st.ev x with
  | .cv v=>St.new A st dst v.cells t (.loc · 0) K
  |_ => A.fail "box"
def tn(A:b_ R)(G:bW)(st:St)(dst:Option Tmp)(t:TypeId)(a x:Operand)(K:St->R):R:=match aP G.P t,st.ev a,st.ev x with
  |some (_,n),.cv (.one (.loc k off)),.cv v=>match getM st.m k with
    | some (cs,_)=>if v.cells.length=n/\off + n<=cs.length/\v.wf st.c=true then
        gQ (λl=>St.put A {st with m:=j9 st.m k l} dst .any st.c K) (cs.take off++v.cells++cs.drop (off+n)) []
      else A.fail "store: size"
    |none => A.fail "store: no such block"
  |_, _, _ => A.fail "store"
def nS(A:b_ R)(G:bW)(st:St)(o:Oper)(K:St->R):R :=
  match o.op with
  | .alloc t=>pJ A G st o.dst t K
  | .box t x=>vH A st o.dst t x K
  | .makeInterface .. => mQ A G st o K
  | .store t a x=>tn A G st o.dst t a x K
  | .buildSlice .. => mQ A G st o K
  |_ => um A G st o λv c => if c.nk = st.c.nk then St.put A st o.dst v c K else A.fail "blocks"
theorem Oo(A:b_ R)(G:bW)(st:St)(o:Oper)(K:St->R):nS A G st o K=mQ A G st o K:=by
 obtain⟨dst,op,type,pos,after,guard⟩:=o;cases op<;>first|rfl | (unfold nS mQ;simp only [On];done) | (unfold nS mQ pJ;rfl) | (unfold nS mQ vH;rfl) | (unfold nS mQ tn;simp only [Gi];done)
theorem Oq(A:b_ R)(G:bW)(st:St)(o:Oper)(K:St->R)(h:∀c,o.op ≠ .call c):oG A G st o K=mQ A G st o K:=by
 obtain⟨dst,op,type,pos,after,guard⟩:=o;cases op
 case call c=>exact absurd rfl (h c)
 all_goals rfl
def St.jS(A:b_ R)(st:St)(dst:Option Tmp)(jD:List Nat)(ce:CE)(sz:Nat)(el:TypeId)(c:aw)(K:St->R)(md:Nat:=0):R :=
  if cH c ce=true then
    St.put A {st with o:=(c.nk,ce,sz,el)::cf st.o jD} dst (.cv (.one (rowAt md c.nk))) {c with nk:=c.nk+4} K
  else A.fail "row"
def rowOf(o:bq)(sz:Nat)(el:TypeId):SV->Option (CE × List Nat)
  | .cv (.one .dK)=>some ([],[])
  | .cv (.one (.own k))=>match aM o k with
    |some (ce,s,t)=>if s=sz/\t=el then some (ce,[k])else none
    |none=>none
  |_=>none
def vI(A:b_ R)(st:St)(sz:Nat)(jD:List Nat)(y:SV)(K:CE->aw->R):R :=
  match y with
  | .cv (.one .dK)=>K [] st.c
  | .cv (.one (.gY k off len _))=>match getM st.m k with
    |some (cs, _) => if off+len*sz <= cs.length then K [.cG ((cs.drop off).take (len*sz))] st.c else A.fail "append: beyond"
    |none => A.fail "append: no such block"
  | .cv (.one (.own k))=>match aM st.o k with
    |some (ce, s, _) => if s = sz /\ jD.contains k = false then K ce st.c else A.fail "append: a row to itself"
    |none => A.fail "append: no such row"
  | .cv (.one x)=>match x with
    | .nm _ _ s _ _ | .gV _ _ s _ _ => if s = sz /\ x.wf st.c = true then A.Gf st.c.nl x sz (K [.var st.c.nl] { st.c with nl := st.c.nl+1 }) else A.fail "append: a part"
    |_ => A.fail "append: what"
  |_ => A.fail "append: what"
def gE:Int:=1073741824
def zQ(A:b_ R)(G:bW)(st:St)(o:Oper)(K:St->R):R :=
  match o.op with
  | .call {callee := .builtin .append,args,argTypes}=>match args.toList,argTypes.toList with
    | [x,y],[t,t']=>match G.P.underlying t with
      |some (.slice el)=>match G.P.info? el,de G.P el with
        |some i,some z =>
          if t'=t/\0<i.size/\z.cells.length=i.size/\i.bytes<=131072 then
            match rowOf st.o i.size el (st.ev x)with
            | some (ce,jD)=>vI A st i.size jD (st.ev y) fun add c1 =>
                iP A c1 (dw ce add) i.size λn c2=>bH A (.cmp .leq n (.lit gE)) (St.jS A st o.dst jD (dw ce add) i.size el c2 K)
            |none => A.fail "append: to what"
          else A.fail "append: type"
        |_, _ => A.fail "append: element"
      |_ => A.fail "append: slice"
    |_, _ => A.fail "append: arguments"
  |_ => A.fail "append"
def aW.ids:aW->List Nat
 | .gY k _ _ _=>[k]
 | .own k=>[k,k+1,k+2,k+3]
 |_=>[]
def aN:List At->List Nat
 | []=>[]
 | .loc k _::r | .gY k _ _ _::r=>k::aN r
 | .own k::r | .omap k::r | .qz k::r=>k::(k+1)::(k+2)::(k+3)::aN r
 | .gg k _ _ _::r | .rV k::r=>k::aN r
 | .fn _ aI::r=>aI.map (·.1)++aN r
 | .ir _ first aI::r=>first.map (·.1)++aI.map (·.1)++aN r
 | .qM _ first aI::r=>first.flatMap aW.ids++aI.map (·.1)++aN r
 |_::r=>aN r
def nr(G:bW)(dst:Option Tmp):Option TypeId :=
  match dst with
  |some d=>match G.loops.lookup (900000000+d)with
    |some (.inv _ [el] _)=>some el
    |_=>none
  |none=>none
def lH(A:b_ R)(G:bW)(st:St)(dst:Option Tmp)(t:TypeId)(m k v:SV)(K:St->R):R :=
  match gi G.P t,m,k,v with
  |some x,.cv (.one (.omap j)),.cv kv,.cv vv=>match aM st.o j with
    |some (ce,sz,tc)=>match eR ce with
      | some cs=>if nF x.gk x.ks.length kv=true/\nF x.ge x.ne vv=true/\tc=x.no/\sz=0 then
          lu A st.c x kv.cells
            (λi _=>St.put A {st with o:=eC st.o j [.cG (cs.take (i*(x.ks.length+x.ne)+x.ks.length)++vv.cells++cs.drop (i*(x.ks.length+x.ne)+x.ks.length+x.ne))]} dst .any st.c K)
            (λ_=>St.put A {st with o:=eC st.o j [.cG (cs++(kv.cells++vv.cells))]} dst .any st.c K) (cs.length+1) cs 0
        else A.fail "map: entry"
      | none=>if nF x.gk x.ks.length kv=true/\nF x.ge x.ne vv=true/\tc=x.no/\sz=0/\vv.flat=true/\vv.wf st.c=true then
          pE A st.c x ce kv.cells λi c1=>gC A (.cmp .geq i (.lit 0))
            (λ_=>A.uh c1.nl (.set ce i (x.ks.length+x.ne) x.ks.length vv.cells) (St.put A {st with o:=eC st.o j [.var c1.nl]} dst .any {c1 with nl:=c1.nl+1} K))
            (λ_=>St.put A {st with o:=eC st.o j (dw ce [.cG (kv.cells++vv.cells)])} dst .any c1 K)
        else A.fail "map: entry"
    |none => A.fail "map: no such"
  |_, _, _, _ => A.fail "mapUpdate"
def oH(A:b_ R)(G:bW)(st:St)(o:Oper)(K:St->R):R :=
  match o.op with
  | .makeSlice t l cp=>match G.P.underlying t with
    |some (.slice el)=>match G.P.info? el,de G.P el with
      |some i,some z =>
        if 0<i.size/\z.cells.length=i.size/\i.bytes<=131072/\z.cells.all At.flat=true/\z.wf st.c=true then
          match st.ev l,st.ev cp with
          | .cv (.one (.int _ e)),.cv (.one (.int _ e2)) =>
            if e=.lit 0 then
              bH A (.cmp .geq e2 (.lit 0)) (bH A (.cmp .leq e2 (.lit gE)) (St.jS A st o.dst [] [] i.size el st.c K))
            else if e=e2 then
              bH A (.cmp .geq e (.lit 0)) (bH A (.cmp .leq e (.lit gE)) (match e with
                | .lit n=>St.jS A st o.dst [] [.cG (times z.cells n.toNat)] i.size el st.c K
                |e => if e.wf st.c = true then A.uh st.c.nl (.rep e z.cells) (St.jS A st o.dst [] [.var st.c.nl] i.size el { st.c with nl := st.c.nl+1 } K) else A.fail "makeSlice: length"))
            else A.fail "makeSlice: capacity"
          |_, _ => A.fail "makeSlice: lengths"
        else A.fail "makeSlice: type"
      |_, _ => A.fail "makeSlice: element"
    |_ => A.fail "makeSlice"
  | .buildSlice t len parts=>match G.P.underlying t with
    |some (.slice el)=>match G.P.info? el with
      |some i=>if len=0/\parts.toList.length=0/\0<i.size then St.jS A st o.dst [] [] i.size el st.c K else match aP G.P el,de G.P el with
        | some (_,s),some z=>if z.cells.length=s/\0 < s/\0 < len/\len * s<=4096 then
            match dc (λi=>some (i*s,s)) (times z.cells len) (parts.toList.map λp=>(p.1,st.ev p.2))with
            |some cs => if cs.length = len*s /\ aN cs = [] then St.jS A st o.dst [] [.cG cs] s el st.c K else A.fail "buildSlice: row"
            |none => A.fail "buildSlice: parts"
          else A.fail "buildSlice: size"
        |_, _ => A.fail "buildSlice: row"
      |none => A.fail "buildSlice: row"
    |_ => A.fail "buildSlice: row"
  | .slice t x lo (some hi) (some mx)=>match G.P.underlying t,st.ev hi,st.ev mx,dE (.lit 0) (lo.map st.ev)with
    |some (.slice el),.cv (.one (.int _ (.lit 0))),.cv (.one (.int _ (.lit 0))),some (.lit 0)=>match G.P.info? el,st.ev x with
      |some i,.cv (.one (.nm ..))|some i,.cv (.one (.own ..))|some i,.cv (.one .dK) =>
        if 0<i.size then St.jS A st o.dst [] [] i.size el st.c K else A.fail "slice: row"
      |_, _ => A.fail "slice: row"
    |_, _, _, _ => A.fail "slice: row"
  | .store t a x=>match aP G.P t,st.ev a,st.ev x with
    |some (_,n),.cv (.one (.gg k ix sz off)),.cv v=>match aM st.o k with
      |some (ce,s,_) =>
        if s=sz/\v.cells.length=n/\off+n<=sz/\0<sz/\v.wf st.c=true/\ix.wf st.c=true/\cH st.c ce=true then
          iP A st.c ce sz λm c1=>bH A (.cmp .geq ix (.lit 0)) (bH A (.cmp .lss ix m) (
            match iC ce ix sz off with
            |some (cs,p)=>St.put A {st with o:=eC st.o k [.cG (cs.take p++v.cells++cs.drop (p+n))]} o.dst .any c1 K
            | none=>if gZ ce=true/\v.flat=true then
                A.uh c1.nl (.set ce ix sz off v.cells) (St.put A {st with o:=eC st.o k [.var c1.nl]} o.dst .any {c1 with nl:=c1.nl+1} K)
              else A.fail "store: row"))
        else A.fail "store: row"
      |none => A.fail "store: no such row"
    |_, _, _ => A.fail "store: row"
  | .convert s d x=>match hU G.P s d,st.ev x with
    |some _,.cv (.one (.str l))=>St.jS A st o.dst [] [.cG (nQ l)] 0 0 st.c K 2
    |some _,.cv (.one (.sv i))=>A.uh st.c.nl (.qz i) (St.jS A st o.dst [] [.var st.c.nl] 0 0 {st.c with nl:=st.c.nl+1} K 2)
    |_, _ => A.fail "convert: bytes"
  | .makeMap t none=>match gi G.P t with
    |some x=>St.jS A st o.dst [] [] 0 x.no st.c K 1
    |none => A.fail "makeMap"
  | .mapUpdate t m k v=>lH A G st o.dst t (st.ev m) (st.ev k) (st.ev v) K
  | .insert t m k v=>lH A G st o.dst t (st.ev m) (st.ev k) (st.ev v) K
  | .assign x=>match st.ev x,nr G o.dst with
    | .cv (.one .dK),some el=>match G.P.info? el with
      |some i => if 0<i.size then St.jS A st o.dst [] [] i.size el st.c K else A.fail "assign: row"
      |none => A.fail "assign: row"
    |_, _ => A.fail "assign: row"
  |_ => A.fail "row: operation"
def St.dP(st:St)(d:Nat)(b:Bool):St := {st with t:=(d,.cv (.one (.bool (.lit b))))::st.t}
abbrev yc(R:Type):=FuncId->List SV->St->(SV->St->R)->R
abbrev Yl(R:Type):=Nat->List SV->St->(SV->St->R)->R
def dW(x:Nat × Nat):SV := .cv (.one (.loc x.1 x.2))
def tp(G:bW)(t:TypeId)(dst:Option Tmp):Bool :=
 match dst with
 |some d=>(G.loops.lookup (1000000+t*10000+d)).isSome
 |none=>false
def tq(G:bW)(f:FuncId):Option (TypeId × List Nat) :=
 match G.loops.lookup (800000000000000000+f)with
 |some (.inv _ (t::js) _)=>some (t,js)
 |_=>none
def se(args:List SV):List Nat->Option (List Nat)
  | []=>some []
  |j::r=>match args[j]?,se args r with
    |some (.cv (.one (.loc k _))),some l=>some (k::l)
    |_,_=>none
def tt(m:Mem)(ks:List Nat):Mem:=m.filter λx => !ks.contains x.1
def vJ(A:b_ R)(G:bW)(KP:Nat->St->R)(st:St)(f:FuncId)(args:List SV)(t:TypeId)(js:List Nat):R :=
  match aP G.P t,vy G.P 30 t,se args js with
  |some (g,_),some ks,some bs =>
    if args.any ka = true ∨ ¬args.all (SV.wf st.c) = true then A.fail "panics: arguments"
    else if ks.all CK.plain=true/\G.calls.contains f=true/\bs.Nodup/\bs.all (λb=>(getM st.m b).isSome)=true then
      let fr:=ax st.c ks;let c1:=aX st.c ks
      A.zO f args (c9 st.m (cR st.m st.o args)) (eI st.o (cR st.m st.o args)) bs fr t (eY g fr) c1.nv
        (KP c1.nv {st with m:=tt st.m bs,c := {c1 with nv:=c1.nv+1},k := .j8 c1.nv t (eY g fr)::st.k})
    else A.fail "panics"
  |_, _, _ => A.fail "panics: type"
def Ot(A:b_ R)(G:bW)(KP:Nat->St->R)(st:St)(o:Oper)(f:FuncId)(args:List SV)(K:St->R):R :=
 match tq G f with
 |none=>oG A G st o K
 |some (t,js)=>A.alt (oG A G st o K) (vJ A G KP st f args t js)
def vK(G:bW)(f:FuncId):Bool:=(G.loops.lookup (400000000000000000+f)).isSome
def sf(A:b_ R)(G:bW)(st:St)(dst:Option Tmp)(f:FuncId)(args:List SV)(K:St->R):R :=
  match args with
  | [.cv (.one (.own k)),.cv (.one (.int _ (.lit 0))),.cv (.one (.gY k2 off n _))]=>match aM st.o k,getM st.m k2 with
    |some (ce,sz,t),some (cs,_) =>
      if 0<sz/\off+n*sz<=cs.length/\args.all (SV.wf st.c)=true/\G.calls.contains f=true then
        A.qP f args (c9 st.m (cR st.m st.o args)) (eI st.o (cR st.m st.o args)) k (dw [.cG ((cs.drop off).take (n*sz))] ce) sz t
          (St.jS A st dst [k] (dw [.cG ((cs.drop off).take (n*sz))] ce) sz t st.c K)
      else A.fail "give"
    |_, _ => A.fail "give: no such row"
  |_ => A.fail "give: arguments"
def qS(A:b_ R)(G:bW)(inl:yc R)(yl:Yl R)(rG:Bool)(KP:Nat->St->R)(st:St)(o:Oper)(K:St->R):R :=
  match o.op with
  | .panic x=>match st.ev x with
    | .cv (.one (.val i)) => if (gL st.k i).isSome = true then KP i st else A.fail "panic: unknown"
    |_ => A.fail "panic"
  | .defer c=>match c.callee,c.args.toList,o.dst,rG with
    | .value g,[],none,true=>match st.ev g with
      | .cv (.one (.fn f aI)) => if st.d = [] then K { st with df := (f, aI) :: st.df } else A.fail "defer: function"
      |_ => A.fail "defer: value"
    |_, _, _, _ => A.fail "defer"
  | .call {callee := .invoke r name,args,..}=>match st.ev r with
    | .cv (.one (.val i))=>match gL st.k i with
      |some (t,v)=>match methodOf G.P t name with
        | some f=>if G.inl.contains f=true then
            if (args.toList.map st.ev).any ka = true then A.fail "inline: arguments"
            else inl f (.cv v::args.toList.map st.ev) st λv s=>St.put A s o.dst v s.c K
          else oG A G st o K
        |none => A.fail "invoke: method"
      |none => A.fail "invoke: unknown"
    |_ => A.fail "invoke"
  | .call {callee := .value g,args,..}=>match st.ev g with
    | .cv (.one (.fn f aI)) =>
      if vK G f=true/\aI=[]then sf A G st o.dst f (args.toList.map st.ev) K else
      if G.inl.contains f=true then
        if (args.toList.map st.ev).any ka = true then A.fail "inline: arguments"
        else inl f (args.toList.map st.ev++aI.map dW) st λv s=>St.put A s o.dst v s.c K
      else Ot A G KP st o f (args.toList.map st.ev++aI.map dW) K
    | .cv (.one (.ir f first aI)) =>
      if G.inl.contains f=true then
        if (args.toList.map st.ev).any ka = true then A.fail "inline: arguments"
        else inl f (first.map dW++(args.toList.map st.ev++aI.map dW)) st λv s=>St.put A s o.dst v s.c K
      else oG A G st o K
    | .cv (.one (.qM f first aI)) =>
      if G.inl.contains f=true then
        if (args.toList.map st.ev).any ka = true then A.fail "inline: arguments"
        else inl f (.cv (.agg (first.map aW.at))::(args.toList.map st.ev++aI.map dW)) st λv s=>St.put A s o.dst v s.c K
      else A.fail "call: method value"
    | .cv (.one (.rV k)) =>
      if (args.toList.map st.ev).any ka = true then A.fail "yield: arguments"
      else yl k (args.toList.map st.ev) st λv s=>St.put A s o.dst v s.c K
    |_ => A.fail "call: value"
  | .call {callee := .builtin .append,..}=>zQ A G st o K
  | .makeSlice .. => oH A G st o K
  | .makeMap .. => oH A G st o K
  | .convert s d _=>if (hU G.P s d).isSome=true then oH A G st o K else oG A G st o K
  | .mapUpdate .. => oH A G st o K
  | .insert .. => oH A G st o K
  | .assign x=>if (nr G o.dst).isSome=true/\st.ev x=.cv (.one .dK)then oH A G st o K else oG A G st o K
  | .buildSlice t len _=>if len=0∨tp G t o.dst=true then oH A G st o K else oG A G st o K
  | .slice _ _ _ _ (some _)=>oH A G st o K
  | .store _ a _=>match st.ev a with
    | .cv (.one (.gg ..))=>oH A G st o K
    |_=>oG A G st o K
  |_=>oG A G st o K
def mR(A:b_ R)(st:St)(dst:Option Tmp)(K:St->R)(v:SV)(c:aw):R:=match Nat.beq c.nk st.c.nk with
  |true=>St.put A st dst v c K
  |false => A.fail "blocks"
theorem H5 (A : b_ R) (st : St) (dst : Option Tmp) (K : St -> R) : mR A st dst K = λv c => if c.nk = st.c.nk then St.put A st dst v c K else A.fail "blocks" := by
  funext v c;unfold mR;cases h:Nat.beq c.nk st.c.nk with
  |true=>rw [if_pos (Nat.eq_of_beq_eq_true h)]
  |false=>rw [if_neg (Nat.ne_of_beq_eq_false h)]
def nK(K:St->R):St->R:=λs=>s.norm K
theorem H6(K:St->R):nK K=K:=by funext s;exact St.norm_eq s K
def qT(A:b_ R)(G:bW)(st:St)(o:Oper)(x:Operand)(K:St->R):R:=if (nr G o.dst).isSome=true/\st.ev x=.cv (.one .dK)then oH A G st o K else mR A st o.dst K (st.ev x) st.c
def nT(A:b_ R)(G:bW)(inl:yc R)(yl:Yl R)(rG:Bool)(KP:Nat->St->R)(st:St)(o:Oper)(K:St->R):R :=
 match o.op with
 | .move x=>mR A st o.dst K (st.ev x) st.c
 | .assign x=>qT A G st o x K
 | .alloc t=>pJ A G st o.dst t (nK K)
 | .box t x=>vH A st o.dst t x (nK K)
 | .load t x=>rZ A G st t x (mR A st o.dst K)
 | .binOp op t x y _=>r9 A G st op t x y (mR A st o.dst K)
 | .unOp op _ x=>vA A st.c op (st.ev x) (mR A st o.dst K)
 | .field t x f=>lx A G.P st.c t (st.ev x) f (mR A st o.dst K)
 | .fieldAddr s x f=>gm A G.P st.c s (st.ev x) f (mR A st o.dst K)
 | .indexAddr t x i=>gp A G.P st.o st.c t (st.ev x) (st.ev i) (mR A st o.dst K)
 | .index t x i=>ly A G.P st.c t (st.ev x) (st.ev i) (mR A st o.dst K)
 | .extract x i=>mc A st x i (mR A st o.dst K)
 |_=>qS A G inl yl rG KP st o (nK K)
theorem H7(A:b_ R)(G:bW)(inl:yc R)(yl:Yl R)(rG:Bool)(KP:Nat->St->R):nT A G inl yl rG KP=qS A G inl yl rG KP:=by
 funext st o K;obtain⟨dst,op,type,pos,after,guard⟩:=o
 cases op<;>unfold nT<;>(try unfold qT)<;>(try dsimp only)<;>(try rw [H6])<;>(try rw [SH])<;>(try rw [H5])<;>first
  |rfl
  | (show nS A G st _ K=oG A G st _ K;rw [Oo,Oq];intro c h;cases h)
  | (unfold qS;dsimp only [];split;rfl;(show nS A G st _ K=oG A G st _ K;rw [Oo,Oq];intro c h;cases h))
def zR(A:b_ R)(step:St->Oper->(St->R)->R)(ops:Array Oper)(st:St)(o:Oper)(j:Nat)(want:Bool)(K:St->R):R :=
  match (ops[j]?).bind (·.dst)with
  |none => A.fail "guard"
  | some d=>if d < st.n then match ay st.t d with
      | .cv (.one (.bool e)) =>
        gC A e
          (λ_=>if want=true then (st.dP d true).norm λst=>step st o K else (st.dP d true).norm λst=>St.put A st o.dst .eH st.c K)
          (λ_=>if want=true then (st.dP d false).norm λst=>St.put A st o.dst .eH st.c K else (st.dP d false).norm λst=>step st o K)
      | .eH=>St.put A st o.dst .eH st.c K
      |_ => A.fail "guard: unknown"
    else A.fail "guard: slot"
def lI(A:b_ R)(step:St->Oper->(St->R)->R)(ops:Array Oper):List Oper->St->(St->R)->R
  | [],st,K=>K st
  |o::r,st,K =>
    match o.guard with
    |none=>step st o λs=>lI A step ops r s K
    |some (j,want)=>zR A step ops st o j want λs=>lI A step ops r s K
structure DS where
 rd:List (Nat × Nat)
 wr:List (Nat × Nat)
 al:List (Nat × Nat)
def aF:List At->List Nat
 | []=>[]
 | .loc k _::r | .gY k _ _ _::r=>k::aF r
 | .own k::r | .gg k _ _ _::r | .omap k::r | .qz k::r=>k::aF r
 |_::r=>aF r
def ba(st:St)(o:Oper):List Nat :=
  match o.op with
  | .load _ x=>aF (aV (st.ev x))
  | .lookup _ x _ _=>aF (aV (st.ev x))
  | .indexAddr _ x _=>aF (aV (st.ev x))
  | .convert _ _ x=>aF (aV (st.ev x))
  | .binOp _ _ x _ _=>match st.ev x with
    | .cv (.one (.own k))=>[k]
    |_=>[]
  | .call {callee := .value g,args,..}=>match st.ev g with
    | .cv (.one (.fn _ aI))=>aF (cR st.m st.o (args.toList.map st.ev++aI.map λx=>.cv (.one (.loc x.1 x.2))))
    | .cv (.one (.ir _ first aI))=>aF (cR st.m st.o ((first.map λx=>.cv (.one (.loc x.1 x.2)))++(args.toList.map st.ev++aI.map λx=>.cv (.one (.loc x.1 x.2)))))
    |_=>aF ((args.toList.map st.ev).flatMap aV)
  | .call {callee := .invoke r _,args,..}=>match st.ev r with
    | .cv (.one (.val i))=>match gL st.k i with
      |some (_,v)=>aF (cR st.m st.o (.cv v::args.toList.map st.ev))
      |none=>[]
    |_=>[]
  | .call {callee := .builtin _,args,..}=>aF ((args.toList.map st.ev).flatMap aV)
  |_=>[]
def fw:List SV->List Nat
 | []=>[]
 | .cv (.one (.loc k 0))::r=>k::fw r
 | .cv (.one (.own k))::r=>k::fw r
 |_::r=>fw r
def aY(st:St)(o:Oper):List Nat :=
  match o.op with
  | .call {callee := .value g,args,..}=>match st.ev g with
    | .cv (.one (.fn _ aI))=>fw (args.toList.map st.ev++aI.map λx=>.cv (.one (.loc x.1 x.2)))
    |_=>fw (args.toList.map st.ev)
  | .store _ x _=>aF (aV (st.ev x))
  | .mapUpdate _ x _ _ | .insert _ x _ _=>aF (aV (st.ev x))
  | .call {callee := .builtin .append,args,..}=>match args.toList with
    |x::_=>aF (aV (st.ev x))
    | []=>[]
  |_=>[]
def direct(ops:Array Oper)(i j:Nat):Bool :=
 match ops[i]? with
 |some o=>o.after.any λe=>Region.binds .any e && decide (e.on=j)
 |none=>false
def reach(ops:Array Oper):Nat->Nat->Nat->Bool
  |0,_,_=>false
  |d+1,i,j=>direct ops i j || match ops[i]? with
    |some o=>o.after.any λe=>Region.binds .any e && reach ops d e.on j
    |none=>false
def fx:SV->List Nat
 | .cv c=>aN c.cells
 | .dt l=>aN (l.flatMap CV.cells)
 |_=>[]
def eJ(ops:Array Oper):Bool :=
  (List.range ops.size).all λi=>match ops[i]? with
    |none=>false
    |some o=>(o.after.all λe => !Region.binds .any e || decide (e.on<i)) && (List.range ops.size).all λj=>match ops[j]? with
      |none=>false
      |some p =>
        match p.dst with
          |none=>true
          |some d=>decide (i=j∨o.dst≠some d) && (!(o.looksAt ops).contains d || (decide (j<i) && direct ops i j) || (decide (i<j) && direct ops j i))
def DS.fh(d:DS)(ops:Array Oper)(i k:Nat):Bool :=
 match d.al.lookup k with
 |none=>true
 |some j=>reach ops 3 i j
def dM(st:St)(o:Oper):List Nat :=
 match o.op with
 | .store _ _ x=>fx (st.ev x)
 | .box _ x=>fx (st.ev x)
 | .mapUpdate _ _ k v | .insert _ _ k v=>fx (st.ev k)++fx (st.ev v)
 | .buildSlice _ _ parts=>parts.toList.flatMap λp=>fx (st.ev p.2)
 |_=>[]
def H8(ops:Array Oper)(i:Nat)(d:DS)(o:Oper)(s:St):Bool :=
 match o.dst with
  |none=>true
  |some x=>(fx (ay s.t x)).all (d.fh ops i)
def dS(ops:Array Oper)(i:Nat):List Nat :=
 match ops[i]? with
 |some o=>(o.after.toList.filter (Region.binds .any ·)).map (·.on)
 |none=>[]
def jE(acc:List Nat):List Nat->List Nat
 | []=>acc
 |x::r=>jE (if acc.contains x=true then acc else x::acc) r
def behind(ops:Array Oper):Nat->List Nat->List Nat
 |0,acc=>acc
 |d+1,acc=>behind ops d (jE acc (acc.flatMap (dS ops)))
def CC(ops:Array Oper)(i j:Nat):Bool:=(behind ops 10 (jE [] (dS ops i))).contains j
def pK(ops:Array Oper)(i j:Nat):Bool:=direct ops i j || CC ops i j
def yd(ops:Array Oper)(x y:Nat × Nat):Bool :=
 decide (x.1≠y.1) || decide (x.2=y.2) || (decide (y.2<x.2) && pK ops x.2 y.2) || (decide (x.2<y.2) && pK ops y.2 x.2)
def si(ops:Array Oper)(rd wr:List (Nat × Nat)):Bool :=
 (rd.all λx=>wr.all λy=>yd ops x y) && wr.all λx=>wr.all λy=>yd ops x y
def iR(a b i:Nat):List (Nat × Nat):=(List.range (b-a)).map λj=>(a+j,i)
def pf(al:List (Nat × Nat))(o:bq):Bool:=o.all λx=>[1,2,3].all λd=>decide (al.lookup (x.1+d)=al.lookup x.1)
def H9(A:b_ R)(G:bW)(st:St)(o:Oper)(K:St->R):R :=
  match o.op with
  | .call {callee := .builtin .append,..}=>zQ A G st o K
  | .buildSlice t len _=>if len=0∨tp G t o.dst=true then oH A G st o K else oG A G st o K
  | .store _ a _=>match st.ev a with
    | .cv (.one (.gg ..))=>oH A G st o K
    |_=>oG A G st o K
  | .makeMap .. => oH A G st o K
  | .mapUpdate .. => oH A G st o K
  | .insert .. => oH A G st o K
  | .convert s d _=>if (hU G.P s d).isSome=true then oH A G st o K else oG A G st o K
  |_=>oG A G st o K
def qU(A:b_ R)(G:bW)(ops:Array Oper)(i:Nat)(d:DS)(st:St)(o:Oper)(K:DS->St->R):R :=
  if (ba st o++aY st o++dM st o).all (d.fh ops i)=true then
    H9 A G st o λs =>
      if (H8 ops i d o s && pf (iR st.c.nk s.c.nk i++d.al) s.o)=true then
        K {rd:=(ba st o).map (·,i)++d.rd,wr:=(aY st o).map (·,i)++d.wr,al:=iR st.c.nk s.c.nk i++d.al} s
      else A.fail "drawn: blocks"
  else A.fail "drawn: order"
def jd(A:b_ R)(G:bW)(ops:Array Oper):Nat->List Oper->DS->St->(St->R)->R
  |_, [], d, st, K => if si ops d.rd d.wr = true then K st else A.fail "drawn: read and written"
  |i,o::r,d,st,K =>
    match o.guard with
    |none=>qU A G ops i d st o λd' s=>jd A G ops (i+1) r d' s K
    |some (j,want)=>match (ops[j]?).bind (·.dst)with
      |none => A.fail "guard"
      | some x=>if x < st.n then match ay st.t x with
          | .cv (.one (.bool e)) =>
            gC A e
              (λ_=>if want=true then qU A G ops i d (st.dP x true) o λd' s=>jd A G ops (i+1) r d' s K else St.put A (st.dP x true) o.dst .eH st.c λs=>jd A G ops (i+1) r d s K)
              (λ_=>if want=true then St.put A (st.dP x false) o.dst .eH st.c λs=>jd A G ops (i+1) r d s K else qU A G ops i d (st.dP x false) o λd' s=>jd A G ops (i+1) r d' s K)
          | .eH=>St.put A st o.dst .eH st.c λs=>jd A G ops (i+1) r d s K
          |_ => A.fail "guard: unknown"
        else A.fail "guard: slot"
def nU(ops:Array Oper):Nat->Nat
 |0=>0
 |n+1=>if (List.range n).all (λj=>(behind ops 10 (jE [] (dS ops n))).contains j)=true then nU ops n else n+1
def nV(P:Program)(o:Oper):Bool :=
 match o.op with
 | .call {callee := .builtin .len,..}=>false
 | .call {callee := .builtin .min,..}=>false
 | .call {callee := .builtin .max,..}=>false
 | .call _=>true
 | .convert s d _=>(hU P s d).isSome
 | .move _ | .assign _ | .pick .. | .load .. | .nilCheck _ | .binOp .. | .unOp .. | .field .. | .fieldAddr .. | .indexAddr .. | .index .. | .extract .. | .build .. | .typeAssert .. | .lookup .. | .makeFunc .. | .makeInterface .. => false
 | .slice _ _ _ _ m=>m.isSome
 |_=>true
def tu(ops:Array Oper):Nat->List Nat->List Nat
 |0,acc=>acc
 |j+1,acc=>tu ops j (if acc.contains j=true then jE acc (dS ops j)else acc)
def before(ops:Array Oper)(i:Nat):List Nat:=tu ops i (jE [] (dS ops i))
def ye(ops:Array Oper):List Nat->List Nat->List Nat
 |done,[]=>done
 |done,j::r=>if (dS ops j).all done.contains=true then ye ops (done ++ [j]) r else ye ops done r
def canon(ops:Array Oper)(fl:List Nat):List Nat->List Nat->List Nat
 |done,[]=>ye ops done (fl.filter λj => !done.contains j)
 |done,a::r=>let d:=ye ops done (fl.filter λj => !done.contains j);canon ops fl (d ++ [a]) r
def Dt(P:Program)(ops:Array Oper):List Nat:=(List.range ops.size).filter λi=>match ops[i]? with|some o=>nV P o|none=>false
def A6(P:Program)(ops:Array Oper):List Nat:=(List.range ops.size).filter λi=>match ops[i]? with|some o => !nV P o|none=>false
def pL(P:Program)(ops:Array Oper):List Nat:=canon ops (A6 P ops) [] (Dt P ops)
def Gj(P:Program)(ops:Array Oper):List Nat->Bool
  | []=>true
  |i::r=>decide (i<ops.size) && !r.contains i && (dS ops i).all (λj => !(i::r).contains j) &&
    (match ops[i]? with
     |some o => !nV P o || r.all (λx=>(dS ops x).any λj=>(i::r).contains j)
     |none=>false) && Gj P ops r
def A7(o:Oper):Bool :=
 match o.op with
 | .call {callee := .value _,..}=>true
 | .call {callee := .invoke ..,..}=>true
 |_=>false
def pM(P:Program)(ops:Array Oper):Bool :=
 ops.toList.any A7 && Gj P ops (pL P ops) && (List.range ops.size).all λj=>(pL P ops).contains j
structure iu where
 j:Nat
 dst:Option Tmp
 rd:List Nat
 ld:Option (Nat × Nat × Bool × Nat):=none
def yf(P:Program)(st:St)(o:Oper):Option (Nat × Nat × Bool × Nat) :=
  match o.op with
  | .load t x=>match aP P t,st.ev x with
    |some (g,n),.cv (.one (.loc k off))=>some (k,off,g,n)
    |_,_=>none
  |_=>none
def vL(q:Nat × Nat × Bool × Nat)(cs:List At):Option CV :=
 if q.2.2.1=true then if q.2.1+q.2.2.2<=cs.length then some (.agg ((cs.drop q.2.1).take q.2.2.2))else none else (cs[q.2.1]?).map .one
def yg(t:List (Nat × SV))(m:Mem)(p:iu):Bool :=
  match p.ld,p.dst with
  |some q,some d=>match getM m q.1,ay t d with
    |some (cs,_),.cv u=>decide (vL q cs=some u)
    |_,_=>false
  |_,_=>false
def cE(t:List (Nat × SV)):List iu->List (Nat × SV)
  | []=>t
  |p::r=>match p.dst with
    |some d=>(d,.any)::cE t r
    |none=>cE t r
def eZ(t:List (Nat × SV))(dst:Option Tmp)(v:SV):List (Nat × SV) :=
 match dst with
 |some d=>(d,v)::t
 |none=>t
def Gk(A:b_ R)(G:bW)(st:St)(o:Oper)(K:SV->aw->cd->R):R :=
  match o.op with
  | .makeInterface t x=>match G.P.underlying t,st.ev x with
    |some (.interface _), _ => A.fail "makeInterface"
    | some _,.cv v=>if v.flat=true/\v.wf st.c=true then
        A.j8 st.c.nv t v (K (.cv (.one (.val st.c.nv))) {st.c with nv:=st.c.nv+1} (.j8 st.c.nv t v::st.k))
      else A.fail "makeInterface: value"
    |_, _ => A.fail "makeInterface"
  |_ => um A G st o λv c => if c.nk = st.c.nk /\ v.wf c = true then K v c st.k else A.fail "drawn: value"
def zS(s st:St)(k:Nat):Bool:=decide (getM s.m k=getM st.m k) && decide (aM s.o k=aM st.o k)
def qV(n:Nat):Option Tmp->Bool
 |some d=>decide (d<n)
 |none=>true
inductive Gd where
 |yes
 |no
 |ask (e:BE) (want:Bool)
 |bad
def guardOf(ops:Array Oper)(st:St)(o:Oper):Gd :=
  match o.guard with
  |none=>.yes
  |some (j,want)=>match (ops[j]?).bind (·.dst)with
    |none=>.bad
    | some d=>if d < st.n then match ay st.t d with
        | .cv (.one (.bool e))=>.ask e want
        | .eH=>.no
        |_=>.bad
      else .bad
abbrev Kf:=List (BE × Bool)
def nt(A:b_ R)(F:Kf)(e:BE)(t f:Kf->R):R :=
 match F.lookup e with
 |some true=>t F
 |some false=>f F
 |none=>gC A e (λ_=>t ((e,true)::F)) (λ_=>f ((e,false)::F))
def nu(A:b_ R)(F:Kf)(g:Gd)(go no:Kf->R):R :=
  match g with
  | .yes=>go F
  | .no=>no F
  | .ask e want=>nt A F e (λF=>if want=true then go F else no F) (λF=>if want=true then no F else go F)
  | .bad => A.fail "guard: unknown"
def Du(A:b_ R)(G:bW)(step:St->Oper->(St->R)->R)(ops:Array Oper)(st:St)(F:Kf)(P:List iu)(i:Nat)(o:Oper)(K:St->Kf->List iu->R):R :=
  let bf:=before ops i;let P0:=P.filter λp => !bf.contains p.j;let st0:St := {st with t:=cE st.t P0}
  nu A F (guardOf ops st0 o)
    (λF => step st0 o λs => if P0.all (λp => p.rd.all (zS s st) || yg st.t s.m p) = true then K { s with t := eZ st.t o.dst (match o.dst with|some d => ay s.t d|none => .any), n := st.n } F P0 else A.fail "drawn: read and written")
    (λF=>K {st with t:=eZ st.t o.dst .eH} F P0)
def A8(A:b_ R)(G:bW)(st:St)(F:Kf)(o:Oper)(K:SV->aw->cd->Kf->R):R :=
  match o.op with
  | .pick x a b=>match st.ev x with
    | .cv (.one (.bool e))=>nt A F e (λF=>K (st.ev a) st.c st.k F) (λF=>K (st.ev b) st.c st.k F)
    |_ => A.fail "pick"
  |_=>Gk A G st o λv c k=>K v c k F
def Dv(A:b_ R)(G:bW)(ops:Array Oper)(st:St)(F:Kf)(P:List iu)(i:Nat)(o:Oper)(K:St->Kf->List iu->R):R :=
 nu A F (guardOf ops st o)
  (λF=>A8 A G st F o λv c k F=>K {st with t:=eZ st.t o.dst v,c:=c,k:=k} F (⟨i,o.dst,ba st o,yf G.P st o⟩::P))
  (λF=>K {st with t:=eZ st.t o.dst .eH} F (⟨i,o.dst,[],none⟩::P))
def pg(A:b_ R)(G:bW)(step:St->Oper->(St->R)->R)(ops:Array Oper):List Nat->St->Kf->List iu->(St->R)->R
  | [],st,_,_,K=>K st
  |i::r,st,F,P,K=>st.norm λst=>match ops[i]? with
    |none => A.fail "drawn: operation"
    |some o =>
      if qV st.n o.dst=true then
        if nV G.P o=true then Du A G step ops st F P i o λs F P=>pg A G step ops r s F P K
        else Dv A G ops st F P i o λs F P=>pg A G step ops r s F P K
      else A.fail "drawn: slot"
def sj(A:b_ R)(G:bW)(inl:yc R)(yl:Yl R)(rG:Bool)(KP:Nat->St->R)(ops:Array Oper)(st:St)(K:St->R):R :=
  if eJ ops=true then
    if pM G.P ops=true then pg A G (nT A G inl yl rG KP) ops (pL G.P ops) st [] [] K else
    jd A G ops 0 (ops.toList.take (nU ops ops.size)) ⟨[],[],[]⟩ st λs=>lI A (nT A G inl yl rG KP) ops (ops.toList.drop (nU ops ops.size)) s K
  else A.fail "drawn: form"
def keyOf:Code->Nat
 | .region id ops _=>1000000000000*ops.size+id
 | .seq a _=>keyOf a
 | .block _ b=>keyOf b
 | .scope b=>keyOf b
 | .loop b=>keyOf b
 | .cond _ a _=>keyOf a
 |_=>0
def ek(P:Program)(st:St):List ResultVar->Option (List CV)
  | []=>some []
  | .tmp t::r=>match ay st.t t,ek P st r with
    | .cv v,some l=>some (v::l)
    |_,_=>none
  | .cell a t::r=>match ay st.t a,ek P st r with
    | .cv (.one (.loc k off)),some l=>match getM st.m k with
      |some (cs,_)=>match partOf P t cs off with
        |some v=>some (v::l)
        |none=>none
      |none=>none
    |_,_=>none
def kindOf(o:bq):At->Option CK
  | .int k _=>some (.int k)
  | .bool _=>some .bool
  | .val _=>some .uY
  | .str _=>some .str
  | .sv _=>some .str
  | .gV _ _ sz _ _=>some (.sl sz)
  | .own k=>match aM o k with
    |some (ce,sz,t)=>if gZ ce=true then some (.own sz t)else none
    |none=>none
  |_=>none
def fy(o:bq):List At->Option (List CK)
  | []=>some []
  |a::l=>match kindOf o a,fy o l with
    |some k,some r=>some (k::r)
    |_,_=>none
def pN(st:St):List (Nat × Nat)->Option (List (Nat × Nat))
  | []=>some []
  | (s,off)::r=>match ay st.t s,pN st r with
    | .cv (.one (.loc k o)),some l=>some ((k,o+off)::l)
    | .cv (.one (.omap k)),some l=>some ((k,off)::l)
    |_,_=>none
def fL(t:List (Nat × SV)):List Nat->Option (List CV)
  | []=>some []
  |s::r=>match ay t s,fL t r with
    | .cv v,some l=>some (v::l)
    |_,_=>none
def kL(m:Mem)(os:bq):List (Nat × Nat)->Option (List At)
  | []=>some []
  | (k,o)::r=>match getM m k,kL m os r with
    |some (cs,_),some l=>match cs[o]? with
      |some a=>some (a::l)
      |none=>none
    |none,some l=>match aM os k with
      |some (_,0,_+1)=>some (.own k::l)
      |_=>none
    |_,_=>none
def isInt:At->Bool
 | .int .. | .bool _=>true
 |_=>false
def LH.parts(m:Mem):LH->Option (List (Nat × Nat) × List (Nat × Nat) × List Nat × List Nat)
  | .kT=>none
  | .inv cells bp kill=>some ([],cells,bp,kill)
  | .HU qO cells bp kill=>some (qO,cells,bp,kill)
  | .ug alts cells bp kill=>match alts.find? (λa=>match kL m [] a with|some l=>l.all isInt|none=>false)with
    |some qO=>some (qO,cells,bp,kill)
    |none=>none
def CV.shape:CV->Bool × Nat
 | .one _=>(false,1)
 | .agg l=>(true,l.length)
def nW:CV->List At->CV
 | .one a,l=>.one (l.headD a)
 | .agg x,l=>.agg (l.take x.length)
def dN(t:List (Nat × SV)):List Nat->List CV->List At->List (Nat × SV)
 |s::r,v::vs,l=>dN ((s,.cv (nW v l))::t) r vs (l.drop v.cells.length)
 |_,_,_=>t
def cc(m:Mem):List (Nat × Nat)->List At->Mem
  | (k,o)::r,a::l=>match getM m k with
    |some (cs,_)=>cc (j9 m k (cs.set o a)) r l
    |none=>cc m r l
  |_,_=>m
def fz(t:List (Nat × SV)):List Nat->List (Nat × SV)
 | []=>t
 |s::r=>(s,.any)::fz t r
def gW(k:Nat)(free:List (Nat × Nat)):Nat->List At->List At->Bool
 |_,[],[]=>true
 |o,a::x,b::y=>(free.contains (k,o) || decide (a=b)) && gW k free (o+1) x y
 |_,_,_=>false
def aQ:List At->List Nat
 | []=>[]
 | .own k::l=>k::aQ l
 |_::l=>aQ l
def sn(kf k:Nat):SV->SV
 | .cv (.one (.own j))=>if j=kf then .cv (.one (.own k))else .cv (.one (.own j))
 |v=>v
def qW(kf k:Nat):List (Nat × SV)->List (Nat × SV)
 | []=>[]
 | (i,v)::r=>(i,sn kf k v)::qW kf k r
def pO(kf k:Nat):bq->bq
 | []=>[]
 | (j,v)::r=>(if j=kf then k else j,v)::pO kf k r
def jT:List (Nat × Nat)->St->St
 | [],st=>st
 | (kf,k)::r,st=>jT r {st with t:=qW kf k st.t,o:=pO kf k st.o}
def tv(G:bW)(st:St)(key:Nat):List Nat :=
  match G.loops.lookup (500000000000000000+key)with
  |some (.inv _ bp _)=>bp.filterMap λs=>match ay st.t s with
    | .cv (.one (.own k))=>some k
    |_=>none
  |_=>[]
def isMap(o:bq)(k:Nat):Bool :=
 match aM o k with
 |some (_,0,_+1)=>true
 |_=>false
def pP(a b:St)(bp:List Nat)(free:List (Nat × Nat))(own:List Nat):Bool :=
 decide (b.n=a.n/\b.r=a.r/\b.d=a.d/\b.df=a.df) && (a.o.all λx=>own.contains x.1 || decide (aM b.o x.1=aM a.o x.1)) && (a.t.all λx=>bp.contains x.1 || decide (ay a.t x.1=.any) || decide (ay b.t x.1=ay a.t x.1)) &&
 (a.m.all λx=>match getM b.m x.1 with
  |some (cs,t)=>decide (t=x.2.2) && gW x.1 free 0 x.2.1 cs
  |none=>false)
def kT(A:b_ R)(f:St->(Ex->St->R)->R)(K:Ex->St->R):Nat->St->R
  |0, _ => A.fail "rounds"
  |m+1,st=>f st λe s=>match e with
    | .normal=>s.vw λs=>kT A f K m s
    |e=>K e s
def fI:List (Nat × Option Ex)->Nat->Option (Option Ex)
 | [],_=>none
 | (j,v)::r,i=>if j=i then some v else fI r i
def vM(r:List (Nat × Option Ex)):Option Nat->Bool
 |none=>true
 |some k=>(fI r k).isSome
def mS:List (Nat × Option Ex)->Nat->Option Ex->List (Nat × Option Ex)
 | [],_,_=>[]
 | (j,v)::r,i,e=>if j=i then (j,e)::mS r i e else (j,v)::mS r i e
def mT:List (Nat × Option Ex)->Nat->List (Nat × Option Ex)
 | [],_=>[]
 | (j,v)::r,i=>if j=i then mT r i else (j,v)::mT r i
def nX:List (Nat × SV)->List Nat->List SV->List (Nat × SV)
 |t,p::ps,v::vs=>nX ((p,v)::t) ps vs
 |t,_,_=>t
def nw(m:Mem)(o:bq):Nat->List Nat->List Nat->List Nat
  |0,todo,seen=>todo++seen
  |_+1,[],seen=>seen
  |n+1,k::r,seen=>if seen.contains k=true then nw m o n r seen else
    nw m o n ((match getM m k with|some (cs,_)=>aN cs|none=>[])++(match aM o k with|some (ce,_,_)=>aN (kA ce)|none=>[])++r) (k::seen)
def St.prune(n0:Nat)(v:SV)(st:St):St :=
 if (st.m.takeWhile λx=>decide (n0<=x.1)).length<24 then st else
  let fh:=(st.m.filter λx=>decide (x.1<n0)).flatMap (λx=>(aN x.2.1).filter λk=>decide (n0<=k))++(st.o.filter λx=>decide (x.1<n0)).flatMap (λx=>(aN (kA x.2.1)).filter λk=>decide (n0<=k));let lv:=nw st.m st.o 3000 (fx v++fh) []
  {st with m:=st.m.filter λx=>decide (x.1<n0) || lv.contains x.1,o:=st.o.filter λx=>decide (x.1<n0) || lv.contains x.1}
def ny:Code->Option (Tmp × Code)
  | .seq (.region _ ops false) rest=>match ops.toList with
    | [⟨some d,.call {callee := .builtin .recover,args,..},_,_,_,none⟩]=>if args.toList.length=0 then some (d,rest)else none
    |_=>none
  |_=>none
def leave(A:b_ R)(G:bW)(ex:Code->St->(Ex->St->R)->R)(fn:Func)(e:Ex)(s:St)(KR:SV->St->R)(KP:Nat->St->R):R :=
  match s.df with
  | []=>match e with
    | .exit _ => A.fail "leave: exit"
    | .j4 i=>match s.d with
      | []=>KP i s
      |_ => A.fail "leave: marks"
    |_=>match ek G.P s fn.results.toList with
      |some l=>KR (cZ l) s
      |none => A.fail "leave: results"
  | [(g,aI)]=>match s.d,G.P.funcs[g]? with
    | [],some gn=>match gn.body with
      |some b=>match ny b with
        |some (dst,rest) =>
          if gn.results.toList=[]/\G.inl.contains g=true then
            let args:=aI.map dW
            let rv:Option SV:=match e with
              | .exit _=>none
              | .j4 i=>if (gL s.k i).isSome=true then some (.cv (.one (.val i)))else none
              |_=>some (.cv (.one .oQ))
            match rv with
            |none => A.fail "leave: exit"
            |some rv=>St.put A {t:=(List.range args.length).zip args,n:=args.length+(gn.ntmps-args.length),m:=s.m,c:=s.c,o:=s.o,r:=s.r,d := [],k:=s.k} (some dst) rv s.c λs1 =>
              ex rest s1 λe2 s2 =>
                let back:R:=match s2.d,s2.df with
                  | [],[]=>match ek G.P {t:=s.t,n:=s.n,m:=s2.m,c:=s2.c,o:=s2.o,r:=s2.r,d:=s.d,k:=s2.k} fn.results.toList with
                    |some l=>KR (cZ l) {t:=s.t,n:=s.n,m:=s2.m,c:=s2.c,o:=s2.o,r:=s2.r,d:=s.d,k:=s2.k}
                    |none => A.fail "leave: results"
                  |_, _ => A.fail "leave: closure"
                match e2 with
                | .normal=>back
                | .ret=>back
                |_ => A.fail "leave: closure"
          else A.fail "leave: closure's results"
        |none => A.fail "leave: closure's form"
      |none => A.fail "leave: closure's body"
    |_, _ => A.fail "leave: closure"
  |_ => A.fail "leave: closures"
def mU(A:b_ R)(G:bW)(ex:Option Nat->Yl R->Code->St->(Ex->St->R)->R)(yl:Yl R)(K:Ex->St->R):yc R:=λf args s K'=>match G.P.funcs[f]? with
  |none => A.fail "inline: no such function"
  |some fn=>match fn.body with
    |none => A.fail "inline: no body"
    |some b =>
      pa (λt=>({t:=t,n:=args.length+(fn.ntmps-args.length),m:=s.m,c:=s.c,o:=s.o,r:=s.r,d := [],k:=s.k}:St).norm λs0=>ex none yl b s0 λe s' =>
        leave A G (ex none yl) fn e s' (λv s2=>K' v (St.prune s.c.nk v {t:=s.t,n:=s.n,m:=s2.m,c:=s2.c,o:=s2.o,r:=s2.r,d:=s.d,k:=s2.k,df:=s.df}))
          λi s2=>K (.j4 i) {t:=s.t,n:=s.n,m:=s2.m,c:=s2.c,o:=s2.o,r:=s2.r,d:=s.d,k:=s2.k,df:=s.df}) args 0 []
def yh(A:b_ R)(G:bW)(n:Nat)(ex:Option Nat->Yl R->Code->St->(Ex->St->R)->R)(yl:Yl R)(K:Ex->St->R):yc R:=λf args s K'=>match G.jR with
  | []=>match G.marks with
    | []=>mU A G ex yl K f args s K'
    |_::_=>match G.marks.contains f with
      |true=>A.mark (some n) f args s (mU A G ex yl K f args s λv s'=>A.mark none f [v] s' (K' v s'))
      |false=>mU A G ex yl K f args s K'
  |_::_=>match ky n f args s G.jR with
    |some e=>j_ A e.asks (K' e.v e.s')
    |none=>mU A G ex yl K f args s K'
def vN(A:b_ R)(ex:Code->St->(Ex->St->R)->R)(d:Tmp)(a b:Code)(st:St)(K:Ex->St->R):R:=match ay st.t d with
  | .cv (.one (.bool e)) => if d<st.n then gC A e (λ_ => (st.dP d true).norm λst => ex a st K) (λ_ => (st.dP d false).norm λst => ex b st K) else A.fail "cond: slot"
  |_ => A.fail "cond: unknown"
def vO(A:b_ R)(G:bW)(ex:Option Nat->Yl R->Code->St->(Ex->St->R)->R)(rd:Option Nat)(yl:Yl R)(g:Tmp)(ps:Array Tmp)(assign body:Code)(st:St)(K:Ex->St->R):R:=match ay st.t g with
  | .cv (.one (.fn f aI)) =>
    if G.inl.contains f=true/\g<st.n/\vM st.r rd=true/\st.df=[]then
      let kr:=st.c.nk
      let SI:Yl R:=λk args s K' =>
        if k=kr then
          if fI s.r kr=some none/\args.length=ps.size/\(ps.all λp=>decide (p<st.n))=true then
            ex (some kr) yl assign {t:=nX st.t ps.toList args,n:=st.n,m:=s.m,c:=s.c,o:=s.o,r:=s.r,d := [],k:=s.k} λe s1=>match e with
              | .normal=>if fI s1.r kr=some none then ex (some kr) yl body {s1 with r:=mS s1.r kr (some .normal)} λe s2 =>
                if fI s2.r kr=some (some .normal)/\s2.df=[]then match e with
                  | .normal=>K' (.cv (.one (.bool (.lit true)))) {t:=s.t,n:=s.n,m:=s2.m,c:=s2.c,o:=s2.o,r:=mS s2.r kr none,d:=s.d,k:=s2.k,df:=s.df}
                  | .j4 _ => A.fail "yield: panic"
                  |e=>K' (.cv (.one (.bool (.lit false)))) {t:=s.t,n:=s.n,m:=s2.m,c:=s2.c,o:=s2.o,r:=mS s2.r kr (some e),d:=s.d,k:=s2.k,df:=s.df}
                else A.fail "yield: record"
                else A.fail "yield: record at first"
              |_ => A.fail "yield: assignment"
          else A.fail "yield: not ready"
        else yl k args s K'
      match G.P.funcs[f]? with
      |none => A.fail "range: no such function"
      |some fn=>match fn.body with
        |none => A.fail "range: no body"
        |some b =>
          let args:=SV.cv (.one (.rV kr))::aI.map dW
          ex none SI b {t:=(List.range args.length).zip args,n:=args.length+(fn.ntmps-args.length),m:=st.m,c := {st.c with nk:=kr+2},o:=st.o,r:=(kr,none)::st.r,d := [],k:=st.k} λe s' =>
            if ¬s'.df = [] then A.fail "range: defers" else
            match e with
            | .exit _ => A.fail "range: exit"
            | .j4 _ => A.fail "range: panic"
            |_=>match ek G.P s' fn.results.toList with
              |some _=>match fI s'.r kr with
                |some none=>K .normal {t:=st.t,n:=st.n,m:=s'.m,c:=s'.c,o:=s'.o,r:=mT s'.r kr,d:=if rd.isSome=true then st.d else (kr+1)::st.d,k:=s'.k}
                |some (some .normal) => A.fail "range: busy"
                |some (some (.j4 _)) => A.fail "range: panic"
                |some (some e)=>K e {t:=st.t,n:=st.n,m:=s'.m,c:=s'.c,o:=s'.o,r:=mT s'.r kr,d:=if rd.isSome=true then st.d else (kr+1)::st.d,k:=s'.k}
                |none => A.fail "range: record"
              |none => A.fail "range: results"
    else A.fail "range: function"
  |_ => A.fail "range: value"
def vP(A:b_ R)(G:bW)(ex:Option Nat->Yl R->Code->St->(Ex->St->R)->R)(n:Nat)(rd:Option Nat)(yl:Yl R)(b:Code)(st:St)(K:Ex->St->R):R:=match (G.loops.lookup (keyOf b)).bind (LH.parts st.m)with
  |some (qO,cells,bp,kill)=>match pN st cells,fL st.t bp with
    |some fc,some vs =>
      let free:=qO++fc
      match kL st.m st.o free with
      |none => A.fail "loop: cells"
      |some ms =>
        let A9:=vs.flatMap CV.cells++ms
        match fy st.o A9 with
        |none => A.fail "loop: zdp"
        |some ks =>
          if (aQ A9).Nodup then
            let fr:=ax st.c ks;let fo:=bo st.c ks;let jF:=((aQ fr).zip (aQ A9)).filter λp=>(tv G st (keyOf b)).contains p.2 || isMap st.o p.2
            let A_:St:=jT jF {t:=dN (fz st.t kill) bp vs fr,n:=st.n,m:=cc st.m free (fr.drop (vs.flatMap CV.cells).length),c:=aX st.c ks,o:=fo++cf st.o (aQ A9),r:=st.r,d:=st.d,k:=st.k,df:=st.df}
            A.loop st.o A9 fo fr λcont =>
              ex rd yl b A_ λe s=>match e with
                | .normal=>match fL s.t bp,kL s.m s.o free with
                  |some kM,some mV =>
                    if pP A_ s bp free (fo.map (·.1)++jF.map (·.2))=true/\((aQ fr).zip (aQ (kM.flatMap CV.cells++mV))).all (fun p=>jF.all fun q=>q.1 != p.1 || q.2 == p.2)=true/\kM.map CV.shape=vs.map CV.shape/\fy s.o (kM.flatMap CV.cells++mV)=some ks/\(aQ (kM.flatMap CV.cells++mV)).Nodup /\
                        (aQ (kM.flatMap CV.cells++mV)).all (λk=>fo.any (λx=>x.1 == k) || (cf st.o (aQ A9)).all λx=>x.1 != k)=true then
                      cont s.o (kM.flatMap CV.cells++mV)
                    else A.fail "loop: not the same"
                  |_, _ => A.fail "loop: values"
                |e=>K e s
          else A.fail "loop: rows twice"
    |_, _ => A.fail "loop: slots"
  |none=>kT A (ex rd yl b) K n st
def exec(A:b_ R)(G:bW):Nat->Option Nat->Yl R->Code->St->(Ex->St->R)->R
  |0, _, _, _, _, _ => A.fail "fuel"
  |n+1,rd,yl,c,st,K =>
    match c with
    | .skip=>K .normal st
    | .label _=>K .normal st
    | .ret=>K .ret st
    | .exit id=>K (.exit id) st
    | .region _ ops draw=>if draw=true then sj A G (yh A G n (exec A G n) yl K) yl rd.isNone (λi s=>K (.j4 i) s) ops st (K .normal)else lI A (nT A G (yh A G n (exec A G n) yl K) yl rd.isNone λi s=>K (.j4 i) s) ops ops.toList st (K .normal)
    | .seq a b=>exec A G n rd yl a st λe s=>match e with
      | .normal=>exec A G n rd yl b s K
      |e=>K e s
    | .cond (.tmp d) a b=>vN A (exec A G n rd yl) d a b st K
    | .cond (.const (.bool t)) a b=>if t=true then exec A G n rd yl a st K else exec A G n rd yl b st K
    | .block id b=>exec A G n rd yl b st λe s=>match e with
      | .exit i=>if i=id then K .normal s else K (.exit i) s
      |e=>K e s
    | .scope b => if rd = none then exec A G n rd yl b st K else A.fail "scope in a round"
    | .rangeFunc (.tmp g) ps assign body=>vO A G (exec A G n) rd yl g ps assign body st K
    | .loop b=>vP A G (exec A G n) n rd yl b st K
    |_ => A.fail "code"
def tx(A:b_ R)(G:bW)(n:Nat)(fn:Func)(b:Code)(args:List SV)(c:aw)(k:cd := []):R :=
  exec A G n none (λ_ _ _ _ => A.fail "yield") b { t := (List.range args.length).zip args, n := args.length + (fn.ntmps - args.length), m := [], c := c, k := k } fun e s =>
    leave A G (exec A G n none λ_ _ _ _ => A.fail "yield") fn e s (λv s2 => A.fin v (c9 s2.m ((nL v).flatMap CV.cells)) (eI s2.o ((nL v).flatMap CV.cells))) λi _ => A.x_ i
def sq(A:b_ R)(G:bW)(n:Nat)(fn:Func)(b:Code)(args:List SV)(bs:List (List At × TypeId))(c:aw)(k:cd := []):R :=
  exec A G n none (λ_ _ _ _ => A.fail "yield") b { t := (List.range args.length).zip args, n := args.length + (fn.ntmps - args.length), m := (List.range bs.length).zip bs, c := c, k := k } fun e s =>
    leave A G (exec A G n none λ_ _ _ _ => A.fail "yield") fn e s (λv s2 => A.Dm v (c9 s2.m ((List.range bs.length).map (λk => At.loc k 0) ++ (nL v).flatMap CV.cells)) (eI s2.o ((nL v).flatMap CV.cells)) (bs.map (·.2))) λi _ => A.x_ i
end Vc
