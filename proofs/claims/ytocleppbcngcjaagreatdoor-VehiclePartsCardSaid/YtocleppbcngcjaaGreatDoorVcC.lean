import Derived.Deep.LoopGhost
import Derived.Scope
import Derived.Below
import Derived.Orders
import Derived.Handy
import Derived.KernelRfl
set_option linter.unusedVariables false
set_option linter.unusedSimpArgs false
namespace Vc
open Go Go.RowKit
abbrev OV := {v:Value // v.oneCell'=true}
structure Env where
 i:Nat->Int
 b:Nat->Bool
 v:Nat->OV
 p:Nat->Nat × Nat
 s:Nat->List UInt8
 l:Nat->List OV
def Env.fQ(U:Env)(n:Nat)(x:Int):Env := {U with i:=λj=>if j=n then x else U.i j}
def Env.lC(U:Env)(n:Nat)(x:Bool):Env := {U with b:=λj=>if j=n then x else U.b j}
def Env.ny(U:Env)(n:Nat)(x:OV):Env := {U with v:=λj=>if j=n then x else U.v j}
def Env.rl(U:Env)(n:Nat)(x:Nat × Nat):Env := {U with p:=λj=>if j=n then x else U.p j}
def Env.pU(U:Env)(n:Nat)(x:List UInt8):Env := {U with s:=λj=>if j=n then x else U.s j}
def Env.jU(U:Env)(n:Nat)(x:List OV):Env := {U with l:=λj=>if j=n then x else U.l j}
def Env.zero:Env:=⟨λ_=>0,λ_=>false,λ_=>⟨.nilFunc,rfl⟩,λ_=>(0,0),λ_=>[],λ_=>[]⟩
structure ar where
 ni:Nat
 nb:Nat
 nv:Nat
 np:Nat
 nk:Nat
 ns:Nat
 nl:Nat
 deriving DecidableEq
structure ar.le(c d:ar):Prop where
 i:c.ni<=d.ni
 b:c.nb<=d.nb
 v:c.nv<=d.nv
 p:c.np<=d.np
 k:c.nk<=d.nk
 s:c.ns<=d.ns
 l:c.nl<=d.nl
theorem ar.le_refl(c:ar):c.le c:=⟨Nat.le_refl _,Nat.le_refl _,Nat.le_refl _,Nat.le_refl _,Nat.le_refl _,Nat.le_refl _,Nat.le_refl _⟩
theorem ar.le_trans{c d e:ar}(h:c.le d)(h':d.le e):c.le e :=
 ⟨Nat.le_trans h.i h'.i,Nat.le_trans h.b h'.b,Nat.le_trans h.v h'.v,Nat.le_trans h.p h'.p,Nat.le_trans h.k h'.k,Nat.le_trans h.s h'.s,Nat.le_trans h.l h'.l⟩
theorem ar.jV(c:ar)(n:Nat):c.le {c with nk:=c.nk+n}:=⟨Nat.le_refl _,Nat.le_refl _,Nat.le_refl _,Nat.le_refl _,Nat.le_add_right _ _,Nat.le_refl _,Nat.le_refl _⟩
theorem ar.pV(c:ar)(n:Nat):c.le {c with nl:=c.nl+n}:=⟨Nat.le_refl _,Nat.le_refl _,Nat.le_refl _,Nat.le_refl _,Nat.le_refl _,Nat.le_refl _,Nat.le_add_right _ _⟩
theorem ar.sq(c:ar)(n:Nat):c.le {c with ni:=c.ni+n}:=⟨Nat.le_add_right _ _,Nat.le_refl _,Nat.le_refl _,Nat.le_refl _,Nat.le_refl _,Nat.le_refl _,Nat.le_refl _⟩
structure Env.ay(c:ar)(U af:Env):Prop where
 i:∀j,j<c.ni->af.i j=U.i j
 b:∀j,j<c.nb->af.b j=U.b j
 v:∀j,j<c.nv->af.v j=U.v j
 p:∀j,j<c.np->af.p j=U.p j
 s:∀j,j<c.ns->af.s j=U.s j
 l:∀j,j<c.nl->af.l j=U.l j
theorem Env.an(c:ar)(U:Env):Env.ay c U U:=⟨λ_ _=>rfl,λ_ _=>rfl,λ_ _=>rfl,λ_ _=>rfl,λ_ _=>rfl,λ_ _=>rfl⟩
theorem Env.ah{c d:ar}{U af J:Env}(hc:c.le d)(h:Env.ay c U af)(h':Env.ay d af J):Env.ay c U J :=
 ⟨λj hj=>(h'.i j (Nat.lt_of_lt_of_le hj hc.i)).trans (h.i j hj),λj hj=>(h'.b j (Nat.lt_of_lt_of_le hj hc.b)).trans (h.b j hj),λj hj=>(h'.v j (Nat.lt_of_lt_of_le hj hc.v)).trans (h.v j hj),
  λj hj=>(h'.p j (Nat.lt_of_lt_of_le hj hc.p)).trans (h.p j hj),λj hj=>(h'.s j (Nat.lt_of_lt_of_le hj hc.s)).trans (h.s j hj),λj hj=>(h'.l j (Nat.lt_of_lt_of_le hj hc.l)).trans (h.l j hj)⟩
inductive IE where
 |lit (n:Int)
 |var (i:Nat)
 deriving DecidableEq
def IE.den(U:Env):IE->Int
 | .lit n=>n
 | .var i=>U.i i
def IE.wf(c:ar):IE->Bool
 | .lit _=>true
 | .var i=>decide (i<c.ni)
theorem IE.aa{c:ar}{U af:Env}(h:Env.ay c U af):∀{e:IE},e.wf c=true->e.den af=e.den U
 | .lit _,_=>rfl
 | .var i,hw=>h.i i (by simpa [IE.wf]using hw)
theorem IE.aL{c d:ar}(h:c.le d):∀{e:IE},e.wf c=true->e.wf d=true
 | .lit _,_=>rfl
 | .var i,hw=>by simp [IE.wf]at hw ⊢;exact Nat.lt_of_lt_of_le hw h.i
inductive SE where
 |lit (l:List UInt8)
 |var (i:Nat)
 deriving DecidableEq
def SE.den(U:Env):SE->List UInt8
 | .lit l=>l
 | .var i=>U.s i
def SE.wf(c:ar):SE->Bool
 | .lit _=>true
 | .var i=>decide (i<c.ns)
theorem SE.aa{c:ar}{U af:Env}(h:Env.ay c U af):∀{e:SE},e.wf c=true->e.den af=e.den U
 | .lit _,_=>rfl
 | .var i,hw=>h.s i (by simpa [SE.wf]using hw)
theorem SE.aL{c d:ar}(h:c.le d):∀{e:SE},e.wf c=true->e.wf d=true
 | .lit _,_=>rfl
 | .var i,hw=>by simp [SE.wf]at hw ⊢;exact Nat.lt_of_lt_of_le hw h.s
inductive BE where
 |lit (b:Bool)
 |var (i:Nat)
 |cmp (op:BinOp) (a b:IE)
 |not (a:BE)
 |and (a b:BE)
 |or (a b:BE)
 |eq (a b:BE)
 |seq (a b:SE)
 deriving DecidableEq
def gD(op:BinOp)(a b:Int):Bool :=
 match op with
 | .eql=>a == b
 | .neq=>a != b
 | .lss=>decide (a<b)
 | .leq=>decide (a<=b)
 | .gtr=>decide (a > b)
 | .geq=>decide (a >= b)
 |_=>false
def AA(op:BinOp)(a b:Int):Prop :=
 match op with
 | .eql=>a=b
 | .neq=>a≠b
 | .lss=>a<b
 | .leq=>a<=b
 | .gtr=>b<a
 | .geq=>b<=a
 |_=>False
theorem Im(op:BinOp)(a b:Int):AA op a b↔gD op a b=true:=by
 cases op<;>simp [AA,gD]
def BE.den(U:Env):BE->Bool
 | .lit b=>b
 | .var i=>U.b i
 | .cmp op a b=>gD op (a.den U) (b.den U)
 | .not a => !a.den U
 | .and a b=>a.den U && b.den U
 | .or a b=>a.den U || b.den U
 | .eq a b=>a.den U == b.den U
 | .seq a b=>decide (a.den U=b.den U)
def BE.prop(U:Env):BE->Prop
 | .lit b=>b=true
 | .var i=>U.b i=true
 | .cmp op a b=>AA op (a.den U) (b.den U)
 | .not a=>¬a.prop U
 | .and a b=>a.prop U/\b.prop U
 | .or a b=>a.prop U∨b.prop U
 | .eq a b=>a.prop U↔b.prop U
 | .seq a b=>a.den U=b.den U
theorem BE.cZ(U:Env):∀e:BE,e.prop U↔e.den U=true
  | .lit b=>Iff.rfl
  | .var i=>Iff.rfl
  | .cmp op a b=>Im op _ _
  | .not a=>by simp [BE.prop,BE.den,BE.cZ U a]
  | .and a b=>by simp [BE.prop,BE.den,BE.cZ U a,BE.cZ U b]
  | .or a b=>by simp [BE.prop,BE.den,BE.cZ U a,BE.cZ U b]
  | .eq a b=>by
    simp only [BE.prop,BE.den,BE.cZ U a,BE.cZ U b];cases a.den U<;>cases b.den U<;>simp
  | .seq a b=>by simp [BE.prop,BE.den]
def BE.wf(c:ar):BE->Bool
 | .lit _=>true
 | .var i=>decide (i<c.nb)
 | .cmp _ a b=>a.wf c && b.wf c
 | .not a=>a.wf c
 | .and a b | .or a b | .eq a b=>a.wf c && b.wf c
 | .seq a b=>a.wf c && b.wf c
theorem BE.aa{c:ar}{U af:Env}(h:Env.ay c U af):∀{e:BE},e.wf c=true->e.den af=e.den U
 | .lit _,_=>rfl
 | .var i,hw=>h.b i (by simpa [BE.wf]using hw)
 | .cmp op a b,hw=>by simp only [BE.wf,Bool.and_eq_true]at hw;simp only [BE.den,IE.aa h hw.1,IE.aa h hw.2]
 | .not a,hw=>by simp only [BE.wf]at hw;simp only [BE.den,BE.aa h hw]
 | .and a b,hw=>by simp only [BE.wf,Bool.and_eq_true]at hw;simp only [BE.den,BE.aa h hw.1,BE.aa h hw.2]
 | .or a b,hw=>by simp only [BE.wf,Bool.and_eq_true]at hw;simp only [BE.den,BE.aa h hw.1,BE.aa h hw.2]
 | .eq a b,hw=>by simp only [BE.wf,Bool.and_eq_true]at hw;simp only [BE.den,BE.aa h hw.1,BE.aa h hw.2]
 | .seq a b,hw=>by simp only [BE.wf,Bool.and_eq_true]at hw;simp only [BE.den,SE.aa h hw.1,SE.aa h hw.2]
theorem BE.aL{c d:ar}(h:c.le d):∀{e:BE},e.wf c=true->e.wf d=true
 | .lit _,_=>rfl
 | .var i,hw=>by simp [BE.wf]at hw ⊢;exact Nat.lt_of_lt_of_le hw h.b
 | .cmp _ a b,hw=>by simp only [BE.wf,Bool.and_eq_true]at hw ⊢;exact⟨IE.aL h hw.1,IE.aL h hw.2⟩
 | .not a,hw=>by simp only [BE.wf]at hw ⊢;exact BE.aL h hw
 | .and a b,hw=>by simp only [BE.wf,Bool.and_eq_true]at hw ⊢;exact⟨BE.aL h hw.1,BE.aL h hw.2⟩
 | .or a b,hw=>by simp only [BE.wf,Bool.and_eq_true]at hw ⊢;exact⟨BE.aL h hw.1,BE.aL h hw.2⟩
 | .eq a b,hw=>by simp only [BE.wf,Bool.and_eq_true]at hw ⊢;exact⟨BE.aL h hw.1,BE.aL h hw.2⟩
 | .seq a b,hw=>by simp only [BE.wf,Bool.and_eq_true]at hw ⊢;exact⟨SE.aL h hw.1,SE.aL h hw.2⟩
def BE.jP:BE->BE
  | .cmp op (.lit a) (.lit b)=>.lit (gD op a b)
  | .not a=>match a.jP with
    | .lit b=>.lit !b
    | .not c=>c
    |c=>.not c
  | .and a b=>match a.jP,b.jP with
    | .lit false,_=>.lit false
    | .lit true,d=>d
    |_,.lit false=>.lit false
    |c,.lit true=>c
    |c,d=>.and c d
  | .or a b=>match a.jP,b.jP with
    | .lit true,_=>.lit true
    | .lit false,d=>d
    |_,.lit true=>.lit true
    |c,.lit false=>c
    |c,d=>.or c d
  | .eq a b=>match a.jP,b.jP with
    | .lit c,.lit d=>.lit (c == d)
    | .lit true,d=>d
    |c,.lit true=>c
    | .lit false,d=>.not d
    |c,.lit false=>.not c
    |c,d=>.eq c d
  | .seq (.lit a) (.lit b)=>.lit (decide (a=b))
  |e=>e
theorem BE.eP(U:Env):∀e:BE,e.jP.den U=e.den U
  | .lit _=>rfl
  | .var _=>rfl
  | .cmp op a b=>by cases a<;>cases b<;>rfl
  | .not a=>by
    have h:=BE.eP U a;simp only [BE.jP,BE.den,<-h];split<;>simp_all [BE.den]
  | .and a b=>by
    have h:=BE.eP U a;have h':=BE.eP U b;simp only [BE.jP,BE.den,<-h,<-h'];split<;>simp_all [BE.den]
  | .or a b=>by
    have h:=BE.eP U a;have h':=BE.eP U b;simp only [BE.jP,BE.den,<-h,<-h'];split<;>simp_all [BE.den]
  | .eq a b=>by
    have h:=BE.eP U a;have h':=BE.eP U b;simp only [BE.jP,BE.den,<-h,<-h'];split<;>simp_all [BE.den]
  | .seq a b=>by cases a<;>cases b<;>rfl
inductive IP where
 |bin (op:BinOp) (k:IntKind) (a b:IE)
 |shl (k:IntKind) (a:IE) (n:Nat)
 |shr (a:IE) (n:Nat)
 |conv (k:IntKind) (a:IE)
 |neg (k:IntKind) (a:IE)
 |GH (k:IntKind) (a:IE)
 |max (a b:IE)
 |min (a b:IE)
 |sum (a b:IE)
 |diff (a b:IE)
 |pW (s:SE)
 |tG (s:SE) (i:IE)
 |rn (n:Nat) (vs:List Nat) (sz:Nat)
 deriving DecidableEq
def kL(op:BinOp)(k:IntKind)(a b:Int):Int :=
 match op with
 | .add=>k.wrap (a+b)
 | .sub=>k.wrap (a-b)
 | .mul=>k.wrap (a*b)
 | .quo=>k.wrap (a.tdiv b)
 | .rem=>a.tmod b
 | .shl=>k.wrap (a*2 ^ (Nat.min b.toNat k.bits))
 | .shr=>a.fdiv (2 ^ (Nat.min b.toNat k.bits))
 |op=>bits op k a b
def IP.den(U:Env):IP->Int
 | .bin op k a b=>kL op k (a.den U) (b.den U)
 | .shl k a n=>k.wrap (a.den U*((2 ^ n:Nat):Int))
 | .shr a n=>a.den U / ((2 ^ n:Nat):Int)
 | .conv k a=>k.wrap (a.den U)
 | .neg k a=>k.wrap (0-a.den U)
 | .GH k a=>bits .xor k (if k.signed then -1 else k.max) (a.den U)
 | .max a b=>if b.den U > a.den U then b.den U else a.den U
 | .min a b=>if b.den U<a.den U then b.den U else a.den U
 | .sum a b=>a.den U+b.den U
 | .diff a b=>a.den U-b.den U
 | .pW s=>((s.den U).length:Int)
 | .tG s i=>(((s.den U).getD (i.den U).toNat 0).toNat:Int)
 | .rn n vs sz=>(((n+(vs.map λj=>(U.l j).length).sum) / sz:Nat):Int)
def IP.wf(c:ar):IP->Bool
 | .bin _ _ a b | .max a b | .min a b | .sum a b | .diff a b=>a.wf c && b.wf c
 | .shl _ a _ | .shr a _ | .conv _ a | .neg _ a | .GH _ a=>a.wf c
 | .pW s=>s.wf c
 | .tG s i=>s.wf c && i.wf c
 | .rn _ vs _=>vs.all λj=>decide (j<c.nl)
def IP.lits:IP->Bool
 | .bin _ _ (.lit _) (.lit _) | .max (.lit _) (.lit _) | .min (.lit _) (.lit _) | .sum (.lit _) (.lit _) | .diff (.lit _) (.lit _)=>true
 | .shl _ (.lit _) _ | .shr (.lit _) _ | .conv _ (.lit _) | .neg _ (.lit _) | .GH _ (.lit _)=>true
 | .pW (.lit _) | .tG (.lit _) (.lit _) | .rn _ [] _=>true
 |_=>false
theorem IP.pX{U af:Env}:∀{p:IP},p.lits=true->p.den U=p.den af:=by
 intro p h;cases p
 case bin op k a b=>cases a<;>cases b<;>first|rfl | (simp [IP.lits]at h)
 case max a b=>cases a<;>cases b<;>first|rfl | (simp [IP.lits]at h)
 case min a b=>cases a<;>cases b<;>first|rfl | (simp [IP.lits]at h)
 case sum a b=>cases a<;>cases b<;>first|rfl | (simp [IP.lits]at h)
 case diff a b=>cases a<;>cases b<;>first|rfl | (simp [IP.lits]at h)
 case shl k a n=>cases a<;>first|rfl | (simp [IP.lits]at h)
 case shr a n=>cases a<;>first|rfl | (simp [IP.lits]at h)
 case pW s=>cases s<;>first|rfl | (simp [IP.lits]at h)
 case tG s i=>cases s<;>cases i<;>first|rfl | (simp [IP.lits]at h)
 case rn n vs sz=>cases vs<;>first|rfl | (simp [IP.lits]at h)
 all_goals (rename_i a;cases a<;>first|rfl | (simp [IP.lits]at h))
theorem IP.aa{c:ar}{U af:Env}(h:Env.ay c U af){p:IP}(hw:p.wf c=true):p.den af=p.den U:=by
 cases p
 case pW s=>simp only [IP.den,SE.aa h hw]
 case tG s i=>simp only [IP.wf,Bool.and_eq_true]at hw;simp only [IP.den,SE.aa h hw.1,IE.aa h hw.2]
 case rn n vs sz =>
  simp only [IP.den];congr 3;refine congrArg List.sum (List.map_congr_left λj hj => ?_);rw [h.l j (by simpa using List.all_eq_true.1 hw j hj)]
 all_goals (simp only [IP.wf,Bool.and_eq_true]at hw;first|simp only [IP.den,IE.aa h hw.1,IE.aa h hw.2]|simp only [IP.den,IE.aa h hw])
inductive aO where
 |int (k:IntKind) (e:IE)
 |bool (e:BE)
 |str (l:List UInt8)
 |sv (i:Nat)
 |cS
 |ga (k off len cap:Nat)
 |fG (q p sz:Nat) (len cap:IE)
 |own (k:Nat)
 deriving DecidableEq
inductive At where
 |int (k:IntKind) (e:IE)
 |bool (e:BE)
 |val (i:Nat)
 |str (l:List UInt8)
 |rp
 |cS
 |tH
 |ov
 |tI
 |loc (k off:Nat)
 |ga (k off len cap:Nat)
 |ext (p:Nat) (ix:IE) (sz c:Nat)
 |me (p:Nat) (ix:IE) (sz:Nat) (len cap:IE)
 |fn (f:FuncId) (aB:List (Nat × Nat))
 |sv (i:Nat)
 |fG (q p sz:Nat) (len cap:IE)
 |own (k:Nat)
 |fe (k:Nat) (ix:IE) (sz c:Nat)
 |gm (f:FuncId) (first aB:List (Nat × Nat))
 |rq (k:Nat)
 |omap (k:Nat)
 |pY (k:Nat)
 |qS (f:FuncId) (first:List aO) (aB:List (Nat × Nat))
 deriving DecidableEq
def aO.at:aO->At
 | .int k e=>.int k e
 | .bool e=>.bool e
 | .str l=>.str l
 | .sv i=>.sv i
 | .cS=>.cS
 | .ga k off len cap=>.ga k off len cap
 | .fG q p sz len cap=>.fG q p sz len cap
 | .own k=>.own k
def aO.of:At->Option aO
 | .int k e=>some (.int k e)
 | .bool e=>some (.bool e)
 | .str l=>some (.str l)
 | .sv i=>some (.sv i)
 | .cS=>some .cS
 | .ga k off len cap=>some (.ga k off len cap)
 | .fG q p sz len cap=>some (.fG q p sz len cap)
 | .own k=>some (.own k)
 |_=>none
def aO.Cy:List At->Option (List aO)
  | []=>some []
  |a::r=>match aO.of a,aO.Cy r with
    |some x,some l=>some (x::l)
    |_,_=>none
theorem aO.DA{a:At}{x:aO}(h:aO.of a=some x):x.at=a:=by
 cases a<;>simp only [aO.of,Option.some.injEq,reduceCtorEq]at h<;>subst h<;>rfl
theorem aO.uX:∀{l:List At} {r:List aO},aO.Cy l=some r->r.map aO.at=l
  | [],r,h=>by simp only [aO.Cy,Option.some.injEq]at h;subst h;rfl
  |a::l,r,h=>by
    simp only [aO.Cy]at h;split at h
    · rename_i x l' h1 h2;simp only [Option.some.injEq]at h;subst h;rw [List.map_cons,aO.DA h1,aO.uX h2]
    · cases h
def g_:Nat->Nat->Nat × Nat
 |0,_=>(0,0)
 |k+1,n=>if n % 2=1 then (0,n / 2)else ((g_ k (n / 2)).1+1,(g_ k (n / 2)).2)
theorem Ps:∀(k a b:Nat),a<k->g_ k (2 ^ a*(2*b+1))=(a,b)
  |0,a,b,h=>by omega
  |k+1,0,b,_=>by
    unfold g_;rw [Nat.pow_zero,Nat.one_mul,if_pos (by omega)];congr 1;omega
  |k+1,a+1,b,h=>by
    have e:2 ^ (a+1)*(2*b+1)=2*(2 ^ a*(2*b+1)):=by rw [Nat.pow_succ,Nat.mul_comm (2 ^ a) 2,Nat.mul_assoc]
    unfold g_;rw [e,if_neg (by omega),Nat.mul_div_cancel_left _ (by decide),Ps k a b (by omega)]
def dJ(p:Nat × Nat)(n m:Nat):Addr :=
 if n=0/\m=0 then ⟨p.1,(g_ (p.2+1) p.2).1,if (g_ (p.2+1) p.2).2=0 then none else some ((g_ (p.2+1) p.2).2-1)⟩else ⟨p.1,p.2,none⟩
theorem DB{p:Nat × Nat}{n m:Nat}(h:¬(n=0/\m=0)):dJ p n m=⟨p.1,p.2,none⟩:=if_neg h
theorem Io(a:Addr):∃p,dJ p 0 0=a:=by
 obtain⟨b,o,s⟩:=a
 have h:∀x,g_ (2 ^ o*(2*x+1)+1) (2 ^ o*(2*x+1))=(o,x):=λx=>Ps _ _ _ (by
  have h1:o<2 ^ o:=Nat.lt_two_pow_self;have h2:2 ^ o*1<=2 ^ o*(2*x+1):=Nat.mul_le_mul_left _ (by omega)
  omega)
 cases s with
 |none=>exact⟨(b,2 ^ o*(2*0+1)),by unfold dJ;simp only [and_self,if_true];rw [h 0];rfl⟩
 |some x=>exact⟨(b,2 ^ o*(2*(x+1)+1)),by unfold dJ;simp only [and_self,if_true];rw [h (x+1)];simp⟩
def cG(b code n base:Nat):Value:=if code=0 then .slice none 0 0 else .slice (some ⟨b,base,none⟩) n (code-1)
theorem Ip(b code n base:Nat):(cG b code n base).oneCell'=true:=by unfold cG;split<;>rfl
def nz(md b code n base:Nat):Value:=match md with
 |0=>cG b code n base
 |1=>.map (some b)
 |_=>.slice (some ⟨b,0,none⟩) n (code-2)
def rowAt(md k:Nat):At:=match md with
 |0=>.own k
 |1=>.omap k
 |_=>.pY k
def ptr(b o:Nat):Value := .pointer (some ⟨b,o,none⟩)
def aO.den(U:Env)(β:Nat->Nat):aO->Value
 | .int k e=>.int k (e.den U)
 | .bool e=>.bool (e.den U)
 | .str l=>.string ⟨l.toArray⟩
 | .sv i=>.string ⟨(U.s i).toArray⟩
 | .cS=>.slice none 0 0
 | .ga k off len cap=>.slice (some ⟨β k,off,none⟩) len cap
 | .fG q p _ len cap=>if U.b q=true then .slice none 0 0 else .slice (some (dJ (U.p p) (len.den U).toNat (cap.den U).toNat)) (len.den U).toNat (cap.den U).toNat
 | .own k=>cG (β k) (β (k+1)) (β (k+2)) (β (k+3))
def aO.wf(c:ar):aO->Bool
 | .int _ e=>e.wf c
 | .bool e=>e.wf c
 | .sv i=>decide (i<c.ns)
 | .ga k _ _ _=>decide (k<c.nk)
 | .fG q p _ l m=>decide (q<c.nb) && decide (p<c.np) && l.wf c && m.wf c
 | .own k=>decide (k+3<c.nk)
 |_=>true
def At.den(U:Env)(β:Nat->Nat):At->Value
 | .int k e=>.int k (e.den U)
 | .bool e=>.bool (e.den U)
 | .val i=>(U.v i).1
 | .str l=>.string ⟨l.toArray⟩
 | .rp=>.pointer none
 | .cS=>.slice none 0 0
 | .tH=>.nilFunc
 | .ov=>.nilIface
 | .tI=>.map none
 | .loc k off=>.pointer (some ⟨β k,off,none⟩)
 | .ga k off len cap=>.slice (some ⟨β k,off,none⟩) len cap
 | .ext p ix sz c=>.pointer (some ⟨(U.p p).1,(U.p p).2+(ix.den U).toNat*sz+c,none⟩)
 | .me p ix sz len cap=>.slice (some ⟨(U.p p).1,(U.p p).2+(ix.den U).toNat*sz,none⟩) (len.den U).toNat (cap.den U).toNat
 | .fn f aB=>.func (.func f) #[] (aB.map λc=>.pointer (some ⟨β c.1,c.2,none⟩)).toArray
 | .sv i=>.string ⟨(U.s i).toArray⟩
 | .fG q p _ len cap=>if U.b q=true then .slice none 0 0 else .slice (some (dJ (U.p p) (len.den U).toNat (cap.den U).toNat)) (len.den U).toNat (cap.den U).toNat
 | .own k=>cG (β k) (β (k+1)) (β (k+2)) (β (k+3))
 | .fe k ix sz c=>.pointer (some ⟨β k,(ix.den U).toNat*sz+c,none⟩)
 | .gm f first aB=>.func (.func f) (first.map λc=>.pointer (some ⟨β c.1,c.2,none⟩)).toArray (aB.map λc=>.pointer (some ⟨β c.1,c.2,none⟩)).toArray
 | .rq k=>.func (.yield (β k)) #[] #[]
 | .omap k=>.map (some (β k))
 | .pY k=>.slice (some ⟨β k,0,none⟩) (β (k+2)) (β (k+1)-2)
 | .qS f first aB=>.func (.func f) #[.agg (first.map (aO.den U β)).toArray] (aB.map λc=>.pointer (some ⟨β c.1,c.2,none⟩)).toArray
theorem aO.uY(U:Env)(β:Nat->Nat)(x:aO):x.at.den U β=x.den U β:=by cases x<;>rfl
theorem T7(U:Env)(β:Nat->Nat)(md k:Nat):(rowAt md k).den U β=nz md (β k) (β (k+1)) (β (k+2)) (β (k+3)):=by
 match md with
 |0=>rfl
 |1=>rfl
 |_+2=>rfl
theorem At.gp(U:Env)(β:Nat->Nat):∀a:At,(a.den U β).oneCell'=true
 | .val i=>(U.v i).2
 | .fG q p _ len cap=>by simp only [At.den];split<;>rfl
 | .own k=>Ip _ _ _ _
 | .sv .. | .fe .. | .gm .. | .rq .. | .omap .. | .pY .. | .qS .. => rfl
 | .int .. | .bool .. | .str .. | .rp | .cS | .tH | .ov | .tI | .loc .. | .ga .. | .ext .. | .me .. | .fn .. => rfl
def At.wf(c:ar):At->Bool
 | .int _ e=>e.wf c
 | .bool e=>e.wf c
 | .val i=>decide (i<c.nv)
 | .loc k _ | .ga k _ _ _=>decide (k<c.nk)
 | .ext p ix _ _=>decide (p<c.np) && ix.wf c
 | .me p ix _ l m=>decide (p<c.np) && ix.wf c && l.wf c && m.wf c
 | .fn _ aB=>aB.all λx=>decide (x.1<c.nk)
 | .sv i=>decide (i<c.ns)
 | .fG q p _ l m=>decide (q<c.nb) && decide (p<c.np) && l.wf c && m.wf c
 | .own k | .omap k | .pY k=>decide (k+3<c.nk)
 | .fe k ix _ _=>decide (k<c.nk) && ix.wf c
 | .gm _ first aB=>(first.all λx=>decide (x.1<c.nk)) && aB.all λx=>decide (x.1<c.nk)
 | .rq k=>decide (k<c.nk)
 | .qS _ first aB=>(first.all λx=>x.wf c) && aB.all λx=>decide (x.1<c.nk)
 |_=>true
theorem aO.DC(c:ar)(x:aO):x.at.wf c=x.wf c:=by cases x<;>rfl
def At.flat:At->Bool
 | .loc .. | .ga .. | .own .. | .fe .. | .gm .. | .rq .. | .omap .. | .pY .. | .qS .. => false
 | .fn _ aB=>aB.isEmpty
 |_=>true
theorem aO.aa{c:ar}{U af:Env}{β ak:Nat->Nat}(h:Env.ay c U af)(hb:∀k,k<c.nk->ak k=β k):∀{a:aO},a.wf c=true->a.den af ak=a.den U β:=by
 intro a hw;cases a<;>simp only [aO.wf,Bool.and_eq_true,decide_eq_true_eq]at hw<;>simp only [aO.den]
 case int=>rw [IE.aa h hw]
 case bool=>rw [BE.aa h hw]
 case sv i=>rw [h.s i hw]
 case ga k o l m=>rw [hb k hw]
 case fG q p s l m=>rw [h.b q hw.1.1.1,h.p p hw.1.1.2,IE.aa h hw.1.2,IE.aa h hw.2]
 case own k=>rw [hb k (by omega),hb (k+1) (by omega),hb (k+2) (by omega),hb (k+3) (by omega)]
theorem aO.aL{c d:ar}(h:c.le d):∀{a:aO},a.wf c=true->a.wf d=true:=by
 intro a hw;cases a<;>simp only [aO.wf,Bool.and_eq_true,decide_eq_true_eq]at hw ⊢
 case int=>exact IE.aL h hw
 case bool=>exact BE.aL h hw
 case sv=>exact Nat.lt_of_lt_of_le hw h.s
 case ga=>exact Nat.lt_of_lt_of_le hw h.k
 case fG=>exact⟨⟨⟨Nat.lt_of_lt_of_le hw.1.1.1 h.b,Nat.lt_of_lt_of_le hw.1.1.2 h.p⟩,IE.aL h hw.1.2⟩,IE.aL h hw.2⟩
 case own=>exact Nat.lt_of_lt_of_le hw h.k
theorem At.aa{c:ar}{U af:Env}{β ak:Nat->Nat}(h:Env.ay c U af)(hb:∀k,k<c.nk->ak k=β k):∀{a:At},a.wf c=true->a.den af ak=a.den U β:=by
 intro a hw;cases a<;>simp only [At.wf,Bool.and_eq_true,decide_eq_true_eq]at hw<;>simp only [At.den]
 case int=>rw [IE.aa h hw]
 case bool=>rw [BE.aa h hw]
 case val i=>rw [h.v i hw]
 case loc k o=>rw [hb k hw]
 case ga k o l m=>rw [hb k hw]
 case ext p ix s e=>rw [h.p p hw.1,IE.aa h hw.2]
 case me p ix s l m=>rw [h.p p hw.1.1.1,IE.aa h hw.1.1.2,IE.aa h hw.1.2,IE.aa h hw.2]
 case fn f aB =>
  congr 2;apply List.map_congr_left;intro x hx;rw [hb x.1 (by simpa using List.all_eq_true.1 hw x hx)]
 case sv i=>rw [h.s i hw]
 case fG q p s l m=>rw [h.b q hw.1.1.1,h.p p hw.1.1.2,IE.aa h hw.1.2,IE.aa h hw.2]
 case own k=>rw [hb k (by omega),hb (k+1) (by omega),hb (k+2) (by omega),hb (k+3) (by omega)]
 case fe k ix s e=>rw [hb k hw.1,IE.aa h hw.2]
 case omap k=>rw [hb k (by omega)]
 case pY k=>rw [hb k (by omega),hb (k+1) (by omega),hb (k+2) (by omega)]
 case gm f first aB =>
  congr 2
  ·apply List.map_congr_left;intro x hx;rw [hb x.1 (by simpa using List.all_eq_true.1 hw.1 x hx)]
  ·apply List.map_congr_left;intro x hx;rw [hb x.1 (by simpa using List.all_eq_true.1 hw.2 x hx)]
 case rq k=>rw [hb k hw]
 case qS f first aB =>
  have e1:first.map (aO.den af ak)=first.map (aO.den U β):=List.map_congr_left λx hx=>aO.aa h hb (List.all_eq_true.1 hw.1 x hx)
  have e2:(aB.map λc=>(.pointer (some ⟨ak c.1,c.2,none⟩):Value))=aB.map λc=>.pointer (some ⟨β c.1,c.2,none⟩):=List.map_congr_left λx hx=>by rw [hb x.1 (by simpa using List.all_eq_true.1 hw.2 x hx)]
  rw [e1,e2]
theorem At.aL{c d:ar}(h:c.le d):∀{a:At},a.wf c=true->a.wf d=true:=by
 have mf:∀{l:List (Nat × Nat)},(l.all λx=>decide (x.1<c.nk))=true->(l.all λx=>decide (x.1<d.nk))=true:=λhw =>
  List.all_eq_true.2 λx hx=>decide_eq_true (Nat.lt_of_lt_of_le (of_decide_eq_true (List.all_eq_true.1 hw x hx)) h.k)
 intro a hw;cases a<;>simp only [At.wf,Bool.and_eq_true,decide_eq_true_eq]at hw ⊢
 case int=>exact IE.aL h hw
 case bool=>exact BE.aL h hw
 case val i=>exact Nat.lt_of_lt_of_le hw h.v
 case loc=>exact Nat.lt_of_lt_of_le hw h.k
 case ga=>exact Nat.lt_of_lt_of_le hw h.k
 case ext=>exact⟨Nat.lt_of_lt_of_le hw.1 h.p,IE.aL h hw.2⟩
 case me=>exact⟨⟨⟨Nat.lt_of_lt_of_le hw.1.1.1 h.p,IE.aL h hw.1.1.2⟩,IE.aL h hw.1.2⟩,IE.aL h hw.2⟩
 case fn=>exact mf hw
 case sv=>exact Nat.lt_of_lt_of_le hw h.s
 case fG=>exact⟨⟨⟨Nat.lt_of_lt_of_le hw.1.1.1 h.b,Nat.lt_of_lt_of_le hw.1.1.2 h.p⟩,IE.aL h hw.1.2⟩,IE.aL h hw.2⟩
 case own=>exact Nat.lt_of_lt_of_le hw h.k
 case omap=>exact Nat.lt_of_lt_of_le hw h.k
 case pY=>exact Nat.lt_of_lt_of_le hw h.k
 case fe=>exact⟨Nat.lt_of_lt_of_le hw.1 h.k,IE.aL h hw.2⟩
 case gm=>exact⟨mf hw.1,mf hw.2⟩
 case rq=>exact Nat.lt_of_lt_of_le hw h.k
 case qS f first aB=>exact⟨List.all_eq_true.2 λx hx=>aO.aL h (List.all_eq_true.1 hw.1 x hx),mf hw.2⟩
def At.ofValue:Value->Option At
 | .bool b=>some (.bool (.lit b))
 | .int k n=>some (.int k (.lit n))
 | .string s=>some (.str s.data.toList)
 | .pointer none=>some .rp
 | .slice none 0 0=>some .cS
 | .nilFunc=>some .tH
 | .nilIface=>some .ov
 | .map none=>some .tI
 | .func (.func f) first aB=>if first.size=0/\aB.size=0 then some (.fn f [])else none
 |_=>none
theorem At.cu{v:Value}{a:At}(h:At.ofValue v=some a)(c:ar)(U:Env)(β:Nat->Nat):a.wf c=true/\a.den U β=v:=by
  unfold At.ofValue at h
  split at h<;>first
    | (cases h;exact⟨rfl,rfl⟩)
    | (split at h
       · rename_i hs;cases h;refine⟨rfl, ?_⟩;obtain⟨h1,h2⟩:=hs;rw [Array.size_eq_zero_iff]at h1 h2;subst h1 h2;rfl
       · cases h)
    |cases h
inductive CV where
 |one (a:At)
 |agg (l:List At)
 deriving DecidableEq
def CV.den(U:Env)(β:Nat->Nat):CV->Value
 | .one a=>a.den U β
 | .agg l=>.agg (l.map (At.den U β)).toArray
def CV.wf(c:ar):CV->Bool
 | .one a=>a.wf c
 | .agg l=>l.all (At.wf c)
def CV.cells:CV->List At
 | .one a=>[a]
 | .agg l=>l
def CV.flat:CV->Bool
 | .one a=>a.flat
 | .agg l=>l.all At.flat
theorem xF{c:ar}{U af:Env}{β ak:Nat->Nat}(h:Env.ay c U af)(hb:∀k,k<c.nk->ak k=β k){l:List At}(hw:l.all (At.wf c)=true) :
  l.map (At.den af ak)=l.map (At.den U β):=List.map_congr_left λx hx=>At.aa h hb (List.all_eq_true.1 hw x hx)
theorem CV.aa{c:ar}{U af:Env}{β ak:Nat->Nat}(h:Env.ay c U af)(hb:∀k,k<c.nk->ak k=β k):∀{a:CV},a.wf c=true->a.den af ak=a.den U β
 | .one a,hw=>At.aa h hb hw
 | .agg l,hw=>by simp only [CV.den,xF h hb hw]
theorem AB{c d:ar}(h:c.le d){l:List At}(hw:l.all (At.wf c)=true):l.all (At.wf d)=true :=
 List.all_eq_true.2 λx hx=>At.aL h (List.all_eq_true.1 hw x hx)
theorem CV.aL{c d:ar}(h:c.le d):∀{a:CV},a.wf c=true->a.wf d=true
 | .one a,hw=>At.aL h hw
 | .agg l,hw=>AB h hw
inductive Kn where
 |iO (i:Nat) (t:TypeId) (v:CV)
 |ag (p g:Nat)
 deriving DecidableEq
def Kn.den(U:Env):Kn->Prop
 | .iO i t v=>(U.v i).1=.iface t (v.den U (λ_=>0))
 | .ag p g=>U.p p=(g,0)
def Kn.wf(c:ar):Kn->Bool
 | .iO i _ v=>decide (i<c.nv) && (v.wf c && v.flat)
 | .ag p _=>decide (p<c.np)
theorem Kn.aa{c:ar}{U af:Env}(h:Env.ay c U af):∀{x:Kn},x.wf c=true->x.den U->x.den af
  | .iO i t v,hw,hd=>by
    simp only [Kn.wf,Bool.and_eq_true,decide_eq_true_eq]at hw;simp only [Kn.den]at hd ⊢;rw [h.v i hw.1,hd,CV.aa h (λ_ _=>rfl) hw.2.1]
  | .ag p g,hw,hd=>by
    simp only [Kn.wf,decide_eq_true_eq]at hw;simp only [Kn.den]at hd ⊢;rw [h.p p hw,hd]
theorem Kn.aL{c d:ar}(h:c.le d):∀{x:Kn},x.wf c=true->x.wf d=true
  | .iO i t v,hw=>by
    simp only [Kn.wf,Bool.and_eq_true,decide_eq_true_eq]at hw ⊢;exact⟨Nat.lt_of_lt_of_le hw.1 h.v,CV.aL h hw.2.1,hw.2.2⟩
  | .ag p g,hw=>by
    simp only [Kn.wf,decide_eq_true_eq]at hw ⊢;exact Nat.lt_of_lt_of_le hw h.p
abbrev bV:=List Kn
def bV.den(k:bV)(U:Env):Prop:=∀x∈k,x.den U
def bV.wf(k:bV)(c:ar):Prop:=∀x∈k,x.wf c=true
theorem bV.aa{k:bV}{c:ar}{U af:Env}(h:Env.ay c U af)(hw:bV.wf k c)(hd:bV.den k U):bV.den k af:=λx hx=>Kn.aa h (hw x hx) (hd x hx)
theorem bV.aL{k:bV}{c d:ar}(h:c.le d)(hw:bV.wf k c):bV.wf k d:=λx hx=>Kn.aL h (hw x hx)
def nO:bV->Nat->Option Nat
 | [],_=>none
 | .ag p g'::r,g=>if g'=g then some p else nO r g
 |_::r,g=>nO r g
def nP:bV->Nat->Option Nat
 | [],_=>none
 | .ag p' g::r,p=>if p'=p then some g else nP r p
 |_::r,p=>nP r p
def fA:bV->Nat->Option (TypeId × CV)
 | [],_=>none
 | .iO j t v::r,i=>if j=i then some (t,v)else fA r i
 |_::r,i=>fA r i
theorem GI:∀{k:bV} {g p:Nat},nO k g=some p->Kn.ag p g∈k
  | [],_,_,h=>by cases h
  | .ag p' g'::r,g,p,h=>by
    simp only [nO]at h;split at h
    · rename_i he;cases h;subst he;exact List.mem_cons_self ..
    · exact List.mem_cons_of_mem _ (GI h)
  | .iO .. :: r,g,p,h=>List.mem_cons_of_mem _ (GI (k:=r) h)
theorem Iq:∀{k:bV} {g p:Nat},nP k p=some g->Kn.ag p g∈k
  | [],_,_,h=>by cases h
  | .ag p' g'::r,g,p,h=>by
    simp only [nP]at h;split at h
    · rename_i he;cases h;subst he;exact List.mem_cons_self ..
    · exact List.mem_cons_of_mem _ (Iq h)
  | .iO .. :: r,g,p,h=>List.mem_cons_of_mem _ (Iq (k:=r) h)
theorem AD:∀{k:bV} {i:Nat} {t:TypeId} {v:CV},fA k i=some (t,v)->Kn.iO i t v∈k
  | [],_,_,_,h=>by cases h
  | .iO j t' v'::r,i,t,v,h=>by
    simp only [fA]at h;split at h
    · rename_i he;cases h;subst he;exact List.mem_cons_self ..
    · exact List.mem_cons_of_mem _ (AD h)
  | .ag .. :: r,i,t,v,h=>List.mem_cons_of_mem _ (AD (k:=r) h)
inductive SV where
 |any
 |dF
 |cv (c:CV)
 |cE (l:List CV)
 deriving DecidableEq
def SV.den(U:Env)(β:Nat->Nat):SV->Value
 | .any=>undef
 | .dF=>undef
 | .cv c=>c.den U β
 | .cE l=>.tuple (l.map (CV.den U β)).toArray
def SV.wf(c:ar):SV->Bool
 | .any=>true
 | .dF=>true
 | .cv x=>x.wf c
 | .cE l=>l.all (CV.wf c)
theorem SV.aa{c:ar}{U af:Env}{β ak:Nat->Nat}(h:Env.ay c U af)(hb:∀k,k<c.nk->ak k=β k):∀{a:SV},a.wf c=true->a.den af ak=a.den U β
  | .any,_=>rfl
  | .dF,_=>rfl
  | .cv a,hw=>CV.aa h hb hw
  | .cE l,hw=>by
    simp only [SV.den];rw [List.map_congr_left λx hx=>CV.aa h hb (List.all_eq_true.1 hw x hx)]
theorem SV.aL{c d:ar}(h:c.le d):∀{a:SV},a.wf c=true->a.wf d=true
 | .any,_=>rfl
 | .dF,_=>rfl
 | .cv a,hw=>CV.aL h hw
 | .cE l,hw=>List.all_eq_true.2 λx hx=>CV.aL h (List.all_eq_true.1 hw x hx)
def la:List Value->Option (List At)
  | []=>some []
  |v::l=>match At.ofValue v,la l with
    |some a,some r=>some (a::r)
    |_,_=>none
theorem Pu:∀{l:List Value} {r:List At} (_:la l=some r) (c:ar) (U:Env) (β:Nat->Nat),r.all (At.wf c)=true/\r.map (At.den U β)=l
  | [],r,h,_,_,_=>by simp only [la,Option.some.injEq]at h;subst h;exact⟨rfl,rfl⟩
  |v::l,r,h,c,U,β=>by
    simp only [la]at h;split at h
    · rename_i a r' ha hr;simp only [Option.some.injEq]at h;subst h;obtain⟨h1,h2⟩:=At.cu ha c U β;obtain⟨h3,h4⟩:=Pu hr c U β;exact⟨by simp only [List.all_cons,h1,h3,Bool.and_self],by simp only [List.map_cons,h2,h4]⟩
    · cases h
def SV.ofValue:Value->SV
  | .agg cs=>match la cs.toList with
    |some l=>.cv (.agg l)
    |none=>.any
  |v=>match At.ofValue v with
    |some a=>.cv (.one a)
    |none=>.any
theorem SV.cu(v:Value)(c:ar)(U:Env)(β:Nat->Nat):(SV.ofValue v).wf c=true/\(SV.ofValue v ≠ .any->(SV.ofValue v).den U β=v):=by
 unfold SV.ofValue;split
 ·split
  ·rename_i cs l h;obtain⟨h1,h2⟩:=Pu h c U β;exact⟨h1,λ_=>by simp only [SV.den,CV.den,h2,Array.toArray_toList]⟩
  ·exact⟨rfl,λh=>(h rfl).elim⟩
 ·split
  ·rename_i a h;obtain⟨h1,h2⟩:=At.cu h c U β;exact⟨h1,λ_=>h2⟩
  ·exact⟨rfl,λh=>(h rfl).elim⟩
inductive Sg where
 |bT (l:List At)
 |var (i:Nat)
 deriving DecidableEq
abbrev CE:=List Sg
def Sg.den(U:Env)(β:Nat->Nat):Sg->List Value
 | .bT l=>l.map (At.den U β)
 | .var i=>(U.l i).map (·.1)
def aq(U:Env)(β:Nat->Nat):CE->List Value
 | []=>[]
 |s::r=>s.den U β++aq U β r
def Sg.wf(c:ar):Sg->Bool
 | .bT l=>l.all (At.wf c)
 | .var i=>decide (i<c.nl)
def bW(c:ar)(l:CE):Bool:=l.all (Sg.wf c)
def mg:CE->Nat
 | []=>0
 | .bT l::r=>l.length+mg r
 | .var _::r=>mg r
def jB:CE->List Nat
 | []=>[]
 | .bT _::r=>jB r
 | .var i::r=>i::jB r
def dK:CE->Option (List At)
 | []=>some []
 | .bT l::r=>(dK r).map (l ++ ·)
 | .var _::_=>none
def cF:CE->CE->CE
 | [],y=>y
 | [.bT l],.bT l'::y=>.bT (l++l')::y
 |s::r,y=>s::cF r y
theorem Sg.aa{c:ar}{U af:Env}{β ak:Nat->Nat}(h:Env.ay c U af)(hb:∀k,k<c.nk->ak k=β k):∀{s:Sg},s.wf c=true->s.den af ak=s.den U β
 | .bT l,hw=>xF h hb hw
 | .var i,hw=>by simp only [Sg.den];rw [h.l i (by simpa [Sg.wf]using hw)]
theorem uz{c:ar}{U af:Env}{β ak:Nat->Nat}(h:Env.ay c U af)(hb:∀k,k<c.nk->ak k=β k):∀{l:CE},bW c l=true->aq af ak l=aq U β l
  | [],_=>rfl
  |s::r,hw=>by
    simp only [bW,List.all_cons,Bool.and_eq_true]at hw;simp only [aq,Sg.aa h hb hw.1,uz h hb (l:=r) hw.2]
theorem Sg.aL{c d:ar}(h:c.le d):∀{s:Sg},s.wf c=true->s.wf d=true
 | .bT l,hw=>AB h hw
 | .var i,hw=>by simp [Sg.wf]at hw ⊢;exact Nat.lt_of_lt_of_le hw h.l
theorem AE{c d:ar}(h:c.le d){l:CE}(hw:bW c l=true):bW d l=true :=
 List.all_eq_true.2 λs hs=>Sg.aL h (List.all_eq_true.1 hw s hs)
theorem DD(U:Env)(β:Nat->Nat):∀(x y:CE),aq U β (cF x y)=aq U β x++aq U β y
  | [],y=>rfl
  | [.bT l],[]=>by simp [cF,aq]
  | [.bT l],.bT l'::y=>by simp [cF,aq,Sg.den]
  | [.bT l],.var i::y=>by simp [cF,aq]
  | [.var i],y=>by simp [cF,aq]
  | .bT l::t::r,y=>by
    have:=DD U β (t::r) y
    simp only [cF,aq,List.append_assoc]at this ⊢;rw [this]
  | .var i::t::r,y=>by
    have:=DD U β (t::r) y
    simp only [cF,aq,List.append_assoc]at this ⊢;rw [this]
theorem Ir(c:ar):∀(x y:CE),bW c x=true->bW c y=true->bW c (cF x y)=true
  | [],y,_,hy=>hy
  | [.bT l],[],hx,_=>hx
  | [.bT l],.bT l'::y,hx,hy=>by
    simp only [bW,List.all_cons,List.all_nil,Bool.and_true,Bool.and_eq_true,Sg.wf,cF,List.all_append]at *;exact⟨⟨hx,hy.1⟩,hy.2⟩
  | [.bT l],.var i::y,hx,hy=>by
    simp only [bW,List.all_cons,List.all_nil,Bool.and_true,Bool.and_eq_true,cF]at *;exact⟨hx,hy⟩
  | [.var i],y,hx,hy=>by
    simp only [bW,List.all_cons,List.all_nil,Bool.and_true,Bool.and_eq_true,cF]at *;exact⟨hx,hy⟩
  | .bT l::t::r,y,hx,hy=>by
    have h1:bW c (t::r)=true:=by simp only [bW,List.all_cons,Bool.and_eq_true]at hx ⊢;exact hx.2
    have:=Ir c (t::r) y h1 hy
    simp only [bW,cF,List.all_cons,Bool.and_eq_true]at hx this ⊢;exact⟨hx.1,this⟩
  | .var i::t::r,y,hx,hy=>by
    have h1:bW c (t::r)=true:=by simp only [bW,List.all_cons,Bool.and_eq_true]at hx ⊢;exact hx.2
    have:=Ir c (t::r) y h1 hy
    simp only [bW,cF,List.all_cons,Bool.and_eq_true]at hx this ⊢;exact⟨hx.1,this⟩
theorem Is(U:Env)(β:Nat->Nat):∀(x:CE),(aq U β x).length=mg x+((jB x).map λj=>(U.l j).length).sum
 | []=>rfl
 | .bT l::r=>by simp only [aq,Sg.den,List.length_append,List.length_map,mg,jB,Is U β r];omega
 | .var i::r=>by simp only [aq,Sg.den,List.length_append,List.length_map,mg,jB,Is U β r,List.map_cons,List.sum_cons];omega
theorem DE(U:Env)(β:Nat->Nat):∀{x:CE} {l:List At},dK x=some l->aq U β x=l.map (At.den U β)
  | [],l,h=>by simp only [dK,Option.some.injEq]at h;subst h;rfl
  | .bT a::r,l,h=>by
    simp only [dK,Option.map_eq_some_iff]at h;obtain⟨l',h1,rfl⟩:=h;simp only [aq,Sg.den,DE U β h1,List.map_append]
  | .var _::_,l,h=>by simp [dK]at h
theorem uZ(U:Env)(β:Nat->Nat):∀(x:CE),∀v∈aq U β x,v.oneCell'=true
  | [],v,h=>by cases h
  | .bT l::r,v,h=>by
    simp only [aq,Sg.den,List.mem_append,List.mem_map]at h;rcases h with ⟨a,_,rfl⟩|h
    · exact At.gp U β a
    · exact uZ U β r v h
  | .var i::r,v,h=>by
    simp only [aq,Sg.den,List.mem_append,List.mem_map]at h;rcases h with ⟨a,_,rfl⟩|h
    · exact a.2
    · exact uZ U β r v h
def pZ:Value->UInt8
 | .int _ n=>UInt8.ofNat n.toNat
 |_=>0
inductive SP where
 |cat (a b:SE)
 |sub (s:SE) (l h:IE)
 |row (ce:CE)
 deriving DecidableEq
def SP.den(U:Env):SP->List UInt8
 | .cat a b=>a.den U++b.den U
 | .sub s l h=>((s.den U).drop (l.den U).toNat).take ((h.den U).toNat-(l.den U).toNat)
 | .row ce=>(aq U (λ_=>0) ce).map pZ
def SP.ok(U:Env):SP->Prop
 | .cat a b=>(a.den U).length+(b.den U).length<=9223372036854775807
 | .sub s l h=>0<=l.den U/\l.den U<=h.den U/\h.den U<=((s.den U).length:Int)
 | .row ce=>∀v∈aq U (λ_=>0) ce,∃n:Int,v=.int .u8 n
def AF:List At->Bool
 | []=>true
 | .int _ (.lit _)::r=>AF r
 |_=>false
def lb:List At->Bool
 | []=>true
 | .int k (.lit _)::r=>decide (k=.u8) && lb r
 |_=>false
def SP.lits:SP->Bool
 | .cat (.lit _) (.lit _)=>true
 | .sub (.lit _) (.lit _) (.lit _)=>true
 | .row [.bT l]=>lb l
 | .row []=>true
 |_=>false
def SP.okB:SP->Bool
 | .cat (.lit a) (.lit b)=>decide (a.length+b.length<=9223372036854775807)
 | .sub (.lit s) (.lit l) (.lit h)=>decide (0<=l) && decide (l<=h) && decide (h<=(s.length:Int))
 | .row _=>true
 |_=>false
theorem Pv{U af:Env}{β:Nat->Nat}:∀{l:List At},lb l=true->l.map (At.den U β)=l.map (At.den af β)/\∀v∈l.map (At.den U β),∃n:Int,v=.int .u8 n
  | [],_=>⟨rfl,λv h=>by cases h⟩
  | .int k (.lit n)::r,h=>by
    simp only [lb,Bool.and_eq_true,decide_eq_true_eq]at h;obtain⟨h1,h2⟩:=Pv (U:=U) (af:=af) (β:=β) h.2;refine⟨by simp only [List.map_cons,h1,At.den,IE.den],λv hv => ?_⟩;simp only [List.map_cons,List.mem_cons]at hv;rcases hv with rfl|hv
    · exact⟨n,by simp only [At.den,IE.den,h.1]⟩
    · exact h2 v hv
  | .int k (.var _)::r,h=>by simp [lb]at h
  | .bool _::_,h | .val _::_,h | .str _::_,h | .rp::_,h | .cS::_,h | .tH::_,h | .ov::_,h | .tI::_,h=>by simp [lb]at h
  | .loc .. :: _,h | .ga .. :: _,h | .ext .. :: _,h | .me .. :: _,h | .fn .. :: _,h | .sv .. :: _,h | .fG .. :: _,h | .own .. :: _,h=>by simp [lb]at h
  | .fe .. :: _,h | .gm .. :: _,h | .rq .. :: _,h | .omap .. :: _,h | .pY .. :: _,h | .qS .. :: _,h=>by simp [lb]at h
theorem SP.p8{U af:Env}:∀{p:SP},p.lits=true->p.okB=true->p.den U=p.den af/\p.ok U
  | .cat (.lit a) (.lit b),_,h=>⟨rfl,by simpa only [SP.okB,SP.ok,SE.den,decide_eq_true_eq]using h⟩
  | .sub (.lit s) (.lit l) (.lit h),_,ho=>by
    simp only [SP.okB,Bool.and_eq_true,decide_eq_true_eq]at ho;exact⟨rfl,ho.1.1,ho.1.2,ho.2⟩
  | .row [.bT l],h,_=>by
    obtain⟨h1,h2⟩:=Pv (U:=U) (af:=af) (β:=λ_=>0) (l:=l) h;exact⟨by simp only [SP.den,aq,Sg.den,h1],λv hv=>h2 v (by simpa [aq,Sg.den]using hv)⟩
  | .row [],_,_=>⟨rfl,λv hv=>by cases hv⟩
  | .cat (.var _) _,h,_ | .cat (.lit _) (.var _),h,_=>by simp [SP.lits]at h
  | .sub (.var _) _ _,h,_ | .sub (.lit _) (.var _) _,h,_ | .sub (.lit _) (.lit _) (.var _),h,_=>by simp [SP.lits]at h
  | .row (.var _::_),h,_ | .row (.bT _::_::_),h,_=>by simp [SP.lits]at h
def SP.wf(c:ar):SP->Bool
 | .cat a b=>a.wf c && b.wf c
 | .sub s l h=>s.wf c && l.wf c && h.wf c
 | .row ce=>bW c ce
theorem SP.ay{c:ar}{U af:Env}(h:Env.ay c U af):∀{p:SP},p.wf c=true->p.den af=p.den U/\(p.ok U->p.ok af)
  | .cat a b,hw=>by
    simp only [SP.wf,Bool.and_eq_true]at hw;simp only [SP.den,SP.ok,SE.aa h hw.1,SE.aa h hw.2];exact⟨trivial,λh=>h⟩
  | .sub s l e,hw=>by
    simp only [SP.wf,Bool.and_eq_true]at hw;simp only [SP.den,SP.ok,SE.aa h hw.1.1,IE.aa h hw.1.2,IE.aa h hw.2];exact⟨trivial,λh=>h⟩
  | .row ce,hw=>by
    simp only [SP.den,SP.ok,uz (β:=λ_=>0) (ak:=λ_=>0) h (λ_ _=>rfl) (show bW c ce=true from hw)];exact⟨trivial,λh=>h⟩
end Vc
set_option linter.unusedVariables false
namespace Vc
open Go Go.RowKit
inductive CK where
 |int (k:IntKind)
 |bool
 |uA
 |str
 |sl (sz:Nat)
 |own (sz:Nat) (t:TypeId)
 deriving DecidableEq
abbrev Mem:=List (Nat × List At × TypeId)
abbrev ba:=List (Nat × CE × Nat × TypeId)
inductive LP where
 |set (ce:CE) (ix:IE) (sz off:Nat) (l:List At)
 |rep (n:IE) (l:List At)
 |pY (i:Nat)
 deriving DecidableEq
inductive LH where
 |kM
 |inv (cells:List (Nat × Nat)) (a_ kill:List Nat)
 |It (p9 cells:List (Nat × Nat)) (a_ kill:List Nat)
 |tJ (alts:List (List (Nat × Nat))) (cells:List (Nat × Nat)) (a_ kill:List Nat)
inductive Ex where
 |normal
 |exit (id:Nat)
 |ret
 |iP (i:Nat)
 deriving DecidableEq
structure St where
 t:List (Nat × SV)
 n:Nat
 m:Mem
 c:ar
 o:ba := []
 r:List (Nat × Option Ex) := []
 d:List Nat := []
 k:bV := []
 df:List (FuncId × List (Nat × Nat)) := []
 deriving DecidableEq
inductive Ask where
 |ag (g:Nat) (cs:List At) (t:TypeId)
 |iO (n:Nat) (t:TypeId) (v:CV)
 |call (f:FuncId) (args:List SV) (m:Mem) (o:ba) (r:SV)
 |nQ (f:FuncId) (args:List SV) (r:SV)
 |nR (f:FuncId) (args:List SV) (m:Mem) (o:ba) (k:Nat) (ce:CE) (sz:Nat) (t:TypeId)
structure eQ where
 n:Nat
 f:FuncId
 args:List SV
 s:St
 asks:List Ask
 v:SV
 s':St
structure bF where
 P:Program
 calls:List FuncId
 ext:List FuncId
 inl:List FuncId
 loops:List (Nat × LH)
 aT:List (Nat × List At × TypeId) := []
 iG:List eQ := []
 marks:List FuncId := []
structure bI(R:Type) where
 fail:String->R
 fin:SV->Mem->ba->R
 int:Nat->IP->R->R
 AG:BE->R->R
 ite:BE->R->R->R
 call:FuncId->List SV->Mem->ba->List At->SV->R->R
 nQ:FuncId->List SV->List At->SV->R->R
 load:At->Nat->IE->Nat->Nat->R->R
 loop:ba->List At->ba->List At->((ba->List At->R)->R)->R
 rd:At->CE->IE->Nat->Nat->R->R
 tK:Nat->LP->R->R
 GJ:Nat->At->Nat->R->R
 Iu:SV->Mem->ba->List TypeId->R
 yV:FuncId->List SV->Mem->ba->List (Nat × List At × TypeId)->List At->SV->R->R
 str:Nat->SP->R->R
 Iv:SV->ba->Nat->TypeId->R
 yW:FuncId->List SV->Mem->ba->Nat->Nat->Nat->TypeId->List At->SV->R->R
 ag:Nat->List At->TypeId->R->R
 iO:Nat->TypeId->CV->R->R
 alt:R->R->R
 yX:FuncId->List SV->Mem->ba->List Nat->List At->TypeId->CV->Nat->R->R
 AH:Nat->R
 nR:FuncId->List SV->Mem->ba->Nat->CE->Nat->TypeId->R->R
 DF:Nat->CE->List At->List CK->Nat->R->R
 mark:Option Nat->FuncId->List SV->St->R->R
def av:List (Nat × SV)->Nat->SV
  | [],_=>.any
  |p::r,i=>match Nat.beq p.1 i with
    |true=>p.2
    |false=>av r i
def getM:Mem->Nat->Option (List At × TypeId)
 | [],_=>none
 | (j,v)::r,i=>if j=i then some v else getM r i
def iQ:Mem->Nat->List At->Mem
 | [],_,_=>[]
 | (j,v)::r,i,cs=>if j=i then (j,cs,v.2)::r else (j,v)::iQ r i cs
def aG:ba->Nat->Option (CE × Nat × TypeId)
 | [],_=>none
 | (j,v)::r,i=>if j=i then some v else aG r i
def tL:ba->Nat->ba
 | [],_=>[]
 | (j,v)::r,i=>if j=i then tL r i else (j,v)::tL r i
def bL:ba->List Nat->ba
 |o,[]=>o
 |o,k::l=>bL (tL o k) l
def Sg.flat:Sg->Bool
 | .bT l=>l.all At.flat
 | .var _=>true
def fR(l:CE):Bool:=l.all Sg.flat
def St.ev(st:St):Operand->SV
  | .tmp t=>av st.t t
  | .const v=>SV.ofValue v
  | .global g=>match nO st.k g with
    |some p=>.cv (.one (.ext p (.lit 0) 0 0))
    |none=>.any
  | .func f=>.cv (.one (.fn f []))
variable {R:Type}
def Ask.run(A:bI R):Ask->R->R
 | .ag g cs t,k=>A.ag g cs t k
 | .iO n t v,k=>A.iO n t v k
 | .call f args m o r,k=>A.call f args m o [] r k
 | .nQ f args r,k=>A.nQ f args [] r k
 | .nR f args m o k' ce sz t,k=>A.nR f args m o k' ce sz t k
def iR(A:bI R):List Ask->R->R
 | [],k=>k
 |a::l,k=>a.run A (iR A l k)
def je(n:Nat)(f:FuncId)(args:List SV)(s:St):List eQ->Option eQ
  | []=>none
  |e::r=>match Nat.beq e.f f && Nat.beq e.n n with
    |true=>if e.args=args/\e.s=s then some e else je n f args s r
    |false=>je n f args s r
theorem Iw{n:Nat}{f:FuncId}{args:List SV}{s:St}:∀{l:List eQ} {e:eQ},je n f args s l=some e->e∈l/\e.n=n/\e.f=f/\e.args=args/\e.s=s
  | [],e,h=>by cases h
  |x::r,e,h=>by
    unfold je at h;cases hb:Nat.beq x.f f && Nat.beq x.n n with
    |true =>
      rw [hb]at h;simp only at h;rw [Bool.and_eq_true]at hb;split at h
      · rename_i hc;cases h;exact⟨by simp,Nat.eq_of_beq_eq_true hb.2,Nat.eq_of_beq_eq_true hb.1,hc.1,hc.2⟩
      · obtain⟨h1,h2⟩:=Iw h;exact⟨List.mem_cons_of_mem _ h1,h2⟩
    |false =>
      rw [hb]at h;obtain⟨h1,h2⟩:=Iw h;exact⟨List.mem_cons_of_mem _ h1,h2⟩
def lf{α:Type}(l:List α)(K:List α->R):R :=
 match l with
 | []=>K []
 |a::r=>K (a::r)
def kN(n:Nat)(K:Nat->R):R :=
 match n with
 |0=>K 0
 |k+1=>K (Nat.succ k)
theorem Ix{α:Type}(l:List α)(K:List α->R):lf l K=K l:=by cases l<;>rfl
theorem GK(n:Nat)(K:Nat->R):kN n K=K n:=by cases n<;>rfl
def St.norm(st:St)(K:St->R):R :=
  match st with
  |⟨t,n,m,c,o,r,d,k,df⟩=>match c with
    |⟨ni,nb,nv,np,nk,ns,nl⟩ =>
      lf t λt=>kN n λn=>lf m λm=>kN ni λni=>kN nb λnb=>kN nv λnv=>kN np λnp=>kN nk λnk=>kN ns λns=>kN nl λnl =>
        lf o λo=>lf r λr=>lf d λd=>lf k λk=>lf df λdf=>K ⟨t,n,m,⟨ni,nb,nv,np,nk,ns,nl⟩,o,r,d,k,df⟩
theorem St.norm_eq(st:St)(K:St->R):st.norm K=K st:=by
 obtain⟨t,n,m,⟨ni,nb,nv,np,nk,ns,nl⟩,o,r,d,k,df⟩:=st;simp only [St.norm,Ix,GK]
def nS{α:Type}(K:List α->R):List α->List α->R
 | [],acc=>K acc
 |a::r,acc=>nS K r (a::acc)
def fH{α:Type}(K:List α->R):List α->List α->R
 | [],acc=>nS K acc []
 |a::r,acc=>fH K r (a::acc)
theorem GL{α:Type}(K:List α->R):∀(l acc:List α),nS K l acc=K (l.reverse++acc)
 | [],acc=>rfl
 |a::r,acc=>by rw [nS,GL K r];simp
theorem Pw{α:Type}(K:List α->R):∀(l acc:List α),fH K l acc=K (acc.reverse++l)
 | [],acc=>by rw [fH,GL]
 |a::r,acc=>by rw [fH,Pw K r];simp
theorem GM{α:Type}(K:List α->R)(l:List α):fH K l []=K l:=by rw [Pw];rfl
def jW(z:Int)(K:Int->R):R :=
 match z with
 | .ofNat n=>kN n λn=>K (.ofNat n)
 | .negSucc n=>kN n λn=>K (.negSucc n)
theorem Px(z:Int)(K:Int->R):jW z K=K z:=by cases z<;>(unfold jW;simp only [GK])
def ow(e:BE)(K:BE->R):R :=
 match e with
 | .lit true=>K (.lit true)
 | .lit false=>K (.lit false)
 |e=>K e
theorem T8(e:BE)(K:BE->R):ow e K=K e:=by unfold ow;split<;>rfl
def oz(v:SV)(K:SV->R):R :=
 match v with
 | .cv (.one (.bool e))=>ow e λe=>K (.cv (.one (.bool e)))
 | .cv (.agg l)=>fH (λl=>K (.cv (.agg l))) l []
 |v=>K v
theorem T9(v:SV)(K:SV->R):oz v K=K v:=by
 unfold oz;split
 ·exact T8 _ _
 ·exact GM _ _
 ·rfl
def jX(s i:Nat):Bool:=Nat.beq (Nat.land (Nat.shiftRight s i) 1) 1
def fB:Nat->List (Nat × SV)->List (Nat × SV)
  |_,[]=>[]
  |s,p::r=>match jX s p.1 with
    |true=>fB s r
    |false=>p::fB (Nat.lor s (Nat.shiftLeft 1 p.1)) r
def nT(K:List (Nat × SV)->R):List (Nat × SV)->Nat->List (Nat × SV)->R
  | [],_,acc=>nS K acc []
  |p::r,s,acc=>match jX s p.1 with
    |true=>nT K r s acc
    |false=>kN (Nat.lor s (Nat.shiftLeft 1 p.1)) λs=>nT K r s (p::acc)
theorem Iy(K:List (Nat × SV)->R):∀(l:List (Nat × SV)) (s:Nat) (acc:List (Nat × SV)),nT K l s acc=K (acc.reverse++fB s l)
  | [],s,acc=>by rw [nT,GL,fB]
  |p::r,s,acc=>by
    rw [nT,fB];cases jX s p.1 with
    |true=>exact Iy K r s acc
    |false=>simp only [GK,Iy K r];simp
def St.u7(st:St)(K:St->R):R:=nT (λt=>K {st with t:=t}) st.t 0 []
theorem St.xG(st:St)(K:St->R):st.u7 K=K {st with t:=fB 0 st.t}:=by
 unfold St.u7;rw [Iy];rfl
theorem Iz(s i:Nat):jX s i=s.testBit i:=by
 have h:Nat.land (Nat.shiftRight s i) 1=(s >>> i) % 2:=Nat.and_one_is_mod _;unfold jX;rw [h,Nat.testBit,Nat.one_and_eq_mod_two];rcases Nat.mod_two_eq_zero_or_one (s >>> i)with h|h<;>rw [h]<;>rfl
theorem T_(s i j:Nat):jX (Nat.lor s (Nat.shiftLeft 1 i)) j=(jX s j || decide (i=j)):=by
 rw [Iz,Iz];show (s ||| 1 <<< i).testBit j=_;rw [Nat.testBit_or,Nat.testBit_shiftLeft];by_cases h:i=j
 ·subst h;simp
 ·by_cases h2:i<=j
  ·have:(1:Nat).testBit (j-i)=false:=by
    obtain⟨d,hd⟩:∃d,j-i=d+1:=⟨j-i-1,by omega⟩;rw [hd,Nat.testBit_succ];simp
   simp [h,h2,this]
  ·simp [h,h2]
theorem IA(i:Nat):∀(l:List (Nat × SV)) (s:Nat),av (fB s l) i=if jX s i=true then .any else av l i
  | [],s=>by rw [fB,av];split<;>rfl
  |p::r,s=>by
    rw [fB]
    have hc:∀q,av (p::q) i=if p.1=i then p.2 else av q i:=λq=>by
      show (match Nat.beq p.1 i with|true=>p.2|false=>av q i)=_;cases h:Nat.beq p.1 i with
      |true=>rw [if_pos (Nat.eq_of_beq_eq_true h)]
      |false=>rw [if_neg (Nat.ne_of_beq_eq_false h)]
    cases hb:jX s p.1 with
    |true =>
      show av (fB s r) i=_;rw [IA i r s,hc];by_cases h:p.1=i
      · rw [<-h,hb];simp
      · rw [if_neg h]
    |false =>
      show av (p::fB (Nat.lor s (Nat.shiftLeft 1 p.1)) r) i=_;rw [hc,hc,IA i r,T_];by_cases h:p.1=i
      · rw [if_pos h,if_pos h,<-h,hb];simp
      · simp [h]
theorem Py(t:List (Nat × SV))(i:Nat):av (fB 0 t) i=av t i:=by
 rw [IA,Iz];simp
def St.IB(st:St)(c:ar)(K:St->R):R :=
  match st with
  |⟨t,n,m,_,o,r,d,k,df⟩=>match c with
    |⟨ni,nb,nv,np,nk,ns,nl⟩=>K ⟨t,n,m,⟨ni,nb,nv,np,nk,ns,nl⟩,o,r,d,k,df⟩
def St.DG(st:St)(x:Nat × SV)(c:ar)(K:St->R):R :=
  match st with
  |⟨t,n,m,_,o,r,d,k,df⟩=>match c with
    |⟨ni,nb,nv,np,nk,ns,nl⟩=>K ⟨x::t,n,m,⟨ni,nb,nv,np,nk,ns,nl⟩,o,r,d,k,df⟩
def Cz(a b:IntKind):Bool:=Nat.beq a.ctorIdx b.ctorIdx
theorem Pz(a b:IntKind):Cz a b=true↔a=b:=by cases a<;>cases b<;>decide
def u9(v:SV)(K:SV->R):R :=
 match v with
 | .cv c=>K (.cv c)
 | .cE l=>K (.cE l)
 | .any=>K .any
 | .dF=>K .dF
theorem T'(v:SV)(K:SV->R):u9 v K=K v:=by cases v<;>rfl
def nU(K:List (Nat × SV)->R):List SV->Nat->List (Nat × SV)->R
 | [],_,acc=>nS K acc []
 |v::r,i,acc=>u9 v λv=>kN (i+1) λj=>nU K r j ((i,v)::acc)
theorem PB(K:List (Nat × SV)->R):∀(l:List SV) (i:Nat) (acc:List (Nat × SV)),nU K l i acc=K (acc.reverse++(List.range' i l.length).zip l)
  | [],i,acc=>by rw [nU,GL];simp
  |v::r,i,acc=>by
    rw [nU,T',GK,PB K r];simp [List.range'_succ]
theorem IC(K:List (Nat × SV)->R)(l:List SV):nU K l 0 []=K ((List.range l.length).zip l):=by
 rw [PB,List.range_eq_range'];rfl
def St.put(A:bI R)(st:St)(dst:Option Tmp)(v:SV)(c:ar)(K:St->R):R :=
  match dst with
  |none=>st.IB c K
  |some d=>match Nat.blt d st.n with
    |true=>match v.wf c with
      |true=>oz v λv=>st.DG (d,v) c K
      |false => A.fail "put"
    |false => A.fail "put"
def aH(P:Program)(t:TypeId):Option (Bool × Nat) :=
 match P.underlying t,P.info? t with
 |some d,some i=>some (match d with | .struct _ | .array _ _=>true|_=>false,i.size)
 |_,_=>none
def pieces{α:Type}(f:α->Option (List CK)):List α->Option (List CK)
  | []=>some []
  |x::l=>match f x,pieces f l with
    |some a,some b=>some (a++b)
    |_,_=>none
def times{α:Type}(l:List α):Nat->List α
 |0=>[]
 |n+1=>l++times l n
def u_(P:Program):Nat->TypeId->Option (List CK)
  |0,_=>none
  |n+1,t=>match P.underlying t with
    |some (.int k)=>some [.int k]
    |some .bool=>some [.bool]
    |some (.struct fs)=>pieces (λf=>u_ P n f.type) fs.toList
    |some (.array m e)=>(u_ P n e).map (times · m)
    |some .string=>some [.str]
    |some (.slice e)=>match aH P e with
      |some (_,s)=>some [.sl s]
      |none=>none
    |some _=>some [.uA]
    |none=>none
def bo(c:ar):CK->At
 | .int k=>.int k (.var c.ni)
 | .bool=>.bool (.var c.nb)
 | .uA=>.val c.nv
 | .str=>.sv c.ns
 | .sl sz=>.fG c.nb c.np sz (.var c.ni) (.var (c.ni+1))
 | .own _ _=>.own c.nk
def aV(c:ar):CK->ar
 | .int _ => {c with ni:=c.ni+1}
 | .bool => {c with nb:=c.nb+1}
 | .uA => {c with nv:=c.nv+1}
 | .str => {c with ns:=c.ns+1}
 | .sl _ => {c with nb:=c.nb+1,np:=c.np+1,ni:=c.ni+2}
 | .own _ _ => {c with nk:=c.nk+4,nl:=c.nl+1}
def CK.plain:CK->Bool
 | .own .. => false
 |_=>true
def au(c:ar):List CK->List At
 | []=>[]
 |k::l=>bo c k::au (aV c k) l
def aP(c:ar):List CK->ar
 | []=>c
 |k::l=>aP (aV c k) l
def aZ(c:ar):List CK->ba
 | []=>[]
 | .own sz t::l=>(c.nk,[.var c.nl],sz,t)::aZ (aV c (.own sz t)) l
 |k::l=>aZ (aV c k) l
def gE(P:Program):List TypeId->Option (List (Bool × List CK))
  | []=>some []
  |t::l=>match aH P t,u_ P 30 t,gE P l with
    |some (g,_),some ks,some r=>if (g=true∨ks.length=1)/\ks.all CK.plain=true then some ((g,ks)::r)else none
    |_,_,_=>none
def bQ:List (Bool × List CK)->List CK
 | []=>[]
 | (_,ks)::r=>ks++bQ r
def dO(g:Bool)(l:List At):CV :=
 match g,l with
 |false,[a]=>.one a
 |_,l=>.agg l
def bG:List (Bool × List CK)->List At->List CV
 | [],_=>[]
 | (g,ks)::r,l=>dO g (l.take ks.length)::bG r (l.drop ks.length)
def cq(cs:List CV):SV :=
 match cs with
 | [c]=>.cv c
 |cs=>.cE cs
def gq(A:bI R)(c:ar)(k:IntKind)(p:IP)(K:SV->ar->R):R :=
  match p.lits with
  |true=>jW (p.den Env.zero) λz=>K (.cv (.one (.int k (.lit z)))) c
  |false => if p.wf c = true then A.int c.ni p (K (.cv (.one (.int k (.var c.ni)))) { c with ni := c.ni+1 }) else A.fail "int"
def rr(A:bI R)(c:ar)(p:IP)(K:IE->ar->R):R :=
  if p.lits=true then jW (p.den Env.zero) λz=>K (.lit z) c
  else if p.wf c = true then A.int c.ni p (K (.var c.ni) { c with ni := c.ni+1 }) else A.fail "sum"
def p_(A:bI R)(c:ar)(op:IE->IE->IP)(a b:IE)(K:IE->ar->R):R:=rr A c (op a b) K
def gF(A:bI R)(c:ar)(ce:CE)(sz:Nat)(K:IE->ar->R):R:=rr A c (.rn (mg ce) (jB ce) sz) K
def bA(A:bI R)(e:BE)(r:R):R :=
 match e.jP with
 | .lit true=>r
 |e'=>A.AG e' r
def ff(A:bI R)(e:BE)(t f:Unit->R):R :=
 match e with
 | .lit true=>t ()
 | .lit false=>f ()
 |e =>
 match e.jP with
 | .lit true=>t ()
 | .lit false=>f ()
 | .not e'=>A.ite e' (f ()) (t ())
 | .cmp .neq a b=>A.ite (.cmp .eql a b) (f ()) (t ())
 |e'=>A.ite e' (t ()) (f ())
def hJ(A:bI R)(e:IE)(n:Nat):Nat->(Nat->R)->R
  |0, _ => A.fail "cases"
  |1,K=>K (n-1)
  |j+2,K=>ff A (.cmp .eql e (.lit ((n-(j+2):Nat):Int))) (λ_=>K (n-(j+2))) (λ_=>hJ A e n (j+1) K)
def jf:BinOp->Bool
 | .add | .sub | .mul | .and | .or | .xor | .andNot=>true
 |_=>false
def nV:BinOp->Bool
 | .eql | .neq | .lss | .leq | .gtr | .geq=>true
 |_=>false
def tM(P:Program)(f:TypeId->Option (List CK)):Nat->List Field->Option (List CK)
  |_,[]=>some []
  |off, fd :: r => if fd.name = "_" ∨ fd.offset ≠ off then none else match f fd.type, aH P fd.type with
    |some ks,some (_,n)=>if n=ks.length then (tM P f (off+n) r).map (ks ++ ·)else none
    |_,_=>none
def jC(P:Program):Nat->TypeId->Option (List CK)
  |0,_=>none
  |n+1,t=>match P.underlying t with
    |some (.int k)=>some [.int k]
    |some .bool=>some [.bool]
    |some .string=>some [.str]
    |some (.struct fs)=>if P.stoodInHeld t=true then none else tM P (jC P n) 0 fs.toList
    |some (.array m e)=>match jC P n e,aH P e with
      |some ks,some (_,s)=>if s=ks.length then some (times ks m)else none
      |_,_=>none
    |_=>none
def strOf:At->Option SE
 | .str l=>some (.lit l)
 | .sv i=>some (.var i)
 |_=>none
def eT(k:CK)(a b:At):Option BE :=
  match k with
  | .int k=>match a,b with
    | .int k1 a,.int k2 b=>if k1=k/\k2=k then some (.cmp .eql a b)else none
    |_,_=>none
  | .bool=>match a,b with
    | .bool a,.bool b=>some (.eq a b)
    |_,_=>none
  | .str=>match strOf a,strOf b with
    |some p,some q=>some (.seq p q)
    |_,_=>none
  |_=>none
def aX:List CK->List At->List At->Option BE
  | [],[],[]=>some (.lit true)
  |k::r,a::x,b::y=>match eT k a b,aX r x y with
    |some e,some e'=>some (.and e e')
    |_,_=>none
  |_,_,_=>none
inductive Nl where
 |jY
 |held
 |may (q:Nat)
 |Ua
 deriving DecidableEq
def oA:At->Nl
 | .rp=>.jY
 | .loc .. | .ext .. | .fe .. => .held
 | .cS=>.jY
 | .ga .. | .me .. => .held
 | .fG q .. => .may q
 | .tH=>.jY
 | .fn .. | .gm .. | .rq .. | .qS .. => .held
 |_=>.Ua
def tN:Nl->Nl->Option BE
 | .jY,.jY=>some (.lit true)
 | .jY,.held | .held,.jY=>some (.lit false)
 | .jY,.may q | .may q,.jY=>some (.var q)
 |_,_=>none
def c_:At->Nat
 | .rp | .loc .. | .ext .. | .fe .. => 0
 | .cS | .ga .. | .me .. | .fG .. => 1
 | .tH | .fn .. | .gm .. | .rq .. | .qS .. => 2
 |_=>3
def nW(P:Program)(t:TypeId)(x y:At):Option BE :=
  match P.underlying t with
  | some (.pointer e)=>if c_ x=0/\c_ y=0 then match tN (oA x) (oA y)with
      |some b=>some b
      |none=>match x,y with
        | .loc k o,.loc k' o'=>match aH P e with
          |some (_,n)=>if k=k'/\n≠0 then some (.lit (decide (o=o')))else none
          |none=>none
        |_,_=>none
    else none
  |some (.slice _)=>if c_ x=1/\c_ y=1 then tN (oA x) (oA y)else none
  |some (.func _ _ _)=>if c_ x=2/\c_ y=2 then tN (oA x) (oA y)else none
  |_=>none
def mh(g:Bool)(n:Nat):CV->Bool
 | .one _ => !g && decide (n=1)
 | .agg l=>g && decide (l.length=n)
def cK(g:Bool)(n:Nat):Nat:=2*n+if g=true then 1 else 0
structure fT where
 key:TypeId
 el:TypeId
 ks:List CK
 gk:Bool
 ge:Bool
 ne:Nat
def fT.no(x:fT):Nat:=cK x.gk x.ks.length*1048576+cK x.ge x.ne
def eU(P:Program)(t:TypeId):Option fT :=
  match P.underlying t with
  |some (.map key el)=>match jC P 30 key,aH P key,aH P el with
    |some ks,some (gk,nk),some (ge,ne)=>if nk=ks.length/\0<nk/\nk<500000/\ne<500000 then some ⟨key,el,ks,gk,ge,ne⟩else none
    |_,_,_=>none
  |_=>none
def nX:Value->Value->Bool
 | .int k a,.int k' b=>decide (k=k') && a == b
 | .bool a,.bool b=>a == b
 | .string a,.string b=>decide (a.data.toList=b.data.toList)
 |_,_=>false
def iy:List Value->List Value->Bool
 | [],[]=>true
 |a::x,b::y=>nX a b && iy x y
 |_,_=>false
def mi:CK->Value->Bool
 | .int k,.int k' _=>decide (k'=k)
 | .bool,.bool _=>true
 | .str,.string _=>true
 |_,_=>false
def eH:List CK->List Value->Bool
 | [],[]=>true
 |k::r,v::l=>mi k v && eH r l
 |_,_=>false
def hU(ks:List CK)(n:Nat):Nat->List Value->Bool
 |0,_=>true
 |_+1,[]=>true
 |f+1,l=>eH ks (l.take ks.length) && hU ks n f (l.drop n)
def iS(ks:List CK)(n:Nat)(l:List Value):Bool:=hU ks n l.length l
def cg(nk n:Nat)(key:List Value):Nat->List Value->Option Nat
 |0,_=>none
 |_+1,[]=>none
 |f+1,l=>if iy key (l.take nk)=true then some 0 else (cg nk n key f (l.drop n)).map (·+1)
def fC(nk n:Nat)(key l:List Value):Int :=
 match cg nk n key l.length l with
 |some i=>(i:Int)
 |none => -1
def gu:CK->At->Bool
 | .int k,.int k' _=>decide (k'=k)
 | .bool,.bool _=>true
 | .str,a=>(strOf a).isSome
 |_,_=>false
def eV:List CK->List At->Bool
 | [],[]=>true
 |k::r,a::l=>gu k a && eV r l
 |_,_=>false
def oB(A:bI R)(c:ar)(x:fT)(ce:CE)(kc:List At)(K:IE->ar->R):R :=
  if eV x.ks kc=true/\fR ce=true/\kc.all At.flat=true/\bW c ce=true/\kc.all (At.wf c)=true then
    A.DF c.ni ce kc x.ks x.ne (K (.var c.ni) {c with ni:=c.ni+1})
  else A.fail "map: keys"
def jZ(A:bI R)(c:ar)(x:fT)(kc:List At)(found:Nat->List At->R)(DH:Unit->R):Nat->List At->Nat->R
  |0, _, _ => A.fail "map: entries"
  |n+1,cs,i=>if cs=[]then DH ()else
    match aX x.ks kc (cs.take x.ks.length)with
    | some e=>if e.wf c=true/\x.ks.length + x.ne<=cs.length then
        ff A e (λ_=>found i ((cs.drop x.ks.length).take x.ne)) (λ_=>jZ A c x kc found DH n (cs.drop (x.ks.length+x.ne)) (i+1))
      else A.fail "map: entries"
    |none => A.fail "map: keys"
def mj(A:bI R)(c:ar)(p:SP)(K:SV->ar->R):R :=
  if p.lits=true/\p.okB=true then fH (λl=>K (.cv (.one (.str l))) c) (p.den Env.zero) []
  else if p.wf c = true then A.str c.ns p (K (.cv (.one (.sv c.ns))) { c with ns := c.ns+1 }) else A.fail "string"
def lg(A:bI R)(P:Program)(c:ar)(op:BinOp)(t:TypeId)(x y:SV)(K:SV->ar->R):R :=
  match x,y with
  | .cv (.one (.int k a)),.cv (.one (.int k' b)) =>
    if op=.shl then
      match b with
      | .lit n => if 0 <= n /\ n.toNat<k.bits then gq A c k (.shl k a n.toNat) K else A.fail "shift"
      |b=>bA A (.cmp .geq b (.lit 0)) (gq A c k (.bin .shl k a b) K)
    else if op=.shr then
      match b with
      | .lit n => if 0 <= n /\ n.toNat<k.bits then gq A c k (.shr a n.toNat) K else A.fail "shift"
      |b=>bA A (.cmp .geq b (.lit 0)) (gq A c k (.bin .shr k a b) K)
    else if k=k' then
      if jf op then gq A c k (.bin op k a b) K
      else if op=.quo∨op=.rem then bA A (.cmp .neq b (.lit 0)) (gq A c k (.bin op k a b) K)
      else if nV op then K (.cv (.one (.bool (BE.cmp op a b).jP))) c
      else A.fail "binOp"
    else A.fail "binOp: kinds"
  | .cv (.one (.bool a)),.cv (.one (.bool b)) =>
    match P.underlying t with
    |some .bool =>
      if op=.eql then K (.cv (.one (.bool (BE.eq a b).jP))) c
      else if op=.neq then K (.cv (.one (.bool (BE.not (BE.eq a b)).jP))) c
      else A.fail "binOp: bools"
    |_ => A.fail "binOp: bools"
  | .cv (.agg a),.cv (.agg b) =>
    match jC P 30 t,aH P t with
    |some ks,some (true,_)=>match aX ks a b with
      |some e =>
        if P.eqGuardType P.depth t = true then A.fail "binOp: guard"
        else if op=.eql then K (.cv (.one (.bool e.jP))) c
        else if op=.neq then K (.cv (.one (.bool (BE.not e).jP))) c
        else A.fail "binOp: structs"
      |none => A.fail "binOp: cells"
    |_, _ => A.fail "binOp: types"
  | .cv (.one x),.cv (.one y) =>
    match P.underlying t,strOf x,strOf y with
    |some .string,some a,some b =>
      if op=.eql then K (.cv (.one (.bool (BE.seq a b).jP))) c
      else if op=.neq then K (.cv (.one (.bool (BE.not (BE.seq a b)).jP))) c
      else if op=.add then mj A c (.cat a b) K
      else A.fail "binOp: strings"
    |_,_,_=>match nW P t x y with
      |some e =>
        if op=.eql then K (.cv (.one (.bool e.jP))) c
        else if op=.neq then K (.cv (.one (.bool (BE.not e).jP))) c
        else A.fail "binOp: operands"
      |none => A.fail "binOp: operands"
  |_, _ => A.fail "binOp: operands"
def oC(A:bI R)(p:Nat)(ix:IE)(sz:Nat):Nat->List CK->ar->(List At->ar->R)->R
 |_,[],c,K=>K [] c
 |off,k::l,c,K=>A.load (bo c k) p ix sz off (oC A p ix sz (off+1) l (aV c k) λr c'=>K (bo c k::r) c')
def su(A:bI R)(ce:CE)(ix:IE)(sz:Nat):Nat->List CK->ar->(List At->ar->R)->R
 |_,[],c,K=>K [] c
 |off,k::l,c,K=>A.rd (bo c k) ce ix sz off (su A ce ix sz (off+1) l (aV c k) λr c'=>K (bo c k::r) c')
def gv(ce:CE)(ix:IE)(sz off:Nat):Option (List At × Nat) :=
 match ix,dK ce with
 | .lit j,some cs=>some (cs,j.toNat*sz+off)
 |_,_=>none
def mn(A:bI R)(P:Program)(m:Mem)(o:ba)(c:ar)(t:TypeId)(x:SV)(K:SV->ar->R):R :=
  match aH P t with
  |none => A.fail "load: type"
  |some (g,n) =>
    match x with
    | .cv (.one (.fe k ix sz off)) =>
      match aG o k with
      |none => A.fail "load: no such row"
      |some (ce,s0,t0)=>if 0<s0∨t0=0 then
        match gv ce ix sz off with
        |some (cs,p) =>
          if g=true then
            if p+n <= cs.length then K (.cv (.agg ((cs.drop p).take n))) c else A.fail "load: beyond"
          else match cs[p]? with
            |some a=>K (.cv (.one a)) c
            |none => A.fail "load: beyond"
        |none =>
          match u_ P 30 t with
          |none => A.fail "load: kinds"
          |some ks =>
            if ks.length=(if g=true then n else 1)/\ks.all CK.plain=true/\fR ce=true/\bW c ce=true/\ix.wf c=true then
              su A ce ix sz off ks c λl c'=>K (.cv (dO g l)) c'
            else A.fail "load: kinds"
        else A.fail "load: a map"
    | .cv (.one (.loc k off)) =>
      match getM m k with
      |none => A.fail "load: no such block"
      |some (cs,_) =>
        if g=true then
          if off+n <= cs.length then K (.cv (.agg ((cs.drop off).take n))) c else A.fail "load: beyond"
        else match cs[off]? with
          |some a=>K (.cv (.one a)) c
          |none => A.fail "load: beyond"
    | .cv (.one (.ext p ix sz off)) =>
      match u_ P 30 t with
      |none => A.fail "load: kinds"
      |some ks =>
        if ks.length=(if g=true then n else 1)/\ks.all CK.plain=true/\p<c.np/\ix.wf c=true then
          oC A p ix sz off ks c λl c'=>K (.cv (dO g l)) c'
        else A.fail "load: kinds"
    |_ => A.fail "load: address"
def vb(A:bI R)(c:ar)(op:UnOp)(x:SV)(K:SV->ar->R):R :=
  match op,x with
  | .neg,.cv (.one (.int k a))=>gq A c k (.neg k a) K
  | .xor,.cv (.one (.int k a))=>gq A c k (.GH k a) K
  | .not,.cv (.one (.bool a))=>K (.cv (.one (.bool (BE.not a).jP))) c
  |_, _ => A.fail "unOp"
def ru(A:bI R)(P:Program)(c:ar)(s d:TypeId)(x:SV)(K:SV->ar->R):R :=
  match P.underlying s,P.underlying d,x with
  |some _,some (.int k),.cv (.one (.int _ a))=>gq A c k (.conv k a) K
  |_, _, _ => A.fail "convert"
def partOf(P:Program)(t:TypeId)(cs:List At)(off:Nat):Option CV :=
 match aH P t with
 |some (true,n)=>if off+n<=cs.length then some (.agg ((cs.drop off).take n))else none
 |some (false,_)=>(cs[off]?).map .one
 |none=>none
def j6(A:bI R)(P:Program)(c:ar)(t:TypeId)(x:SV)(f:Nat)(K:SV->ar->R):R :=
  match P.underlying t,x with
  |some (.struct fs),.cv (.agg cs) =>
    match fs[f]? with
    |some fd=>match partOf P fd.type cs fd.offset with
      |some v=>K (.cv v) c
      |none => A.fail "field: part"
    |none => A.fail "field"
  |_, _ => A.fail "field"
def eW(A:bI R)(P:Program)(c:ar)(s:TypeId)(x:SV)(f:Nat)(K:SV->ar->R):R :=
  match P.underlying s with
  |some (.struct fs)=>match fs[f]? with
    |some fd=>match aH P fd.type with
      |some (_, n) => if n = 0 then A.fail "fieldAddr: no cells" else match x with
        | .cv (.one (.loc k off))=>K (.cv (.one (.loc k (off+fd.offset)))) c
        | .cv (.one (.ext p ix sz off))=>K (.cv (.one (.ext p ix sz (off+fd.offset)))) c
        | .cv (.one (.fe k ix sz off))=>K (.cv (.one (.fe k ix sz (off+fd.offset)))) c
        |_ => A.fail "fieldAddr: address"
      |none => A.fail "fieldAddr"
    |none => A.fail "fieldAddr"
  |_ => A.fail "fieldAddr"
def eX(A:bI R)(P:Program)(o:ba)(c:ar)(t:TypeId)(x i:SV)(K:SV->ar->R):R :=
  match i with
  | .cv (.one (.int _ e)) =>
    match P.underlying t,x with
    |some (.slice el),.cv (.one (.own k))=>match aH P el,aG o k with
      | some (_,s),some (ce,sz,_)=>if s=sz/\0 < sz then
          gF A c ce sz λn c1=>bA A (.cmp .geq e (.lit 0)) (bA A (.cmp .lss e n) (K (.cv (.one (.fe k e sz 0))) c1))
        else A.fail "indexAddr: a part of a row"
      |_, _ => A.fail "indexAddr: no such row"
    |some (.slice el),.cv (.one (.pY k))=>match aH P el,aG o k with
      | some (_,s),some (ce,sz,t0)=>if s=1/\sz=0/\t0=0 then
          gF A c ce 1 λn c1=>bA A (.cmp .geq e (.lit 0)) (bA A (.cmp .lss e n) (K (.cv (.one (.fe k e 1 0))) c1))
        else A.fail "indexAddr: bytes"
      |_, _ => A.fail "indexAddr: no such row"
    |some (.slice el),.cv (.one (.fG q p sz len _))=>match aH P el with
      | some (_,s)=>if s=sz then
          bA A (.not (.var q)) (bA A (.cmp .geq e (.lit 0)) (bA A (.cmp .lss e len) (K (.cv (.one (.ext p e sz 0))) c)))
        else A.fail "indexAddr: a part of a slice"
      |none => A.fail "indexAddr"
    |some (.array n el),.cv (.one (.fe k ix sz off))=>match aH P el with
      |some (_,s)=>match e with
        | .lit j => if 0 <= j /\ j.toNat<n then K (.cv (.one (.fe k ix sz (off+j.toNat*s)))) c else A.fail "indexAddr: beyond"
        |e=>bA A (.cmp .geq e (.lit 0)) (bA A (.cmp .lss e (.lit n)) (hJ A e n n λj=>K (.cv (.one (.fe k ix sz (off+j*s)))) c))
      |none => A.fail "indexAddr"
    |some (.array n el),.cv (.one (.loc k off))=>match aH P el with
      |some (_,s)=>match e with
        | .lit j => if 0 <= j /\ j.toNat<n then K (.cv (.one (.loc k (off+j.toNat*s)))) c else A.fail "indexAddr: beyond"
        |e=>bA A (.cmp .geq e (.lit 0)) (bA A (.cmp .lss e (.lit n)) (hJ A e n n λj=>K (.cv (.one (.loc k (off+j*s)))) c))
      |none => A.fail "indexAddr"
    |some (.array n el),.cv (.one (.ext p ix sz off))=>match aH P el with
      |some (_,s)=>match e with
        | .lit j => if 0 <= j /\ j.toNat<n then K (.cv (.one (.ext p ix sz (off+j.toNat*s)))) c else A.fail "indexAddr: beyond"
        |e=>bA A (.cmp .geq e (.lit 0)) (bA A (.cmp .lss e (.lit n)) (hJ A e n n λj=>K (.cv (.one (.ext p ix sz (off+j*s)))) c))
      |none => A.fail "indexAddr"
    |some (.slice el),.cv (.one (.ga k off len _))=>match aH P el with
      |some (_,s)=>match e with
        | .lit j => if 0 <= j /\ j.toNat<len then K (.cv (.one (.loc k (off+j.toNat*s)))) c else A.fail "indexAddr: beyond"
        |e=>bA A (.cmp .geq e (.lit 0)) (bA A (.cmp .lss e (.lit len)) (hJ A e len len λj=>K (.cv (.one (.loc k (off+j*s)))) c))
      |none => A.fail "indexAddr"
    |some (.slice el),.cv (.one (.me p ix sz len _))=>match aH P el with
      | some (_,s)=>if s=sz then
          bA A (.cmp .geq e (.lit 0)) (bA A (.cmp .lss e len) (if ix=.lit 0 then K (.cv (.one (.ext p e sz 0))) c
            else bA A (.cmp .geq ix (.lit 0)) (p_ A c .sum ix e λe' c'=>K (.cv (.one (.ext p e' sz 0))) c')))
        else A.fail "indexAddr: a part of a slice"
      |none => A.fail "indexAddr"
    |_, _ => A.fail "indexAddr: operand"
  |_ => A.fail "indexAddr: index"
def j7(A:bI R)(P:Program)(c:ar)(t:TypeId)(x i:SV)(K:SV->ar->R):R :=
  match i with
  | .cv (.one (.int _ e)) =>
    match P.underlying t,x with
    |some (.array n el),.cv (.agg cs)=>match aH P el with
      |some (_,s)=>match e with
        | .lit j=>if 0<=j/\j.toNat < n then match partOf P el cs (j.toNat * s)with
            |some v=>K (.cv v) c
            |none => A.fail "index: part"
          else A.fail "index: beyond"
        | e => bA A (.cmp .geq e (.lit 0)) (bA A (.cmp .lss e (.lit n)) (hJ A e n n fun j=>match partOf P el cs (j * s)with
            |some v=>K (.cv v) c
            |none => A.fail "index: part"))
      |none => A.fail "index"
    |some .string,.cv (.one x)=>match strOf x with
      |some s=>rr A c (.pW s) λn c1=>bA A (.cmp .geq e (.lit 0)) (bA A (.cmp .lss e n) (gq A c1 .u8 (.tG s e) K))
      |none => A.fail "index: a string"
    |_, _ => A.fail "index: operand"
  |_ => A.fail "index: index"
def AI(op:BinOp)(a b:IE):BE :=
 match a,b with
 | .lit x,.lit y=>.lit (gD op x y)
 |a,b=>(BE.cmp op a b).jP
theorem ID(op:BinOp)(a b:IE):AI op a b=(BE.cmp op a b).jP:=by
 unfold AI;split<;>simp [BE.jP]
def oD(A:bI R)(P:Program)(c:ar)(op:BinOp)(t:TypeId)(k k':IntKind)(a b:IE)(K:SV->ar->R):R :=
  match nV op with
  |true=>match Cz k k' with
    |true=>K (.cv (.one (.bool (AI op a b)))) c
    |false => A.fail "binOp: kinds"
  |false=>match jf op with
    |true=>match Cz k k' with
      |true=>gq A c k (.bin op k a b) K
      |false => A.fail "binOp: kinds"
    |false=>lg A P c op t (.cv (.one (.int k a))) (.cv (.one (.int k' b))) K
theorem Ub(A:bI R)(P:Program)(c:ar)(op:BinOp)(t:TypeId)(k k':IntKind)(a b:IE)(K:SV->ar->R):oD A P c op t k k' a b K=lg A P c op t (.cv (.one (.int k a))) (.cv (.one (.int k' b))) K:=by
 by_cases hk:k=k'
 ·have h2:Cz k k'=true:=(Pz k k').2 hk;unfold oD;rw [h2];unfold lg;cases op<;>simp [nV,jf,hk,ID]
 ·have h2:Cz k k'=false:=by
   cases h:Cz k k' with
   |true=>exact absurd ((Pz k k').1 h) hk
   |false=>rfl
  unfold oD;rw [h2];unfold lg;cases op<;>simp [nV,jf,hk]
def cw(place:Nat->Option (Nat × Nat))(cells:List At):List (Nat × SV)->Option (List At)
  | []=>some cells
  | (i,.cv v)::r=>match place i with
    |some (off,size)=>if v.cells.length=size/\off+size<=cells.length then cw place (cells.take off++v.cells++cells.drop (off+size)) r else none
    |none=>none
  |_::_=>none
def cx(P:Program)(t:TypeId):Option CV :=
  match P.info? t with
  |some i=>match i.zero with
    |some v=>match SV.ofValue v with
      | .cv c=>some c
      |_=>none
    |none=>none
  |none=>none
def de(P:Program):List Field->Option (List (Nat × Nat))
  | []=>some []
  |f::l=>match aH P f.type,de P l with
    |some (_,n),some r=>some ((f.offset,n)::r)
    |_,_=>none
def j8(A:bI R)(P:Program)(c:ar)(t:TypeId)(parts:List (Nat × SV))(K:SV->ar->R):R :=
  match P.underlying t,cx P t with
  |some (.struct fs),some z=>match de P fs.toList with
    |some pl=>match cw (pl[·]?) z.cells parts with
      |some cs=>K (.cv (.agg cs)) c
      |none => A.fail "build: parts"
    |none => A.fail "build: places"
  |some (.array _ el),some z=>match aH P el with
    |some (_,s)=>match cw (λi=>some (i*s,s)) z.cells parts with
      |some cs=>K (.cv (.agg cs)) c
      |none => A.fail "build: parts"
    |none => A.fail "build"
  |_, _ => A.fail "build"
def fg:List SV->Option (List (Nat × Nat))
 | []=>some []
 | .cv (.one (.loc k o))::r=>(fg r).map ((k,o) :: ·)
 |_=>none
def dP(o:ba):List At->ba
  | []=>[]
  | .own k::r=>match aG o k with
    |some v=>(k,v)::dP o r
    |none=>dP o r
  |_::r=>dP o r
def dG(m:Mem):List At->Mem
  | []=>[]
  | .loc k _::r | .ga k _ _ _::r=>match getM m k with
    |some v=>(k,v)::dG m r
    |none=>dG m r
  |_::r=>dG m r
def aM:SV->List At
 | .cv c=>c.cells
 |_=>[]
def iT:SV->Bool
 | .any=>true
 | .dF=>true
 |_=>false
def sw:SV->List CV
 | .cv c=>[c]
 | .cE l=>l
 |_=>[]
def jg:CE->List At
 | []=>[]
 | .bT l::r=>l++jg r
 | .var _::r=>jg r
def inside(m:Mem)(o:ba):List At->List At
 | []=>[]
 | .loc k _::r | .ga k _ _ _::r=>(match getM m k with|some (cs,_)=>cs|none=>[])++inside m o r
 | .own k::r=>(match aG o k with|some (ce,_,_)=>jg ce|none=>[])++inside m o r
 |_::r=>inside m o r
def deep(m:Mem)(o:ba):Nat->List At->List At
 |0,l=>l
 |n+1,l=>l++deep m o n (inside m o l)
def cj(m:Mem)(o:ba)(args:List SV):List At:=deep m o 2 (args.flatMap aM)
def Uc(z:Int):Nat:=if z<0 then 2*z.natAbs-1 else 2*z.natAbs
def DI(n:Nat):Int:=if n % 2=1 then -(((n+1) / 2:Nat):Int)else ((n / 2:Nat):Int)
def mo:List At->List (Nat × Nat)
 | []=>[]
 | .int _ (.lit z)::r=>(10,Uc z)::mo r
 | .bool (.lit b)::r=>(11,if b=true then 1 else 0)::mo r
 | .str l::r=>(12,l.length)::(l.map λb=>(13,b.toNat))++mo r
 |_::r=>mo r
def ry:List SV->List (Nat × Nat)
 | []=>[]
 | .cv v::r=>mo v.cells++ry r
 |_::r=>ry r
def oE:List CK->List (Nat × Nat)->Option (List At)
 | [],[]=>some []
 | .int k::r,(0,n)::l=>(oE r l).map (.int k (.lit (DI n)) :: ·)
 | .bool::r,(1,n)::l=>(oE r l).map (.bool (.lit (decide (n=1))) :: ·)
 | .str::r,(2,n)::l=>(oE r (l.drop n)).map (.str ((l.take n).map λx=>UInt8.ofNat x.2) :: ·)
 |_,_=>none
def mq(ks:List CK)(key:List (Nat × Nat)):List (List (Nat × Nat))->Option (List At)
  | []=>none
  | a :: r=>if a.take key.length=key then match oE ks (a.drop key.length)with
      |some l=>some l
      |none=>mq ks key r
    else mq ks key r
def sA(G:bF)(f:FuncId)(args:List SV)(ks:List CK):Option (List At) :=
 match G.loops.lookup (700000000000000000+f)with
 |some (.tJ alts _ _ _)=>mq ks (ry args) alts
 |_=>none
def sB(b:Nat):List UInt8->Nat->Int
  | [],_ => -1
  |x::r,i=>match Nat.beq x.toNat b with
    |true=>(i:Int)
    |false=>sB b r (i+1)
def DJ:List UInt8->List UInt8->Bool
 | [],_=>true
 |_::_,[]=>false
 |a::r,b::s=>Nat.beq a.toNat b.toNat && DJ r s
def ve(p:List UInt8):List UInt8->Nat->Int
  | [],i=>if p=[]then (i:Int)else -1
  |x::r,i=>match DJ p (x::r)with
    |true=>(i:Int)
    |false=>ve p r (i+1)
def sC(G:bF)(f:FuncId)(args:List SV):Option (List At) :=
  match G.loops.lookup (300000000000000000+f)with
  |some (.inv _ [kd] _)=>match kd,args with
    |1,[.cv (.one (.str s)),.cv (.one (.int _ (.lit b)))]=>some [.int .i64 (.lit (sB b.toNat s 0))]
    |2,[.cv (.one (.str s)),.cv (.one (.str p))]=>some [.int .i64 (.lit (ve p s 0))]
    |3,[.cv (.one (.int _ (.lit x))),.cv (.one (.int _ (.lit y))),.cv (.one (.int _ (.lit z)))]=>some [.int .u64 (.lit ((x+y+z) % 18446744073709551616)),.int .u64 (.lit ((x+y+z) / 18446744073709551616))]
    |4,[.cv (.one (.int _ (.lit x))),.cv (.one (.int _ (.lit y))),.cv (.one (.int _ (.lit z)))]=>some [.int .u64 (.lit ((x-y-z) % 18446744073709551616)),.int .u64 (.lit (if x<y+z then 1 else 0))]
    |_,_=>none
  |_=>none
def kO(A:bI R)(G:bF)(m:Mem)(o:ba)(c:ar)(f:FuncId)(args:List SV)(K:SV->ar->R):R :=
  match G.P.funcs[f]? with
  |none => A.fail "call: no such function"
  |some fn=>match gE G.P fn.resultTypes.toList with
    |none => A.fail "call: results"
    |some ss =>
      if args.any iT = true ∨ ¬args.all (SV.wf c) = true then A.fail "call: arguments"
      else if G.ext.contains f=true then
        match sC G f args with
        |some l => if l.all (At.wf c) = true /\ l.all At.flat = true then A.nQ f args [] (cq (bG ss l)) (K (cq (bG ss l)) c) else A.fail "call: hint"
        |none=>A.nQ f args (au c (bQ ss)) (cq (bG ss (au c (bQ ss)))) (K (cq (bG ss (au c (bQ ss)))) (aP c (bQ ss)))
      else if G.calls.contains f=true then
        match sA G f args (bQ ss)with
        |some l => if l.all (At.wf c) = true /\ l.all At.flat = true then A.call f args (dG m (cj m o args)) (dP o (cj m o args)) [] (cq (bG ss l)) (K (cq (bG ss l)) c) else A.fail "call: hint"
        |none=>A.call f args (dG m (cj m o args)) (dP o (cj m o args)) (au c (bQ ss)) (cq (bG ss (au c (bQ ss)))) (K (cq (bG ss (au c (bQ ss)))) (aP c (bQ ss)))
      else A.fail "call: unknown function"
def cL(d:IE):Option SV->Option IE
 |none=>some d
 |some (.cv (.one (.int _ e)))=>some e
 |some _=>none
def j9(A:bI R)(P:Program)(c:ar)(t:TypeId)(s:SE)(lo hi:Option SV)(K:SV->ar->R):R :=
  match P.underlying t,cL (.lit 0) lo,hi with
  |some .string, some l, none => if l.wf c = true then rr A c (.pW s) λn c1 => mj A c1 (.sub s l n) K else A.fail "slice: string"
  |some .string,some l,some (.cv (.one (.int _ e)))=>mj A c (.sub s l e) K
  |_, _, _ => A.fail "slice: string"
def j_(A:bI R)(P:Program)(c:ar)(t:TypeId)(x:SV)(lo hi:Option SV)(K:SV->ar->R):R :=
  match P.underlying t,x with
  |some (.slice el),.cv (.one (.me p ix sz len cap))=>match aH P el,cL (.lit 0) lo,cL len hi with
    | some (_,s),some l,some h=>if s=sz then
        bA A (.cmp .geq len (.lit 0)) (bA A (.cmp .leq len cap) (bA A (.cmp .geq l (.lit 0)) (bA A (.cmp .leq l h) (bA A (.cmp .leq h cap) (
          if l=.lit 0 then K (.cv (.one (.me p ix sz h cap))) c
          else bA A (.cmp .geq ix (.lit 0)) (p_ A c .diff h l λAJ c1=>p_ A c1 .diff cap l λAK c2 =>
            ff A (.cmp .lss l cap) (λ_=>p_ A c2 .sum ix l λPC c3=>K (.cv (.one (.me p PC sz AJ AK))) c3) (λ_=>K (.cv (.one (.me p ix sz AJ AK))) c2)))))))
      else A.fail "slice: size"
    |_, _, _ => A.fail "slice: bounds"
  |some (.slice el),.cv (.one (.ga k off len cap))=>match aH P el,cL (.lit 0) lo,cL (.lit len) hi with
    |some (_,s),some (.lit l),some (.lit h) =>
      if 0 <= l /\ l <= h /\ h <= cap then K (.cv (.one (.ga k (if l.toNat = cap then off else off+l.toNat*s) (h.toNat-l.toNat) (cap-l.toNat)))) c else A.fail "slice: beyond"
    |_, _, _ => A.fail "slice: bounds"
  |some (.array n el),.cv (.one (.ext p (.lit j) sz off))=>match aH P el,cL (.lit 0) lo,cL (.lit n) hi with
    |some (_,s),some (.lit l),some (.lit h) =>
      if 0 <= l /\ l <= h /\ h <= n /\ j = 0 /\ off = 0 /\ 0<s /\ p<c.np then K (.cv (.one (.me p (.lit (if l.toNat = n then 0 else l)) s (.lit (h-l)) (.lit (n-l))))) c else A.fail "slice: beyond"
    |_, _, _ => A.fail "slice: bounds"
  |some (.array n el),.cv (.one (.loc k off))=>match aH P el,cL (.lit 0) lo,cL (.lit n) hi with
    |some (_,s),some (.lit l),some (.lit h) =>
      if 0 <= l /\ l <= h /\ h <= n then K (.cv (.one (.ga k (if l.toNat = n then off else off+l.toNat*s) (h.toNat-l.toNat) (n-l.toNat)))) c else A.fail "slice: beyond"
    |_, _, _ => A.fail "slice: bounds"
  |_, _ => A.fail "slice: operand"
def oF(A:bI R)(P:Program)(c:ar)(t:TypeId)(x:SV)(lo hi:Option SV)(K:SV->ar->R):R :=
  match x with
  | .cv (.one (.fG q p sz len cap))=>bA A (.not (.var q)) (bA A (.cmp .gtr cap (.lit 0)) (j_ A P c t (.cv (.one (.me p (.lit 0) sz len cap))) lo hi K))
  | .cv (.one (.str l))=>j9 A P c t (.lit l) lo hi K
  | .cv (.one (.sv i))=>j9 A P c t (.var i) lo hi K
  | .cv (.one (.own k))=>match P.underlying t,cL (.lit 0) lo,hi with
    |some (.slice el),some l,none=>match aH P el with
      |some _ => if l = .lit 0 then K (.cv (.one (.own k))) c else A.fail "slice: row"
      |none => A.fail "slice: row"
    |_, _, _ => A.fail "slice: row"
  |x=>j_ A P c t x lo hi K
def mr(A:bI R)(P:Program)(o:ba)(c:ar)(t:TypeId)(m k:SV)(ok:Bool)(K:SV->ar->R):R :=
  match eU P t,m,k with
  |some x,.cv (.one .tI),.cv kv=>match cx P x.el with
    |some z => if mh x.gk x.ks.length kv = true then K (if ok = true then .cE [z, .one (.bool (.lit false))] else .cv z) c else A.fail "nil map: key"
    |none => A.fail "nil map: zero"
  |some x,.cv (.one (.omap j)),.cv kv=>match aG o j,cx P x.el with
    |some (ce,sz,tc),some z=>match dK ce with
      | some cs=>if mh x.gk x.ks.length kv=true/\tc=x.no/\sz=0 then
          jZ A c x kv.cells (λ_ v=>K (if ok=true then .cE [dO x.ge v,.one (.bool (.lit true))]else .cv (dO x.ge v)) c)
            (λ_=>K (if ok=true then .cE [z,.one (.bool (.lit false))]else .cv z) c) (cs.length+1) cs 0
        else A.fail "map: key"
      |none=>match u_ P 30 x.el with
        | some ls=>if mh x.gk x.ks.length kv=true/\tc=x.no/\sz=0/\ls.length=x.ne/\ls.all CK.plain=true then
            oB A c x ce kv.cells λi c1=>ff A (.cmp .geq i (.lit 0))
              (λ_=>su A ce i (x.ks.length+x.ne) x.ks.length ls c1 λl c2=>K (if ok=true then .cE [dO x.ge l,.one (.bool (.lit true))]else .cv (dO x.ge l)) c2)
              (λ_=>K (if ok=true then .cE [z,.one (.bool (.lit false))]else .cv z) c1)
          else A.fail "map: key"
        |none => A.fail "map: elements"
    |_, _ => A.fail "map: no such"
  |_, _, _ => A.fail "lookup"
def vf(A:bI R)(P:Program)(o:ba)(c:ar)(t:Option TypeId)(x:SV)(K:SV->ar->R):R :=
  match t.bind P.underlying,x with
  |some (.slice _),.cv (.one (.own k))=>match aG o k with
    |some (ce, sz, _) => if 0<sz then gF A c ce sz λn c1 => K (.cv (.one (.int .i64 n))) c1 else A.fail "len"
    |none => A.fail "len: no such row"
  |some (.slice _),.cv (.one (.pY k))=>match aG o k with
    |some (ce, sz, t0) => if sz = 0 /\ t0 = 0 then gF A c ce 1 λn c1 => K (.cv (.one (.int .i64 n))) c1 else A.fail "len: bytes"
    |none => A.fail "len: no such row"
  |some (.slice _),.cv (.one (.fG q _ _ len _))=>bA A (.cmp .geq len (.lit 0)) (bA A (.or (.not (.var q)) (.cmp .eql len (.lit 0))) (K (.cv (.one (.int .i64 len))) c))
  |some .string,.cv (.one (.sv i))=>rr A c (.pW (.var i)) λn c1=>K (.cv (.one (.int .i64 n))) c1
  |some (.slice _),.cv (.one (.ga _ _ len _))=>K (.cv (.one (.int .i64 (.lit len)))) c
  |some (.slice _),.cv (.one .cS)=>K (.cv (.one (.int .i64 (.lit 0)))) c
  |some (.slice _),.cv (.one (.me _ _ _ len _))=>bA A (.cmp .geq len (.lit 0)) (K (.cv (.one (.int .i64 len))) c)
  |some .string,.cv (.one (.str l))=>K (.cv (.one (.int .i64 (.lit l.length)))) c
  |some (.array n _),_=>K (.cv (.one (.int .i64 (.lit n)))) c
  |some (.map _ _),.cv (.one (.omap k))=>match aG o k,t.bind (eU P)with
    |some (ce,sz,tc),some x=>match dK ce with
      |some cs => if tc = x.no /\ sz = 0 then K (.cv (.one (.int .i64 (.lit (cs.length / (x.ks.length+x.ne) : Nat))))) c else A.fail "len: map"
      |none => if tc = x.no /\ sz = 0 then gF A c ce (x.ks.length+x.ne) λn c1 => K (.cv (.one (.int .i64 n))) c1 else A.fail "len: map"
    |_, _ => A.fail "len: map"
  |_, _ => A.fail "len"
def ka(A:bI R)(c:ar)(mx:Bool)(x y:SV)(K:SV->ar->R):R :=
  match x,y with
  | .cv (.one (.int k a)),.cv (.one (.int _ b))=>gq A c k (if mx then .max a b else .min a b) K
  |_, _ => A.fail "min, max"
def kP(P:Program)(o:ba)(op:BinOp)(t:TypeId)(x y:SV):Option (CE × Nat) :=
  if op=.eql∨op=.neq then
    match P.underlying t,x,y with
    |some (.slice _),.cv (.one (.own k)),.cv (.one .cS)=>match aG o k with
      |some (ce,sz,_)=>if 0<sz then some (ce,sz)else none
      |none=>none
    |_,_,_=>none
  else none
def jD(k:bV):SV->Option Bool
  | .cv (.one .ov)=>some true
  | .cv (.one (.val i))=>match fA k i with
    |some _=>some false
    |none=>none
  |_=>none
def nY:Operand->Bool
 | .const _=>true
 |_=>false
def mu(P:Program)(k:bV)(op:BinOp)(t:TypeId)(xo yo:Operand)(x y:SV):Option Bool :=
  match P.underlying t with
  |some (.interface _)=>match jD k x,jD k y with
    |some a,some b=>if (a=true∨b=true)/\(nY xo=true∨nY yo=true)then (if op=.eql then some (a == b)else if op=.neq then some (!(a == b))else none)else none
    |_,_=>none
  |_=>none
def methodOf(P:Program)(t:TypeId)(name:String):Option FuncId :=
  match P.info? t,P.underlying t with
  |some i,some d=>match i.methods.find? (·.name == name)with
    |some m=>match m.func,m.path.toList with
      |some (f,false),[]=>match d with
        | .pointer _=>none
        |_=>some f
      |_,_=>none
    |none=>none
  |_,_=>none
def ke(G:bF)(k:bV)(c:ar)(t:TypeId)(x:SV):Option (Nat × List At × TypeId × CV) :=
  match x with
  | .cv (.one (.ext p (.lit j) sz off))=>match nP k p with
    |some g=>match G.aT.lookup g with
      |some (cs,ty)=>match partOf G.P t cs (j.toNat*sz+off)with
        |some v=>if cs.all (At.wf c)=true/\cs.all At.flat=true then some (g,cs,ty,v)else none
        |none=>none
      |none=>none
    |none=>none
  |_=>none
def doAssert(A:bI R)(P:Program)(k:bV)(c:ar)(x:SV)(asserted:TypeId)(ok:Bool)(K:SV->ar->R):R :=
  match P.underlying asserted,x with
  |some (.interface _), _ => A.fail "typeAssert: an interface"
  |some _,.cv (.one (.val i))=>match fA k i with
    |some (t,v) =>
      if t=asserted then K (if ok=true then .cE [v,.one (.bool (.lit true))]else .cv v) c
      else if ok=true then match cx P asserted with
        |some z=>K (.cE [z,.one (.bool (.lit false))]) c
        |none => A.fail "typeAssert: zero"
      else A.fail "typeAssert: panics"
    |none => A.fail "typeAssert: unknown"
  | some _,.cv (.one .ov)=>if ok=true then match cx P asserted with
      |some z=>K (.cE [z,.one (.bool (.lit false))]) c
      |none => A.fail "typeAssert: zero"
    else A.fail "typeAssert: panics"
  |_, _ => A.fail "typeAssert"
def yY(m:Mem)(o:ba):SV->Option CE
  | .cv (.one (.own k))=>match aG o k with
    |some (ce,sz,_)=>if sz=1/\fR ce=true then some ce else none
    |none=>none
  | .cv (.one (.ga k off len _))=>match getM m k with
    |some (cs,_)=>if off+len<=cs.length/\cs.all At.flat=true then some [.bT ((cs.drop off).take len)]else none
    |none=>none
  | .cv (.one .cS)=>some []
  |_=>none
def kg(P:Program)(c:ar)(s d:TypeId)(x:SV):Option At :=
  match P.underlying s,P.underlying d with
  |some (.slice e),some .string=>match P.underlying e,x with
    |some (.int .u8),.cv (.one a)=>match a with
      | .fG .. | .me .. => if a.wf c=true then some a else none
      |_=>none
    |_,_=>none
  |_,_=>none
def bytesOf(P:Program)(m:Mem)(o:ba)(s d:TypeId)(x:SV):Option CE :=
  match P.underlying s,P.underlying d with
  |some (.slice e),some .string=>match P.underlying e with
    |some (.int .u8)=>yY m o x
    |_=>none
  |_,_=>none
def fU(P:Program)(s d:TypeId):Option TypeId :=
  match P.underlying s,P.underlying d with
  |some .string,some (.slice e)=>match P.underlying e with
    |some (.int .u8)=>some e
    |_=>none
  |_,_=>none
def mv(l:List UInt8):List At:=l.map λb=>.int .u8 (.lit b.toNat)
def vg(A:bI R)(G:bF)(st:St)(o:Oper)(K:SV->ar->R):R :=
  match o.op with
  | .move x=>K (st.ev x) st.c
  | .assign x=>K (st.ev x) st.c
  | .pick x a b=>match st.ev x with
    | .cv (.one (.bool e))=>ff A e (λ_=>K (st.ev a) st.c) (λ_=>K (st.ev b) st.c)
    |_ => A.fail "pick"
  | .load t x=>match ke G st.k st.c t (st.ev x)with
    |some (g,cs,ty,v)=>A.ag g cs ty (K (.cv v) st.c)
    |none=>mn A G.P st.m st.o st.c t (st.ev x) K
  | .nilCheck x=>match st.ev x with
    | .cv (.one (.loc k off))=>K (.cv (.one (.loc k off))) st.c
    | .cv (.one (.ext p ix sz off))=>K (.cv (.one (.ext p ix sz off))) st.c
    | .cv (.one (.fe k ix sz off))=>K (.cv (.one (.fe k ix sz off))) st.c
    | .cv (.one (.fn f aB))=>K (.cv (.one (.fn f aB))) st.c
    | .cv (.one (.gm f first aB))=>K (.cv (.one (.gm f first aB))) st.c
    | .cv (.one (.rq k))=>K (.cv (.one (.rq k))) st.c
    | .cv (.one (.qS f l aB))=>K (.cv (.one (.qS f l aB))) st.c
    |_ => A.fail "nilCheck"
  | .binOp op t x y _=>match kP G.P st.o op t (st.ev x) (st.ev y)with
    |some (ce,sz)=>gF A st.c ce sz λn c1=>bA A (.cmp .gtr n (.lit 0)) (K (.cv (.one (.bool (.lit (decide (op=.neq)))))) c1)
    |none=>match mu G.P st.k op t x y (st.ev x) (st.ev y)with
      |some b=>K (.cv (.one (.bool (.lit b)))) st.c
      |none=>lg A G.P st.c op t (st.ev x) (st.ev y) K
  | .lookup t x i ok=>mr A G.P st.o st.c t (st.ev x) (st.ev i) ok K
  | .typeAssert x _ asserted ok=>doAssert A G.P st.k st.c (st.ev x) asserted ok K
  | .unOp op _ x=>vb A st.c op (st.ev x) K
  | .convert s d x=>match bytesOf G.P st.m st.o s d (st.ev x)with
    |some ce=>mj A st.c (.row ce) K
    |none=>match kg G.P st.c s d (st.ev x)with
      |some a=>A.GJ st.c.nl a 1 (mj A {st.c with nl:=st.c.nl+1} (.row [.var st.c.nl]) K)
      |none=>ru A G.P st.c s d (st.ev x) K
  | .field t x f=>j6 A G.P st.c t (st.ev x) f K
  | .fieldAddr s x f=>eW A G.P st.c s (st.ev x) f K
  | .indexAddr t x i=>eX A G.P st.o st.c t (st.ev x) (st.ev i) K
  | .index t x i=>j7 A G.P st.c t (st.ev x) (st.ev i) K
  | .extract x i=>match st.ev x with
    | .cE l=>match l[i]? with
      |some v=>K (.cv v) st.c
      |none => A.fail "extract"
    |_ => A.fail "extract"
  | .build t parts=>j8 A G.P st.c t (parts.toList.map λp=>(p.1,st.ev p.2)) K
  | .slice t x lo hi none=>oF A G.P st.c t (st.ev x) (lo.map st.ev) (hi.map st.ev) K
  | .makeFunc (.func f) first aB=>if first.size=0 then match fg (aB.toList.map st.ev)with
      |some l=>K (.cv (.one (.fn f l))) st.c
      |none => A.fail "makeFunc"
    else match fg (first.toList.map st.ev),fg (aB.toList.map st.ev)with
      |some q,some l=>K (.cv (.one (.gm f q l))) st.c
      |none,some l=>match first.toList.map st.ev with
        | [.cv (.agg cs)]=>match aO.Cy cs with
          |some r=>K (.cv (.one (.qS f r l))) st.c
          |none => A.fail "makeFunc: receiver"
        |_ => A.fail "makeFunc: receiver"
      |_, _ => A.fail "makeFunc"
  | .call {callee := .builtin .len,args,argTypes}=>match args.toList with
    | [x]=>vf A G.P st.o st.c argTypes[0]? (st.ev x) K
    |_ => A.fail "len"
  | .call {callee := .builtin .max,args,..}=>match args.toList with
    | [x,y]=>ka A st.c true (st.ev x) (st.ev y) K
    |_ => A.fail "max"
  | .call {callee := .builtin .min,args,..}=>match args.toList with
    | [x,y]=>ka A st.c false (st.ev x) (st.ev y) K
    |_ => A.fail "min"
  | .call {callee := .invoke r name,args,..}=>match st.ev r with
    | .cv (.one (.val i))=>match fA st.k i with
      |some (t,v)=>match methodOf G.P t name with
        |some f=>kO A G st.m st.o st.c f (.cv v::args.toList.map st.ev) K
        |none => A.fail "invoke: method"
      |none => A.fail "invoke: unknown"
    |_ => A.fail "invoke"
  | .call {callee := .value g,args,..}=>match st.ev g with
    | .cv (.one (.fn f aB))=>kO A G st.m st.o st.c f (args.toList.map st.ev++aB.map λx=>.cv (.one (.loc x.1 x.2))) K
    | .cv (.one (.gm f first aB))=>kO A G st.m st.o st.c f ((first.map λx=>.cv (.one (.loc x.1 x.2)))++(args.toList.map st.ev++aB.map λx=>.cv (.one (.loc x.1 x.2)))) K
    |_ => A.fail "call: value"
  |_ => A.fail "operation"
def rz(A:bI R)(G:bF)(st:St)(t:TypeId)(x:Operand)(K:SV->ar->R):R:=match ke G st.k st.c t (st.ev x)with
 |some (g,cs,ty,v)=>A.ag g cs ty (K (.cv v) st.c)
 |none=>mn A G.P st.m st.o st.c t (st.ev x) K
def nZ(A:bI R)(G:bF)(st:St)(op:BinOp)(t:TypeId)(x y:Operand)(K:SV->ar->R):R:=match kP G.P st.o op t (st.ev x) (st.ev y)with
  |some (ce,sz)=>gF A st.c ce sz λn c1=>bA A (.cmp .gtr n (.lit 0)) (K (.cv (.one (.bool (.lit (decide (op=.neq)))))) c1)
  |none=>match mu G.P st.k op t x y (st.ev x) (st.ev y)with
    |some b=>K (.cv (.one (.bool (.lit b)))) st.c
    |none=>lg A G.P st.c op t (st.ev x) (st.ev y) K
def rA(A:bI R)(G:bF)(st:St)(op:BinOp)(t:TypeId)(x y:Operand)(K:SV->ar->R):R:=match st.ev x with
  | .cv (.one (.int k a))=>match st.ev y with
    | .cv (.one (.int k' b))=>oD A G.P st.c op t k k' a b K
    |_=>nZ A G st op t x y K
  |_=>nZ A G st op t x y K
theorem Ud(A:bI R)(G:bF)(st:St)(op:BinOp)(t:TypeId)(x y:Operand)(K:SV->ar->R):rA A G st op t x y K=nZ A G st op t x y K:=by
 unfold rA;split
 ·rename_i k a hx;split
  ·rename_i k' b hy;rw [Ub];unfold nZ
   have h1:kP G.P st.o op t (st.ev x) (st.ev y)=none:=by
    rw [hx,hy];unfold kP;split
    ·split<;>first|rfl | (rename_i h _;cases h)|simp_all
    ·rfl
   have h2:mu G.P st.k op t x y (st.ev x) (st.ev y)=none:=by
    rw [hx,hy];unfold mu;simp only [jD];split<;>rfl
   rw [h1,h2,hx,hy]
  ·rfl
 ·rfl
def kQ(A:bI R)(st:St)(x:Operand)(i:Nat)(K:SV->ar->R):R:=match st.ev x with
  | .cE l=>match l[i]? with
    |some v=>K (.cv v) st.c
    |none => A.fail "extract"
  |_ => A.fail "extract"
def tO(A:bI R)(G:bF)(st:St)(o:Oper)(K:SV->ar->R):R :=
 match o.op with
 | .move x=>K (st.ev x) st.c
 | .assign x=>K (st.ev x) st.c
 | .load t x=>rz A G st t x K
 | .binOp op t x y _=>nZ A G st op t x y K
 | .unOp op _ x=>vb A st.c op (st.ev x) K
 | .field t x f=>j6 A G.P st.c t (st.ev x) f K
 | .fieldAddr s x f=>eW A G.P st.c s (st.ev x) f K
 | .indexAddr t x i=>eX A G.P st.o st.c t (st.ev x) (st.ev i) K
 | .index t x i=>j7 A G.P st.c t (st.ev x) (st.ev i) K
 | .extract x i=>kQ A st x i K
 |_=>vg A G st o K
theorem PD(A:bI R)(G:bF)(st:St)(o:Oper)(K:SV->ar->R):tO A G st o K=vg A G st o K:=by
 obtain⟨dst,op,type,pos,after,guard⟩:=o;cases op<;>first|rfl | (unfold tO vg rz;rfl) | (unfold tO vg nZ;rfl) | (unfold tO vg kQ;rfl)
end Vc
set_option linter.unusedVariables false
namespace Vc
open Go Go.RowKit
variable {R:Type}
def St.new(A:bI R)(st:St)(dst:Option Tmp)(cs:List At)(t:TypeId)(v:Nat->At)(K:St->R):R :=
  if cs.all (At.wf st.c)=true then
    fH (λcs=>St.put A {st with m:=(st.c.nk,cs,t)::st.m} dst (.cv (.one (v st.c.nk))) {st.c with nk:=st.c.nk+1} K) cs []
  else A.fail "new"
def lE(A:bI R)(G:bF)(st:St)(o:Oper)(K:St->R):R :=
  match o.op with
  | .alloc t=>match cx G.P t with
    |some z=>St.new A st o.dst z.cells t (.loc · 0) K
    |none => A.fail "alloc"
  | .box t x=>match st.ev x with
    | .cv v=>St.new A st o.dst v.cells t (.loc · 0) K
    |_ => A.fail "box"
  | .makeInterface t x=>match G.P.underlying t,st.ev x with
    |some (.interface _), _ => A.fail "makeInterface"
    | some _,.cv v=>if v.flat=true/\v.wf st.c=true then
        A.iO st.c.nv t v (St.put A {st with k := .iO st.c.nv t v::st.k} o.dst (.cv (.one (.val st.c.nv))) {st.c with nv:=st.c.nv+1} K)
      else A.fail "makeInterface: value"
    |_, _ => A.fail "makeInterface"
  | .store t a x=>match aH G.P t,st.ev a,st.ev x with
    |some (_,n),.cv (.one (.loc k off)),.cv v=>match getM st.m k with
      | some (cs,_)=>if v.cells.length=n/\off + n<=cs.length/\v.wf st.c=true then
          St.put A {st with m:=iQ st.m k (cs.take off++v.cells++cs.drop (off+n))} o.dst .any st.c K
        else A.fail "store: size"
      |none => A.fail "store: no such block"
    |_, _, _ => A.fail "store"
  | .buildSlice t len parts=>match G.P.underlying t with
    |some (.slice el)=>match aH G.P el,cx G.P el with
      | some (_,s),some z=>if z.cells.length=s/\0 < s/\0 < len/\len * s<=4096 then
          match cw (λi=>some (i*s,s)) (times z.cells len) (parts.toList.map λp=>(p.1,st.ev p.2))with
          |some cs=>St.new A st o.dst cs el (.ga · 0 len len) K
          |none => A.fail "buildSlice: parts"
        else A.fail "buildSlice: size"
      |_, _ => A.fail "buildSlice"
    |_ => A.fail "buildSlice"
  |_ => vg A G st o λv c => if c.nk = st.c.nk then St.put A st o.dst v c K else A.fail "blocks"
def xH(G:bF)(f:FuncId):Option (List (Nat × List Nat)) :=
 match G.loops.lookup (3000000+f)with
 |some (.inv jj (j::js) _)=>some ((j::js).map λa=>(a,(jj.filter λx=>x.1 == a).map (·.2)))
 |_=>none
def vh:At->Option CK
 | .int k _=>some (.int k)
 | .bool _=>some .bool
 | .str _=>some .str
 | .sv _=>some .str
 |_=>none
def jh(cs:List At):List Nat->Option (List CK)
  | []=>some []
  |i::r=>match (cs[i]?).bind vh,jh cs r with
    |some k,some l=>some (k::l)
    |_,_=>none
def gG:List At->List Nat->List At->List At
 |cs,i::r,a::l=>gG (cs.take i++a::cs.drop (i+1)) r l
 |cs,_,_=>cs
structure vi where
 k:Nat
 cs:List At
 t:TypeId
 jj:List Nat
 ks:List CK
def hZ(m:Mem)(args:List SV):List (Nat × List Nat)->Option (List vi)
  | []=>some []
  | (j,jj)::r=>match args[j]?,hZ m args r with
    |some (.cv (.one (.loc k 0))),some l=>match getM m k with
      |some (cs,t)=>match jh cs jj with
        |some ks=>some (⟨k,cs,t,jj,ks⟩::l)
        |none=>none
      |none=>none
    |_,_=>none
def jE:List vi->List At->List (Nat × List At × TypeId)
 | [],_=>[]
 |e::r,fr=>(e.k,gG e.cs e.jj (fr.take e.ks.length),e.t)::jE r (fr.drop e.ks.length)
def fD:Mem->List (Nat × List At × TypeId)->Mem
 |m,[]=>m
 |m,(k,cs,_)::r=>fD (iQ m k cs) r
def vj(A:bI R)(G:bF)(st:St)(dst:Option Tmp)(f:FuncId)(args:List SV)(jo:List (Nat × List Nat))(K:St->R):R :=
  match G.P.funcs[f]? with
  |none => A.fail "call: no such function"
  |some fn=>match gE G.P fn.resultTypes.toList,hZ st.m args jo with
    |some ss,some bl =>
      let ks:=bQ ss++bl.flatMap (·.ks);let fr:=au st.c ks;let ns:=jE bl (fr.drop (bQ ss).length)
      if args.any iT = true ∨ ¬args.all (SV.wf st.c) = true then A.fail "call: arguments"
      else if (bl.map (·.k)).Nodup then
        if G.calls.contains f=true then
          A.yV f args (dG st.m (cj st.m st.o args)) (dP st.o (cj st.m st.o args)) ns fr (cq (bG ss fr))
            (St.put A {st with m:=fD st.m ns} dst (cq (bG ss fr)) (aP st.c ks) K)
        else A.fail "call: unknown function"
      else A.fail "effect: a block twice"
    |_, _ => A.fail "effect"
def qf(G:bF)(st:St)(o:Oper):Option (FuncId × List SV × List (Nat × List Nat)) :=
  match o.op with
  | .call {callee := .value g,args,..}=>match st.ev g with
    | .cv (.one (.fn f aB))=>match xH G f with
      |some jo=>if (hZ st.m (args.toList.map st.ev++aB.map λx=>.cv (.one (.loc x.1 x.2))) jo).isSome=true then some (f,args.toList.map st.ev++aB.map λx=>.cv (.one (.loc x.1 x.2)),jo)else none
      |none=>none
    |_=>none
  |_=>none
def dw:ba->Nat->CE->ba
 | [],_,_=>[]
 | (j,v)::r,i,ce=>if j=i then (j,ce,v.2)::r else (j,v)::dw r i ce
def rB(G:bF)(f:FuncId):Option Nat :=
 match G.loops.lookup (600000000000000000+f)with
 |some (.inv _ (j::_) _)=>some j
 |_=>none
def rC(A:bI R)(G:bF)(st:St)(dst:Option Tmp)(f:FuncId)(args:List SV)(j:Nat)(K:St->R):R :=
  match G.P.funcs[f]? with
  |none => A.fail "call: no such function"
  |some fn=>match gE G.P fn.resultTypes.toList,args[j]? with
    |some ss,some (.cv (.one (.own k)))=>match aG st.o k with
      |some (_,sz,t) =>
        let c1:ar := {st.c with nl:=st.c.nl+1};let fr:=au c1 (bQ ss)
        if args.any iT = true ∨ ¬args.all (SV.wf st.c) = true then A.fail "call: arguments"
        else if G.calls.contains f=true then
          A.yW f args (dG st.m (cj st.m st.o args)) (dP st.o (cj st.m st.o args)) k st.c.nl sz t fr (cq (bG ss fr))
            (St.put A {st with o:=dw st.o k [.var st.c.nl]} dst (cq (bG ss fr)) (aP c1 (bQ ss)) K)
        else A.fail "call: unknown function"
      |none => A.fail "effect: no such row"
    |_, _ => A.fail "effect"
def mw(G:bF)(st:St)(o:Oper):Option (FuncId × List SV × Nat) :=
  match o.op with
  | .call {callee := .value g,args,..}=>match st.ev g with
    | .cv (.one (.fn f aB))=>match rB G f with
      |some j=>match (args.toList.map st.ev++aB.map λx=>SV.cv (.one (.loc x.1 x.2)))[j]? with
        |some (.cv (.one (.own _)))=>some (f,args.toList.map st.ev++aB.map λx=>.cv (.one (.loc x.1 x.2)),j)
        |_=>none
      |none=>none
    |_=>none
  |_=>none
def nc(A:bI R)(G:bF)(st:St)(o:Oper)(K:St->R):R :=
  match qf G st o with
  |some (f,args,jo)=>vj A G st o.dst f args jo K
  |none=>match mw G st o with
    |some (f,args,j)=>rC A G st o.dst f args j K
    |none=>lE A G st o K
def oG(A:bI R)(G:bF)(st:St)(dst:Option Tmp)(t:TypeId)(K:St->R):R:=match cx G.P t with
  |some z=>St.new A st dst z.cells t (.loc · 0) K
  |none => A.fail "alloc"
def vk(A:bI R)(st:St)(dst:Option Tmp)(t:TypeId)(x:Operand)(K:St->R):R:=match st.ev x with
  | .cv v=>St.new A st dst v.cells t (.loc · 0) K
  |_ => A.fail "box"
def sD(A:bI R)(G:bF)(st:St)(dst:Option Tmp)(t:TypeId)(a x:Operand)(K:St->R):R:=match aH G.P t,st.ev a,st.ev x with
  |some (_,n),.cv (.one (.loc k off)),.cv v=>match getM st.m k with
    | some (cs,_)=>if v.cells.length=n/\off + n<=cs.length/\v.wf st.c=true then
        fH (λl=>St.put A {st with m:=iQ st.m k l} dst .any st.c K) (cs.take off++v.cells++cs.drop (off+n)) []
      else A.fail "store: size"
    |none => A.fail "store: no such block"
  |_, _, _ => A.fail "store"
def my(A:bI R)(G:bF)(st:St)(o:Oper)(K:St->R):R :=
  match o.op with
  | .alloc t=>oG A G st o.dst t K
  | .box t x=>vk A st o.dst t x K
  | .makeInterface .. => lE A G st o K
  | .store t a x=>sD A G st o.dst t a x K
  | .buildSlice .. => lE A G st o K
  |_ => tO A G st o λv c => if c.nk = st.c.nk then St.put A st o.dst v c K else A.fail "blocks"
theorem PE(A:bI R)(G:bF)(st:St)(o:Oper)(K:St->R):my A G st o K=lE A G st o K:=by
 obtain⟨dst,op,type,pos,after,guard⟩:=o;cases op<;>first|rfl | (unfold my lE;simp only [PD];done) | (unfold my lE oG;rfl) | (unfold my lE vk;rfl) | (unfold my lE sD;simp only [GM];done)
theorem PF(A:bI R)(G:bF)(st:St)(o:Oper)(K:St->R)(h:∀c,o.op ≠ .call c):nc A G st o K=lE A G st o K:=by
 obtain⟨dst,op,type,pos,after,guard⟩:=o;cases op
 case call c=>exact absurd rfl (h c)
 all_goals rfl
def St.gP(A:bI R)(st:St)(dst:Option Tmp)(h_:List Nat)(ce:CE)(sz:Nat)(el:TypeId)(c:ar)(K:St->R)(md:Nat:=0):R :=
  if bW c ce=true then
    St.put A {st with o:=(c.nk,ce,sz,el)::bL st.o h_} dst (.cv (.one (rowAt md c.nk))) {c with nk:=c.nk+4} K
  else A.fail "row"
def rowOf(o:ba)(sz:Nat)(el:TypeId):SV->Option (CE × List Nat)
  | .cv (.one .cS)=>some ([],[])
  | .cv (.one (.own k))=>match aG o k with
    |some (ce,s,t)=>if s=sz/\t=el then some (ce,[k])else none
    |none=>none
  |_=>none
def vm(A:bI R)(st:St)(sz:Nat)(h_:List Nat)(y:SV)(K:CE->ar->R):R :=
  match y with
  | .cv (.one .cS)=>K [] st.c
  | .cv (.one (.ga k off len _))=>match getM st.m k with
    |some (cs, _) => if off+len*sz <= cs.length then K [.bT ((cs.drop off).take (len*sz))] st.c else A.fail "append: beyond"
    |none => A.fail "append: no such block"
  | .cv (.one (.own k))=>match aG st.o k with
    |some (ce, s, _) => if s = sz /\ h_.contains k = false then K ce st.c else A.fail "append: a row to itself"
    |none => A.fail "append: no such row"
  | .cv (.one x)=>match x with
    | .me _ _ s _ _ | .fG _ _ s _ _ => if s = sz /\ x.wf st.c = true then A.GJ st.c.nl x sz (K [.var st.c.nl] { st.c with nl := st.c.nl+1 }) else A.fail "append: a part"
    |_ => A.fail "append: what"
  |_ => A.fail "append: what"
def fj:Int:=1073741824
def yZ(A:bI R)(G:bF)(st:St)(o:Oper)(K:St->R):R :=
  match o.op with
  | .call {callee := .builtin .append,args,argTypes}=>match args.toList,argTypes.toList with
    | [x,y],[t,t']=>match G.P.underlying t with
      |some (.slice el)=>match G.P.info? el,cx G.P el with
        |some i,some z =>
          if t'=t/\0<i.size/\z.cells.length=i.size/\i.bytes<=131072 then
            match rowOf st.o i.size el (st.ev x)with
            | some (ce,h_)=>vm A st i.size h_ (st.ev y) fun add c1 =>
                gF A c1 (cF ce add) i.size λn c2=>bA A (.cmp .leq n (.lit fj)) (St.gP A st o.dst h_ (cF ce add) i.size el c2 K)
            |none => A.fail "append: to what"
          else A.fail "append: type"
        |_, _ => A.fail "append: element"
      |_ => A.fail "append: slice"
    |_, _ => A.fail "append: arguments"
  |_ => A.fail "append"
def aO.ids:aO->List Nat
 | .ga k _ _ _=>[k]
 | .own k=>[k,k+1,k+2,k+3]
 |_=>[]
def aF:List At->List Nat
 | []=>[]
 | .loc k _::r | .ga k _ _ _::r=>k::aF r
 | .own k::r | .omap k::r | .pY k::r=>k::(k+1)::(k+2)::(k+3)::aF r
 | .fe k _ _ _::r | .rq k::r=>k::aF r
 | .fn _ aB::r=>aB.map (·.1)++aF r
 | .gm _ first aB::r=>first.map (·.1)++aB.map (·.1)++aF r
 | .qS _ first aB::r=>first.flatMap aO.ids++aB.map (·.1)++aF r
 |_::r=>aF r
def lT(G:bF)(dst:Option Tmp):Option TypeId :=
  match dst with
  |some d=>match G.loops.lookup (900000000+d)with
    |some (.inv _ [el] _)=>some el
    |_=>none
  |none=>none
def kp(A:bI R)(G:bF)(st:St)(dst:Option Tmp)(t:TypeId)(m k v:SV)(K:St->R):R :=
  match eU G.P t,m,k,v with
  |some x,.cv (.one (.omap j)),.cv kv,.cv vv=>match aG st.o j with
    |some (ce,sz,tc)=>match dK ce with
      | some cs=>if mh x.gk x.ks.length kv=true/\mh x.ge x.ne vv=true/\tc=x.no/\sz=0 then
          jZ A st.c x kv.cells
            (λi _=>St.put A {st with o:=dw st.o j [.bT (cs.take (i*(x.ks.length+x.ne)+x.ks.length)++vv.cells++cs.drop (i*(x.ks.length+x.ne)+x.ks.length+x.ne))]} dst .any st.c K)
            (λ_=>St.put A {st with o:=dw st.o j [.bT (cs++(kv.cells++vv.cells))]} dst .any st.c K) (cs.length+1) cs 0
        else A.fail "map: entry"
      | none=>if mh x.gk x.ks.length kv=true/\mh x.ge x.ne vv=true/\tc=x.no/\sz=0/\vv.flat=true/\vv.wf st.c=true then
          oB A st.c x ce kv.cells λi c1=>ff A (.cmp .geq i (.lit 0))
            (λ_=>A.tK c1.nl (.set ce i (x.ks.length+x.ne) x.ks.length vv.cells) (St.put A {st with o:=dw st.o j [.var c1.nl]} dst .any {c1 with nl:=c1.nl+1} K))
            (λ_=>St.put A {st with o:=dw st.o j (cF ce [.bT (kv.cells++vv.cells)])} dst .any c1 K)
        else A.fail "map: entry"
    |none => A.fail "map: no such"
  |_, _, _, _ => A.fail "mapUpdate"
def nf(A:bI R)(G:bF)(st:St)(o:Oper)(K:St->R):R :=
  match o.op with
  | .makeSlice t l cp=>match G.P.underlying t with
    |some (.slice el)=>match G.P.info? el,cx G.P el with
      |some i,some z =>
        if 0<i.size/\z.cells.length=i.size/\i.bytes<=131072/\z.cells.all At.flat=true/\z.wf st.c=true then
          match st.ev l,st.ev cp with
          | .cv (.one (.int _ e)),.cv (.one (.int _ e2)) =>
            if e=.lit 0 then
              bA A (.cmp .geq e2 (.lit 0)) (bA A (.cmp .leq e2 (.lit fj)) (St.gP A st o.dst [] [] i.size el st.c K))
            else if e=e2 then
              bA A (.cmp .geq e (.lit 0)) (bA A (.cmp .leq e (.lit fj)) (match e with
                | .lit n=>St.gP A st o.dst [] [.bT (times z.cells n.toNat)] i.size el st.c K
                |e => if e.wf st.c = true then A.tK st.c.nl (.rep e z.cells) (St.gP A st o.dst [] [.var st.c.nl] i.size el { st.c with nl := st.c.nl+1 } K) else A.fail "makeSlice: length"))
            else A.fail "makeSlice: capacity"
          |_, _ => A.fail "makeSlice: lengths"
        else A.fail "makeSlice: type"
      |_, _ => A.fail "makeSlice: element"
    |_ => A.fail "makeSlice"
  | .buildSlice t len parts=>match G.P.underlying t with
    |some (.slice el)=>match G.P.info? el with
      |some i=>if len=0/\parts.toList.length=0/\0<i.size then St.gP A st o.dst [] [] i.size el st.c K else match aH G.P el,cx G.P el with
        | some (_,s),some z=>if z.cells.length=s/\0 < s/\0 < len/\len * s<=4096 then
            match cw (λi=>some (i*s,s)) (times z.cells len) (parts.toList.map λp=>(p.1,st.ev p.2))with
            |some cs => if cs.length = len*s /\ aF cs = [] then St.gP A st o.dst [] [.bT cs] s el st.c K else A.fail "buildSlice: row"
            |none => A.fail "buildSlice: parts"
          else A.fail "buildSlice: size"
        |_, _ => A.fail "buildSlice: row"
      |none => A.fail "buildSlice: row"
    |_ => A.fail "buildSlice: row"
  | .slice t x lo (some hi) (some mx)=>match G.P.underlying t,st.ev hi,st.ev mx,cL (.lit 0) (lo.map st.ev)with
    |some (.slice el),.cv (.one (.int _ (.lit 0))),.cv (.one (.int _ (.lit 0))),some (.lit 0)=>match G.P.info? el,st.ev x with
      |some i,.cv (.one (.me ..))|some i,.cv (.one (.own ..))|some i,.cv (.one .cS) =>
        if 0<i.size then St.gP A st o.dst [] [] i.size el st.c K else A.fail "slice: row"
      |_, _ => A.fail "slice: row"
    |_, _, _, _ => A.fail "slice: row"
  | .store t a x=>match aH G.P t,st.ev a,st.ev x with
    |some (_,n),.cv (.one (.fe k ix sz off)),.cv v=>match aG st.o k with
      |some (ce,s,_) =>
        if s=sz/\v.cells.length=n/\off+n<=sz/\0<sz/\v.wf st.c=true/\ix.wf st.c=true/\bW st.c ce=true then
          gF A st.c ce sz λm c1=>bA A (.cmp .geq ix (.lit 0)) (bA A (.cmp .lss ix m) (
            match gv ce ix sz off with
            |some (cs,p)=>St.put A {st with o:=dw st.o k [.bT (cs.take p++v.cells++cs.drop (p+n))]} o.dst .any c1 K
            | none=>if fR ce=true/\v.flat=true then
                A.tK c1.nl (.set ce ix sz off v.cells) (St.put A {st with o:=dw st.o k [.var c1.nl]} o.dst .any {c1 with nl:=c1.nl+1} K)
              else A.fail "store: row"))
        else A.fail "store: row"
      |none => A.fail "store: no such row"
    |_, _, _ => A.fail "store: row"
  | .convert s d x=>match fU G.P s d,st.ev x with
    |some _,.cv (.one (.str l))=>St.gP A st o.dst [] [.bT (mv l)] 0 0 st.c K 2
    |some _,.cv (.one (.sv i))=>A.tK st.c.nl (.pY i) (St.gP A st o.dst [] [.var st.c.nl] 0 0 {st.c with nl:=st.c.nl+1} K 2)
    |_, _ => A.fail "convert: bytes"
  | .makeMap t none=>match eU G.P t with
    |some x=>St.gP A st o.dst [] [] 0 x.no st.c K 1
    |none => A.fail "makeMap"
  | .mapUpdate t m k v=>kp A G st o.dst t (st.ev m) (st.ev k) (st.ev v) K
  | .insert t m k v=>kp A G st o.dst t (st.ev m) (st.ev k) (st.ev v) K
  | .assign x=>match st.ev x,lT G o.dst with
    | .cv (.one .cS),some el=>match G.P.info? el with
      |some i => if 0<i.size then St.gP A st o.dst [] [] i.size el st.c K else A.fail "assign: row"
      |none => A.fail "assign: row"
    |_, _ => A.fail "assign: row"
  |_ => A.fail "row: operation"
def St.cQ(st:St)(d:Nat)(b:Bool):St := {st with t:=(d,.cv (.one (.bool (.lit b))))::st.t}
abbrev xI(R:Type):=FuncId->List SV->St->(SV->St->R)->R
abbrev Yl(R:Type):=Nat->List SV->St->(SV->St->R)->R
def cV(x:Nat × Nat):SV := .cv (.one (.loc x.1 x.2))
def sE(G:bF)(t:TypeId)(dst:Option Tmp):Bool :=
 match dst with
 |some d=>(G.loops.lookup (1000000+t*10000+d)).isSome
 |none=>false
def sF(G:bF)(f:FuncId):Option (TypeId × List Nat) :=
 match G.loops.lookup (800000000000000000+f)with
 |some (.inv _ (t::js) _)=>some (t,js)
 |_=>none
def rD(args:List SV):List Nat->Option (List Nat)
  | []=>some []
  |j::r=>match args[j]?,rD args r with
    |some (.cv (.one (.loc k _))),some l=>some (k::l)
    |_,_=>none
def sG(m:Mem)(ks:List Nat):Mem:=m.filter λx => !ks.contains x.1
def vn(A:bI R)(G:bF)(KP:Nat->St->R)(st:St)(f:FuncId)(args:List SV)(t:TypeId)(js:List Nat):R :=
  match aH G.P t,u_ G.P 30 t,rD args js with
  |some (g,_),some ks,some bs =>
    if args.any iT = true ∨ ¬args.all (SV.wf st.c) = true then A.fail "panics: arguments"
    else if ks.all CK.plain=true/\G.calls.contains f=true/\bs.Nodup/\bs.all (λb=>(getM st.m b).isSome)=true then
      let fr:=au st.c ks;let c1:=aP st.c ks
      A.yX f args (dG st.m (cj st.m st.o args)) (dP st.o (cj st.m st.o args)) bs fr t (dO g fr) c1.nv
        (KP c1.nv {st with m:=sG st.m bs,c := {c1 with nv:=c1.nv+1},k := .iO c1.nv t (dO g fr)::st.k})
    else A.fail "panics"
  |_, _, _ => A.fail "panics: type"
def PG(A:bI R)(G:bF)(KP:Nat->St->R)(st:St)(o:Oper)(f:FuncId)(args:List SV)(K:St->R):R :=
 match sF G f with
 |none=>nc A G st o K
 |some (t,js)=>A.alt (nc A G st o K) (vn A G KP st f args t js)
def vo(G:bF)(f:FuncId):Bool:=(G.loops.lookup (400000000000000000+f)).isSome
def rE(A:bI R)(G:bF)(st:St)(dst:Option Tmp)(f:FuncId)(args:List SV)(K:St->R):R :=
  match args with
  | [.cv (.one (.own k)),.cv (.one (.int _ (.lit 0))),.cv (.one (.ga k2 off n _))]=>match aG st.o k,getM st.m k2 with
    |some (ce,sz,t),some (cs,_) =>
      if 0<sz/\off+n*sz<=cs.length/\args.all (SV.wf st.c)=true/\G.calls.contains f=true then
        A.nR f args (dG st.m (cj st.m st.o args)) (dP st.o (cj st.m st.o args)) k (cF [.bT ((cs.drop off).take (n*sz))] ce) sz t
          (St.gP A st dst [k] (cF [.bT ((cs.drop off).take (n*sz))] ce) sz t st.c K)
      else A.fail "give"
    |_, _ => A.fail "give: no such row"
  |_ => A.fail "give: arguments"
def qg(G:bF)(f:FuncId):Option TypeId :=
 match G.loops.lookup (410000000000000000+f)with
 |some (.inv _ [el] _)=>some el
 |_=>none
def rF(A:bI R)(G:bF)(st:St)(dst:Option Tmp)(f:FuncId)(args:List SV)(el:TypeId)(K:St->R):R :=
  match args,G.P.info? el with
  | [.cv (.one .cS),.cv (.one (.int ik e))],some i =>
    if 0<i.size /\ [SV.cv (.one .cS),.cv (.one (.int ik e))].all (SV.wf st.c)=true/\G.calls.contains f=true then
      A.nR f [.cv (.one .cS),.cv (.one (.int ik e))] [] [] st.c.nk [] i.size el (St.gP A st dst [] [] i.size el st.c K)
    else A.fail "grow"
  |_, _ => A.fail "grow: arguments"
def qh(A:bI R)(G:bF)(inl:xI R)(yl:Yl R)(qT:Bool)(KP:Nat->St->R)(st:St)(o:Oper)(K:St->R):R :=
  match o.op with
  | .panic x=>match st.ev x with
    | .cv (.one (.val i)) => if (fA st.k i).isSome = true then KP i st else A.fail "panic: unknown"
    |_ => A.fail "panic"
  | .defer c=>match c.callee,c.args.toList,o.dst,qT with
    | .value g,[],none,true=>match st.ev g with
      | .cv (.one (.fn f aB)) => if st.d = [] then K { st with df := (f, aB) :: st.df } else A.fail "defer: function"
      |_ => A.fail "defer: value"
    |_, _, _, _ => A.fail "defer"
  | .call {callee := .invoke r name,args,..}=>match st.ev r with
    | .cv (.one (.val i))=>match fA st.k i with
      |some (t,v)=>match methodOf G.P t name with
        | some f=>if G.inl.contains f=true then
            if (args.toList.map st.ev).any iT = true then A.fail "inline: arguments"
            else inl f (.cv v::args.toList.map st.ev) st λv s=>St.put A s o.dst v s.c K
          else nc A G st o K
        |none => A.fail "invoke: method"
      |none => A.fail "invoke: unknown"
    |_ => A.fail "invoke"
  | .call {callee := .value g,args,..}=>match st.ev g with
    | .cv (.one (.fn f aB)) =>
      if (qg G f).isSome=true/\aB=[]then rF A G st o.dst f (args.toList.map st.ev) ((qg G f).getD 0) K else
      if vo G f=true/\aB=[]then rE A G st o.dst f (args.toList.map st.ev) K else
      if G.inl.contains f=true then
        if (args.toList.map st.ev).any iT = true then A.fail "inline: arguments"
        else inl f (args.toList.map st.ev++aB.map cV) st λv s=>St.put A s o.dst v s.c K
      else PG A G KP st o f (args.toList.map st.ev++aB.map cV) K
    | .cv (.one (.gm f first aB)) =>
      if G.inl.contains f=true then
        if (args.toList.map st.ev).any iT = true then A.fail "inline: arguments"
        else inl f (first.map cV++(args.toList.map st.ev++aB.map cV)) st λv s=>St.put A s o.dst v s.c K
      else nc A G st o K
    | .cv (.one (.qS f first aB)) =>
      if G.inl.contains f=true then
        if (args.toList.map st.ev).any iT = true then A.fail "inline: arguments"
        else inl f (.cv (.agg (first.map aO.at))::(args.toList.map st.ev++aB.map cV)) st λv s=>St.put A s o.dst v s.c K
      else A.fail "call: method value"
    | .cv (.one (.rq k)) =>
      if (args.toList.map st.ev).any iT = true then A.fail "yield: arguments"
      else yl k (args.toList.map st.ev) st λv s=>St.put A s o.dst v s.c K
    |_ => A.fail "call: value"
  | .call {callee := .builtin .append,..}=>yZ A G st o K
  | .makeSlice .. => nf A G st o K
  | .makeMap .. => nf A G st o K
  | .convert s d _=>if (fU G.P s d).isSome=true then nf A G st o K else nc A G st o K
  | .mapUpdate .. => nf A G st o K
  | .insert .. => nf A G st o K
  | .assign x=>if (lT G o.dst).isSome=true/\st.ev x=.cv (.one .cS)then nf A G st o K else nc A G st o K
  | .buildSlice t len _=>if len=0∨sE G t o.dst=true then nf A G st o K else nc A G st o K
  | .slice _ _ _ _ (some _)=>nf A G st o K
  | .store _ a _=>match st.ev a with
    | .cv (.one (.fe ..))=>nf A G st o K
    |_=>nc A G st o K
  |_=>nc A G st o K
def lF(A:bI R)(st:St)(dst:Option Tmp)(K:St->R)(v:SV)(c:ar):R:=match Nat.beq c.nk st.c.nk with
  |true=>St.put A st dst v c K
  |false => A.fail "blocks"
theorem IF (A : bI R) (st : St) (dst : Option Tmp) (K : St -> R) : lF A st dst K = λv c => if c.nk = st.c.nk then St.put A st dst v c K else A.fail "blocks" := by
  funext v c;unfold lF;cases h:Nat.beq c.nk st.c.nk with
  |true=>rw [if_pos (Nat.eq_of_beq_eq_true h)]
  |false=>rw [if_neg (Nat.ne_of_beq_eq_false h)]
def nK(K:St->R):St->R:=λs=>s.norm K
theorem IG(K:St->R):nK K=K:=by funext s;exact St.norm_eq s K
def qi(A:bI R)(G:bF)(st:St)(o:Oper)(x:Operand)(K:St->R):R:=if (lT G o.dst).isSome=true/\st.ev x=.cv (.one .cS)then nf A G st o K else lF A st o.dst K (st.ev x) st.c
def mz(A:bI R)(G:bF)(inl:xI R)(yl:Yl R)(qT:Bool)(KP:Nat->St->R)(st:St)(o:Oper)(K:St->R):R :=
 match o.op with
 | .move x=>lF A st o.dst K (st.ev x) st.c
 | .assign x=>qi A G st o x K
 | .alloc t=>oG A G st o.dst t (nK K)
 | .box t x=>vk A st o.dst t x (nK K)
 | .load t x=>rz A G st t x (lF A st o.dst K)
 | .binOp op t x y _=>rA A G st op t x y (lF A st o.dst K)
 | .unOp op _ x=>vb A st.c op (st.ev x) (lF A st o.dst K)
 | .field t x f=>j6 A G.P st.c t (st.ev x) f (lF A st o.dst K)
 | .fieldAddr s x f=>eW A G.P st.c s (st.ev x) f (lF A st o.dst K)
 | .indexAddr t x i=>eX A G.P st.o st.c t (st.ev x) (st.ev i) (lF A st o.dst K)
 | .index t x i=>j7 A G.P st.c t (st.ev x) (st.ev i) (lF A st o.dst K)
 | .extract x i=>kQ A st x i (lF A st o.dst K)
 |_=>qh A G inl yl qT KP st o (nK K)
theorem II(A:bI R)(G:bF)(inl:xI R)(yl:Yl R)(qT:Bool)(KP:Nat->St->R):mz A G inl yl qT KP=qh A G inl yl qT KP:=by
 funext st o K;obtain⟨dst,op,type,pos,after,guard⟩:=o
 cases op<;>unfold mz<;>(try unfold qi)<;>(try dsimp only)<;>(try rw [IG])<;>(try rw [Ud])<;>(try rw [IF])<;>first
  |rfl
  | (show my A G st _ K=nc A G st _ K;rw [PE,PF];intro c h;cases h)
  | (unfold qh;dsimp only [];split;rfl;(show my A G st _ K=nc A G st _ K;rw [PE,PF];intro c h;cases h))
def y7(A:bI R)(step:St->Oper->(St->R)->R)(ops:Array Oper)(st:St)(o:Oper)(j:Nat)(want:Bool)(K:St->R):R :=
  match (ops[j]?).bind (·.dst)with
  |none => A.fail "guard"
  | some d=>if d < st.n then match av st.t d with
      | .cv (.one (.bool e)) =>
        ff A e
          (λ_=>if want=true then (st.cQ d true).norm λst=>step st o K else (st.cQ d true).norm λst=>St.put A st o.dst .dF st.c K)
          (λ_=>if want=true then (st.cQ d false).norm λst=>St.put A st o.dst .dF st.c K else (st.cQ d false).norm λst=>step st o K)
      | .dF=>St.put A st o.dst .dF st.c K
      |_ => A.fail "guard: unknown"
    else A.fail "guard: slot"
def kq(A:bI R)(step:St->Oper->(St->R)->R)(ops:Array Oper):List Oper->St->(St->R)->R
  | [],st,K=>K st
  |o::r,st,K =>
    match o.guard with
    |none=>step st o λs=>kq A step ops r s K
    |some (j,want)=>y7 A step ops st o j want λs=>kq A step ops r s K
structure DS where
 rd:List (Nat × Nat)
 wr:List (Nat × Nat)
 al:List (Nat × Nat)
def az:List At->List Nat
 | []=>[]
 | .loc k _::r | .ga k _ _ _::r=>k::az r
 | .own k::r | .fe k _ _ _::r | .omap k::r | .pY k::r=>k::az r
 |_::r=>az r
def aU(st:St)(o:Oper):List Nat :=
  match o.op with
  | .load _ x=>az (aM (st.ev x))
  | .lookup _ x _ _=>az (aM (st.ev x))
  | .indexAddr _ x _=>az (aM (st.ev x))
  | .convert _ _ x=>az (aM (st.ev x))
  | .binOp _ _ x _ _=>match st.ev x with
    | .cv (.one (.own k))=>[k]
    |_=>[]
  | .call {callee := .value g,args,..}=>match st.ev g with
    | .cv (.one (.fn _ aB))=>az (cj st.m st.o (args.toList.map st.ev++aB.map λx=>.cv (.one (.loc x.1 x.2))))
    | .cv (.one (.gm _ first aB))=>az (cj st.m st.o ((first.map λx=>.cv (.one (.loc x.1 x.2)))++(args.toList.map st.ev++aB.map λx=>.cv (.one (.loc x.1 x.2)))))
    |_=>az ((args.toList.map st.ev).flatMap aM)
  | .call {callee := .invoke r _,args,..}=>match st.ev r with
    | .cv (.one (.val i))=>match fA st.k i with
      |some (_,v)=>az (cj st.m st.o (.cv v::args.toList.map st.ev))
      |none=>[]
    |_=>[]
  | .call {callee := .builtin _,args,..}=>az ((args.toList.map st.ev).flatMap aM)
  |_=>[]
def dZ:List SV->List Nat
 | []=>[]
 | .cv (.one (.loc k 0))::r=>k::dZ r
 | .cv (.one (.own k))::r=>k::dZ r
 |_::r=>dZ r
def aQ(st:St)(o:Oper):List Nat :=
  match o.op with
  | .call {callee := .value g,args,..}=>match st.ev g with
    | .cv (.one (.fn _ aB))=>dZ (args.toList.map st.ev++aB.map λx=>.cv (.one (.loc x.1 x.2)))
    |_=>dZ (args.toList.map st.ev)
  | .store _ x _=>az (aM (st.ev x))
  | .mapUpdate _ x _ _ | .insert _ x _ _=>az (aM (st.ev x))
  | .call {callee := .builtin .append,args,..}=>match args.toList with
    |x::_=>az (aM (st.ev x))
    | []=>[]
  |_=>[]
def direct(ops:Array Oper)(i j:Nat):Bool :=
 match ops[i]? with
 |some o=>o.after.any λe=>Region.binds .any e && decide (e.on=j)
 |none=>false
def reach(ops:Array Oper):Nat->Nat->Nat->Bool
  |0,_,_=>false
  |d+1,i,j=>direct ops i j || match ops[i]? with
    |some o=>o.after.any λe=>Region.binds .any e && reach ops d e.on j
    |none=>false
def d_:SV->List Nat
 | .cv c=>aF c.cells
 | .cE l=>aF (l.flatMap CV.cells)
 |_=>[]
def dH(ops:Array Oper):Bool :=
  (List.range ops.size).all λi=>match ops[i]? with
    |none=>false
    |some o=>(o.after.all λe => !Region.binds .any e || decide (e.on<i)) && (List.range ops.size).all λj=>match ops[j]? with
      |none=>false
      |some p =>
        match p.dst with
          |none=>true
          |some d=>decide (i=j∨o.dst≠some d) && (!(o.looksAt ops).contains d || (decide (j<i) && direct ops i j) || (decide (i<j) && direct ops j i))
def DS.eI(d:DS)(ops:Array Oper)(i k:Nat):Bool :=
 match d.al.lookup k with
 |none=>true
 |some j=>reach ops 3 i j
def cN(st:St)(o:Oper):List Nat :=
 match o.op with
 | .store _ _ x=>d_ (st.ev x)
 | .box _ x=>d_ (st.ev x)
 | .mapUpdate _ _ k v | .insert _ _ k v=>d_ (st.ev k)++d_ (st.ev v)
 | .buildSlice _ _ parts=>parts.toList.flatMap λp=>d_ (st.ev p.2)
 |_=>[]
def IJ(ops:Array Oper)(i:Nat)(d:DS)(o:Oper)(s:St):Bool :=
 match o.dst with
  |none=>true
  |some x=>(d_ (av s.t x)).all (d.eI ops i)
def cT(ops:Array Oper)(i:Nat):List Nat :=
 match ops[i]? with
 |some o=>(o.after.toList.filter (Region.binds .any ·)).map (·.on)
 |none=>[]
def ia(acc:List Nat):List Nat->List Nat
 | []=>acc
 |x::r=>ia (if acc.contains x=true then acc else x::acc) r
def behind(ops:Array Oper):Nat->List Nat->List Nat
 |0,acc=>acc
 |d+1,acc=>behind ops d (ia acc (acc.flatMap (cT ops)))
def CA(ops:Array Oper)(i j:Nat):Bool:=(behind ops 10 (ia [] (cT ops i))).contains j
def oH(ops:Array Oper)(i j:Nat):Bool:=direct ops i j || CA ops i j
def xJ(ops:Array Oper)(x y:Nat × Nat):Bool :=
 decide (x.1≠y.1) || decide (x.2=y.2) || (decide (y.2<x.2) && oH ops x.2 y.2) || (decide (x.2<y.2) && oH ops y.2 x.2)
def rG(ops:Array Oper)(rd wr:List (Nat × Nat)):Bool :=
 (rd.all λx=>wr.all λy=>xJ ops x y) && wr.all λx=>wr.all λy=>xJ ops x y
def gH(a b i:Nat):List (Nat × Nat):=(List.range (b-a)).map λj=>(a+j,i)
def n7(al:List (Nat × Nat))(o:ba):Bool:=o.all λx=>[1,2,3].all λd=>decide (al.lookup (x.1+d)=al.lookup x.1)
def IK(A:bI R)(G:bF)(st:St)(o:Oper)(K:St->R):R :=
  match o.op with
  | .call {callee := .builtin .append,..}=>yZ A G st o K
  | .buildSlice t len _=>if len=0∨sE G t o.dst=true then nf A G st o K else nc A G st o K
  | .store _ a _=>match st.ev a with
    | .cv (.one (.fe ..))=>nf A G st o K
    |_=>nc A G st o K
  | .makeMap .. => nf A G st o K
  | .mapUpdate .. => nf A G st o K
  | .insert .. => nf A G st o K
  | .convert s d _=>if (fU G.P s d).isSome=true then nf A G st o K else nc A G st o K
  |_=>nc A G st o K
def qj(A:bI R)(G:bF)(ops:Array Oper)(i:Nat)(d:DS)(st:St)(o:Oper)(K:DS->St->R):R :=
  if (aU st o++aQ st o++cN st o).all (d.eI ops i)=true then
    IK A G st o λs =>
      if (IJ ops i d o s && n7 (gH st.c.nk s.c.nk i++d.al) s.o)=true then
        K {rd:=(aU st o).map (·,i)++d.rd,wr:=(aQ st o).map (·,i)++d.wr,al:=gH st.c.nk s.c.nk i++d.al} s
      else A.fail "drawn: blocks"
  else A.fail "drawn: order"
def gQ(A:bI R)(G:bF)(ops:Array Oper):Nat->List Oper->DS->St->(St->R)->R
  |_, [], d, st, K => if rG ops d.rd d.wr = true then K st else A.fail "drawn: read and written"
  |i,o::r,d,st,K =>
    match o.guard with
    |none=>qj A G ops i d st o λd' s=>gQ A G ops (i+1) r d' s K
    |some (j,want)=>match (ops[j]?).bind (·.dst)with
      |none => A.fail "guard"
      | some x=>if x < st.n then match av st.t x with
          | .cv (.one (.bool e)) =>
            ff A e
              (λ_=>if want=true then qj A G ops i d (st.cQ x true) o λd' s=>gQ A G ops (i+1) r d' s K else St.put A (st.cQ x true) o.dst .dF st.c λs=>gQ A G ops (i+1) r d s K)
              (λ_=>if want=true then St.put A (st.cQ x false) o.dst .dF st.c λs=>gQ A G ops (i+1) r d s K else qj A G ops i d (st.cQ x false) o λd' s=>gQ A G ops (i+1) r d' s K)
          | .dF=>St.put A st o.dst .dF st.c λs=>gQ A G ops (i+1) r d s K
          |_ => A.fail "guard: unknown"
        else A.fail "guard: slot"
def mA(ops:Array Oper):Nat->Nat
 |0=>0
 |n+1=>if (List.range n).all (λj=>(behind ops 10 (ia [] (cT ops n))).contains j)=true then mA ops n else n+1
def mB(P:Program)(o:Oper):Bool :=
 match o.op with
 | .call {callee := .builtin .len,..}=>false
 | .call {callee := .builtin .min,..}=>false
 | .call {callee := .builtin .max,..}=>false
 | .call _=>true
 | .convert s d _=>(fU P s d).isSome
 | .move _ | .assign _ | .pick .. | .load .. | .nilCheck _ | .binOp .. | .unOp .. | .field .. | .fieldAddr .. | .indexAddr .. | .index .. | .extract .. | .build .. | .typeAssert .. | .lookup .. | .makeFunc .. | .makeInterface .. => false
 | .slice _ _ _ _ m=>m.isSome
 |_=>true
def sH(ops:Array Oper):Nat->List Nat->List Nat
 |0,acc=>acc
 |j+1,acc=>sH ops j (if acc.contains j=true then ia acc (cT ops j)else acc)
def before(ops:Array Oper)(i:Nat):List Nat:=sH ops i (ia [] (cT ops i))
def xK(ops:Array Oper):List Nat->List Nat->List Nat
 |done,[]=>done
 |done,j::r=>if (cT ops j).all done.contains=true then xK ops (done ++ [j]) r else xK ops done r
def canon(ops:Array Oper)(fl:List Nat):List Nat->List Nat->List Nat
 |done,[]=>xK ops done (fl.filter λj => !done.contains j)
 |done,a::r=>let d:=xK ops done (fl.filter λj => !done.contains j);canon ops fl (d ++ [a]) r
def DK(P:Program)(ops:Array Oper):List Nat:=(List.range ops.size).filter λi=>match ops[i]? with|some o=>mB P o|none=>false
def AL(P:Program)(ops:Array Oper):List Nat:=(List.range ops.size).filter λi=>match ops[i]? with|some o => !mB P o|none=>false
def oI(P:Program)(ops:Array Oper):List Nat:=canon ops (AL P ops) [] (DK P ops)
def ng(P:Program)(ops:Array Oper):List Nat->Bool
  | []=>true
  |i::r=>decide (i<ops.size) && !r.contains i && (cT ops i).all (λj => !(i::r).contains j) &&
    (match ops[i]? with
     |some o => !mB P o || r.all (λx=>(cT ops x).any λj=>(i::r).contains j)
     |none=>false) && ng P ops r
def AM(o:Oper):Bool :=
 match o.op with
 | .call {callee := .value _,..}=>true
 | .call {callee := .invoke ..,..}=>true
 |_=>false
def oJ(P:Program)(ops:Array Oper):Bool :=
 ops.toList.any AM && ng P ops (oI P ops) && (List.range ops.size).all λj=>(oI P ops).contains j
structure gh where
 j:Nat
 dst:Option Tmp
 rd:List Nat
 ld:Option (Nat × Nat × Bool × Nat):=none
def xL(P:Program)(st:St)(o:Oper):Option (Nat × Nat × Bool × Nat) :=
  match o.op with
  | .load t x=>match aH P t,st.ev x with
    |some (g,n),.cv (.one (.loc k off))=>some (k,off,g,n)
    |_,_=>none
  |_=>none
def vp(q:Nat × Nat × Bool × Nat)(cs:List At):Option CV :=
 if q.2.2.1=true then if q.2.1+q.2.2.2<=cs.length then some (.agg ((cs.drop q.2.1).take q.2.2.2))else none else (cs[q.2.1]?).map .one
def xM(t:List (Nat × SV))(m:Mem)(p:gh):Bool :=
  match p.ld,p.dst with
  |some q,some d=>match getM m q.1,av t d with
    |some (cs,_),.cv u=>decide (vp q cs=some u)
    |_,_=>false
  |_,_=>false
def bR(t:List (Nat × SV)):List gh->List (Nat × SV)
  | []=>t
  |p::r=>match p.dst with
    |some d=>(d,.any)::bR t r
    |none=>bR t r
def dQ(t:List (Nat × SV))(dst:Option Tmp)(v:SV):List (Nat × SV) :=
 match dst with
 |some d=>(d,v)::t
 |none=>t
def GN(A:bI R)(G:bF)(st:St)(o:Oper)(K:SV->ar->bV->R):R :=
  match o.op with
  | .makeInterface t x=>match G.P.underlying t,st.ev x with
    |some (.interface _), _ => A.fail "makeInterface"
    | some _,.cv v=>if v.flat=true/\v.wf st.c=true then
        A.iO st.c.nv t v (K (.cv (.one (.val st.c.nv))) {st.c with nv:=st.c.nv+1} (.iO st.c.nv t v::st.k))
      else A.fail "makeInterface: value"
    |_, _ => A.fail "makeInterface"
  |_ => tO A G st o λv c => if c.nk = st.c.nk /\ v.wf c = true then K v c st.k else A.fail "drawn: value"
def y8(s st:St)(k:Nat):Bool:=decide (getM s.m k=getM st.m k) && decide (aG s.o k=aG st.o k)
def qk(n:Nat):Option Tmp->Bool
 |some d=>decide (d<n)
 |none=>true
inductive Gd where
 |yes
 |no
 |ask (e:BE) (want:Bool)
 |bad
def guardOf(ops:Array Oper)(st:St)(o:Oper):Gd :=
  match o.guard with
  |none=>.yes
  |some (j,want)=>match (ops[j]?).bind (·.dst)with
    |none=>.bad
    | some d=>if d < st.n then match av st.t d with
        | .cv (.one (.bool e))=>.ask e want
        | .dF=>.no
        |_=>.bad
      else .bad
abbrev Kf:=List (BE × Bool)
def lU(A:bI R)(F:Kf)(e:BE)(t f:Kf->R):R :=
 match F.lookup e with
 |some true=>t F
 |some false=>f F
 |none=>ff A e (λ_=>t ((e,true)::F)) (λ_=>f ((e,false)::F))
def lV(A:bI R)(F:Kf)(g:Gd)(go no:Kf->R):R :=
  match g with
  | .yes=>go F
  | .no=>no F
  | .ask e want=>lU A F e (λF=>if want=true then go F else no F) (λF=>if want=true then no F else go F)
  | .bad => A.fail "guard: unknown"
def DL(A:bI R)(G:bF)(step:St->Oper->(St->R)->R)(ops:Array Oper)(st:St)(F:Kf)(P:List gh)(i:Nat)(o:Oper)(K:St->Kf->List gh->R):R :=
  let bf:=before ops i;let P0:=P.filter λp => !bf.contains p.j;let st0:St := {st with t:=bR st.t P0}
  lV A F (guardOf ops st0 o)
    (λF => step st0 o λs => if P0.all (λp => p.rd.all (y8 s st) || xM st.t s.m p) = true then K { s with t := dQ st.t o.dst (match o.dst with|some d => av s.t d|none => .any), n := st.n } F P0 else A.fail "drawn: read and written")
    (λF=>K {st with t:=dQ st.t o.dst .dF} F P0)
def AN(A:bI R)(G:bF)(st:St)(F:Kf)(o:Oper)(K:SV->ar->bV->Kf->R):R :=
  match o.op with
  | .pick x a b=>match st.ev x with
    | .cv (.one (.bool e))=>lU A F e (λF=>K (st.ev a) st.c st.k F) (λF=>K (st.ev b) st.c st.k F)
    |_ => A.fail "pick"
  |_=>GN A G st o λv c k=>K v c k F
def DM(A:bI R)(G:bF)(ops:Array Oper)(st:St)(F:Kf)(P:List gh)(i:Nat)(o:Oper)(K:St->Kf->List gh->R):R :=
 lV A F (guardOf ops st o)
  (λF=>AN A G st F o λv c k F=>K {st with t:=dQ st.t o.dst v,c:=c,k:=k} F (⟨i,o.dst,aU st o,xL G.P st o⟩::P))
  (λF=>K {st with t:=dQ st.t o.dst .dF} F (⟨i,o.dst,[],none⟩::P))
def n8(A:bI R)(G:bF)(step:St->Oper->(St->R)->R)(ops:Array Oper):List Nat->St->Kf->List gh->(St->R)->R
  | [],st,_,_,K=>K st
  |i::r,st,F,P,K=>st.norm λst=>match ops[i]? with
    |none => A.fail "drawn: operation"
    |some o =>
      if qk st.n o.dst=true then
        if mB G.P o=true then DL A G step ops st F P i o λs F P=>n8 A G step ops r s F P K
        else DM A G ops st F P i o λs F P=>n8 A G step ops r s F P K
      else A.fail "drawn: slot"
def rH(A:bI R)(G:bF)(inl:xI R)(yl:Yl R)(qT:Bool)(KP:Nat->St->R)(ops:Array Oper)(st:St)(K:St->R):R :=
  if dH ops=true then
    if oJ G.P ops=true then n8 A G (mz A G inl yl qT KP) ops (oI G.P ops) st [] [] K else
    gQ A G ops 0 (ops.toList.take (mA ops ops.size)) ⟨[],[],[]⟩ st λs=>kq A (mz A G inl yl qT KP) ops (ops.toList.drop (mA ops ops.size)) s K
  else A.fail "drawn: form"
def keyOf:Code->Nat
 | .region id ops _=>1000000000000*ops.size+id
 | .seq a _=>keyOf a
 | .block _ b=>keyOf b
 | .scope b=>keyOf b
 | .loop b=>keyOf b
 | .cond _ a _=>keyOf a
 |_=>0
def di(P:Program)(st:St):List ResultVar->Option (List CV)
  | []=>some []
  | .tmp t::r=>match av st.t t,di P st r with
    | .cv v,some l=>some (v::l)
    |_,_=>none
  | .cell a t::r=>match av st.t a,di P st r with
    | .cv (.one (.loc k off)),some l=>match getM st.m k with
      |some (cs,_)=>match partOf P t cs off with
        |some v=>some (v::l)
        |none=>none
      |none=>none
    |_,_=>none
def kindOf(o:ba):At->Option CK
  | .int k _=>some (.int k)
  | .bool _=>some .bool
  | .val _=>some .uA
  | .str _=>some .str
  | .sv _=>some .str
  | .fG _ _ sz _ _=>some (.sl sz)
  | .own k=>match aG o k with
    |some (ce,sz,t)=>if fR ce=true then some (.own sz t)else none
    |none=>none
  |_=>none
def ee(o:ba):List At->Option (List CK)
  | []=>some []
  |a::l=>match kindOf o a,ee o l with
    |some k,some r=>some (k::r)
    |_,_=>none
def oK(st:St):List (Nat × Nat)->Option (List (Nat × Nat))
  | []=>some []
  | (s,off)::r=>match av st.t s,oK st r with
    | .cv (.one (.loc k o)),some l=>some ((k,o+off)::l)
    | .cv (.one (.omap k)),some l=>some ((k,off)::l)
    |_,_=>none
def gR(t:List (Nat × SV)):List Nat->Option (List CV)
  | []=>some []
  |s::r=>match av t s,gR t r with
    | .cv v,some l=>some (v::l)
    |_,_=>none
def jv(m:Mem)(os:ba):List (Nat × Nat)->Option (List At)
  | []=>some []
  | (k,o)::r=>match getM m k,jv m os r with
    |some (cs,_),some l=>match cs[o]? with
      |some a=>some (a::l)
      |none=>none
    |none,some l=>match aG os k with
      |some (_,0,_+1)=>some (.own k::l)
      |_=>none
    |_,_=>none
def isInt:At->Bool
 | .int .. | .bool _=>true
 |_=>false
def LH.parts(m:Mem):LH->Option (List (Nat × Nat) × List (Nat × Nat) × List Nat × List Nat)
  | .kM=>none
  | .inv cells a_ kill=>some ([],cells,a_,kill)
  | .It p9 cells a_ kill=>some (p9,cells,a_,kill)
  | .tJ alts cells a_ kill=>match alts.find? (λa=>match jv m [] a with|some l=>l.all isInt|none=>false)with
    |some p9=>some (p9,cells,a_,kill)
    |none=>none
def CV.shape:CV->Bool × Nat
 | .one _=>(false,1)
 | .agg l=>(true,l.length)
def mC:CV->List At->CV
 | .one a,l=>.one (l.headD a)
 | .agg x,l=>.agg (l.take x.length)
def cO(t:List (Nat × SV)):List Nat->List CV->List At->List (Nat × SV)
 |s::r,v::vs,l=>cO ((s,.cv (mC v l))::t) r vs (l.drop v.cells.length)
 |_,_,_=>t
def bK(m:Mem):List (Nat × Nat)->List At->Mem
  | (k,o)::r,a::l=>match getM m k with
    |some (cs,_)=>bK (iQ m k (cs.set o a)) r l
    |none=>bK m r l
  |_,_=>m
def ei(t:List (Nat × SV)):List Nat->List (Nat × SV)
 | []=>t
 |s::r=>(s,.any)::ei t r
def fN(k:Nat)(free:List (Nat × Nat)):Nat->List At->List At->Bool
 |_,[],[]=>true
 |o,a::x,b::y=>(free.contains (k,o) || decide (a=b)) && fN k free (o+1) x y
 |_,_,_=>false
def aJ:List At->List Nat
 | []=>[]
 | .own k::l=>k::aJ l
 |_::l=>aJ l
def rI(kf k:Nat):SV->SV
 | .cv (.one (.own j))=>if j=kf then .cv (.one (.own k))else .cv (.one (.own j))
 |v=>v
def ql(kf k:Nat):List (Nat × SV)->List (Nat × SV)
 | []=>[]
 | (i,v)::r=>(i,rI kf k v)::ql kf k r
def oL(kf k:Nat):ba->ba
 | []=>[]
 | (j,v)::r=>(if j=kf then k else j,v)::oL kf k r
def iH:List (Nat × Nat)->St->St
 | [],st=>st
 | (kf,k)::r,st=>iH r {st with t:=ql kf k st.t,o:=oL kf k st.o}
def sI(G:bF)(st:St)(key:Nat):List Nat :=
  match G.loops.lookup (500000000000000000+key)with
  |some (.inv _ a_ _)=>a_.filterMap λs=>match av st.t s with
    | .cv (.one (.own k))=>some k
    |_=>none
  |_=>[]
def isMap(o:ba)(k:Nat):Bool :=
 match aG o k with
 |some (_,0,_+1)=>true
 |_=>false
def oM(a b:St)(a_:List Nat)(free:List (Nat × Nat))(own:List Nat):Bool :=
 decide (b.n=a.n/\b.r=a.r/\b.d=a.d/\b.df=a.df) && (a.o.all λx=>own.contains x.1 || decide (aG b.o x.1=aG a.o x.1)) && (a.t.all λx=>a_.contains x.1 || decide (av a.t x.1=.any) || decide (av b.t x.1=av a.t x.1)) &&
 (a.m.all λx=>match getM b.m x.1 with
  |some (cs,t)=>decide (t=x.2.2) && fN x.1 free 0 x.2.1 cs
  |none=>false)
def kM(A:bI R)(f:St->(Ex->St->R)->R)(K:Ex->St->R):Nat->St->R
  |0, _ => A.fail "rounds"
  |m+1,st=>f st λe s=>match e with
    | .normal=>s.u7 λs=>kM A f K m s
    |e=>K e s
def eF:List (Nat × Option Ex)->Nat->Option (Option Ex)
 | [],_=>none
 | (j,v)::r,i=>if j=i then some v else eF r i
def vq(r:List (Nat × Option Ex)):Option Nat->Bool
 |none=>true
 |some k=>(eF r k).isSome
def lG:List (Nat × Option Ex)->Nat->Option Ex->List (Nat × Option Ex)
 | [],_,_=>[]
 | (j,v)::r,i,e=>if j=i then (j,e)::lG r i e else (j,v)::lG r i e
def lH:List (Nat × Option Ex)->Nat->List (Nat × Option Ex)
 | [],_=>[]
 | (j,v)::r,i=>if j=i then lH r i else (j,v)::lH r i
def mD:List (Nat × SV)->List Nat->List SV->List (Nat × SV)
 |t,p::ps,v::vs=>mD ((p,v)::t) ps vs
 |t,_,_=>t
def lX(m:Mem)(o:ba):Nat->List Nat->List Nat->List Nat
  |0,todo,seen=>todo++seen
  |_+1,[],seen=>seen
  |n+1,k::r,seen=>if seen.contains k=true then lX m o n r seen else
    lX m o n ((match getM m k with|some (cs,_)=>aF cs|none=>[])++(match aG o k with|some (ce,_,_)=>aF (jg ce)|none=>[])++r) (k::seen)
def St.prune(n0:Nat)(v:SV)(st:St):St :=
 if (st.m.takeWhile λx=>decide (n0<=x.1)).length<24 then st else
  let eI:=(st.m.filter λx=>decide (x.1<n0)).flatMap (λx=>(aF x.2.1).filter λk=>decide (n0<=k))++(st.o.filter λx=>decide (x.1<n0)).flatMap (λx=>(aF (jg x.2.1)).filter λk=>decide (n0<=k));let lv:=lX st.m st.o 3000 (d_ v++eI) []
  {st with m:=st.m.filter λx=>decide (x.1<n0) || lv.contains x.1,o:=st.o.filter λx=>decide (x.1<n0) || lv.contains x.1}
def lY:Code->Option (Tmp × Code)
  | .seq (.region _ ops false) rest=>match ops.toList with
    | [⟨some d,.call {callee := .builtin .recover,args,..},_,_,_,none⟩]=>if args.toList.length=0 then some (d,rest)else none
    |_=>none
  |_=>none
def leave(A:bI R)(G:bF)(ex:Code->St->(Ex->St->R)->R)(fn:Func)(e:Ex)(s:St)(KR:SV->St->R)(KP:Nat->St->R):R :=
  match s.df with
  | []=>match e with
    | .exit _ => A.fail "leave: exit"
    | .iP i=>match s.d with
      | []=>KP i s
      |_ => A.fail "leave: marks"
    |_=>match di G.P s fn.results.toList with
      |some l=>KR (cq l) s
      |none => A.fail "leave: results"
  | [(g,aB)]=>match s.d,G.P.funcs[g]? with
    | [],some gn=>match gn.body with
      |some b=>match lY b with
        |some (dst,rest) =>
          if gn.results.toList=[]/\G.inl.contains g=true then
            let args:=aB.map cV
            let rv:Option SV:=match e with
              | .exit _=>none
              | .iP i=>if (fA s.k i).isSome=true then some (.cv (.one (.val i)))else none
              |_=>some (.cv (.one .ov))
            match rv with
            |none => A.fail "leave: exit"
            |some rv=>St.put A {t:=(List.range args.length).zip args,n:=args.length+(gn.ntmps-args.length),m:=s.m,c:=s.c,o:=s.o,r:=s.r,d := [],k:=s.k} (some dst) rv s.c λs1 =>
              ex rest s1 λe2 s2 =>
                let back:R:=match s2.d,s2.df with
                  | [],[]=>match di G.P {t:=s.t,n:=s.n,m:=s2.m,c:=s2.c,o:=s2.o,r:=s2.r,d:=s.d,k:=s2.k} fn.results.toList with
                    |some l=>KR (cq l) {t:=s.t,n:=s.n,m:=s2.m,c:=s2.c,o:=s2.o,r:=s2.r,d:=s.d,k:=s2.k}
                    |none => A.fail "leave: results"
                  |_, _ => A.fail "leave: closure"
                match e2 with
                | .normal=>back
                | .ret=>back
                |_ => A.fail "leave: closure"
          else A.fail "leave: closure's results"
        |none => A.fail "leave: closure's form"
      |none => A.fail "leave: closure's body"
    |_, _ => A.fail "leave: closure"
  |_ => A.fail "leave: closures"
def lI(A:bI R)(G:bF)(ex:Option Nat->Yl R->Code->St->(Ex->St->R)->R)(yl:Yl R)(K:Ex->St->R):xI R:=λf args s K'=>match G.P.funcs[f]? with
  |none => A.fail "inline: no such function"
  |some fn=>match fn.body with
    |none => A.fail "inline: no body"
    |some b =>
      nU (λt=>({t:=t,n:=args.length+(fn.ntmps-args.length),m:=s.m,c:=s.c,o:=s.o,r:=s.r,d := [],k:=s.k}:St).norm λs0=>ex none yl b s0 λe s' =>
        leave A G (ex none yl) fn e s' (λv s2=>K' v (St.prune s.c.nk v {t:=s.t,n:=s.n,m:=s2.m,c:=s2.c,o:=s2.o,r:=s2.r,d:=s.d,k:=s2.k,df:=s.df}))
          λi s2=>K (.iP i) {t:=s.t,n:=s.n,m:=s2.m,c:=s2.c,o:=s2.o,r:=s2.r,d:=s.d,k:=s2.k,df:=s.df}) args 0 []
def xN(A:bI R)(G:bF)(n:Nat)(ex:Option Nat->Yl R->Code->St->(Ex->St->R)->R)(yl:Yl R)(K:Ex->St->R):xI R:=λf args s K'=>match G.iG with
  | []=>match G.marks with
    | []=>lI A G ex yl K f args s K'
    |_::_=>match G.marks.contains f with
      |true=>A.mark (some n) f args s (lI A G ex yl K f args s λv s'=>A.mark none f [v] s' (K' v s'))
      |false=>lI A G ex yl K f args s K'
  |_::_=>match je n f args s G.iG with
    |some e=>iR A e.asks (K' e.v e.s')
    |none=>lI A G ex yl K f args s K'
def vt(A:bI R)(ex:Code->St->(Ex->St->R)->R)(d:Tmp)(a b:Code)(st:St)(K:Ex->St->R):R:=match av st.t d with
  | .cv (.one (.bool e)) => if d<st.n then ff A e (λ_ => (st.cQ d true).norm λst => ex a st K) (λ_ => (st.cQ d false).norm λst => ex b st K) else A.fail "cond: slot"
  |_ => A.fail "cond: unknown"
def vu(A:bI R)(G:bF)(ex:Option Nat->Yl R->Code->St->(Ex->St->R)->R)(rd:Option Nat)(yl:Yl R)(g:Tmp)(ps:Array Tmp)(assign body:Code)(st:St)(K:Ex->St->R):R:=match av st.t g with
  | .cv (.one (.fn f aB)) =>
    if G.inl.contains f=true/\g<st.n/\vq st.r rd=true/\st.df=[]then
      let kr:=st.c.nk
      let Ue:Yl R:=λk args s K' =>
        if k=kr then
          if eF s.r kr=some none/\args.length=ps.size/\(ps.all λp=>decide (p<st.n))=true then
            ex (some kr) yl assign {t:=mD st.t ps.toList args,n:=st.n,m:=s.m,c:=s.c,o:=s.o,r:=s.r,d := [],k:=s.k} λe s1=>match e with
              | .normal=>if eF s1.r kr=some none then ex (some kr) yl body {s1 with r:=lG s1.r kr (some .normal)} λe s2 =>
                if eF s2.r kr=some (some .normal)/\s2.df=[]then match e with
                  | .normal=>K' (.cv (.one (.bool (.lit true)))) {t:=s.t,n:=s.n,m:=s2.m,c:=s2.c,o:=s2.o,r:=lG s2.r kr none,d:=s.d,k:=s2.k,df:=s.df}
                  | .iP _ => A.fail "yield: panic"
                  |e=>K' (.cv (.one (.bool (.lit false)))) {t:=s.t,n:=s.n,m:=s2.m,c:=s2.c,o:=s2.o,r:=lG s2.r kr (some e),d:=s.d,k:=s2.k,df:=s.df}
                else A.fail "yield: record"
                else A.fail "yield: record at first"
              |_ => A.fail "yield: assignment"
          else A.fail "yield: not ready"
        else yl k args s K'
      match G.P.funcs[f]? with
      |none => A.fail "range: no such function"
      |some fn=>match fn.body with
        |none => A.fail "range: no body"
        |some b =>
          let args:=SV.cv (.one (.rq kr))::aB.map cV
          ex none Ue b {t:=(List.range args.length).zip args,n:=args.length+(fn.ntmps-args.length),m:=st.m,c := {st.c with nk:=kr+2},o:=st.o,r:=(kr,none)::st.r,d := [],k:=st.k} λe s' =>
            if ¬s'.df = [] then A.fail "range: defers" else
            match e with
            | .exit _ => A.fail "range: exit"
            | .iP _ => A.fail "range: panic"
            |_=>match di G.P s' fn.results.toList with
              |some _=>match eF s'.r kr with
                |some none=>K .normal {t:=st.t,n:=st.n,m:=s'.m,c:=s'.c,o:=s'.o,r:=lH s'.r kr,d:=if rd.isSome=true then st.d else (kr+1)::st.d,k:=s'.k}
                |some (some .normal) => A.fail "range: busy"
                |some (some (.iP _)) => A.fail "range: panic"
                |some (some e)=>K e {t:=st.t,n:=st.n,m:=s'.m,c:=s'.c,o:=s'.o,r:=lH s'.r kr,d:=if rd.isSome=true then st.d else (kr+1)::st.d,k:=s'.k}
                |none => A.fail "range: record"
              |none => A.fail "range: results"
    else A.fail "range: function"
  |_ => A.fail "range: value"
def vw(A:bI R)(G:bF)(ex:Option Nat->Yl R->Code->St->(Ex->St->R)->R)(n:Nat)(rd:Option Nat)(yl:Yl R)(b:Code)(st:St)(K:Ex->St->R):R:=match (G.loops.lookup (keyOf b)).bind (LH.parts st.m)with
  |some (p9,cells,a_,kill)=>match oK st cells,gR st.t a_ with
    |some fc,some vs =>
      let free:=p9++fc
      match jv st.m st.o free with
      |none => A.fail "loop: cells"
      |some ms =>
        let AO:=vs.flatMap CV.cells++ms
        match ee st.o AO with
        |none => A.fail "loop: kinds"
        |some ks =>
          if (aJ AO).Nodup then
            let fr:=au st.c ks;let fo:=aZ st.c ks;let ib:=((aJ fr).zip (aJ AO)).filter λp=>(sI G st (keyOf b)).contains p.2 || isMap st.o p.2
            let AP:St:=iH ib {t:=cO (ei st.t kill) a_ vs fr,n:=st.n,m:=bK st.m free (fr.drop (vs.flatMap CV.cells).length),c:=aP st.c ks,o:=fo++bL st.o (aJ AO),r:=st.r,d:=st.d,k:=st.k,df:=st.df}
            A.loop st.o AO fo fr λcont =>
              ex rd yl b AP λe s=>match e with
                | .normal=>match gR s.t a_,jv s.m s.o free with
                  |some jx,some lJ =>
                    if oM AP s a_ free (fo.map (·.1)++ib.map (·.2))=true/\((aJ fr).zip (aJ (jx.flatMap CV.cells++lJ))).all (fun p=>ib.all fun q=>q.1 != p.1 || q.2 == p.2)=true/\jx.map CV.shape=vs.map CV.shape/\ee s.o (jx.flatMap CV.cells++lJ)=some ks/\(aJ (jx.flatMap CV.cells++lJ)).Nodup /\
                        (aJ (jx.flatMap CV.cells++lJ)).all (λk=>fo.any (λx=>x.1 == k) || (bL st.o (aJ AO)).all λx=>x.1 != k)=true then
                      cont s.o (jx.flatMap CV.cells++lJ)
                    else A.fail "loop: not the same"
                  |_, _ => A.fail "loop: values"
                |e=>K e s
          else A.fail "loop: rows twice"
    |_, _ => A.fail "loop: slots"
  |none=>kM A (ex rd yl b) K n st
def exec(A:bI R)(G:bF):Nat->Option Nat->Yl R->Code->St->(Ex->St->R)->R
  |0, _, _, _, _, _ => A.fail "fuel"
  |n+1,rd,yl,c,st,K =>
    match c with
    | .skip=>K .normal st
    | .label _=>K .normal st
    | .ret=>K .ret st
    | .exit id=>K (.exit id) st
    | .region _ ops draw=>if draw=true then rH A G (xN A G n (exec A G n) yl K) yl rd.isNone (λi s=>K (.iP i) s) ops st (K .normal)else kq A (mz A G (xN A G n (exec A G n) yl K) yl rd.isNone λi s=>K (.iP i) s) ops ops.toList st (K .normal)
    | .seq a b=>exec A G n rd yl a st λe s=>match e with
      | .normal=>exec A G n rd yl b s K
      |e=>K e s
    | .cond (.tmp d) a b=>vt A (exec A G n rd yl) d a b st K
    | .cond (.const (.bool t)) a b=>if t=true then exec A G n rd yl a st K else exec A G n rd yl b st K
    | .block id b=>exec A G n rd yl b st λe s=>match e with
      | .exit i=>if i=id then K .normal s else K (.exit i) s
      |e=>K e s
    | .scope b => if rd = none then exec A G n rd yl b st K else A.fail "scope in a round"
    | .rangeFunc (.tmp g) ps assign body=>vu A G (exec A G n) rd yl g ps assign body st K
    | .loop b=>vw A G (exec A G n) n rd yl b st K
    |_ => A.fail "code"
def sJ(A:bI R)(G:bF)(n:Nat)(fn:Func)(b:Code)(args:List SV)(c:ar)(k:bV := []):R :=
  exec A G n none (λ_ _ _ _ => A.fail "yield") b { t := (List.range args.length).zip args, n := args.length + (fn.ntmps - args.length), m := [], c := c, k := k } fun e s =>
    leave A G (exec A G n none λ_ _ _ _ => A.fail "yield") fn e s (λv s2 => A.fin v (dG s2.m ((sw v).flatMap CV.cells)) (dP s2.o ((sw v).flatMap CV.cells))) λi _ => A.AH i
end Vc
