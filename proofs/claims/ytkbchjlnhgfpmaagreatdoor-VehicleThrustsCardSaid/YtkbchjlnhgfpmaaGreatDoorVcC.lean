import Derived.Deep.LoopGhost
import Derived.Scope
import Derived.Below
import Derived.Orders
import Derived.Handy
import Derived.KernelRfl
set_option linter.unusedVariables false
set_option linter.unusedSimpArgs false
namespace Vc
open Go Go.RowKit
abbrev OV := {v:Value // v.oneCell'=true}
structure Env where
 i:Nat->Int
 b:Nat->Bool
 v:Nat->OV
 p:Nat->Nat × Nat
 s:Nat->List UInt8
 l:Nat->List OV
def Env.gF(U:Env)(n:Nat)(x:Int):Env := {U with i:=λj=>if j=n then x else U.i j}
def Env.mu(U:Env)(n:Nat)(x:Bool):Env := {U with b:=λj=>if j=n then x else U.b j}
def Env.ov(U:Env)(n:Nat)(x:OV):Env := {U with v:=λj=>if j=n then x else U.v j}
def Env.sC(U:Env)(n:Nat)(x:Nat × Nat):Env := {U with p:=λj=>if j=n then x else U.p j}
def Env.qN(U:Env)(n:Nat)(x:List UInt8):Env := {U with s:=λj=>if j=n then x else U.s j}
def Env.kP(U:Env)(n:Nat)(x:List OV):Env := {U with l:=λj=>if j=n then x else U.l j}
def Env.zero:Env:=⟨λ_=>0,λ_=>false,λ_=>⟨.nilFunc,rfl⟩,λ_=>(0,0),λ_=>[],λ_=>[]⟩
structure ar where
 ni:Nat
 nb:Nat
 nv:Nat
 np:Nat
 nk:Nat
 ns:Nat
 nl:Nat
 deriving DecidableEq
structure ar.le(c d:ar):Prop where
 i:c.ni<=d.ni
 b:c.nb<=d.nb
 v:c.nv<=d.nv
 p:c.np<=d.np
 k:c.nk<=d.nk
 s:c.ns<=d.ns
 l:c.nl<=d.nl
theorem ar.le_refl(c:ar):c.le c:=⟨Nat.le_refl _,Nat.le_refl _,Nat.le_refl _,Nat.le_refl _,Nat.le_refl _,Nat.le_refl _,Nat.le_refl _⟩
theorem ar.le_trans{c d e:ar}(h:c.le d)(h':d.le e):c.le e :=
 ⟨Nat.le_trans h.i h'.i,Nat.le_trans h.b h'.b,Nat.le_trans h.v h'.v,Nat.le_trans h.p h'.p,Nat.le_trans h.k h'.k,Nat.le_trans h.s h'.s,Nat.le_trans h.l h'.l⟩
theorem ar.lV(c:ar)(n:Nat):c.le {c with nk:=c.nk+n}:=⟨Nat.le_refl _,Nat.le_refl _,Nat.le_refl _,Nat.le_refl _,Nat.le_add_right _ _,Nat.le_refl _,Nat.le_refl _⟩
theorem ar.qO(c:ar)(n:Nat):c.le {c with nl:=c.nl+n}:=⟨Nat.le_refl _,Nat.le_refl _,Nat.le_refl _,Nat.le_refl _,Nat.le_refl _,Nat.le_refl _,Nat.le_add_right _ _⟩
theorem ar.tH(c:ar)(n:Nat):c.le {c with ni:=c.ni+n}:=⟨Nat.le_add_right _ _,Nat.le_refl _,Nat.le_refl _,Nat.le_refl _,Nat.le_refl _,Nat.le_refl _,Nat.le_refl _⟩
structure Env.aC(c:ar)(U ag:Env):Prop where
 i:∀j,j<c.ni->ag.i j=U.i j
 b:∀j,j<c.nb->ag.b j=U.b j
 v:∀j,j<c.nv->ag.v j=U.v j
 p:∀j,j<c.np->ag.p j=U.p j
 s:∀j,j<c.ns->ag.s j=U.s j
 l:∀j,j<c.nl->ag.l j=U.l j
theorem Env.ao(c:ar)(U:Env):Env.aC c U U:=⟨λ_ _=>rfl,λ_ _=>rfl,λ_ _=>rfl,λ_ _=>rfl,λ_ _=>rfl,λ_ _=>rfl⟩
theorem Env.aj{c d:ar}{U ag J:Env}(hc:c.le d)(h:Env.aC c U ag)(h':Env.aC d ag J):Env.aC c U J :=
 ⟨λj hj=>(h'.i j (Nat.lt_of_lt_of_le hj hc.i)).trans (h.i j hj),λj hj=>(h'.b j (Nat.lt_of_lt_of_le hj hc.b)).trans (h.b j hj),λj hj=>(h'.v j (Nat.lt_of_lt_of_le hj hc.v)).trans (h.v j hj),
  λj hj=>(h'.p j (Nat.lt_of_lt_of_le hj hc.p)).trans (h.p j hj),λj hj=>(h'.s j (Nat.lt_of_lt_of_le hj hc.s)).trans (h.s j hj),λj hj=>(h'.l j (Nat.lt_of_lt_of_le hj hc.l)).trans (h.l j hj)⟩
inductive IE where
 |lit (n:Int)
 |var (i:Nat)
 deriving DecidableEq
def IE.den(U:Env):IE->Int
 | .lit n=>n
 | .var i=>U.i i
def IE.wf(c:ar):IE->Bool
 | .lit _=>true
 | .var i=>decide (i<c.ni)
theorem IE.aa{c:ar}{U ag:Env}(h:Env.aC c U ag):∀{e:IE},e.wf c=true->e.den ag=e.den U
 | .lit _,_=>rfl
 | .var i,hw=>h.i i (by simpa [IE.wf]using hw)
theorem IE.aU{c d:ar}(h:c.le d):∀{e:IE},e.wf c=true->e.wf d=true
 | .lit _,_=>rfl
 | .var i,hw=>by simp [IE.wf]at hw ⊢;exact Nat.lt_of_lt_of_le hw h.i
inductive SE where
 |lit (l:List UInt8)
 |var (i:Nat)
 deriving DecidableEq
def SE.den(U:Env):SE->List UInt8
 | .lit l=>l
 | .var i=>U.s i
def SE.wf(c:ar):SE->Bool
 | .lit _=>true
 | .var i=>decide (i<c.ns)
theorem SE.aa{c:ar}{U ag:Env}(h:Env.aC c U ag):∀{e:SE},e.wf c=true->e.den ag=e.den U
 | .lit _,_=>rfl
 | .var i,hw=>h.s i (by simpa [SE.wf]using hw)
theorem SE.aU{c d:ar}(h:c.le d):∀{e:SE},e.wf c=true->e.wf d=true
 | .lit _,_=>rfl
 | .var i,hw=>by simp [SE.wf]at hw ⊢;exact Nat.lt_of_lt_of_le hw h.s
inductive BE where
 |lit (b:Bool)
 |var (i:Nat)
 |cmp (op:BinOp) (a b:IE)
 |not (a:BE)
 |and (a b:BE)
 |or (a b:BE)
 |eq (a b:BE)
 |seq (a b:SE)
 deriving DecidableEq
def iz(op:BinOp)(a b:Int):Bool :=
 match op with
 | .eql=>a == b
 | .neq=>a != b
 | .lss=>decide (a<b)
 | .leq=>decide (a<=b)
 | .gtr=>decide (a > b)
 | .geq=>decide (a >= b)
 |_=>false
def BR(op:BinOp)(a b:Int):Prop :=
 match op with
 | .eql=>a=b
 | .neq=>a≠b
 | .lss=>a<b
 | .leq=>a<=b
 | .gtr=>b<a
 | .geq=>b<=a
 |_=>False
theorem Kj(op:BinOp)(a b:Int):BR op a b↔iz op a b=true:=by
 cases op<;>simp [BR,iz]
def BE.den(U:Env):BE->Bool
 | .lit b=>b
 | .var i=>U.b i
 | .cmp op a b=>iz op (a.den U) (b.den U)
 | .not a => !a.den U
 | .and a b=>a.den U && b.den U
 | .or a b=>a.den U || b.den U
 | .eq a b=>a.den U == b.den U
 | .seq a b=>decide (a.den U=b.den U)
def BE.prop(U:Env):BE->Prop
 | .lit b=>b=true
 | .var i=>U.b i=true
 | .cmp op a b=>BR op (a.den U) (b.den U)
 | .not a=>¬a.prop U
 | .and a b=>a.prop U/\b.prop U
 | .or a b=>a.prop U\/b.prop U
 | .eq a b=>a.prop U↔b.prop U
 | .seq a b=>a.den U=b.den U
theorem BE.dF(U:Env):∀e:BE,e.prop U↔e.den U=true
  | .lit b=>Iff.rfl
  | .var i=>Iff.rfl
  | .cmp op a b=>Kj op _ _
  | .not a=>by simp [BE.prop,BE.den,BE.dF U a]
  | .and a b=>by simp [BE.prop,BE.den,BE.dF U a,BE.dF U b]
  | .or a b=>by simp [BE.prop,BE.den,BE.dF U a,BE.dF U b]
  | .eq a b=>by
    simp only [BE.prop,BE.den,BE.dF U a,BE.dF U b];cases a.den U<;>cases b.den U<;>simp
  | .seq a b=>by simp [BE.prop,BE.den]
def BE.wf(c:ar):BE->Bool
 | .lit _=>true
 | .var i=>decide (i<c.nb)
 | .cmp _ a b=>a.wf c && b.wf c
 | .not a=>a.wf c
 | .and a b | .or a b | .eq a b=>a.wf c && b.wf c
 | .seq a b=>a.wf c && b.wf c
theorem BE.aa{c:ar}{U ag:Env}(h:Env.aC c U ag):∀{e:BE},e.wf c=true->e.den ag=e.den U
 | .lit _,_=>rfl
 | .var i,hw=>h.b i (by simpa [BE.wf]using hw)
 | .cmp op a b,hw=>by simp only [BE.wf,Bool.and_eq_true]at hw;simp only [BE.den,IE.aa h hw.1,IE.aa h hw.2]
 | .not a,hw=>by simp only [BE.wf]at hw;simp only [BE.den,BE.aa h hw]
 | .and a b,hw=>by simp only [BE.wf,Bool.and_eq_true]at hw;simp only [BE.den,BE.aa h hw.1,BE.aa h hw.2]
 | .or a b,hw=>by simp only [BE.wf,Bool.and_eq_true]at hw;simp only [BE.den,BE.aa h hw.1,BE.aa h hw.2]
 | .eq a b,hw=>by simp only [BE.wf,Bool.and_eq_true]at hw;simp only [BE.den,BE.aa h hw.1,BE.aa h hw.2]
 | .seq a b,hw=>by simp only [BE.wf,Bool.and_eq_true]at hw;simp only [BE.den,SE.aa h hw.1,SE.aa h hw.2]
theorem BE.aU{c d:ar}(h:c.le d):∀{e:BE},e.wf c=true->e.wf d=true
 | .lit _,_=>rfl
 | .var i,hw=>by simp [BE.wf]at hw ⊢;exact Nat.lt_of_lt_of_le hw h.b
 | .cmp _ a b,hw=>by simp only [BE.wf,Bool.and_eq_true]at hw ⊢;exact⟨IE.aU h hw.1,IE.aU h hw.2⟩
 | .not a,hw=>by simp only [BE.wf]at hw ⊢;exact BE.aU h hw
 | .and a b,hw=>by simp only [BE.wf,Bool.and_eq_true]at hw ⊢;exact⟨BE.aU h hw.1,BE.aU h hw.2⟩
 | .or a b,hw=>by simp only [BE.wf,Bool.and_eq_true]at hw ⊢;exact⟨BE.aU h hw.1,BE.aU h hw.2⟩
 | .eq a b,hw=>by simp only [BE.wf,Bool.and_eq_true]at hw ⊢;exact⟨BE.aU h hw.1,BE.aU h hw.2⟩
 | .seq a b,hw=>by simp only [BE.wf,Bool.and_eq_true]at hw ⊢;exact⟨SE.aU h hw.1,SE.aU h hw.2⟩
def BE.kL:BE->BE
  | .cmp op (.lit a) (.lit b)=>.lit (iz op a b)
  | .not a=>match a.kL with
    | .lit b=>.lit !b
    | .not c=>c
    |c=>.not c
  | .and a b=>match a.kL,b.kL with
    | .lit false,_=>.lit false
    | .lit true,d=>d
    |_,.lit false=>.lit false
    |c,.lit true=>c
    |c,d=>.and c d
  | .or a b=>match a.kL,b.kL with
    | .lit true,_=>.lit true
    | .lit false,d=>d
    |_,.lit true=>.lit true
    |c,.lit false=>c
    |c,d=>.or c d
  | .eq a b=>match a.kL,b.kL with
    | .lit c,.lit d=>.lit (c == d)
    | .lit true,d=>d
    |c,.lit true=>c
    | .lit false,d=>.not d
    |c,.lit false=>.not c
    |c,d=>.eq c d
  | .seq (.lit a) (.lit b)=>.lit (decide (a=b))
  |e=>e
theorem BE.fF(U:Env):∀e:BE,e.kL.den U=e.den U
  | .lit _=>rfl
  | .var _=>rfl
  | .cmp op a b=>by cases a<;>cases b<;>rfl
  | .not a=>by
    have h:=BE.fF U a;simp only [BE.kL,BE.den,<-h];split<;>simp_all [BE.den]
  | .and a b=>by
    have h:=BE.fF U a;have h':=BE.fF U b;simp only [BE.kL,BE.den,<-h,<-h'];split<;>simp_all [BE.den]
  | .or a b=>by
    have h:=BE.fF U a;have h':=BE.fF U b;simp only [BE.kL,BE.den,<-h,<-h'];split<;>simp_all [BE.den]
  | .eq a b=>by
    have h:=BE.fF U a;have h':=BE.fF U b;simp only [BE.kL,BE.den,<-h,<-h'];split<;>simp_all [BE.den]
  | .seq a b=>by cases a<;>cases b<;>rfl
inductive IP where
 |bin (op:BinOp) (k:IntKind) (a b:IE)
 |shl (k:IntKind) (a:IE) (n:Nat)
 |shr (a:IE) (n:Nat)
 |conv (k:IntKind) (a:IE)
 |neg (k:IntKind) (a:IE)
 |Ir (k:IntKind) (a:IE)
 |max (a b:IE)
 |min (a b:IE)
 |sum (a b:IE)
 |diff (a b:IE)
 |qP (s:SE)
 |uI (s:SE) (i:IE)
 |sD (n:Nat) (vs:List Nat) (sz:Nat)
 deriving DecidableEq
def lC(op:BinOp)(k:IntKind)(a b:Int):Int :=
 match op with
 | .add=>k.wrap (a+b)
 | .sub=>k.wrap (a-b)
 | .mul=>k.wrap (a*b)
 | .quo=>k.wrap (a.tdiv b)
 | .rem=>a.tmod b
 | .shl=>k.wrap (a*2 ^ (Nat.min b.toNat k.bits))
 | .shr=>a.fdiv (2 ^ (Nat.min b.toNat k.bits))
 |op=>bits op k a b
def IP.den(U:Env):IP->Int
 | .bin op k a b=>lC op k (a.den U) (b.den U)
 | .shl k a n=>k.wrap (a.den U*((2 ^ n:Nat):Int))
 | .shr a n=>a.den U / ((2 ^ n:Nat):Int)
 | .conv k a=>k.wrap (a.den U)
 | .neg k a=>k.wrap (0-a.den U)
 | .Ir k a=>bits .xor k (if k.signed then -1 else k.max) (a.den U)
 | .max a b=>if b.den U > a.den U then b.den U else a.den U
 | .min a b=>if b.den U<a.den U then b.den U else a.den U
 | .sum a b=>a.den U+b.den U
 | .diff a b=>a.den U-b.den U
 | .qP s=>((s.den U).length:Int)
 | .uI s i=>(((s.den U).getD (i.den U).toNat 0).toNat:Int)
 | .sD n vs sz=>(((n+(vs.map λj=>(U.l j).length).sum) / sz:Nat):Int)
def IP.wf(c:ar):IP->Bool
 | .bin _ _ a b | .max a b | .min a b | .sum a b | .diff a b=>a.wf c && b.wf c
 | .shl _ a _ | .shr a _ | .conv _ a | .neg _ a | .Ir _ a=>a.wf c
 | .qP s=>s.wf c
 | .uI s i=>s.wf c && i.wf c
 | .sD _ vs _=>vs.all λj=>decide (j<c.nl)
def IP.lits:IP->Bool
 | .bin _ _ (.lit _) (.lit _) | .max (.lit _) (.lit _) | .min (.lit _) (.lit _) | .sum (.lit _) (.lit _) | .diff (.lit _) (.lit _)=>true
 | .shl _ (.lit _) _ | .shr (.lit _) _ | .conv _ (.lit _) | .neg _ (.lit _) | .Ir _ (.lit _)=>true
 | .qP (.lit _) | .uI (.lit _) (.lit _) | .sD _ [] _=>true
 |_=>false
theorem IP.qQ{U ag:Env}:∀{p:IP},p.lits=true->p.den U=p.den ag:=by
 intro p h;cases p
 case bin op k a b=>cases a<;>cases b<;>first|rfl | (simp [IP.lits]at h)
 case max a b=>cases a<;>cases b<;>first|rfl | (simp [IP.lits]at h)
 case min a b=>cases a<;>cases b<;>first|rfl | (simp [IP.lits]at h)
 case sum a b=>cases a<;>cases b<;>first|rfl | (simp [IP.lits]at h)
 case diff a b=>cases a<;>cases b<;>first|rfl | (simp [IP.lits]at h)
 case shl k a n=>cases a<;>first|rfl | (simp [IP.lits]at h)
 case shr a n=>cases a<;>first|rfl | (simp [IP.lits]at h)
 case qP s=>cases s<;>first|rfl | (simp [IP.lits]at h)
 case uI s i=>cases s<;>cases i<;>first|rfl | (simp [IP.lits]at h)
 case sD n vs sz=>cases vs<;>first|rfl | (simp [IP.lits]at h)
 all_goals (rename_i a;cases a<;>first|rfl | (simp [IP.lits]at h))
theorem IP.aa{c:ar}{U ag:Env}(h:Env.aC c U ag){p:IP}(hw:p.wf c=true):p.den ag=p.den U:=by
 cases p
 case qP s=>simp only [IP.den,SE.aa h hw]
 case uI s i=>simp only [IP.wf,Bool.and_eq_true]at hw;simp only [IP.den,SE.aa h hw.1,IE.aa h hw.2]
 case sD n vs sz =>
  simp only [IP.den];congr 3;refine congrArg List.sum (List.map_congr_left λj hj => ?_);rw [h.l j (by simpa using List.all_eq_true.1 hw j hj)]
 all_goals (simp only [IP.wf,Bool.and_eq_true]at hw;first|simp only [IP.den,IE.aa h hw.1,IE.aa h hw.2]|simp only [IP.den,IE.aa h hw])
inductive aW where
 |int (k:IntKind) (e:IE)
 |bool (e:BE)
 |str (l:List UInt8)
 |sv (i:Nat)
 |eR
 |gP (k off len cap:Nat)
 |dD (q p sz:Nat) (len cap:IE)
 |own (k:Nat)
 deriving DecidableEq
inductive At where
 |int (k:IntKind) (e:IE)
 |bool (e:BE)
 |val (i:Nat)
 |str (l:List UInt8)
 |sE
 |eR
 |uJ
 |pw
 |vV
 |loc (k off:Nat)
 |gP (k off len cap:Nat)
 |ext (p:Nat) (ix:IE) (sz c:Nat)
 |mL (p:Nat) (ix:IE) (sz:Nat) (len cap:IE)
 |fn (f:FuncId) (aK:List (Nat × Nat))
 |sv (i:Nat)
 |dD (q p sz:Nat) (len cap:IE)
 |own (k:Nat)
 |fQ (k:Nat) (ix:IE) (sz c:Nat)
 |g_ (f:FuncId) (first aK:List (Nat × Nat))
 |sF (k:Nat)
 |omap (k:Nat)
 |qR (k:Nat)
 |rT (f:FuncId) (first:List aW) (aK:List (Nat × Nat))
 deriving DecidableEq
def aW.at:aW->At
 | .int k e=>.int k e
 | .bool e=>.bool e
 | .str l=>.str l
 | .sv i=>.sv i
 | .eR=>.eR
 | .gP k off len cap=>.gP k off len cap
 | .dD q p sz len cap=>.dD q p sz len cap
 | .own k=>.own k
def aW.of:At->Option aW
 | .int k e=>some (.int k e)
 | .bool e=>some (.bool e)
 | .str l=>some (.str l)
 | .sv i=>some (.sv i)
 | .eR=>some .eR
 | .gP k off len cap=>some (.gP k off len cap)
 | .dD q p sz len cap=>some (.dD q p sz len cap)
 | .own k=>some (.own k)
 |_=>none
def aW.DG:List At->Option (List aW)
  | []=>some []
  |a::r=>match aW.of a,aW.DG r with
    |some x,some l=>some (x::l)
    |_,_=>none
theorem aW.Ez{a:At}{x:aW}(h:aW.of a=some x):x.at=a:=by
 cases a<;>simp only [aW.of,Option.some.injEq,reduceCtorEq]at h<;>subst h<;>rfl
theorem aW.vW:∀{l:List At} {r:List aW},aW.DG l=some r->r.map aW.at=l
  | [],r,h=>by simp only [aW.DG,Option.some.injEq]at h;subst h;rfl
  |a::l,r,h=>by
    simp only [aW.DG]at h;split at h
    · rename_i x l' h1 h2;simp only [Option.some.injEq]at h;subst h;rw [List.map_cons,aW.Ez h1,aW.vW h2]
    · cases h
def iX:Nat->Nat->Nat × Nat
 |0,_=>(0,0)
 |k+1,n=>if n % 2=1 then (0,n / 2)else ((iX k (n / 2)).1+1,(iX k (n / 2)).2)
theorem Sm:∀(k a b:Nat),a<k->iX k (2 ^ a*(2*b+1))=(a,b)
  |0,a,b,h=>by omega
  |k+1,0,b,_=>by
    unfold iX;rw [Nat.pow_zero,Nat.one_mul,if_pos (by omega)];congr 1;omega
  |k+1,a+1,b,h=>by
    have e:2 ^ (a+1)*(2*b+1)=2*(2 ^ a*(2*b+1)):=by rw [Nat.pow_succ,Nat.mul_comm (2 ^ a) 2,Nat.mul_assoc]
    unfold iX;rw [e,if_neg (by omega),Nat.mul_div_cancel_left _ (by decide),Sm k a b (by omega)]
def iK(p:Nat × Nat)(n m:Nat):Addr :=
 if n=0/\m=0 then ⟨p.1,(iX (p.2+1) p.2).1,if (iX (p.2+1) p.2).2=0 then none else some ((iX (p.2+1) p.2).2-1)⟩else ⟨p.1,p.2,none⟩
theorem Kk{p:Nat × Nat}{n m:Nat}(h:¬(n=0/\m=0)):iK p n m=⟨p.1,p.2,none⟩:=if_neg h
theorem Kl(a:Addr):∃p,iK p 0 0=a:=by
 obtain⟨b,o,s⟩:=a
 have h:∀x,iX (2 ^ o*(2*x+1)+1) (2 ^ o*(2*x+1))=(o,x):=λx=>Sm _ _ _ (by
  have h1:o<2 ^ o:=Nat.lt_two_pow_self;have h2:2 ^ o*1<=2 ^ o*(2*x+1):=Nat.mul_le_mul_left _ (by omega)
  omega)
 cases s with
 |none=>exact⟨(b,2 ^ o*(2*0+1)),by unfold iK;simp only [and_self,if_true];rw [h 0];rfl⟩
 |some x=>exact⟨(b,2 ^ o*(2*(x+1)+1)),by unfold iK;simp only [and_self,if_true];rw [h (x+1)];simp⟩
def cG(b code n base:Nat):Value:=if code=0 then .slice none 0 0 else .slice (some ⟨b,base,none⟩) n (code-1)
theorem Km(b code n base:Nat):(cG b code n base).oneCell'=true:=by unfold cG;split<;>rfl
def ow(md b code n base:Nat):Value:=match md with
 |0=>cG b code n base
 |1=>.map (some b)
 |_=>.slice (some ⟨b,0,none⟩) n (code-2)
def rowAt(md k:Nat):At:=match md with
 |0=>.own k
 |1=>.omap k
 |_=>.qR k
def ptr(b o:Nat):Value := .pointer (some ⟨b,o,none⟩)
def aW.den(U:Env)(β:Nat->Nat):aW->Value
 | .int k e=>.int k (e.den U)
 | .bool e=>.bool (e.den U)
 | .str l=>.string ⟨l.toArray⟩
 | .sv i=>.string ⟨(U.s i).toArray⟩
 | .eR=>.slice none 0 0
 | .gP k off len cap=>.slice (some ⟨β k,off,none⟩) len cap
 | .dD q p _ len cap=>if U.b q=true then .slice none 0 0 else .slice (some (iK (U.p p) (len.den U).toNat (cap.den U).toNat)) (len.den U).toNat (cap.den U).toNat
 | .own k=>cG (β k) (β (k+1)) (β (k+2)) (β (k+3))
def aW.wf(c:ar):aW->Bool
 | .int _ e=>e.wf c
 | .bool e=>e.wf c
 | .sv i=>decide (i<c.ns)
 | .gP k _ _ _=>decide (k<c.nk)
 | .dD q p _ l m=>decide (q<c.nb) && decide (p<c.np) && l.wf c && m.wf c
 | .own k=>decide (k+3<c.nk)
 |_=>true
def At.den(U:Env)(β:Nat->Nat):At->Value
 | .int k e=>.int k (e.den U)
 | .bool e=>.bool (e.den U)
 | .val i=>(U.v i).1
 | .str l=>.string ⟨l.toArray⟩
 | .sE=>.pointer none
 | .eR=>.slice none 0 0
 | .uJ=>.nilFunc
 | .pw=>.nilIface
 | .vV=>.map none
 | .loc k off=>.pointer (some ⟨β k,off,none⟩)
 | .gP k off len cap=>.slice (some ⟨β k,off,none⟩) len cap
 | .ext p ix sz c=>.pointer (some ⟨(U.p p).1,(U.p p).2+(ix.den U).toNat*sz+c,none⟩)
 | .mL p ix sz len cap=>.slice (some ⟨(U.p p).1,(U.p p).2+(ix.den U).toNat*sz,none⟩) (len.den U).toNat (cap.den U).toNat
 | .fn f aK=>.func (.func f) #[] (aK.map λc=>.pointer (some ⟨β c.1,c.2,none⟩)).toArray
 | .sv i=>.string ⟨(U.s i).toArray⟩
 | .dD q p _ len cap=>if U.b q=true then .slice none 0 0 else .slice (some (iK (U.p p) (len.den U).toNat (cap.den U).toNat)) (len.den U).toNat (cap.den U).toNat
 | .own k=>cG (β k) (β (k+1)) (β (k+2)) (β (k+3))
 | .fQ k ix sz c=>.pointer (some ⟨β k,(ix.den U).toNat*sz+c,none⟩)
 | .g_ f first aK=>.func (.func f) (first.map λc=>.pointer (some ⟨β c.1,c.2,none⟩)).toArray (aK.map λc=>.pointer (some ⟨β c.1,c.2,none⟩)).toArray
 | .sF k=>.func (.yield (β k)) #[] #[]
 | .omap k=>.map (some (β k))
 | .qR k=>.slice (some ⟨β k,0,none⟩) (β (k+2)) (β (k+1)-2)
 | .rT f first aK=>.func (.func f) #[.agg (first.map (aW.den U β)).toArray] (aK.map λc=>.pointer (some ⟨β c.1,c.2,none⟩)).toArray
theorem aW.vX(U:Env)(β:Nat->Nat)(x:aW):x.at.den U β=x.den U β:=by cases x<;>rfl
theorem Ko(U:Env)(β:Nat->Nat)(md k:Nat):(rowAt md k).den U β=ow md (β k) (β (k+1)) (β (k+2)) (β (k+3)):=by
 match md with
 |0=>rfl
 |1=>rfl
 |_+2=>rfl
theorem At.hJ(U:Env)(β:Nat->Nat):∀a:At,(a.den U β).oneCell'=true
 | .val i=>(U.v i).2
 | .dD q p _ len cap=>by simp only [At.den];split<;>rfl
 | .own k=>Km _ _ _ _
 | .sv .. | .fQ .. | .g_ .. | .sF .. | .omap .. | .qR .. | .rT .. => rfl
 | .int .. | .bool .. | .str .. | .sE | .eR | .uJ | .pw | .vV | .loc .. | .gP .. | .ext .. | .mL .. | .fn .. => rfl
def At.wf(c:ar):At->Bool
 | .int _ e=>e.wf c
 | .bool e=>e.wf c
 | .val i=>decide (i<c.nv)
 | .loc k _ | .gP k _ _ _=>decide (k<c.nk)
 | .ext p ix _ _=>decide (p<c.np) && ix.wf c
 | .mL p ix _ l m=>decide (p<c.np) && ix.wf c && l.wf c && m.wf c
 | .fn _ aK=>aK.all λx=>decide (x.1<c.nk)
 | .sv i=>decide (i<c.ns)
 | .dD q p _ l m=>decide (q<c.nb) && decide (p<c.np) && l.wf c && m.wf c
 | .own k | .omap k | .qR k=>decide (k+3<c.nk)
 | .fQ k ix _ _=>decide (k<c.nk) && ix.wf c
 | .g_ _ first aK=>(first.all λx=>decide (x.1<c.nk)) && aK.all λx=>decide (x.1<c.nk)
 | .sF k=>decide (k<c.nk)
 | .rT _ first aK=>(first.all λx=>x.wf c) && aK.all λx=>decide (x.1<c.nk)
 |_=>true
theorem aW.EA(c:ar)(x:aW):x.at.wf c=x.wf c:=by cases x<;>rfl
def At.flat:At->Bool
 | .loc .. | .gP .. | .own .. | .fQ .. | .g_ .. | .sF .. | .omap .. | .qR .. | .rT .. => false
 | .fn _ aK=>aK.isEmpty
 |_=>true
theorem aW.aa{c:ar}{U ag:Env}{β an:Nat->Nat}(h:Env.aC c U ag)(hb:∀k,k<c.nk->an k=β k):∀{a:aW},a.wf c=true->a.den ag an=a.den U β:=by
 intro a hw;cases a<;>simp only [aW.wf,Bool.and_eq_true,decide_eq_true_eq]at hw<;>simp only [aW.den]
 case int=>rw [IE.aa h hw]
 case bool=>rw [BE.aa h hw]
 case sv i=>rw [h.s i hw]
 case gP k o l m=>rw [hb k hw]
 case dD q p s l m=>rw [h.b q hw.1.1.1,h.p p hw.1.1.2,IE.aa h hw.1.2,IE.aa h hw.2]
 case own k=>rw [hb k (by omega),hb (k+1) (by omega),hb (k+2) (by omega),hb (k+3) (by omega)]
theorem aW.aU{c d:ar}(h:c.le d):∀{a:aW},a.wf c=true->a.wf d=true:=by
 intro a hw;cases a<;>simp only [aW.wf,Bool.and_eq_true,decide_eq_true_eq]at hw ⊢
 case int=>exact IE.aU h hw
 case bool=>exact BE.aU h hw
 case sv=>exact Nat.lt_of_lt_of_le hw h.s
 case gP=>exact Nat.lt_of_lt_of_le hw h.k
 case dD=>exact⟨⟨⟨Nat.lt_of_lt_of_le hw.1.1.1 h.b,Nat.lt_of_lt_of_le hw.1.1.2 h.p⟩,IE.aU h hw.1.2⟩,IE.aU h hw.2⟩
 case own=>exact Nat.lt_of_lt_of_le hw h.k
theorem At.aa{c:ar}{U ag:Env}{β an:Nat->Nat}(h:Env.aC c U ag)(hb:∀k,k<c.nk->an k=β k):∀{a:At},a.wf c=true->a.den ag an=a.den U β:=by
 intro a hw;cases a<;>simp only [At.wf,Bool.and_eq_true,decide_eq_true_eq]at hw<;>simp only [At.den]
 case int=>rw [IE.aa h hw]
 case bool=>rw [BE.aa h hw]
 case val i=>rw [h.v i hw]
 case loc k o=>rw [hb k hw]
 case gP k o l m=>rw [hb k hw]
 case ext p ix s e=>rw [h.p p hw.1,IE.aa h hw.2]
 case mL p ix s l m=>rw [h.p p hw.1.1.1,IE.aa h hw.1.1.2,IE.aa h hw.1.2,IE.aa h hw.2]
 case fn f aK =>
  congr 2;apply List.map_congr_left;intro x hx;rw [hb x.1 (by simpa using List.all_eq_true.1 hw x hx)]
 case sv i=>rw [h.s i hw]
 case dD q p s l m=>rw [h.b q hw.1.1.1,h.p p hw.1.1.2,IE.aa h hw.1.2,IE.aa h hw.2]
 case own k=>rw [hb k (by omega),hb (k+1) (by omega),hb (k+2) (by omega),hb (k+3) (by omega)]
 case fQ k ix s e=>rw [hb k hw.1,IE.aa h hw.2]
 case omap k=>rw [hb k (by omega)]
 case qR k=>rw [hb k (by omega),hb (k+1) (by omega),hb (k+2) (by omega)]
 case g_ f first aK =>
  congr 2
  ·apply List.map_congr_left;intro x hx;rw [hb x.1 (by simpa using List.all_eq_true.1 hw.1 x hx)]
  ·apply List.map_congr_left;intro x hx;rw [hb x.1 (by simpa using List.all_eq_true.1 hw.2 x hx)]
 case sF k=>rw [hb k hw]
 case rT f first aK =>
  have e1:first.map (aW.den ag an)=first.map (aW.den U β):=List.map_congr_left λx hx=>aW.aa h hb (List.all_eq_true.1 hw.1 x hx)
  have e2:(aK.map λc=>(.pointer (some ⟨an c.1,c.2,none⟩):Value))=aK.map λc=>.pointer (some ⟨β c.1,c.2,none⟩):=List.map_congr_left λx hx=>by rw [hb x.1 (by simpa using List.all_eq_true.1 hw.2 x hx)]
  rw [e1,e2]
theorem At.aU{c d:ar}(h:c.le d):∀{a:At},a.wf c=true->a.wf d=true:=by
 have mZ:∀{l:List (Nat × Nat)},(l.all λx=>decide (x.1<c.nk))=true->(l.all λx=>decide (x.1<d.nk))=true:=λhw =>
  List.all_eq_true.2 λx hx=>decide_eq_true (Nat.lt_of_lt_of_le (of_decide_eq_true (List.all_eq_true.1 hw x hx)) h.k)
 intro a hw;cases a<;>simp only [At.wf,Bool.and_eq_true,decide_eq_true_eq]at hw ⊢
 case int=>exact IE.aU h hw
 case bool=>exact BE.aU h hw
 case val i=>exact Nat.lt_of_lt_of_le hw h.v
 case loc=>exact Nat.lt_of_lt_of_le hw h.k
 case gP=>exact Nat.lt_of_lt_of_le hw h.k
 case ext=>exact⟨Nat.lt_of_lt_of_le hw.1 h.p,IE.aU h hw.2⟩
 case mL=>exact⟨⟨⟨Nat.lt_of_lt_of_le hw.1.1.1 h.p,IE.aU h hw.1.1.2⟩,IE.aU h hw.1.2⟩,IE.aU h hw.2⟩
 case fn=>exact mZ hw
 case sv=>exact Nat.lt_of_lt_of_le hw h.s
 case dD=>exact⟨⟨⟨Nat.lt_of_lt_of_le hw.1.1.1 h.b,Nat.lt_of_lt_of_le hw.1.1.2 h.p⟩,IE.aU h hw.1.2⟩,IE.aU h hw.2⟩
 case own=>exact Nat.lt_of_lt_of_le hw h.k
 case omap=>exact Nat.lt_of_lt_of_le hw h.k
 case qR=>exact Nat.lt_of_lt_of_le hw h.k
 case fQ=>exact⟨Nat.lt_of_lt_of_le hw.1 h.k,IE.aU h hw.2⟩
 case g_=>exact⟨mZ hw.1,mZ hw.2⟩
 case sF=>exact Nat.lt_of_lt_of_le hw h.k
 case rT f first aK=>exact⟨List.all_eq_true.2 λx hx=>aW.aU h (List.all_eq_true.1 hw.1 x hx),mZ hw.2⟩
def At.ofValue:Value->Option At
 | .bool b=>some (.bool (.lit b))
 | .int k n=>some (.int k (.lit n))
 | .string s=>some (.str s.data.toList)
 | .pointer none=>some .sE
 | .slice none 0 0=>some .eR
 | .nilFunc=>some .uJ
 | .nilIface=>some .pw
 | .map none=>some .vV
 | .func (.func f) first aK=>if first.size=0/\aK.size=0 then some (.fn f [])else none
 |_=>none
theorem At.cM{v:Value}{a:At}(h:At.ofValue v=some a)(c:ar)(U:Env)(β:Nat->Nat):a.wf c=true/\a.den U β=v:=by
  unfold At.ofValue at h
  split at h<;>first
    | (cases h;exact⟨rfl,rfl⟩)
    | (split at h
       · rename_i hs;cases h;refine⟨rfl, ?_⟩;obtain⟨h1,h2⟩:=hs;rw [Array.size_eq_zero_iff]at h1 h2;subst h1 h2;rfl
       · cases h)
    |cases h
inductive CV where
 |one (a:At)
 |agg (l:List At)
 deriving DecidableEq
def CV.den(U:Env)(β:Nat->Nat):CV->Value
 | .one a=>a.den U β
 | .agg l=>.agg (l.map (At.den U β)).toArray
def CV.wf(c:ar):CV->Bool
 | .one a=>a.wf c
 | .agg l=>l.all (At.wf c)
def CV.cells:CV->List At
 | .one a=>[a]
 | .agg l=>l
def CV.flat:CV->Bool
 | .one a=>a.flat
 | .agg l=>l.all At.flat
theorem yJ{c:ar}{U ag:Env}{β an:Nat->Nat}(h:Env.aC c U ag)(hb:∀k,k<c.nk->an k=β k){l:List At}(hw:l.all (At.wf c)=true) :
  l.map (At.den ag an)=l.map (At.den U β):=List.map_congr_left λx hx=>At.aa h hb (List.all_eq_true.1 hw x hx)
theorem CV.aa{c:ar}{U ag:Env}{β an:Nat->Nat}(h:Env.aC c U ag)(hb:∀k,k<c.nk->an k=β k):∀{a:CV},a.wf c=true->a.den ag an=a.den U β
 | .one a,hw=>At.aa h hb hw
 | .agg l,hw=>by simp only [CV.den,yJ h hb hw]
theorem BS{c d:ar}(h:c.le d){l:List At}(hw:l.all (At.wf c)=true):l.all (At.wf d)=true :=
 List.all_eq_true.2 λx hx=>At.aU h (List.all_eq_true.1 hw x hx)
theorem CV.aU{c d:ar}(h:c.le d):∀{a:CV},a.wf c=true->a.wf d=true
 | .one a,hw=>At.aU h hw
 | .agg l,hw=>BS h hw
inductive Kn where
 |jy (i:Nat) (t:TypeId) (v:CV)
 |ai (p g:Nat)
 deriving DecidableEq
def Kn.den(U:Env):Kn->Prop
 | .jy i t v=>(U.v i).1=.iface t (v.den U (λ_=>0))
 | .ai p g=>U.p p=(g,0)
def Kn.wf(c:ar):Kn->Bool
 | .jy i _ v=>decide (i<c.nv) && (v.wf c && v.flat)
 | .ai p _=>decide (p<c.np)
theorem Kn.aa{c:ar}{U ag:Env}(h:Env.aC c U ag):∀{x:Kn},x.wf c=true->x.den U->x.den ag
  | .jy i t v,hw,hd=>by
    simp only [Kn.wf,Bool.and_eq_true,decide_eq_true_eq]at hw;simp only [Kn.den]at hd ⊢;rw [h.v i hw.1,hd,CV.aa h (λ_ _=>rfl) hw.2.1]
  | .ai p g,hw,hd=>by
    simp only [Kn.wf,decide_eq_true_eq]at hw;simp only [Kn.den]at hd ⊢;rw [h.p p hw,hd]
theorem Kn.aU{c d:ar}(h:c.le d):∀{x:Kn},x.wf c=true->x.wf d=true
  | .jy i t v,hw=>by
    simp only [Kn.wf,Bool.and_eq_true,decide_eq_true_eq]at hw ⊢;exact⟨Nat.lt_of_lt_of_le hw.1 h.v,CV.aU h hw.2.1,hw.2.2⟩
  | .ai p g,hw=>by
    simp only [Kn.wf,decide_eq_true_eq]at hw ⊢;exact Nat.lt_of_lt_of_le hw h.p
abbrev cr:=List Kn
def cr.den(k:cr)(U:Env):Prop:=∀x∈k,x.den U
def cr.wf(k:cr)(c:ar):Prop:=∀x∈k,x.wf c=true
theorem cr.aa{k:cr}{c:ar}{U ag:Env}(h:Env.aC c U ag)(hw:cr.wf k c)(hd:cr.den k U):cr.den k ag:=λx hx=>Kn.aa h (hw x hx) (hd x hx)
theorem cr.aU{k:cr}{c d:ar}(h:c.le d)(hw:cr.wf k c):cr.wf k d:=λx hx=>Kn.aU h (hw x hx)
def oQ:cr->Nat->Option Nat
 | [],_=>none
 | .ai p g'::r,g=>if g'=g then some p else oQ r g
 |_::r,g=>oQ r g
def oR:cr->Nat->Option Nat
 | [],_=>none
 | .ai p' g::r,p=>if p'=p then some g else oR r p
 |_::r,p=>oR r p
def ga:cr->Nat->Option (TypeId × CV)
 | [],_=>none
 | .jy j t v::r,i=>if j=i then some (t,v)else ga r i
 |_::r,i=>ga r i
theorem Is:∀{k:cr} {g p:Nat},oQ k g=some p->Kn.ai p g∈k
  | [],_,_,h=>by cases h
  | .ai p' g'::r,g,p,h=>by
    simp only [oQ]at h;split at h
    · rename_i he;cases h;subst he;exact List.mem_cons_self ..
    · exact List.mem_cons_of_mem _ (Is h)
  | .jy .. :: r,g,p,h=>List.mem_cons_of_mem _ (Is (k:=r) h)
theorem Kp:∀{k:cr} {g p:Nat},oR k p=some g->Kn.ai p g∈k
  | [],_,_,h=>by cases h
  | .ai p' g'::r,g,p,h=>by
    simp only [oR]at h;split at h
    · rename_i he;cases h;subst he;exact List.mem_cons_self ..
    · exact List.mem_cons_of_mem _ (Kp h)
  | .jy .. :: r,g,p,h=>List.mem_cons_of_mem _ (Kp (k:=r) h)
theorem BU:∀{k:cr} {i:Nat} {t:TypeId} {v:CV},ga k i=some (t,v)->Kn.jy i t v∈k
  | [],_,_,_,h=>by cases h
  | .jy j t' v'::r,i,t,v,h=>by
    simp only [ga]at h;split at h
    · rename_i he;cases h;subst he;exact List.mem_cons_self ..
    · exact List.mem_cons_of_mem _ (BU h)
  | .ai .. :: r,i,t,v,h=>List.mem_cons_of_mem _ (BU (k:=r) h)
inductive SV where
 |any
 |dX
 |cv (c:CV)
 |cS (l:List CV)
 deriving DecidableEq
def SV.den(U:Env)(β:Nat->Nat):SV->Value
 | .any=>undef
 | .dX=>undef
 | .cv c=>c.den U β
 | .cS l=>.tuple (l.map (CV.den U β)).toArray
def SV.wf(c:ar):SV->Bool
 | .any=>true
 | .dX=>true
 | .cv x=>x.wf c
 | .cS l=>l.all (CV.wf c)
theorem SV.aa{c:ar}{U ag:Env}{β an:Nat->Nat}(h:Env.aC c U ag)(hb:∀k,k<c.nk->an k=β k):∀{a:SV},a.wf c=true->a.den ag an=a.den U β
  | .any,_=>rfl
  | .dX,_=>rfl
  | .cv a,hw=>CV.aa h hb hw
  | .cS l,hw=>by
    simp only [SV.den];rw [List.map_congr_left λx hx=>CV.aa h hb (List.all_eq_true.1 hw x hx)]
theorem SV.aU{c d:ar}(h:c.le d):∀{a:SV},a.wf c=true->a.wf d=true
 | .any,_=>rfl
 | .dX,_=>rfl
 | .cv a,hw=>CV.aU h hw
 | .cS l,hw=>List.all_eq_true.2 λx hx=>CV.aU h (List.all_eq_true.1 hw x hx)
def lX:List Value->Option (List At)
  | []=>some []
  |v::l=>match At.ofValue v,lX l with
    |some a,some r=>some (a::r)
    |_,_=>none
theorem Sn:∀{l:List Value} {r:List At} (_:lX l=some r) (c:ar) (U:Env) (β:Nat->Nat),r.all (At.wf c)=true/\r.map (At.den U β)=l
  | [],r,h,_,_,_=>by simp only [lX,Option.some.injEq]at h;subst h;exact⟨rfl,rfl⟩
  |v::l,r,h,c,U,β=>by
    simp only [lX]at h;split at h
    · rename_i a r' ha hr;simp only [Option.some.injEq]at h;subst h;obtain⟨h1,h2⟩:=At.cM ha c U β;obtain⟨h3,h4⟩:=Sn hr c U β;exact⟨by simp only [List.all_cons,h1,h3,Bool.and_self],by simp only [List.map_cons,h2,h4]⟩
    · cases h
def SV.ofValue:Value->SV
  | .agg cs=>match lX cs.toList with
    |some l=>.cv (.agg l)
    |none=>.any
  |v=>match At.ofValue v with
    |some a=>.cv (.one a)
    |none=>.any
theorem SV.cM(v:Value)(c:ar)(U:Env)(β:Nat->Nat):(SV.ofValue v).wf c=true/\(SV.ofValue v ≠ .any->(SV.ofValue v).den U β=v):=by
 unfold SV.ofValue;split
 ·split
  ·rename_i cs l h;obtain⟨h1,h2⟩:=Sn h c U β;exact⟨h1,λ_=>by simp only [SV.den,CV.den,h2,Array.toArray_toList]⟩
  ·exact⟨rfl,λh=>(h rfl).elim⟩
 ·split
  ·rename_i a h;obtain⟨h1,h2⟩:=At.cM h c U β;exact⟨h1,λ_=>h2⟩
  ·exact⟨rfl,λh=>(h rfl).elim⟩
inductive Sg where
 |cu (l:List At)
 |var (i:Nat)
 deriving DecidableEq
abbrev CE:=List Sg
def Sg.den(U:Env)(β:Nat->Nat):Sg->List Value
 | .cu l=>l.map (At.den U β)
 | .var i=>(U.l i).map (·.1)
def aq(U:Env)(β:Nat->Nat):CE->List Value
 | []=>[]
 |s::r=>s.den U β++aq U β r
def Sg.wf(c:ar):Sg->Bool
 | .cu l=>l.all (At.wf c)
 | .var i=>decide (i<c.nl)
def cw(c:ar)(l:CE):Bool:=l.all (Sg.wf c)
def m9:CE->Nat
 | []=>0
 | .cu l::r=>l.length+m9 r
 | .var _::r=>m9 r
def kz:CE->List Nat
 | []=>[]
 | .cu _::r=>kz r
 | .var i::r=>i::kz r
def eo:CE->Option (List At)
 | []=>some []
 | .cu l::r=>(eo r).map (l ++ ·)
 | .var _::_=>none
def cT:CE->CE->CE
 | [],y=>y
 | [.cu l],.cu l'::y=>.cu (l++l')::y
 |s::r,y=>s::cT r y
theorem Sg.aa{c:ar}{U ag:Env}{β an:Nat->Nat}(h:Env.aC c U ag)(hb:∀k,k<c.nk->an k=β k):∀{s:Sg},s.wf c=true->s.den ag an=s.den U β
 | .cu l,hw=>yJ h hb hw
 | .var i,hw=>by simp only [Sg.den];rw [h.l i (by simpa [Sg.wf]using hw)]
theorem vC{c:ar}{U ag:Env}{β an:Nat->Nat}(h:Env.aC c U ag)(hb:∀k,k<c.nk->an k=β k):∀{l:CE},cw c l=true->aq ag an l=aq U β l
  | [],_=>rfl
  |s::r,hw=>by
    simp only [cw,List.all_cons,Bool.and_eq_true]at hw;simp only [aq,Sg.aa h hb hw.1,vC h hb (l:=r) hw.2]
theorem Sg.aU{c d:ar}(h:c.le d):∀{s:Sg},s.wf c=true->s.wf d=true
 | .cu l,hw=>BS h hw
 | .var i,hw=>by simp [Sg.wf]at hw ⊢;exact Nat.lt_of_lt_of_le hw h.l
theorem BV{c d:ar}(h:c.le d){l:CE}(hw:cw c l=true):cw d l=true :=
 List.all_eq_true.2 λs hs=>Sg.aU h (List.all_eq_true.1 hw s hs)
theorem EB(U:Env)(β:Nat->Nat):∀(x y:CE),aq U β (cT x y)=aq U β x++aq U β y
  | [],y=>rfl
  | [.cu l],[]=>by simp [cT,aq]
  | [.cu l],.cu l'::y=>by simp [cT,aq,Sg.den]
  | [.cu l],.var i::y=>by simp [cT,aq]
  | [.var i],y=>by simp [cT,aq]
  | .cu l::t::r,y=>by
    have:=EB U β (t::r) y
    simp only [cT,aq,List.append_assoc]at this ⊢;rw [this]
  | .var i::t::r,y=>by
    have:=EB U β (t::r) y
    simp only [cT,aq,List.append_assoc]at this ⊢;rw [this]
theorem Kq(c:ar):∀(x y:CE),cw c x=true->cw c y=true->cw c (cT x y)=true
  | [],y,_,hy=>hy
  | [.cu l],[],hx,_=>hx
  | [.cu l],.cu l'::y,hx,hy=>by
    simp only [cw,List.all_cons,List.all_nil,Bool.and_true,Bool.and_eq_true,Sg.wf,cT,List.all_append]at *;exact⟨⟨hx,hy.1⟩,hy.2⟩
  | [.cu l],.var i::y,hx,hy=>by
    simp only [cw,List.all_cons,List.all_nil,Bool.and_true,Bool.and_eq_true,cT]at *;exact⟨hx,hy⟩
  | [.var i],y,hx,hy=>by
    simp only [cw,List.all_cons,List.all_nil,Bool.and_true,Bool.and_eq_true,cT]at *;exact⟨hx,hy⟩
  | .cu l::t::r,y,hx,hy=>by
    have h1:cw c (t::r)=true:=by simp only [cw,List.all_cons,Bool.and_eq_true]at hx ⊢;exact hx.2
    have:=Kq c (t::r) y h1 hy
    simp only [cw,cT,List.all_cons,Bool.and_eq_true]at hx this ⊢;exact⟨hx.1,this⟩
  | .var i::t::r,y,hx,hy=>by
    have h1:cw c (t::r)=true:=by simp only [cw,List.all_cons,Bool.and_eq_true]at hx ⊢;exact hx.2
    have:=Kq c (t::r) y h1 hy
    simp only [cw,cT,List.all_cons,Bool.and_eq_true]at hx this ⊢;exact⟨hx.1,this⟩
theorem Kr(U:Env)(β:Nat->Nat):∀(x:CE),(aq U β x).length=m9 x+((kz x).map λj=>(U.l j).length).sum
 | []=>rfl
 | .cu l::r=>by simp only [aq,Sg.den,List.length_append,List.length_map,m9,kz,Kr U β r];omega
 | .var i::r=>by simp only [aq,Sg.den,List.length_append,List.length_map,m9,kz,Kr U β r,List.map_cons,List.sum_cons];omega
theorem EC(U:Env)(β:Nat->Nat):∀{x:CE} {l:List At},eo x=some l->aq U β x=l.map (At.den U β)
  | [],l,h=>by simp only [eo,Option.some.injEq]at h;subst h;rfl
  | .cu a::r,l,h=>by
    simp only [eo,Option.map_eq_some_iff]at h;obtain⟨l',h1,rfl⟩:=h;simp only [aq,Sg.den,EC U β h1,List.map_append]
  | .var _::_,l,h=>by simp [eo]at h
theorem vY(U:Env)(β:Nat->Nat):∀(x:CE),∀v∈aq U β x,v.oneCell'=true
  | [],v,h=>by cases h
  | .cu l::r,v,h=>by
    simp only [aq,Sg.den,List.mem_append,List.mem_map]at h;rcases h with ⟨a,_,rfl⟩|h
    · exact At.hJ U β a
    · exact vY U β r v h
  | .var i::r,v,h=>by
    simp only [aq,Sg.den,List.mem_append,List.mem_map]at h;rcases h with ⟨a,_,rfl⟩|h
    · exact a.2
    · exact vY U β r v h
def qS:Value->UInt8
 | .int _ n=>UInt8.ofNat n.toNat
 |_=>0
inductive SP where
 |cat (a b:SE)
 |sub (s:SE) (l h:IE)
 |row (ce:CE)
 deriving DecidableEq
def SP.den(U:Env):SP->List UInt8
 | .cat a b=>a.den U++b.den U
 | .sub s l h=>((s.den U).drop (l.den U).toNat).take ((h.den U).toNat-(l.den U).toNat)
 | .row ce=>(aq U (λ_=>0) ce).map qS
def SP.ok(U:Env):SP->Prop
 | .cat a b=>(a.den U).length+(b.den U).length<=9223372036854775807
 | .sub s l h=>0<=l.den U/\l.den U<=h.den U/\h.den U<=((s.den U).length:Int)
 | .row ce=>∀v∈aq U (λ_=>0) ce,∃n:Int,v=.int .u8 n
def BW:List At->Bool
 | []=>true
 | .int _ (.lit _)::r=>BW r
 |_=>false
def lY:List At->Bool
 | []=>true
 | .int k (.lit _)::r=>decide (k=.u8) && lY r
 |_=>false
def SP.lits:SP->Bool
 | .cat (.lit _) (.lit _)=>true
 | .sub (.lit _) (.lit _) (.lit _)=>true
 | .row [.cu l]=>lY l
 | .row []=>true
 |_=>false
def SP.okB:SP->Bool
 | .cat (.lit a) (.lit b)=>decide (a.length+b.length<=9223372036854775807)
 | .sub (.lit s) (.lit l) (.lit h)=>decide (0<=l) && decide (l<=h) && decide (h<=(s.length:Int))
 | .row _=>true
 |_=>false
theorem So{U ag:Env}{β:Nat->Nat}:∀{l:List At},lY l=true->l.map (At.den U β)=l.map (At.den ag β)/\∀v∈l.map (At.den U β),∃n:Int,v=.int .u8 n
  | [],_=>⟨rfl,λv h=>by cases h⟩
  | .int k (.lit n)::r,h=>by
    simp only [lY,Bool.and_eq_true,decide_eq_true_eq]at h;obtain⟨h1,h2⟩:=So (U:=U) (ag:=ag) (β:=β) h.2;refine⟨by simp only [List.map_cons,h1,At.den,IE.den],λv hv => ?_⟩;simp only [List.map_cons,List.mem_cons]at hv;rcases hv with rfl|hv
    · exact⟨n,by simp only [At.den,IE.den,h.1]⟩
    · exact h2 v hv
  | .int k (.var _)::r,h=>by simp [lY]at h
  | .bool _::_,h | .val _::_,h | .str _::_,h | .sE::_,h | .eR::_,h | .uJ::_,h | .pw::_,h | .vV::_,h=>by simp [lY]at h
  | .loc .. :: _,h | .gP .. :: _,h | .ext .. :: _,h | .mL .. :: _,h | .fn .. :: _,h | .sv .. :: _,h | .dD .. :: _,h | .own .. :: _,h=>by simp [lY]at h
  | .fQ .. :: _,h | .g_ .. :: _,h | .sF .. :: _,h | .omap .. :: _,h | .qR .. :: _,h | .rT .. :: _,h=>by simp [lY]at h
theorem SP.qT{U ag:Env}:∀{p:SP},p.lits=true->p.okB=true->p.den U=p.den ag/\p.ok U
  | .cat (.lit a) (.lit b),_,h=>⟨rfl,by simpa only [SP.okB,SP.ok,SE.den,decide_eq_true_eq]using h⟩
  | .sub (.lit s) (.lit l) (.lit h),_,ho=>by
    simp only [SP.okB,Bool.and_eq_true,decide_eq_true_eq]at ho;exact⟨rfl,ho.1.1,ho.1.2,ho.2⟩
  | .row [.cu l],h,_=>by
    obtain⟨h1,h2⟩:=So (U:=U) (ag:=ag) (β:=λ_=>0) (l:=l) h;exact⟨by simp only [SP.den,aq,Sg.den,h1],λv hv=>h2 v (by simpa [aq,Sg.den]using hv)⟩
  | .row [],_,_=>⟨rfl,λv hv=>by cases hv⟩
  | .cat (.var _) _,h,_ | .cat (.lit _) (.var _),h,_=>by simp [SP.lits]at h
  | .sub (.var _) _ _,h,_ | .sub (.lit _) (.var _) _,h,_ | .sub (.lit _) (.lit _) (.var _),h,_=>by simp [SP.lits]at h
  | .row (.var _::_),h,_ | .row (.cu _::_::_),h,_=>by simp [SP.lits]at h
def SP.wf(c:ar):SP->Bool
 | .cat a b=>a.wf c && b.wf c
 | .sub s l h=>s.wf c && l.wf c && h.wf c
 | .row ce=>cw c ce
theorem SP.aC{c:ar}{U ag:Env}(h:Env.aC c U ag):∀{p:SP},p.wf c=true->p.den ag=p.den U/\(p.ok U->p.ok ag)
  | .cat a b,hw=>by
    simp only [SP.wf,Bool.and_eq_true]at hw;simp only [SP.den,SP.ok,SE.aa h hw.1,SE.aa h hw.2];exact⟨trivial,λh=>h⟩
  | .sub s l e,hw=>by
    simp only [SP.wf,Bool.and_eq_true]at hw;simp only [SP.den,SP.ok,SE.aa h hw.1.1,IE.aa h hw.1.2,IE.aa h hw.2];exact⟨trivial,λh=>h⟩
  | .row ce,hw=>by
    simp only [SP.den,SP.ok,vC (β:=λ_=>0) (an:=λ_=>0) h (λ_ _=>rfl) (show cw c ce=true from hw)];exact⟨trivial,λh=>h⟩
end Vc
set_option linter.unusedVariables false
namespace Vc
open Go Go.RowKit
inductive CK where
 |int (k:IntKind)
 |bool
 |vD
 |str
 |sl (sz:Nat)
 |own (sz:Nat) (t:TypeId)
 deriving DecidableEq
abbrev Mem:=List (Nat × List At × TypeId)
abbrev bA:=List (Nat × CE × Nat × TypeId)
inductive LP where
 |set (ce:CE) (ix:IE) (sz off:Nat) (l:List At)
 |rep (n:IE) (l:List At)
 |qR (i:Nat)
 deriving DecidableEq
inductive LH where
 |kA
 |inv (cells:List (Nat × Nat)) (bx kill:List Nat)
 |Ks (qU cells:List (Nat × Nat)) (bx kill:List Nat)
 |uK (alts:List (List (Nat × Nat))) (cells:List (Nat × Nat)) (bx kill:List Nat)
inductive Ex where
 |normal
 |exit (id:Nat)
 |ret
 |jz (i:Nat)
 deriving DecidableEq
structure St where
 t:List (Nat × SV)
 n:Nat
 m:Mem
 c:ar
 o:bA := []
 r:List (Nat × Option Ex) := []
 d:List Nat := []
 k:cr := []
 df:List (FuncId × List (Nat × Nat)) := []
 deriving DecidableEq
inductive Ask where
 |ai (g:Nat) (cs:List At) (t:TypeId)
 |jy (n:Nat) (t:TypeId) (v:CV)
 |call (f:FuncId) (args:List SV) (m:Mem) (o:bA) (r:SV)
 |oS (f:FuncId) (args:List SV) (r:SV)
 |qV (f:FuncId) (args:List SV) (m:Mem) (o:bA) (k:Nat) (ce:CE) (sz:Nat) (t:TypeId)
structure fG where
 n:Nat
 f:FuncId
 args:List SV
 s:St
 asks:List Ask
 v:SV
 s':St
structure bV where
 P:Program
 calls:List FuncId
 ext:List FuncId
 inl:List FuncId
 loops:List (Nat × LH)
 ba:List (Nat × List At × TypeId) := []
 jm:List fG := []
 marks:List FuncId := []
structure bX(R:Type) where
 fail:String->R
 fin:SV->Mem->bA->R
 int:Nat->IP->R->R
 sG:BE->R->R
 ite:BE->R->R->R
 call:FuncId->List SV->Mem->bA->List At->SV->R->R
 oS:FuncId->List SV->List At->SV->R->R
 load:At->Nat->IE->Nat->Nat->R->R
 loop:bA->List At->bA->List At->((bA->List At->R)->R)->R
 rd:At->CE->IE->Nat->Nat->R->R
 uL:Nat->LP->R->R
 It:Nat->At->Nat->R->R
 Kt:SV->Mem->bA->List TypeId->R
 AE:FuncId->List SV->Mem->bA->List (Nat × List At × TypeId)->List At->SV->R->R
 str:Nat->SP->R->R
 Ku:SV->bA->Nat->TypeId->R
 AF:FuncId->List SV->Mem->bA->Nat->Nat->Nat->TypeId->List At->SV->R->R
 ai:Nat->List At->TypeId->R->R
 jy:Nat->TypeId->CV->R->R
 alt:R->R->R
 AG:FuncId->List SV->Mem->bA->List Nat->List At->TypeId->CV->Nat->R->R
 BX:Nat->R
 qV:FuncId->List SV->Mem->bA->Nat->CE->Nat->TypeId->R->R
 ED:Nat->CE->List At->List CK->Nat->R->R
 mark:Option Nat->FuncId->List SV->St->R->R
def ay:List (Nat × SV)->Nat->SV
  | [],_=>.any
  |p::r,i=>match Nat.beq p.1 i with
    |true=>p.2
    |false=>ay r i
def getM:Mem->Nat->Option (List At × TypeId)
 | [],_=>none
 | (j,v)::r,i=>if j=i then some v else getM r i
def jA:Mem->Nat->List At->Mem
 | [],_,_=>[]
 | (j,v)::r,i,cs=>if j=i then (j,cs,v.2)::r else (j,v)::jA r i cs
def aO:bA->Nat->Option (CE × Nat × TypeId)
 | [],_=>none
 | (j,v)::r,i=>if j=i then some v else aO r i
def uM:bA->Nat->bA
 | [],_=>[]
 | (j,v)::r,i=>if j=i then uM r i else (j,v)::uM r i
def bZ:bA->List Nat->bA
 |o,[]=>o
 |o,k::l=>bZ (uM o k) l
def Sg.flat:Sg->Bool
 | .cu l=>l.all At.flat
 | .var _=>true
def gG(l:CE):Bool:=l.all Sg.flat
def St.ev(st:St):Operand->SV
  | .tmp t=>ay st.t t
  | .const v=>SV.ofValue v
  | .global g=>match oQ st.k g with
    |some p=>.cv (.one (.ext p (.lit 0) 0 0))
    |none=>.any
  | .func f=>.cv (.one (.fn f []))
variable {R:Type}
def Ask.run(A:bX R):Ask->R->R
 | .ai g cs t,k=>A.ai g cs t k
 | .jy n t v,k=>A.jy n t v k
 | .call f args m o r,k=>A.call f args m o [] r k
 | .oS f args r,k=>A.oS f args [] r k
 | .qV f args m o k' ce sz t,k=>A.qV f args m o k' ce sz t k
def jB(A:bX R):List Ask->R->R
 | [],k=>k
 |a::l,k=>a.run A (jB A l k)
def jN(n:Nat)(f:FuncId)(args:List SV)(s:St):List fG->Option fG
  | []=>none
  |e::r=>match Nat.beq e.f f && Nat.beq e.n n with
    |true=>if e.args=args/\e.s=s then some e else jN n f args s r
    |false=>jN n f args s r
theorem Kv{n:Nat}{f:FuncId}{args:List SV}{s:St}:∀{l:List fG} {e:fG},jN n f args s l=some e->e∈l/\e.n=n/\e.f=f/\e.args=args/\e.s=s
  | [],e,h=>by cases h
  |x::r,e,h=>by
    unfold jN at h;cases hb:Nat.beq x.f f && Nat.beq x.n n with
    |true =>
      rw [hb]at h;simp only at h;rw [Bool.and_eq_true]at hb;split at h
      · rename_i hc;cases h;exact⟨by simp,Nat.eq_of_beq_eq_true hb.2,Nat.eq_of_beq_eq_true hb.1,hc.1,hc.2⟩
      · obtain⟨h1,h2⟩:=Kv h;exact⟨List.mem_cons_of_mem _ h1,h2⟩
    |false =>
      rw [hb]at h;obtain⟨h1,h2⟩:=Kv h;exact⟨List.mem_cons_of_mem _ h1,h2⟩
def lZ{α:Type}(l:List α)(K:List α->R):R :=
 match l with
 | []=>K []
 |a::r=>K (a::r)
def lE(n:Nat)(K:Nat->R):R :=
 match n with
 |0=>K 0
 |k+1=>K (Nat.succ k)
theorem Kw{α:Type}(l:List α)(K:List α->R):lZ l K=K l:=by cases l<;>rfl
theorem Iu(n:Nat)(K:Nat->R):lE n K=K n:=by cases n<;>rfl
def St.norm(st:St)(K:St->R):R :=
  match st with
  |⟨t,n,m,c,o,r,d,k,df⟩=>match c with
    |⟨ni,nb,nv,np,nk,ns,nl⟩ =>
      lZ t λt=>lE n λn=>lZ m λm=>lE ni λni=>lE nb λnb=>lE nv λnv=>lE np λnp=>lE nk λnk=>lE ns λns=>lE nl λnl =>
        lZ o λo=>lZ r λr=>lZ d λd=>lZ k λk=>lZ df λdf=>K ⟨t,n,m,⟨ni,nb,nv,np,nk,ns,nl⟩,o,r,d,k,df⟩
theorem St.norm_eq(st:St)(K:St->R):st.norm K=K st:=by
 obtain⟨t,n,m,⟨ni,nb,nv,np,nk,ns,nl⟩,o,r,d,k,df⟩:=st;simp only [St.norm,Kw,Iu]
def oT{α:Type}(K:List α->R):List α->List α->R
 | [],acc=>K acc
 |a::r,acc=>oT K r (a::acc)
def gw{α:Type}(K:List α->R):List α->List α->R
 | [],acc=>oT K acc []
 |a::r,acc=>gw K r (a::acc)
theorem Iv{α:Type}(K:List α->R):∀(l acc:List α),oT K l acc=K (l.reverse++acc)
 | [],acc=>rfl
 |a::r,acc=>by rw [oT,Iv K r];simp
theorem Sp{α:Type}(K:List α->R):∀(l acc:List α),gw K l acc=K (acc.reverse++l)
 | [],acc=>by rw [gw,Iv]
 |a::r,acc=>by rw [gw,Sp K r];simp
theorem Iw{α:Type}(K:List α->R)(l:List α):gw K l []=K l:=by rw [Sp];rfl
def kQ(z:Int)(K:Int->R):R :=
 match z with
 | .ofNat n=>lE n λn=>K (.ofNat n)
 | .negSucc n=>lE n λn=>K (.negSucc n)
theorem Sq(z:Int)(K:Int->R):kQ z K=K z:=by cases z<;>(unfold kQ;simp only [Iu])
def px(e:BE)(K:BE->R):R :=
 match e with
 | .lit true=>K (.lit true)
 | .lit false=>K (.lit false)
 |e=>K e
theorem Kx(e:BE)(K:BE->R):px e K=K e:=by unfold px;split<;>rfl
def pz(v:SV)(K:SV->R):R :=
 match v with
 | .cv (.one (.bool e))=>px e λe=>K (.cv (.one (.bool e)))
 | .cv (.agg l)=>gw (λl=>K (.cv (.agg l))) l []
 |v=>K v
theorem Ky(v:SV)(K:SV->R):pz v K=K v:=by
 unfold pz;split
 ·exact Kx _ _
 ·exact Iw _ _
 ·rfl
def kR(s i:Nat):Bool:=Nat.beq (Nat.land (Nat.shiftRight s i) 1) 1
def gd:Nat->List (Nat × SV)->List (Nat × SV)
  |_,[]=>[]
  |s,p::r=>match kR s p.1 with
    |true=>gd s r
    |false=>p::gd (Nat.lor s (Nat.shiftLeft 1 p.1)) r
def oU(K:List (Nat × SV)->R):List (Nat × SV)->Nat->List (Nat × SV)->R
  | [],_,acc=>oT K acc []
  |p::r,s,acc=>match kR s p.1 with
    |true=>oU K r s acc
    |false=>lE (Nat.lor s (Nat.shiftLeft 1 p.1)) λs=>oU K r s (p::acc)
theorem Kz(K:List (Nat × SV)->R):∀(l:List (Nat × SV)) (s:Nat) (acc:List (Nat × SV)),oU K l s acc=K (acc.reverse++gd s l)
  | [],s,acc=>by rw [oU,Iv,gd]
  |p::r,s,acc=>by
    rw [oU,gd];cases kR s p.1 with
    |true=>exact Kz K r s acc
    |false=>simp only [Iu,Kz K r];simp
def St.vZ(st:St)(K:St->R):R:=oU (λt=>K {st with t:=t}) st.t 0 []
theorem St.yK(st:St)(K:St->R):st.vZ K=K {st with t:=gd 0 st.t}:=by
 unfold St.vZ;rw [Kz];rfl
theorem KA(s i:Nat):kR s i=s.testBit i:=by
 have h:Nat.land (Nat.shiftRight s i) 1=(s >>> i) % 2:=Nat.and_one_is_mod _;unfold kR;rw [h,Nat.testBit,Nat.one_and_eq_mod_two];rcases Nat.mod_two_eq_zero_or_one (s >>> i)with h|h<;>rw [h]<;>rfl
theorem KB(s i j:Nat):kR (Nat.lor s (Nat.shiftLeft 1 i)) j=(kR s j || decide (i=j)):=by
 rw [KA,KA];show (s ||| 1 <<< i).testBit j=_;rw [Nat.testBit_or,Nat.testBit_shiftLeft];by_cases h:i=j
 ·subst h;simp
 ·by_cases h2:i<=j
  ·have:(1:Nat).testBit (j-i)=false:=by
    obtain⟨d,hd⟩:∃d,j-i=d+1:=⟨j-i-1,by omega⟩;rw [hd,Nat.testBit_succ];simp
   simp [h,h2,this]
  ·simp [h,h2]
theorem KC(i:Nat):∀(l:List (Nat × SV)) (s:Nat),ay (gd s l) i=if kR s i=true then .any else ay l i
  | [],s=>by rw [gd,ay];split<;>rfl
  |p::r,s=>by
    rw [gd]
    have hc:∀q,ay (p::q) i=if p.1=i then p.2 else ay q i:=λq=>by
      show (match Nat.beq p.1 i with|true=>p.2|false=>ay q i)=_;cases h:Nat.beq p.1 i with
      |true=>rw [if_pos (Nat.eq_of_beq_eq_true h)]
      |false=>rw [if_neg (Nat.ne_of_beq_eq_false h)]
    cases hb:kR s p.1 with
    |true =>
      show ay (gd s r) i=_;rw [KC i r s,hc];by_cases h:p.1=i
      · rw [<-h,hb];simp
      · rw [if_neg h]
    |false =>
      show ay (p::gd (Nat.lor s (Nat.shiftLeft 1 p.1)) r) i=_;rw [hc,hc,KC i r,KB];by_cases h:p.1=i
      · rw [if_pos h,if_pos h,<-h,hb];simp
      · simp [h]
theorem Sr(t:List (Nat × SV))(i:Nat):ay (gd 0 t) i=ay t i:=by
 rw [KC,KA];simp
def St.KD(st:St)(c:ar)(K:St->R):R :=
  match st with
  |⟨t,n,m,_,o,r,d,k,df⟩=>match c with
    |⟨ni,nb,nv,np,nk,ns,nl⟩=>K ⟨t,n,m,⟨ni,nb,nv,np,nk,ns,nl⟩,o,r,d,k,df⟩
def St.EE(st:St)(x:Nat × SV)(c:ar)(K:St->R):R :=
  match st with
  |⟨t,n,m,_,o,r,d,k,df⟩=>match c with
    |⟨ni,nb,nv,np,nk,ns,nl⟩=>K ⟨x::t,n,m,⟨ni,nb,nv,np,nk,ns,nl⟩,o,r,d,k,df⟩
def DH(a b:IntKind):Bool:=Nat.beq a.ctorIdx b.ctorIdx
theorem EF(a b:IntKind):DH a b=true↔a=b:=by cases a<;>cases b<;>decide
def v_(v:SV)(K:SV->R):R :=
 match v with
 | .cv c=>K (.cv c)
 | .cS l=>K (.cS l)
 | .any=>K .any
 | .dX=>K .dX
theorem KE(v:SV)(K:SV->R):v_ v K=K v:=by cases v<;>rfl
def oV(K:List (Nat × SV)->R):List SV->Nat->List (Nat × SV)->R
 | [],_,acc=>oT K acc []
 |v::r,i,acc=>v_ v λv=>lE (i+1) λj=>oV K r j ((i,v)::acc)
theorem Ss(K:List (Nat × SV)->R):∀(l:List SV) (i:Nat) (acc:List (Nat × SV)),oV K l i acc=K (acc.reverse++(List.range' i l.length).zip l)
  | [],i,acc=>by rw [oV,Iv];simp
  |v::r,i,acc=>by
    rw [oV,KE,Iu,Ss K r];simp [List.range'_succ]
theorem KF(K:List (Nat × SV)->R)(l:List SV):oV K l 0 []=K ((List.range l.length).zip l):=by
 rw [Ss,List.range_eq_range'];rfl
def St.put(A:bX R)(st:St)(dst:Option Tmp)(v:SV)(c:ar)(K:St->R):R :=
  match dst with
  |none=>st.KD c K
  |some d=>match Nat.blt d st.n with
    |true=>match v.wf c with
      |true=>pz v λv=>st.EE (d,v) c K
      |false => A.fail "put"
    |false => A.fail "put"
def aQ(P:Program)(t:TypeId):Option (Bool × Nat) :=
 match P.underlying t,P.info? t with
 |some d,some i=>some (match d with | .struct _ | .array _ _=>true|_=>false,i.size)
 |_,_=>none
def pieces{α:Type}(f:α->Option (List CK)):List α->Option (List CK)
  | []=>some []
  |x::l=>match f x,pieces f l with
    |some a,some b=>some (a++b)
    |_,_=>none
def times{α:Type}(l:List α):Nat->List α
 |0=>[]
 |n+1=>l++times l n
def wc(P:Program):Nat->TypeId->Option (List CK)
  |0,_=>none
  |n+1,t=>match P.underlying t with
    |some (.int k)=>some [.int k]
    |some .bool=>some [.bool]
    |some (.struct fs)=>pieces (λf=>wc P n f.type) fs.toList
    |some (.array m e)=>(wc P n e).map (times · m)
    |some .string=>some [.str]
    |some (.slice e)=>match aQ P e with
      |some (_,s)=>some [.sl s]
      |none=>none
    |some _=>some [.vD]
    |none=>none
def bF(c:ar):CK->At
 | .int k=>.int k (.var c.ni)
 | .bool=>.bool (.var c.nb)
 | .vD=>.val c.nv
 | .str=>.sv c.ns
 | .sl sz=>.dD c.nb c.np sz (.var c.ni) (.var (c.ni+1))
 | .own _ _=>.own c.nk
def bj(c:ar):CK->ar
 | .int _ => {c with ni:=c.ni+1}
 | .bool => {c with nb:=c.nb+1}
 | .vD => {c with nv:=c.nv+1}
 | .str => {c with ns:=c.ns+1}
 | .sl _ => {c with nb:=c.nb+1,np:=c.np+1,ni:=c.ni+2}
 | .own _ _ => {c with nk:=c.nk+4,nl:=c.nl+1}
def CK.plain:CK->Bool
 | .own .. => false
 |_=>true
def av(c:ar):List CK->List At
 | []=>[]
 |k::l=>bF c k::av (bj c k) l
def aY(c:ar):List CK->ar
 | []=>c
 |k::l=>aY (bj c k) l
def bu(c:ar):List CK->bA
 | []=>[]
 | .own sz t::l=>(c.nk,[.var c.nl],sz,t)::bu (bj c (.own sz t)) l
 |k::l=>bu (bj c k) l
def iA(P:Program):List TypeId->Option (List (Bool × List CK))
  | []=>some []
  |t::l=>match aQ P t,wc P 30 t,iA P l with
    |some (g,_),some ks,some r=>if (g=true\/ks.length=1)/\ks.all CK.plain=true then some ((g,ks)::r)else none
    |_,_,_=>none
def cj:List (Bool × List CK)->List CK
 | []=>[]
 | (_,ks)::r=>ks++cj r
def eG(g:Bool)(l:List At):CV :=
 match g,l with
 |false,[a]=>.one a
 |_,l=>.agg l
def bS:List (Bool × List CK)->List At->List CV
 | [],_=>[]
 | (g,ks)::r,l=>eG g (l.take ks.length)::bS r (l.drop ks.length)
def cJ(cs:List CV):SV :=
 match cs with
 | [c]=>.cv c
 |cs=>.cS cs
def hU(A:bX R)(c:ar)(k:IntKind)(p:IP)(K:SV->ar->R):R :=
  match p.lits with
  |true=>kQ (p.den Env.zero) λz=>K (.cv (.one (.int k (.lit z)))) c
  |false => if p.wf c = true then A.int c.ni p (K (.cv (.one (.int k (.var c.ni)))) { c with ni := c.ni+1 }) else A.fail "int"
def sH(A:bX R)(c:ar)(p:IP)(K:IE->ar->R):R :=
  if p.lits=true then kQ (p.den Env.zero) λz=>K (.lit z) c
  else if p.wf c = true then A.int c.ni p (K (.var c.ni) { c with ni := c.ni+1 }) else A.fail "sum"
def qW(A:bX R)(c:ar)(op:IE->IE->IP)(a b:IE)(K:IE->ar->R):R:=sH A c (op a b) K
def iB(A:bX R)(c:ar)(ce:CE)(sz:Nat)(K:IE->ar->R):R:=sH A c (.sD (m9 ce) (kz ce) sz) K
def bJ(A:bX R)(e:BE)(r:R):R :=
 match e.kL with
 | .lit true=>r
 |e'=>A.sG e' r
def fR(A:bX R)(e:BE)(t f:Unit->R):R :=
 match e with
 | .lit true=>t ()
 | .lit false=>f ()
 |e =>
 match e.kL with
 | .lit true=>t ()
 | .lit false=>f ()
 | .not e'=>A.ite e' (f ()) (t ())
 | .cmp .neq a b=>A.ite (.cmp .eql a b) (f ()) (t ())
 |e'=>A.ite e' (t ()) (f ())
def iY(A:bX R)(e:IE)(n:Nat):Nat->(Nat->R)->R
  |0, _ => A.fail "cases"
  |1,K=>K (n-1)
  |j+2,K=>fR A (.cmp .eql e (.lit ((n-(j+2):Nat):Int))) (λ_=>K (n-(j+2))) (λ_=>iY A e n (j+1) K)
def jO:BinOp->Bool
 | .add | .sub | .mul | .and | .or | .xor | .andNot=>true
 |_=>false
def oW:BinOp->Bool
 | .eql | .neq | .lss | .leq | .gtr | .geq=>true
 |_=>false
def uN(P:Program)(f:TypeId->Option (List CK)):Nat->List Field->Option (List CK)
  |_,[]=>some []
  |off, fd :: r => if fd.name = "_" \/ fd.offset ≠ off then none else match f fd.type, aQ P fd.type with
    |some ks,some (_,n)=>if n=ks.length then (uN P f (off+n) r).map (ks ++ ·)else none
    |_,_=>none
def kB(P:Program):Nat->TypeId->Option (List CK)
  |0,_=>none
  |n+1,t=>match P.underlying t with
    |some (.int k)=>some [.int k]
    |some .bool=>some [.bool]
    |some .string=>some [.str]
    |some (.struct fs)=>if P.stoodInHeld t=true then none else uN P (kB P n) 0 fs.toList
    |some (.array m e)=>match kB P n e,aQ P e with
      |some ks,some (_,s)=>if s=ks.length then some (times ks m)else none
      |_,_=>none
    |_=>none
def strOf:At->Option SE
 | .str l=>some (.lit l)
 | .sv i=>some (.var i)
 |_=>none
def fI(k:CK)(a b:At):Option BE :=
  match k with
  | .int k=>match a,b with
    | .int k1 a,.int k2 b=>if k1=k/\k2=k then some (.cmp .eql a b)else none
    |_,_=>none
  | .bool=>match a,b with
    | .bool a,.bool b=>some (.eq a b)
    |_,_=>none
  | .str=>match strOf a,strOf b with
    |some p,some q=>some (.seq p q)
    |_,_=>none
  |_=>none
def bo:List CK->List At->List At->Option BE
  | [],[],[]=>some (.lit true)
  |k::r,a::x,b::y=>match fI k a b,bo r x y with
    |some e,some e'=>some (.and e e')
    |_,_=>none
  |_,_,_=>none
inductive Nl where
 |kS
 |held
 |may (q:Nat)
 |Wi
 deriving DecidableEq
def pA:At->Nl
 | .sE=>.kS
 | .loc .. | .ext .. | .fQ .. => .held
 | .eR=>.kS
 | .gP .. | .mL .. => .held
 | .dD q .. => .may q
 | .uJ=>.kS
 | .fn .. | .g_ .. | .sF .. | .rT .. => .held
 |_=>.Wi
def uO:Nl->Nl->Option BE
 | .kS,.kS=>some (.lit true)
 | .kS,.held | .held,.kS=>some (.lit false)
 | .kS,.may q | .may q,.kS=>some (.var q)
 |_,_=>none
def dG:At->Nat
 | .sE | .loc .. | .ext .. | .fQ .. => 0
 | .eR | .gP .. | .mL .. | .dD .. => 1
 | .uJ | .fn .. | .g_ .. | .sF .. | .rT .. => 2
 |_=>3
def oX(P:Program)(t:TypeId)(x y:At):Option BE :=
  match P.underlying t with
  | some (.pointer e)=>if dG x=0/\dG y=0 then match uO (pA x) (pA y)with
      |some b=>some b
      |none=>match x,y with
        | .loc k o,.loc k' o'=>match aQ P e with
          |some (_,n)=>if k=k'/\n≠0 then some (.lit (decide (o=o')))else none
          |none=>none
        |_,_=>none
    else none
  |some (.slice _)=>if dG x=1/\dG y=1 then uO (pA x) (pA y)else none
  |some (.func _ _ _)=>if dG x=2/\dG y=2 then uO (pA x) (pA y)else none
  |_=>none
def oz(g:Bool)(n:Nat):CV->Bool
 | .one _ => !g && decide (n=1)
 | .agg l=>g && decide (l.length=n)
def cZ(g:Bool)(n:Nat):Nat:=2*n+if g=true then 1 else 0
structure hZ where
 key:TypeId
 el:TypeId
 ks:List CK
 gk:Bool
 ge:Bool
 ne:Nat
def hZ.no(x:hZ):Nat:=cZ x.gk x.ks.length*1048576+cZ x.ge x.ne
def gg(P:Program)(t:TypeId):Option hZ :=
  match P.underlying t with
  |some (.map key el)=>match kB P 30 key,aQ P key,aQ P el with
    |some ks,some (gk,nk),some (ge,ne)=>if nk=ks.length/\0<nk/\nk<500000/\ne<500000 then some ⟨key,el,ks,gk,ge,ne⟩else none
    |_,_,_=>none
  |_=>none
def oY:Value->Value->Bool
 | .int k a,.int k' b=>decide (k=k') && a == b
 | .bool a,.bool b=>a == b
 | .string a,.string b=>decide (a.data.toList=b.data.toList)
 |_,_=>false
def jh:List Value->List Value->Bool
 | [],[]=>true
 |a::x,b::y=>oY a b && jh x y
 |_,_=>false
def m_:CK->Value->Bool
 | .int k,.int k' _=>decide (k'=k)
 | .bool,.bool _=>true
 | .str,.string _=>true
 |_,_=>false
def fy:List CK->List Value->Bool
 | [],[]=>true
 |k::r,v::l=>m_ k v && fy r l
 |_,_=>false
def iZ(ks:List CK)(n:Nat):Nat->List Value->Bool
 |0,_=>true
 |_+1,[]=>true
 |f+1,l=>fy ks (l.take ks.length) && iZ ks n f (l.drop n)
def jC(ks:List CK)(n:Nat)(l:List Value):Bool:=iZ ks n l.length l
def cB(nk n:Nat)(key:List Value):Nat->List Value->Option Nat
 |0,_=>none
 |_+1,[]=>none
 |f+1,l=>if jh key (l.take nk)=true then some 0 else (cB nk n key f (l.drop n)).map (·+1)
def gh(nk n:Nat)(key l:List Value):Int :=
 match cB nk n key l.length l with
 |some i=>(i:Int)
 |none => -1
def h_:CK->At->Bool
 | .int k,.int k' _=>decide (k'=k)
 | .bool,.bool _=>true
 | .str,a=>(strOf a).isSome
 |_,_=>false
def fJ:List CK->List At->Bool
 | [],[]=>true
 |k::r,a::l=>h_ k a && fJ r l
 |_,_=>false
def pB(A:bX R)(c:ar)(x:hZ)(ce:CE)(kc:List At)(K:IE->ar->R):R :=
  if fJ x.ks kc=true/\gG ce=true/\kc.all At.flat=true/\cw c ce=true/\kc.all (At.wf c)=true then
    A.ED c.ni ce kc x.ks x.ne (K (.var c.ni) {c with ni:=c.ni+1})
  else A.fail "map: keys"
def kT(A:bX R)(c:ar)(x:hZ)(kc:List At)(found:Nat->List At->R)(EG:Unit->R):Nat->List At->Nat->R
  |0, _, _ => A.fail "map: entries"
  |n+1,cs,i=>if cs=[]then EG ()else
    match bo x.ks kc (cs.take x.ks.length)with
    | some e=>if e.wf c=true/\x.ks.length + x.ne<=cs.length then
        fR A e (λ_=>found i ((cs.drop x.ks.length).take x.ne)) (λ_=>kT A c x kc found EG n (cs.drop (x.ks.length+x.ne)) (i+1))
      else A.fail "map: entries"
    |none => A.fail "map: keys"
def na(A:bX R)(c:ar)(p:SP)(K:SV->ar->R):R :=
  if p.lits=true/\p.okB=true then gw (λl=>K (.cv (.one (.str l))) c) (p.den Env.zero) []
  else if p.wf c = true then A.str c.ns p (K (.cv (.one (.sv c.ns))) { c with ns := c.ns+1 }) else A.fail "string"
def l_(A:bX R)(P:Program)(c:ar)(op:BinOp)(t:TypeId)(x y:SV)(K:SV->ar->R):R :=
  match x,y with
  | .cv (.one (.int k a)),.cv (.one (.int k' b)) =>
    if op=.shl then
      match b with
      | .lit n => if 0 <= n /\ n.toNat<k.bits then hU A c k (.shl k a n.toNat) K else A.fail "shift"
      |b=>bJ A (.cmp .geq b (.lit 0)) (hU A c k (.bin .shl k a b) K)
    else if op=.shr then
      match b with
      | .lit n => if 0 <= n /\ n.toNat<k.bits then hU A c k (.shr a n.toNat) K else A.fail "shift"
      |b=>bJ A (.cmp .geq b (.lit 0)) (hU A c k (.bin .shr k a b) K)
    else if k=k' then
      if jO op then hU A c k (.bin op k a b) K
      else if op=.quo\/op=.rem then bJ A (.cmp .neq b (.lit 0)) (hU A c k (.bin op k a b) K)
      else if oW op then K (.cv (.one (.bool (BE.cmp op a b).kL))) c
      else A.fail "binOp"
    else A.fail "binOp: kinds"
  | .cv (.one (.bool a)),.cv (.one (.bool b)) =>
    match P.underlying t with
    |some .bool =>
      if op=.eql then K (.cv (.one (.bool (BE.eq a b).kL))) c
      else if op=.neq then K (.cv (.one (.bool (BE.not (BE.eq a b)).kL))) c
      else A.fail "binOp: bools"
    |_ => A.fail "binOp: bools"
  | .cv (.agg a),.cv (.agg b) =>
    match kB P 30 t,aQ P t with
    |some ks,some (true,_)=>match bo ks a b with
      |some e =>
        if P.eqGuardType P.depth t = true then A.fail "binOp: guard"
        else if op=.eql then K (.cv (.one (.bool e.kL))) c
        else if op=.neq then K (.cv (.one (.bool (BE.not e).kL))) c
        else A.fail "binOp: structs"
      |none => A.fail "binOp: cells"
    |_, _ => A.fail "binOp: types"
  | .cv (.one x),.cv (.one y) =>
    match P.underlying t,strOf x,strOf y with
    |some .string,some a,some b =>
      if op=.eql then K (.cv (.one (.bool (BE.seq a b).kL))) c
      else if op=.neq then K (.cv (.one (.bool (BE.not (BE.seq a b)).kL))) c
      else if op=.add then na A c (.cat a b) K
      else A.fail "binOp: strings"
    |_,_,_=>match oX P t x y with
      |some e =>
        if op=.eql then K (.cv (.one (.bool e.kL))) c
        else if op=.neq then K (.cv (.one (.bool (BE.not e).kL))) c
        else A.fail "binOp: operands"
      |none => A.fail "binOp: operands"
  |_, _ => A.fail "binOp: operands"
def pC(A:bX R)(p:Nat)(ix:IE)(sz:Nat):Nat->List CK->ar->(List At->ar->R)->R
 |_,[],c,K=>K [] c
 |off,k::l,c,K=>A.load (bF c k) p ix sz off (pC A p ix sz (off+1) l (bj c k) λr c'=>K (bF c k::r) c')
def tI(A:bX R)(ce:CE)(ix:IE)(sz:Nat):Nat->List CK->ar->(List At->ar->R)->R
 |_,[],c,K=>K [] c
 |off,k::l,c,K=>A.rd (bF c k) ce ix sz off (tI A ce ix sz (off+1) l (bj c k) λr c'=>K (bF c k::r) c')
def ia(ce:CE)(ix:IE)(sz off:Nat):Option (List At × Nat) :=
 match ix,eo ce with
 | .lit j,some cs=>some (cs,j.toNat*sz+off)
 |_,_=>none
def nc(A:bX R)(P:Program)(m:Mem)(o:bA)(c:ar)(t:TypeId)(x:SV)(K:SV->ar->R):R :=
  match aQ P t with
  |none => A.fail "load: type"
  |some (g,n) =>
    match x with
    | .cv (.one (.fQ k ix sz off)) =>
      match aO o k with
      |none => A.fail "load: no such row"
      |some (ce,s0,t0)=>if 0<s0\/t0=0 then
        match ia ce ix sz off with
        |some (cs,p) =>
          if g=true then
            if p+n <= cs.length then K (.cv (.agg ((cs.drop p).take n))) c else A.fail "load: beyond"
          else match cs[p]? with
            |some a=>K (.cv (.one a)) c
            |none => A.fail "load: beyond"
        |none =>
          match wc P 30 t with
          |none => A.fail "load: kinds"
          |some ks =>
            if ks.length=(if g=true then n else 1)/\ks.all CK.plain=true/\gG ce=true/\cw c ce=true/\ix.wf c=true then
              tI A ce ix sz off ks c λl c'=>K (.cv (eG g l)) c'
            else A.fail "load: kinds"
        else A.fail "load: a map"
    | .cv (.one (.loc k off)) =>
      match getM m k with
      |none => A.fail "load: no such block"
      |some (cs,_) =>
        if g=true then
          if off+n <= cs.length then K (.cv (.agg ((cs.drop off).take n))) c else A.fail "load: beyond"
        else match cs[off]? with
          |some a=>K (.cv (.one a)) c
          |none => A.fail "load: beyond"
    | .cv (.one (.ext p ix sz off)) =>
      match wc P 30 t with
      |none => A.fail "load: kinds"
      |some ks =>
        if ks.length=(if g=true then n else 1)/\ks.all CK.plain=true/\p<c.np/\ix.wf c=true then
          pC A p ix sz off ks c λl c'=>K (.cv (eG g l)) c'
        else A.fail "load: kinds"
    |_ => A.fail "load: address"
def wg(A:bX R)(c:ar)(op:UnOp)(x:SV)(K:SV->ar->R):R :=
  match op,x with
  | .neg,.cv (.one (.int k a))=>hU A c k (.neg k a) K
  | .xor,.cv (.one (.int k a))=>hU A c k (.Ir k a) K
  | .not,.cv (.one (.bool a))=>K (.cv (.one (.bool (BE.not a).kL))) c
  |_, _ => A.fail "unOp"
def sI(A:bX R)(P:Program)(c:ar)(s d:TypeId)(x:SV)(K:SV->ar->R):R :=
  match P.underlying s,P.underlying d,x with
  |some _,some (.int k),.cv (.one (.int _ a))=>hU A c k (.conv k a) K
  |_, _, _ => A.fail "convert"
def partOf(P:Program)(t:TypeId)(cs:List At)(off:Nat):Option CV :=
 match aQ P t with
 |some (true,n)=>if off+n<=cs.length then some (.agg ((cs.drop off).take n))else none
 |some (false,_)=>(cs[off]?).map .one
 |none=>none
def kU(A:bX R)(P:Program)(c:ar)(t:TypeId)(x:SV)(f:Nat)(K:SV->ar->R):R :=
  match P.underlying t,x with
  |some (.struct fs),.cv (.agg cs) =>
    match fs[f]? with
    |some fd=>match partOf P fd.type cs fd.offset with
      |some v=>K (.cv v) c
      |none => A.fail "field: part"
    |none => A.fail "field"
  |_, _ => A.fail "field"
def fK(A:bX R)(P:Program)(c:ar)(s:TypeId)(x:SV)(f:Nat)(K:SV->ar->R):R :=
  match P.underlying s with
  |some (.struct fs)=>match fs[f]? with
    |some fd=>match aQ P fd.type with
      |some (_, n) => if n = 0 then A.fail "fieldAddr: no cells" else match x with
        | .cv (.one (.loc k off))=>K (.cv (.one (.loc k (off+fd.offset)))) c
        | .cv (.one (.ext p ix sz off))=>K (.cv (.one (.ext p ix sz (off+fd.offset)))) c
        | .cv (.one (.fQ k ix sz off))=>K (.cv (.one (.fQ k ix sz (off+fd.offset)))) c
        |_ => A.fail "fieldAddr: address"
      |none => A.fail "fieldAddr"
    |none => A.fail "fieldAddr"
  |_ => A.fail "fieldAddr"
def fL(A:bX R)(P:Program)(o:bA)(c:ar)(t:TypeId)(x i:SV)(K:SV->ar->R):R :=
  match i with
  | .cv (.one (.int _ e)) =>
    match P.underlying t,x with
    |some (.slice el),.cv (.one (.own k))=>match aQ P el,aO o k with
      | some (_,s),some (ce,sz,_)=>if s=sz/\0 < sz then
          iB A c ce sz λn c1=>bJ A (.cmp .geq e (.lit 0)) (bJ A (.cmp .lss e n) (K (.cv (.one (.fQ k e sz 0))) c1))
        else A.fail "indexAddr: a part of a row"
      |_, _ => A.fail "indexAddr: no such row"
    |some (.slice el),.cv (.one (.qR k))=>match aQ P el,aO o k with
      | some (_,s),some (ce,sz,t0)=>if s=1/\sz=0/\t0=0 then
          iB A c ce 1 λn c1=>bJ A (.cmp .geq e (.lit 0)) (bJ A (.cmp .lss e n) (K (.cv (.one (.fQ k e 1 0))) c1))
        else A.fail "indexAddr: bytes"
      |_, _ => A.fail "indexAddr: no such row"
    |some (.slice el),.cv (.one (.dD q p sz len _))=>match aQ P el with
      | some (_,s)=>if s=sz then
          bJ A (.not (.var q)) (bJ A (.cmp .geq e (.lit 0)) (bJ A (.cmp .lss e len) (K (.cv (.one (.ext p e sz 0))) c)))
        else A.fail "indexAddr: a part of a slice"
      |none => A.fail "indexAddr"
    |some (.array n el),.cv (.one (.fQ k ix sz off))=>match aQ P el with
      |some (_,s)=>match e with
        | .lit j => if 0 <= j /\ j.toNat<n then K (.cv (.one (.fQ k ix sz (off+j.toNat*s)))) c else A.fail "indexAddr: beyond"
        |e=>bJ A (.cmp .geq e (.lit 0)) (bJ A (.cmp .lss e (.lit n)) (iY A e n n λj=>K (.cv (.one (.fQ k ix sz (off+j*s)))) c))
      |none => A.fail "indexAddr"
    |some (.array n el),.cv (.one (.loc k off))=>match aQ P el with
      |some (_,s)=>match e with
        | .lit j => if 0 <= j /\ j.toNat<n then K (.cv (.one (.loc k (off+j.toNat*s)))) c else A.fail "indexAddr: beyond"
        |e=>bJ A (.cmp .geq e (.lit 0)) (bJ A (.cmp .lss e (.lit n)) (iY A e n n λj=>K (.cv (.one (.loc k (off+j*s)))) c))
      |none => A.fail "indexAddr"
    |some (.array n el),.cv (.one (.ext p ix sz off))=>match aQ P el with
      |some (_,s)=>match e with
        | .lit j => if 0 <= j /\ j.toNat<n then K (.cv (.one (.ext p ix sz (off+j.toNat*s)))) c else A.fail "indexAddr: beyond"
        |e=>bJ A (.cmp .geq e (.lit 0)) (bJ A (.cmp .lss e (.lit n)) (iY A e n n λj=>K (.cv (.one (.ext p ix sz (off+j*s)))) c))
      |none => A.fail "indexAddr"
    |some (.slice el),.cv (.one (.gP k off len _))=>match aQ P el with
      |some (_,s)=>match e with
        | .lit j => if 0 <= j /\ j.toNat<len then K (.cv (.one (.loc k (off+j.toNat*s)))) c else A.fail "indexAddr: beyond"
        |e=>bJ A (.cmp .geq e (.lit 0)) (bJ A (.cmp .lss e (.lit len)) (iY A e len len λj=>K (.cv (.one (.loc k (off+j*s)))) c))
      |none => A.fail "indexAddr"
    |some (.slice el),.cv (.one (.mL p ix sz len _))=>match aQ P el with
      | some (_,s)=>if s=sz then
          bJ A (.cmp .geq e (.lit 0)) (bJ A (.cmp .lss e len) (if ix=.lit 0 then K (.cv (.one (.ext p e sz 0))) c
            else bJ A (.cmp .geq ix (.lit 0)) (qW A c .sum ix e λe' c'=>K (.cv (.one (.ext p e' sz 0))) c')))
        else A.fail "indexAddr: a part of a slice"
      |none => A.fail "indexAddr"
    |_, _ => A.fail "indexAddr: operand"
  |_ => A.fail "indexAddr: index"
def kV(A:bX R)(P:Program)(c:ar)(t:TypeId)(x i:SV)(K:SV->ar->R):R :=
  match i with
  | .cv (.one (.int _ e)) =>
    match P.underlying t,x with
    |some (.array n el),.cv (.agg cs)=>match aQ P el with
      |some (_,s)=>match e with
        | .lit j=>if 0<=j/\j.toNat < n then match partOf P el cs (j.toNat * s)with
            |some v=>K (.cv v) c
            |none => A.fail "index: part"
          else A.fail "index: beyond"
        | e => bJ A (.cmp .geq e (.lit 0)) (bJ A (.cmp .lss e (.lit n)) (iY A e n n fun j=>match partOf P el cs (j * s)with
            |some v=>K (.cv v) c
            |none => A.fail "index: part"))
      |none => A.fail "index"
    |some .string,.cv (.one x)=>match strOf x with
      |some s=>sH A c (.qP s) λn c1=>bJ A (.cmp .geq e (.lit 0)) (bJ A (.cmp .lss e n) (hU A c1 .u8 (.uI s e) K))
      |none => A.fail "index: a string"
    |_, _ => A.fail "index: operand"
  |_ => A.fail "index: index"
def BY(op:BinOp)(a b:IE):BE :=
 match a,b with
 | .lit x,.lit y=>.lit (iz op x y)
 |a,b=>(BE.cmp op a b).kL
theorem KG(op:BinOp)(a b:IE):BY op a b=(BE.cmp op a b).kL:=by
 unfold BY;split<;>simp [BE.kL]
def pD(A:bX R)(P:Program)(c:ar)(op:BinOp)(t:TypeId)(k k':IntKind)(a b:IE)(K:SV->ar->R):R :=
  match oW op with
  |true=>match DH k k' with
    |true=>K (.cv (.one (.bool (BY op a b)))) c
    |false => A.fail "binOp: kinds"
  |false=>match jO op with
    |true=>match DH k k' with
      |true=>hU A c k (.bin op k a b) K
      |false => A.fail "binOp: kinds"
    |false=>l_ A P c op t (.cv (.one (.int k a))) (.cv (.one (.int k' b))) K
theorem KH(A:bX R)(P:Program)(c:ar)(op:BinOp)(t:TypeId)(k k':IntKind)(a b:IE)(K:SV->ar->R):pD A P c op t k k' a b K=l_ A P c op t (.cv (.one (.int k a))) (.cv (.one (.int k' b))) K:=by
 by_cases hk:k=k'
 ·have h2:DH k k'=true:=(EF k k').2 hk;unfold pD;rw [h2];unfold l_;cases op<;>simp [oW,jO,hk,KG]
 ·have h2:DH k k'=false:=by
   cases h:DH k k' with
   |true=>exact absurd ((EF k k').1 h) hk
   |false=>rfl
  unfold pD;rw [h2];unfold l_;cases op<;>simp [oW,jO,hk]
def cN(place:Nat->Option (Nat × Nat))(cells:List At):List (Nat × SV)->Option (List At)
  | []=>some cells
  | (i,.cv v)::r=>match place i with
    |some (off,size)=>if v.cells.length=size/\off+size<=cells.length then cN place (cells.take off++v.cells++cells.drop (off+size)) r else none
    |none=>none
  |_::_=>none
def c_(P:Program)(t:TypeId):Option CV :=
  match P.info? t with
  |some i=>match i.zero with
    |some v=>match SV.ofValue v with
      | .cv c=>some c
      |_=>none
    |none=>none
  |none=>none
def dH(P:Program):List Field->Option (List (Nat × Nat))
  | []=>some []
  |f::l=>match aQ P f.type,dH P l with
    |some (_,n),some r=>some ((f.offset,n)::r)
    |_,_=>none
def kW(A:bX R)(P:Program)(c:ar)(t:TypeId)(parts:List (Nat × SV))(K:SV->ar->R):R :=
  match P.underlying t,c_ P t with
  |some (.struct fs),some z=>match dH P fs.toList with
    |some pl=>match cN (pl[·]?) z.cells parts with
      |some cs=>K (.cv (.agg cs)) c
      |none => A.fail "build: parts"
    |none => A.fail "build: places"
  |some (.array _ el),some z=>match aQ P el with
    |some (_,s)=>match cN (λi=>some (i*s,s)) z.cells parts with
      |some cs=>K (.cv (.agg cs)) c
      |none => A.fail "build: parts"
    |none => A.fail "build"
  |_, _ => A.fail "build"
def fT:List SV->Option (List (Nat × Nat))
 | []=>some []
 | .cv (.one (.loc k o))::r=>(fT r).map ((k,o) :: ·)
 |_=>none
def eH(o:bA):List At->bA
  | []=>[]
  | .own k::r=>match aO o k with
    |some v=>(k,v)::eH o r
    |none=>eH o r
  |_::r=>eH o r
def dY(m:Mem):List At->Mem
  | []=>[]
  | .loc k _::r | .gP k _ _ _::r=>match getM m k with
    |some v=>(k,v)::dY m r
    |none=>dY m r
  |_::r=>dY m r
def aV:SV->List At
 | .cv c=>c.cells
 |_=>[]
def jD:SV->Bool
 | .any=>true
 | .dX=>true
 |_=>false
def tJ:SV->List CV
 | .cv c=>[c]
 | .cS l=>l
 |_=>[]
def jP:CE->List At
 | []=>[]
 | .cu l::r=>l++jP r
 | .var _::r=>jP r
def inside(m:Mem)(o:bA):List At->List At
 | []=>[]
 | .loc k _::r | .gP k _ _ _::r=>(match getM m k with|some (cs,_)=>cs|none=>[])++inside m o r
 | .own k::r=>(match aO o k with|some (ce,_,_)=>jP ce|none=>[])++inside m o r
 |_::r=>inside m o r
def deep(m:Mem)(o:bA):Nat->List At->List At
 |0,l=>l
 |n+1,l=>l++deep m o n (inside m o l)
def cC(m:Mem)(o:bA)(args:List SV):List At:=deep m o 2 (args.flatMap aV)
def Wj(z:Int):Nat:=if z<0 then 2*z.natAbs-1 else 2*z.natAbs
def EH(n:Nat):Int:=if n % 2=1 then -(((n+1) / 2:Nat):Int)else ((n / 2:Nat):Int)
def nf:List At->List (Nat × Nat)
 | []=>[]
 | .int _ (.lit z)::r=>(10,Wj z)::nf r
 | .bool (.lit b)::r=>(11,if b=true then 1 else 0)::nf r
 | .str l::r=>(12,l.length)::(l.map λb=>(13,b.toNat))++nf r
 |_::r=>nf r
def sJ:List SV->List (Nat × Nat)
 | []=>[]
 | .cv v::r=>nf v.cells++sJ r
 |_::r=>sJ r
def pE:List CK->List (Nat × Nat)->Option (List At)
 | [],[]=>some []
 | .int k::r,(0,n)::l=>(pE r l).map (.int k (.lit (EH n)) :: ·)
 | .bool::r,(1,n)::l=>(pE r l).map (.bool (.lit (decide (n=1))) :: ·)
 | .str::r,(2,n)::l=>(pE r (l.drop n)).map (.str ((l.take n).map λx=>UInt8.ofNat x.2) :: ·)
 |_,_=>none
def ng(ks:List CK)(key:List (Nat × Nat)):List (List (Nat × Nat))->Option (List At)
  | []=>none
  | a :: r=>if a.take key.length=key then match pE ks (a.drop key.length)with
      |some l=>some l
      |none=>ng ks key r
    else ng ks key r
def tK(G:bV)(f:FuncId)(args:List SV)(ks:List CK):Option (List At) :=
 match G.loops.lookup (700000000000000000+f)with
 |some (.uK alts _ _ _)=>ng ks (sJ args) alts
 |_=>none
def tL(b:Nat):List UInt8->Nat->Int
  | [],_ => -1
  |x::r,i=>match Nat.beq x.toNat b with
    |true=>(i:Int)
    |false=>tL b r (i+1)
def EI:List UInt8->List UInt8->Bool
 | [],_=>true
 |_::_,[]=>false
 |a::r,b::s=>Nat.beq a.toNat b.toNat && EI r s
def wj(p:List UInt8):List UInt8->Nat->Int
  | [],i=>if p=[]then (i:Int)else -1
  |x::r,i=>match EI p (x::r)with
    |true=>(i:Int)
    |false=>wj p r (i+1)
def tM(G:bV)(f:FuncId)(args:List SV):Option (List At) :=
  match G.loops.lookup (300000000000000000+f)with
  |some (.inv _ [kd] _)=>match kd,args with
    |1,[.cv (.one (.str s)),.cv (.one (.int _ (.lit b)))]=>some [.int .i64 (.lit (tL b.toNat s 0))]
    |2,[.cv (.one (.str s)),.cv (.one (.str p))]=>some [.int .i64 (.lit (wj p s 0))]
    |3,[.cv (.one (.int _ (.lit x))),.cv (.one (.int _ (.lit y))),.cv (.one (.int _ (.lit z)))]=>some [.int .u64 (.lit ((x+y+z) % 18446744073709551616)),.int .u64 (.lit ((x+y+z) / 18446744073709551616))]
    |4,[.cv (.one (.int _ (.lit x))),.cv (.one (.int _ (.lit y))),.cv (.one (.int _ (.lit z)))]=>some [.int .u64 (.lit ((x-y-z) % 18446744073709551616)),.int .u64 (.lit (if x<y+z then 1 else 0))]
    |_,_=>none
  |_=>none
def lF(A:bX R)(G:bV)(m:Mem)(o:bA)(c:ar)(f:FuncId)(args:List SV)(K:SV->ar->R):R :=
  match G.P.funcs[f]? with
  |none => A.fail "call: no such function"
  |some fn=>match iA G.P fn.resultTypes.toList with
    |none => A.fail "call: results"
    |some ss =>
      if args.any jD = true \/ ¬args.all (SV.wf c) = true then A.fail "call: arguments"
      else if G.ext.contains f=true then
        match tM G f args with
        |some l => if l.all (At.wf c) = true /\ l.all At.flat = true then A.oS f args [] (cJ (bS ss l)) (K (cJ (bS ss l)) c) else A.fail "call: hint"
        |none=>A.oS f args (av c (cj ss)) (cJ (bS ss (av c (cj ss)))) (K (cJ (bS ss (av c (cj ss)))) (aY c (cj ss)))
      else if G.calls.contains f=true then
        match tK G f args (cj ss)with
        |some l => if l.all (At.wf c) = true /\ l.all At.flat = true then A.call f args (dY m (cC m o args)) (eH o (cC m o args)) [] (cJ (bS ss l)) (K (cJ (bS ss l)) c) else A.fail "call: hint"
        |none=>A.call f args (dY m (cC m o args)) (eH o (cC m o args)) (av c (cj ss)) (cJ (bS ss (av c (cj ss)))) (K (cJ (bS ss (av c (cj ss)))) (aY c (cj ss)))
      else A.fail "call: unknown function"
def dc(d:IE):Option SV->Option IE
 |none=>some d
 |some (.cv (.one (.int _ e)))=>some e
 |some _=>none
def kX(A:bX R)(P:Program)(c:ar)(t:TypeId)(s:SE)(lo hi:Option SV)(K:SV->ar->R):R :=
  match P.underlying t,dc (.lit 0) lo,hi with
  |some .string, some l, none => if l.wf c = true then sH A c (.qP s) λn c1 => na A c1 (.sub s l n) K else A.fail "slice: string"
  |some .string,some l,some (.cv (.one (.int _ e)))=>na A c (.sub s l e) K
  |_, _, _ => A.fail "slice: string"
def kY(A:bX R)(P:Program)(c:ar)(t:TypeId)(x:SV)(lo hi:Option SV)(K:SV->ar->R):R :=
  match P.underlying t,x with
  |some (.slice el),.cv (.one (.mL p ix sz len cap))=>match aQ P el,dc (.lit 0) lo,dc len hi with
    | some (_,s),some l,some h=>if s=sz then
        bJ A (.cmp .geq len (.lit 0)) (bJ A (.cmp .leq len cap) (bJ A (.cmp .geq l (.lit 0)) (bJ A (.cmp .leq l h) (bJ A (.cmp .leq h cap) (
          if l=.lit 0 then K (.cv (.one (.mL p ix sz h cap))) c
          else bJ A (.cmp .geq ix (.lit 0)) (qW A c .diff h l λBZ c1=>qW A c1 .diff cap l λB0 c2 =>
            fR A (.cmp .lss l cap) (λ_=>qW A c2 .sum ix l λSu c3=>K (.cv (.one (.mL p Su sz BZ B0))) c3) (λ_=>K (.cv (.one (.mL p ix sz BZ B0))) c2)))))))
      else A.fail "slice: size"
    |_, _, _ => A.fail "slice: bounds"
  |some (.slice el),.cv (.one (.gP k off len cap))=>match aQ P el,dc (.lit 0) lo,dc (.lit len) hi with
    |some (_,s),some (.lit l),some (.lit h) =>
      if 0 <= l /\ l <= h /\ h <= cap then K (.cv (.one (.gP k (if l.toNat = cap then off else off+l.toNat*s) (h.toNat-l.toNat) (cap-l.toNat)))) c else A.fail "slice: beyond"
    |_, _, _ => A.fail "slice: bounds"
  |some (.array n el),.cv (.one (.ext p (.lit j) sz off))=>match aQ P el,dc (.lit 0) lo,dc (.lit n) hi with
    |some (_,s),some (.lit l),some (.lit h) =>
      if 0 <= l /\ l <= h /\ h <= n /\ j = 0 /\ off = 0 /\ 0<s /\ p<c.np then K (.cv (.one (.mL p (.lit (if l.toNat = n then 0 else l)) s (.lit (h-l)) (.lit (n-l))))) c else A.fail "slice: beyond"
    |_, _, _ => A.fail "slice: bounds"
  |some (.array n el),.cv (.one (.loc k off))=>match aQ P el,dc (.lit 0) lo,dc (.lit n) hi with
    |some (_,s),some (.lit l),some (.lit h) =>
      if 0 <= l /\ l <= h /\ h <= n then K (.cv (.one (.gP k (if l.toNat = n then off else off+l.toNat*s) (h.toNat-l.toNat) (n-l.toNat)))) c else A.fail "slice: beyond"
    |_, _, _ => A.fail "slice: bounds"
  |_, _ => A.fail "slice: operand"
def pF(A:bX R)(P:Program)(c:ar)(t:TypeId)(x:SV)(lo hi:Option SV)(K:SV->ar->R):R :=
  match x with
  | .cv (.one (.dD q p sz len cap))=>bJ A (.not (.var q)) (bJ A (.cmp .gtr cap (.lit 0)) (kY A P c t (.cv (.one (.mL p (.lit 0) sz len cap))) lo hi K))
  | .cv (.one (.str l))=>kX A P c t (.lit l) lo hi K
  | .cv (.one (.sv i))=>kX A P c t (.var i) lo hi K
  | .cv (.one (.own k))=>match P.underlying t,dc (.lit 0) lo,hi with
    |some (.slice el),some l,none=>match aQ P el with
      |some _ => if l = .lit 0 then K (.cv (.one (.own k))) c else A.fail "slice: row"
      |none => A.fail "slice: row"
    |_, _, _ => A.fail "slice: row"
  |x=>kY A P c t x lo hi K
def nh(A:bX R)(P:Program)(o:bA)(c:ar)(t:TypeId)(m k:SV)(ok:Bool)(K:SV->ar->R):R :=
  match gg P t,m,k with
  |some x,.cv (.one (.omap j)),.cv kv=>match aO o j,c_ P x.el with
    |some (ce,sz,tc),some z=>match eo ce with
      | some cs=>if oz x.gk x.ks.length kv=true/\tc=x.no/\sz=0 then
          kT A c x kv.cells (λ_ v=>K (if ok=true then .cS [eG x.ge v,.one (.bool (.lit true))]else .cv (eG x.ge v)) c)
            (λ_=>K (if ok=true then .cS [z,.one (.bool (.lit false))]else .cv z) c) (cs.length+1) cs 0
        else A.fail "map: key"
      |none=>match wc P 30 x.el with
        | some ls=>if oz x.gk x.ks.length kv=true/\tc=x.no/\sz=0/\ls.length=x.ne/\ls.all CK.plain=true then
            pB A c x ce kv.cells λi c1=>fR A (.cmp .geq i (.lit 0))
              (λ_=>tI A ce i (x.ks.length+x.ne) x.ks.length ls c1 λl c2=>K (if ok=true then .cS [eG x.ge l,.one (.bool (.lit true))]else .cv (eG x.ge l)) c2)
              (λ_=>K (if ok=true then .cS [z,.one (.bool (.lit false))]else .cv z) c1)
          else A.fail "map: key"
        |none => A.fail "map: elements"
    |_, _ => A.fail "map: no such"
  |_, _, _ => A.fail "lookup"
def wo(A:bX R)(P:Program)(o:bA)(c:ar)(t:Option TypeId)(x:SV)(K:SV->ar->R):R :=
  match t.bind P.underlying,x with
  |some (.slice _),.cv (.one (.own k))=>match aO o k with
    |some (ce, sz, _) => if 0<sz then iB A c ce sz λn c1 => K (.cv (.one (.int .i64 n))) c1 else A.fail "len"
    |none => A.fail "len: no such row"
  |some (.slice _),.cv (.one (.qR k))=>match aO o k with
    |some (ce, sz, t0) => if sz = 0 /\ t0 = 0 then iB A c ce 1 λn c1 => K (.cv (.one (.int .i64 n))) c1 else A.fail "len: bytes"
    |none => A.fail "len: no such row"
  |some (.slice _),.cv (.one (.dD q _ _ len _))=>bJ A (.cmp .geq len (.lit 0)) (bJ A (.or (.not (.var q)) (.cmp .eql len (.lit 0))) (K (.cv (.one (.int .i64 len))) c))
  |some .string,.cv (.one (.sv i))=>sH A c (.qP (.var i)) λn c1=>K (.cv (.one (.int .i64 n))) c1
  |some (.slice _),.cv (.one (.gP _ _ len _))=>K (.cv (.one (.int .i64 (.lit len)))) c
  |some (.slice _),.cv (.one .eR)=>K (.cv (.one (.int .i64 (.lit 0)))) c
  |some (.slice _),.cv (.one (.mL _ _ _ len _))=>bJ A (.cmp .geq len (.lit 0)) (K (.cv (.one (.int .i64 len))) c)
  |some .string,.cv (.one (.str l))=>K (.cv (.one (.int .i64 (.lit l.length)))) c
  |some (.array n _),_=>K (.cv (.one (.int .i64 (.lit n)))) c
  |some (.map _ _),.cv (.one (.omap k))=>match aO o k,t.bind (gg P)with
    |some (ce,sz,tc),some x=>match eo ce with
      |some cs => if tc = x.no /\ sz = 0 then K (.cv (.one (.int .i64 (.lit (cs.length / (x.ks.length+x.ne) : Nat))))) c else A.fail "len: map"
      |none => if tc = x.no /\ sz = 0 then iB A c ce (x.ks.length+x.ne) λn c1 => K (.cv (.one (.int .i64 n))) c1 else A.fail "len: map"
    |_, _ => A.fail "len: map"
  |_, _ => A.fail "len"
def kZ(A:bX R)(c:ar)(mx:Bool)(x y:SV)(K:SV->ar->R):R :=
  match x,y with
  | .cv (.one (.int k a)),.cv (.one (.int _ b))=>hU A c k (if mx then .max a b else .min a b) K
  |_, _ => A.fail "min, max"
def lG(P:Program)(o:bA)(op:BinOp)(t:TypeId)(x y:SV):Option (CE × Nat) :=
  if op=.eql\/op=.neq then
    match P.underlying t,x,y with
    |some (.slice _),.cv (.one (.own k)),.cv (.one .eR)=>match aO o k with
      |some (ce,sz,_)=>if 0<sz then some (ce,sz)else none
      |none=>none
    |_,_,_=>none
  else none
def kC(k:cr):SV->Option Bool
  | .cv (.one .pw)=>some true
  | .cv (.one (.val i))=>match ga k i with
    |some _=>some false
    |none=>none
  |_=>none
def oZ:Operand->Bool
 | .const _=>true
 |_=>false
def nj(P:Program)(k:cr)(op:BinOp)(t:TypeId)(xo yo:Operand)(x y:SV):Option Bool :=
  match P.underlying t with
  |some (.interface _)=>match kC k x,kC k y with
    |some a,some b=>if (a=true\/b=true)/\(oZ xo=true\/oZ yo=true)then (if op=.eql then some (a == b)else if op=.neq then some (!(a == b))else none)else none
    |_,_=>none
  |_=>none
def methodOf(P:Program)(t:TypeId)(name:String):Option FuncId :=
  match P.info? t,P.underlying t with
  |some i,some d=>match i.methods.find? (·.name == name)with
    |some m=>match m.func,m.path.toList with
      |some (f,false),[]=>match d with
        | .pointer _=>none
        |_=>some f
      |_,_=>none
    |none=>none
  |_,_=>none
def k7(G:bV)(k:cr)(c:ar)(t:TypeId)(x:SV):Option (Nat × List At × TypeId × CV) :=
  match x with
  | .cv (.one (.ext p (.lit j) sz off))=>match oR k p with
    |some g=>match G.ba.lookup g with
      |some (cs,ty)=>match partOf G.P t cs (j.toNat*sz+off)with
        |some v=>if cs.all (At.wf c)=true/\cs.all At.flat=true then some (g,cs,ty,v)else none
        |none=>none
      |none=>none
    |none=>none
  |_=>none
def doAssert(A:bX R)(P:Program)(k:cr)(c:ar)(x:SV)(asserted:TypeId)(ok:Bool)(K:SV->ar->R):R :=
  match P.underlying asserted,x with
  |some (.interface _), _ => A.fail "typeAssert: an interface"
  |some _,.cv (.one (.val i))=>match ga k i with
    |some (t,v) =>
      if t=asserted then K (if ok=true then .cS [v,.one (.bool (.lit true))]else .cv v) c
      else if ok=true then match c_ P asserted with
        |some z=>K (.cS [z,.one (.bool (.lit false))]) c
        |none => A.fail "typeAssert: zero"
      else A.fail "typeAssert: panics"
    |none => A.fail "typeAssert: unknown"
  | some _,.cv (.one .pw)=>if ok=true then match c_ P asserted with
      |some z=>K (.cS [z,.one (.bool (.lit false))]) c
      |none => A.fail "typeAssert: zero"
    else A.fail "typeAssert: panics"
  |_, _ => A.fail "typeAssert"
def AH(m:Mem)(o:bA):SV->Option CE
  | .cv (.one (.own k))=>match aO o k with
    |some (ce,sz,_)=>if sz=1/\gG ce=true then some ce else none
    |none=>none
  | .cv (.one (.gP k off len _))=>match getM m k with
    |some (cs,_)=>if off+len<=cs.length/\cs.all At.flat=true then some [.cu ((cs.drop off).take len)]else none
    |none=>none
  | .cv (.one .eR)=>some []
  |_=>none
def k8(P:Program)(c:ar)(s d:TypeId)(x:SV):Option At :=
  match P.underlying s,P.underlying d with
  |some (.slice e),some .string=>match P.underlying e,x with
    |some (.int .u8),.cv (.one a)=>match a with
      | .dD .. | .mL .. => if a.wf c=true then some a else none
      |_=>none
    |_,_=>none
  |_,_=>none
def bytesOf(P:Program)(m:Mem)(o:bA)(s d:TypeId)(x:SV):Option CE :=
  match P.underlying s,P.underlying d with
  |some (.slice e),some .string=>match P.underlying e with
    |some (.int .u8)=>AH m o x
    |_=>none
  |_,_=>none
def gH(P:Program)(s d:TypeId):Option TypeId :=
  match P.underlying s,P.underlying d with
  |some .string,some (.slice e)=>match P.underlying e with
    |some (.int .u8)=>some e
    |_=>none
  |_,_=>none
def nr(l:List UInt8):List At:=l.map λb=>.int .u8 (.lit b.toNat)
def wq(A:bX R)(G:bV)(st:St)(o:Oper)(K:SV->ar->R):R :=
  match o.op with
  | .move x=>K (st.ev x) st.c
  | .assign x=>K (st.ev x) st.c
  | .pick x a b=>match st.ev x with
    | .cv (.one (.bool e))=>fR A e (λ_=>K (st.ev a) st.c) (λ_=>K (st.ev b) st.c)
    |_ => A.fail "pick"
  | .load t x=>match k7 G st.k st.c t (st.ev x)with
    |some (g,cs,ty,v)=>A.ai g cs ty (K (.cv v) st.c)
    |none=>nc A G.P st.m st.o st.c t (st.ev x) K
  | .nilCheck x=>match st.ev x with
    | .cv (.one (.loc k off))=>K (.cv (.one (.loc k off))) st.c
    | .cv (.one (.ext p ix sz off))=>K (.cv (.one (.ext p ix sz off))) st.c
    | .cv (.one (.fQ k ix sz off))=>K (.cv (.one (.fQ k ix sz off))) st.c
    | .cv (.one (.fn f aK))=>K (.cv (.one (.fn f aK))) st.c
    | .cv (.one (.g_ f first aK))=>K (.cv (.one (.g_ f first aK))) st.c
    | .cv (.one (.sF k))=>K (.cv (.one (.sF k))) st.c
    | .cv (.one (.rT f l aK))=>K (.cv (.one (.rT f l aK))) st.c
    |_ => A.fail "nilCheck"
  | .binOp op t x y _=>match lG G.P st.o op t (st.ev x) (st.ev y)with
    |some (ce,sz)=>iB A st.c ce sz λn c1=>bJ A (.cmp .gtr n (.lit 0)) (K (.cv (.one (.bool (.lit (decide (op=.neq)))))) c1)
    |none=>match nj G.P st.k op t x y (st.ev x) (st.ev y)with
      |some b=>K (.cv (.one (.bool (.lit b)))) st.c
      |none=>l_ A G.P st.c op t (st.ev x) (st.ev y) K
  | .lookup t x i ok=>nh A G.P st.o st.c t (st.ev x) (st.ev i) ok K
  | .typeAssert x _ asserted ok=>doAssert A G.P st.k st.c (st.ev x) asserted ok K
  | .unOp op _ x=>wg A st.c op (st.ev x) K
  | .convert s d x=>match bytesOf G.P st.m st.o s d (st.ev x)with
    |some ce=>na A st.c (.row ce) K
    |none=>match k8 G.P st.c s d (st.ev x)with
      |some a=>A.It st.c.nl a 1 (na A {st.c with nl:=st.c.nl+1} (.row [.var st.c.nl]) K)
      |none=>sI A G.P st.c s d (st.ev x) K
  | .field t x f=>kU A G.P st.c t (st.ev x) f K
  | .fieldAddr s x f=>fK A G.P st.c s (st.ev x) f K
  | .indexAddr t x i=>fL A G.P st.o st.c t (st.ev x) (st.ev i) K
  | .index t x i=>kV A G.P st.c t (st.ev x) (st.ev i) K
  | .extract x i=>match st.ev x with
    | .cS l=>match l[i]? with
      |some v=>K (.cv v) st.c
      |none => A.fail "extract"
    |_ => A.fail "extract"
  | .build t parts=>kW A G.P st.c t (parts.toList.map λp=>(p.1,st.ev p.2)) K
  | .slice t x lo hi none=>pF A G.P st.c t (st.ev x) (lo.map st.ev) (hi.map st.ev) K
  | .makeFunc (.func f) first aK=>if first.size=0 then match fT (aK.toList.map st.ev)with
      |some l=>K (.cv (.one (.fn f l))) st.c
      |none => A.fail "makeFunc"
    else match fT (first.toList.map st.ev),fT (aK.toList.map st.ev)with
      |some q,some l=>K (.cv (.one (.g_ f q l))) st.c
      |none,some l=>match first.toList.map st.ev with
        | [.cv (.agg cs)]=>match aW.DG cs with
          |some r=>K (.cv (.one (.rT f r l))) st.c
          |none => A.fail "makeFunc: receiver"
        |_ => A.fail "makeFunc: receiver"
      |_, _ => A.fail "makeFunc"
  | .call {callee := .builtin .len,args,argTypes}=>match args.toList with
    | [x]=>wo A G.P st.o st.c argTypes[0]? (st.ev x) K
    |_ => A.fail "len"
  | .call {callee := .builtin .max,args,..}=>match args.toList with
    | [x,y]=>kZ A st.c true (st.ev x) (st.ev y) K
    |_ => A.fail "max"
  | .call {callee := .builtin .min,args,..}=>match args.toList with
    | [x,y]=>kZ A st.c false (st.ev x) (st.ev y) K
    |_ => A.fail "min"
  | .call {callee := .invoke r name,args,..}=>match st.ev r with
    | .cv (.one (.val i))=>match ga st.k i with
      |some (t,v)=>match methodOf G.P t name with
        |some f=>lF A G st.m st.o st.c f (.cv v::args.toList.map st.ev) K
        |none => A.fail "invoke: method"
      |none => A.fail "invoke: unknown"
    |_ => A.fail "invoke"
  | .call {callee := .value g,args,..}=>match st.ev g with
    | .cv (.one (.fn f aK))=>lF A G st.m st.o st.c f (args.toList.map st.ev++aK.map λx=>.cv (.one (.loc x.1 x.2))) K
    | .cv (.one (.g_ f first aK))=>lF A G st.m st.o st.c f ((first.map λx=>.cv (.one (.loc x.1 x.2)))++(args.toList.map st.ev++aK.map λx=>.cv (.one (.loc x.1 x.2)))) K
    |_ => A.fail "call: value"
  |_ => A.fail "operation"
def sL(A:bX R)(G:bV)(st:St)(t:TypeId)(x:Operand)(K:SV->ar->R):R:=match k7 G st.k st.c t (st.ev x)with
 |some (g,cs,ty,v)=>A.ai g cs ty (K (.cv v) st.c)
 |none=>nc A G.P st.m st.o st.c t (st.ev x) K
def o0(A:bX R)(G:bV)(st:St)(op:BinOp)(t:TypeId)(x y:Operand)(K:SV->ar->R):R:=match lG G.P st.o op t (st.ev x) (st.ev y)with
  |some (ce,sz)=>iB A st.c ce sz λn c1=>bJ A (.cmp .gtr n (.lit 0)) (K (.cv (.one (.bool (.lit (decide (op=.neq)))))) c1)
  |none=>match nj G.P st.k op t x y (st.ev x) (st.ev y)with
    |some b=>K (.cv (.one (.bool (.lit b)))) st.c
    |none=>l_ A G.P st.c op t (st.ev x) (st.ev y) K
def sN(A:bX R)(G:bV)(st:St)(op:BinOp)(t:TypeId)(x y:Operand)(K:SV->ar->R):R:=match st.ev x with
  | .cv (.one (.int k a))=>match st.ev y with
    | .cv (.one (.int k' b))=>pD A G.P st.c op t k k' a b K
    |_=>o0 A G st op t x y K
  |_=>o0 A G st op t x y K
theorem KI(A:bX R)(G:bV)(st:St)(op:BinOp)(t:TypeId)(x y:Operand)(K:SV->ar->R):sN A G st op t x y K=o0 A G st op t x y K:=by
 unfold sN;split
 ·rename_i k a hx;split
  ·rename_i k' b hy;rw [KH];unfold o0
   have h1:lG G.P st.o op t (st.ev x) (st.ev y)=none:=by
    rw [hx,hy];unfold lG;split
    ·split<;>first|rfl | (rename_i h _;cases h)|simp_all
    ·rfl
   have h2:nj G.P st.k op t x y (st.ev x) (st.ev y)=none:=by
    rw [hx,hy];unfold nj;simp only [kC];split<;>rfl
   rw [h1,h2,hx,hy]
  ·rfl
 ·rfl
def lH(A:bX R)(st:St)(x:Operand)(i:Nat)(K:SV->ar->R):R:=match st.ev x with
  | .cS l=>match l[i]? with
    |some v=>K (.cv v) st.c
    |none => A.fail "extract"
  |_ => A.fail "extract"
def uP(A:bX R)(G:bV)(st:St)(o:Oper)(K:SV->ar->R):R :=
 match o.op with
 | .move x=>K (st.ev x) st.c
 | .assign x=>K (st.ev x) st.c
 | .load t x=>sL A G st t x K
 | .binOp op t x y _=>o0 A G st op t x y K
 | .unOp op _ x=>wg A st.c op (st.ev x) K
 | .field t x f=>kU A G.P st.c t (st.ev x) f K
 | .fieldAddr s x f=>fK A G.P st.c s (st.ev x) f K
 | .indexAddr t x i=>fL A G.P st.o st.c t (st.ev x) (st.ev i) K
 | .index t x i=>kV A G.P st.c t (st.ev x) (st.ev i) K
 | .extract x i=>lH A st x i K
 |_=>wq A G st o K
theorem EJ(A:bX R)(G:bV)(st:St)(o:Oper)(K:SV->ar->R):uP A G st o K=wq A G st o K:=by
 obtain⟨dst,op,type,pos,after,guard⟩:=o;cases op<;>first|rfl | (unfold uP wq sL;rfl) | (unfold uP wq o0;rfl) | (unfold uP wq lH;rfl)
end Vc
set_option linter.unusedVariables false
namespace Vc
open Go Go.RowKit
variable {R:Type}
def St.new(A:bX R)(st:St)(dst:Option Tmp)(cs:List At)(t:TypeId)(v:Nat->At)(K:St->R):R :=
  if cs.all (At.wf st.c)=true then
    gw (λcs=>St.put A {st with m:=(st.c.nk,cs,t)::st.m} dst (.cv (.one (v st.c.nk))) {st.c with nk:=st.c.nk+1} K) cs []
  else A.fail "new"
def mv(A:bX R)(G:bV)(st:St)(o:Oper)(K:St->R):R :=
  match o.op with
  | .alloc t=>match c_ G.P t with
    |some z=>St.new A st o.dst z.cells t (.loc · 0) K
    |none => A.fail "alloc"
  | .box t x=>match st.ev x with
    | .cv v=>St.new A st o.dst v.cells t (.loc · 0) K
    |_ => A.fail "box"
  | .makeInterface t x=>match G.P.underlying t,st.ev x with
    |some (.interface _), _ => A.fail "makeInterface"
    | some _,.cv v=>if v.flat=true/\v.wf st.c=true then
        A.jy st.c.nv t v (St.put A {st with k := .jy st.c.nv t v::st.k} o.dst (.cv (.one (.val st.c.nv))) {st.c with nv:=st.c.nv+1} K)
      else A.fail "makeInterface: value"
    |_, _ => A.fail "makeInterface"
  | .store t a x=>match aQ G.P t,st.ev a,st.ev x with
    |some (_,n),.cv (.one (.loc k off)),.cv v=>match getM st.m k with
      | some (cs,_)=>if v.cells.length=n/\off + n<=cs.length/\v.wf st.c=true then
          St.put A {st with m:=jA st.m k (cs.take off++v.cells++cs.drop (off+n))} o.dst .any st.c K
        else A.fail "store: size"
      |none => A.fail "store: no such block"
    |_, _, _ => A.fail "store"
  | .buildSlice t len parts=>match G.P.underlying t with
    |some (.slice el)=>match aQ G.P el,c_ G.P el with
      | some (_,s),some z=>if z.cells.length=s/\0 < s/\0 < len/\len * s<=4096 then
          match cN (λi=>some (i*s,s)) (times z.cells len) (parts.toList.map λp=>(p.1,st.ev p.2))with
          |some cs=>St.new A st o.dst cs el (.gP · 0 len len) K
          |none => A.fail "buildSlice: parts"
        else A.fail "buildSlice: size"
      |_, _ => A.fail "buildSlice"
    |_ => A.fail "buildSlice"
  |_ => wq A G st o λv c => if c.nk = st.c.nk then St.put A st o.dst v c K else A.fail "blocks"
def yL(G:bV)(f:FuncId):Option (List (Nat × List Nat)) :=
 match G.loops.lookup (3000000+f)with
 |some (.inv jU (j::js) _)=>some ((j::js).map λa=>(a,(jU.filter λx=>x.1 == a).map (·.2)))
 |_=>none
def wu:At->Option CK
 | .int k _=>some (.int k)
 | .bool _=>some .bool
 | .str _=>some .str
 | .sv _=>some .str
 |_=>none
def jQ(cs:List At):List Nat->Option (List CK)
  | []=>some []
  |i::r=>match (cs[i]?).bind wu,jQ cs r with
    |some k,some l=>some (k::l)
    |_,_=>none
def iC:List At->List Nat->List At->List At
 |cs,i::r,a::l=>iC (cs.take i++a::cs.drop (i+1)) r l
 |cs,_,_=>cs
structure wy where
 k:Nat
 cs:List At
 t:TypeId
 jU:List Nat
 ks:List CK
def i0(m:Mem)(args:List SV):List (Nat × List Nat)->Option (List wy)
  | []=>some []
  | (j,jU)::r=>match args[j]?,i0 m args r with
    |some (.cv (.one (.loc k 0))),some l=>match getM m k with
      |some (cs,t)=>match jQ cs jU with
        |some ks=>some (⟨k,cs,t,jU,ks⟩::l)
        |none=>none
      |none=>none
    |_,_=>none
def kD:List wy->List At->List (Nat × List At × TypeId)
 | [],_=>[]
 |e::r,fr=>(e.k,iC e.cs e.jU (fr.take e.ks.length),e.t)::kD r (fr.drop e.ks.length)
def gi:Mem->List (Nat × List At × TypeId)->Mem
 |m,[]=>m
 |m,(k,cs,_)::r=>gi (jA m k cs) r
def wz(A:bX R)(G:bV)(st:St)(dst:Option Tmp)(f:FuncId)(args:List SV)(jo:List (Nat × List Nat))(K:St->R):R :=
  match G.P.funcs[f]? with
  |none => A.fail "call: no such function"
  |some fn=>match iA G.P fn.resultTypes.toList,i0 st.m args jo with
    |some ss,some bl =>
      let ks:=cj ss++bl.flatMap (·.ks);let fr:=av st.c ks;let ns:=kD bl (fr.drop (cj ss).length)
      if args.any jD = true \/ ¬args.all (SV.wf st.c) = true then A.fail "call: arguments"
      else if (bl.map (·.k)).Nodup then
        if G.calls.contains f=true then
          A.AE f args (dY st.m (cC st.m st.o args)) (eH st.o (cC st.m st.o args)) ns fr (cJ (bS ss fr))
            (St.put A {st with m:=gi st.m ns} dst (cJ (bS ss fr)) (aY st.c ks) K)
        else A.fail "call: unknown function"
      else A.fail "effect: a block twice"
    |_, _ => A.fail "effect"
def qX(G:bV)(st:St)(o:Oper):Option (FuncId × List SV × List (Nat × List Nat)) :=
  match o.op with
  | .call {callee := .value g,args,..}=>match st.ev g with
    | .cv (.one (.fn f aK))=>match yL G f with
      |some jo=>if (i0 st.m (args.toList.map st.ev++aK.map λx=>.cv (.one (.loc x.1 x.2))) jo).isSome=true then some (f,args.toList.map st.ev++aK.map λx=>.cv (.one (.loc x.1 x.2)),jo)else none
      |none=>none
    |_=>none
  |_=>none
def dS:bA->Nat->CE->bA
 | [],_,_=>[]
 | (j,v)::r,i,ce=>if j=i then (j,ce,v.2)::r else (j,v)::dS r i ce
def sP(G:bV)(f:FuncId):Option Nat :=
 match G.loops.lookup (600000000000000000+f)with
 |some (.inv _ (j::_) _)=>some j
 |_=>none
def sQ(A:bX R)(G:bV)(st:St)(dst:Option Tmp)(f:FuncId)(args:List SV)(j:Nat)(K:St->R):R :=
  match G.P.funcs[f]? with
  |none => A.fail "call: no such function"
  |some fn=>match iA G.P fn.resultTypes.toList,args[j]? with
    |some ss,some (.cv (.one (.own k)))=>match aO st.o k with
      |some (_,sz,t) =>
        let c1:ar := {st.c with nl:=st.c.nl+1};let fr:=av c1 (cj ss)
        if args.any jD = true \/ ¬args.all (SV.wf st.c) = true then A.fail "call: arguments"
        else if G.calls.contains f=true then
          A.AF f args (dY st.m (cC st.m st.o args)) (eH st.o (cC st.m st.o args)) k st.c.nl sz t fr (cJ (bS ss fr))
            (St.put A {st with o:=dS st.o k [.var st.c.nl]} dst (cJ (bS ss fr)) (aY c1 (cj ss)) K)
        else A.fail "call: unknown function"
      |none => A.fail "effect: no such row"
    |_, _ => A.fail "effect"
def nt(G:bV)(st:St)(o:Oper):Option (FuncId × List SV × Nat) :=
  match o.op with
  | .call {callee := .value g,args,..}=>match st.ev g with
    | .cv (.one (.fn f aK))=>match sP G f with
      |some j=>match (args.toList.map st.ev++aK.map λx=>SV.cv (.one (.loc x.1 x.2)))[j]? with
        |some (.cv (.one (.own _)))=>some (f,args.toList.map st.ev++aK.map λx=>.cv (.one (.loc x.1 x.2)),j)
        |_=>none
      |none=>none
    |_=>none
  |_=>none
def n_(A:bX R)(G:bV)(st:St)(o:Oper)(K:St->R):R :=
  match qX G st o with
  |some (f,args,jo)=>wz A G st o.dst f args jo K
  |none=>match nt G st o with
    |some (f,args,j)=>sQ A G st o.dst f args j K
    |none=>mv A G st o K
def pG(A:bX R)(G:bV)(st:St)(dst:Option Tmp)(t:TypeId)(K:St->R):R:=match c_ G.P t with
  |some z=>St.new A st dst z.cells t (.loc · 0) K
  |none => A.fail "alloc"
def wA(A:bX R)(st:St)(dst:Option Tmp)(t:TypeId)(x:Operand)(K:St->R):R:=match st.ev x with
  | .cv v=>St.new A st dst v.cells t (.loc · 0) K
  |_ => A.fail "box"
def tN(A:bX R)(G:bV)(st:St)(dst:Option Tmp)(t:TypeId)(a x:Operand)(K:St->R):R:=match aQ G.P t,st.ev a,st.ev x with
  |some (_,n),.cv (.one (.loc k off)),.cv v=>match getM st.m k with
    | some (cs,_)=>if v.cells.length=n/\off + n<=cs.length/\v.wf st.c=true then
        gw (λl=>St.put A {st with m:=jA st.m k l} dst .any st.c K) (cs.take off++v.cells++cs.drop (off+n)) []
      else A.fail "store: size"
    |none => A.fail "store: no such block"
  |_, _, _ => A.fail "store"
def nu(A:bX R)(G:bV)(st:St)(o:Oper)(K:St->R):R :=
  match o.op with
  | .alloc t=>pG A G st o.dst t K
  | .box t x=>wA A st o.dst t x K
  | .makeInterface .. => mv A G st o K
  | .store t a x=>tN A G st o.dst t a x K
  | .buildSlice .. => mv A G st o K
  |_ => uP A G st o λv c => if c.nk = st.c.nk then St.put A st o.dst v c K else A.fail "blocks"
theorem Sv(A:bX R)(G:bV)(st:St)(o:Oper)(K:St->R):nu A G st o K=mv A G st o K:=by
 obtain⟨dst,op,type,pos,after,guard⟩:=o;cases op<;>first|rfl | (unfold nu mv;simp only [EJ];done) | (unfold nu mv pG;rfl) | (unfold nu mv wA;rfl) | (unfold nu mv tN;simp only [Iw];done)
theorem EK(A:bX R)(G:bV)(st:St)(o:Oper)(K:St->R)(h:∀c,o.op ≠ .call c):n_ A G st o K=mv A G st o K:=by
 obtain⟨dst,op,type,pos,after,guard⟩:=o;cases op
 case call c=>exact absurd rfl (h c)
 all_goals rfl
def St.jn(A:bX R)(st:St)(dst:Option Tmp)(i5:List Nat)(ce:CE)(sz:Nat)(el:TypeId)(c:ar)(K:St->R)(md:Nat:=0):R :=
  if cw c ce=true then
    St.put A {st with o:=(c.nk,ce,sz,el)::bZ st.o i5} dst (.cv (.one (rowAt md c.nk))) {c with nk:=c.nk+4} K
  else A.fail "row"
def rowOf(o:bA)(sz:Nat)(el:TypeId):SV->Option (CE × List Nat)
  | .cv (.one .eR)=>some ([],[])
  | .cv (.one (.own k))=>match aO o k with
    |some (ce,s,t)=>if s=sz/\t=el then some (ce,[k])else none
    |none=>none
  |_=>none
def wB(A:bX R)(st:St)(sz:Nat)(i5:List Nat)(y:SV)(K:CE->ar->R):R :=
  match y with
  | .cv (.one .eR)=>K [] st.c
  | .cv (.one (.gP k off len _))=>match getM st.m k with
    |some (cs, _) => if off+len*sz <= cs.length then K [.cu ((cs.drop off).take (len*sz))] st.c else A.fail "append: beyond"
    |none => A.fail "append: no such block"
  | .cv (.one (.own k))=>match aO st.o k with
    |some (ce, s, _) => if s = sz /\ i5.contains k = false then K ce st.c else A.fail "append: a row to itself"
    |none => A.fail "append: no such row"
  | .cv (.one x)=>match x with
    | .mL _ _ s _ _ | .dD _ _ s _ _ => if s = sz /\ x.wf st.c = true then A.It st.c.nl x sz (K [.var st.c.nl] { st.c with nl := st.c.nl+1 }) else A.fail "append: a part"
    |_ => A.fail "append: what"
  |_ => A.fail "append: what"
def fU:Int:=1073741824
def AI(A:bX R)(G:bV)(st:St)(o:Oper)(K:St->R):R :=
  match o.op with
  | .call {callee := .builtin .append,args,argTypes}=>match args.toList,argTypes.toList with
    | [x,y],[t,t']=>match G.P.underlying t with
      |some (.slice el)=>match G.P.info? el,c_ G.P el with
        |some i,some z =>
          if t'=t/\0<i.size/\z.cells.length=i.size/\i.bytes<=131072 then
            match rowOf st.o i.size el (st.ev x)with
            | some (ce,i5)=>wB A st i.size i5 (st.ev y) fun add c1 =>
                iB A c1 (cT ce add) i.size λn c2=>bJ A (.cmp .leq n (.lit fU)) (St.jn A st o.dst i5 (cT ce add) i.size el c2 K)
            |none => A.fail "append: to what"
          else A.fail "append: type"
        |_, _ => A.fail "append: element"
      |_ => A.fail "append: slice"
    |_, _ => A.fail "append: arguments"
  |_ => A.fail "append"
def aW.ids:aW->List Nat
 | .gP k _ _ _=>[k]
 | .own k=>[k,k+1,k+2,k+3]
 |_=>[]
def aN:List At->List Nat
 | []=>[]
 | .loc k _::r | .gP k _ _ _::r=>k::aN r
 | .own k::r | .omap k::r | .qR k::r=>k::(k+1)::(k+2)::(k+3)::aN r
 | .fQ k _ _ _::r | .sF k::r=>k::aN r
 | .fn _ aK::r=>aK.map (·.1)++aN r
 | .g_ _ first aK::r=>first.map (·.1)++aK.map (·.1)++aN r
 | .rT _ first aK::r=>first.flatMap aW.ids++aK.map (·.1)++aN r
 |_::r=>aN r
def mM(G:bV)(dst:Option Tmp):Option TypeId :=
  match dst with
  |some d=>match G.loops.lookup (900000000+d)with
    |some (.inv _ [el] _)=>some el
    |_=>none
  |none=>none
def k9(A:bX R)(G:bV)(st:St)(dst:Option Tmp)(t:TypeId)(m k v:SV)(K:St->R):R :=
  match gg G.P t,m,k,v with
  |some x,.cv (.one (.omap j)),.cv kv,.cv vv=>match aO st.o j with
    |some (ce,sz,tc)=>match eo ce with
      | some cs=>if oz x.gk x.ks.length kv=true/\oz x.ge x.ne vv=true/\tc=x.no/\sz=0 then
          kT A st.c x kv.cells
            (λi _=>St.put A {st with o:=dS st.o j [.cu (cs.take (i*(x.ks.length+x.ne)+x.ks.length)++vv.cells++cs.drop (i*(x.ks.length+x.ne)+x.ks.length+x.ne))]} dst .any st.c K)
            (λ_=>St.put A {st with o:=dS st.o j [.cu (cs++(kv.cells++vv.cells))]} dst .any st.c K) (cs.length+1) cs 0
        else A.fail "map: entry"
      | none=>if oz x.gk x.ks.length kv=true/\oz x.ge x.ne vv=true/\tc=x.no/\sz=0/\vv.flat=true/\vv.wf st.c=true then
          pB A st.c x ce kv.cells λi c1=>fR A (.cmp .geq i (.lit 0))
            (λ_=>A.uL c1.nl (.set ce i (x.ks.length+x.ne) x.ks.length vv.cells) (St.put A {st with o:=dS st.o j [.var c1.nl]} dst .any {c1 with nl:=c1.nl+1} K))
            (λ_=>St.put A {st with o:=dS st.o j (cT ce [.cu (kv.cells++vv.cells)])} dst .any c1 K)
        else A.fail "map: entry"
    |none => A.fail "map: no such"
  |_, _, _, _ => A.fail "mapUpdate"
def oa(A:bX R)(G:bV)(st:St)(o:Oper)(K:St->R):R :=
  match o.op with
  | .makeSlice t l cp=>match G.P.underlying t with
    |some (.slice el)=>match G.P.info? el,c_ G.P el with
      |some i,some z =>
        if 0<i.size/\z.cells.length=i.size/\i.bytes<=131072/\z.cells.all At.flat=true/\z.wf st.c=true then
          match st.ev l,st.ev cp with
          | .cv (.one (.int _ e)),.cv (.one (.int _ e2)) =>
            if e=.lit 0 then
              bJ A (.cmp .geq e2 (.lit 0)) (bJ A (.cmp .leq e2 (.lit fU)) (St.jn A st o.dst [] [] i.size el st.c K))
            else if e=e2 then
              bJ A (.cmp .geq e (.lit 0)) (bJ A (.cmp .leq e (.lit fU)) (match e with
                | .lit n=>St.jn A st o.dst [] [.cu (times z.cells n.toNat)] i.size el st.c K
                |e => if e.wf st.c = true then A.uL st.c.nl (.rep e z.cells) (St.jn A st o.dst [] [.var st.c.nl] i.size el { st.c with nl := st.c.nl+1 } K) else A.fail "makeSlice: length"))
            else A.fail "makeSlice: capacity"
          |_, _ => A.fail "makeSlice: lengths"
        else A.fail "makeSlice: type"
      |_, _ => A.fail "makeSlice: element"
    |_ => A.fail "makeSlice"
  | .buildSlice t len parts=>match G.P.underlying t with
    |some (.slice el)=>match G.P.info? el with
      |some i=>if len=0/\parts.toList.length=0/\0<i.size then St.jn A st o.dst [] [] i.size el st.c K else match aQ G.P el,c_ G.P el with
        | some (_,s),some z=>if z.cells.length=s/\0 < s/\0 < len/\len * s<=4096 then
            match cN (λi=>some (i*s,s)) (times z.cells len) (parts.toList.map λp=>(p.1,st.ev p.2))with
            |some cs => if cs.length = len*s /\ aN cs = [] then St.jn A st o.dst [] [.cu cs] s el st.c K else A.fail "buildSlice: row"
            |none => A.fail "buildSlice: parts"
          else A.fail "buildSlice: size"
        |_, _ => A.fail "buildSlice: row"
      |none => A.fail "buildSlice: row"
    |_ => A.fail "buildSlice: row"
  | .slice t x lo (some hi) (some mx)=>match G.P.underlying t,st.ev hi,st.ev mx,dc (.lit 0) (lo.map st.ev)with
    |some (.slice el),.cv (.one (.int _ (.lit 0))),.cv (.one (.int _ (.lit 0))),some (.lit 0)=>match G.P.info? el,st.ev x with
      |some i,.cv (.one (.mL ..))|some i,.cv (.one (.own ..))|some i,.cv (.one .eR) =>
        if 0<i.size then St.jn A st o.dst [] [] i.size el st.c K else A.fail "slice: row"
      |_, _ => A.fail "slice: row"
    |_, _, _, _ => A.fail "slice: row"
  | .store t a x=>match aQ G.P t,st.ev a,st.ev x with
    |some (_,n),.cv (.one (.fQ k ix sz off)),.cv v=>match aO st.o k with
      |some (ce,s,_) =>
        if s=sz/\v.cells.length=n/\off+n<=sz/\0<sz/\v.wf st.c=true/\ix.wf st.c=true/\cw st.c ce=true then
          iB A st.c ce sz λm c1=>bJ A (.cmp .geq ix (.lit 0)) (bJ A (.cmp .lss ix m) (
            match ia ce ix sz off with
            |some (cs,p)=>St.put A {st with o:=dS st.o k [.cu (cs.take p++v.cells++cs.drop (p+n))]} o.dst .any c1 K
            | none=>if gG ce=true/\v.flat=true then
                A.uL c1.nl (.set ce ix sz off v.cells) (St.put A {st with o:=dS st.o k [.var c1.nl]} o.dst .any {c1 with nl:=c1.nl+1} K)
              else A.fail "store: row"))
        else A.fail "store: row"
      |none => A.fail "store: no such row"
    |_, _, _ => A.fail "store: row"
  | .convert s d x=>match gH G.P s d,st.ev x with
    |some _,.cv (.one (.str l))=>St.jn A st o.dst [] [.cu (nr l)] 0 0 st.c K 2
    |some _,.cv (.one (.sv i))=>A.uL st.c.nl (.qR i) (St.jn A st o.dst [] [.var st.c.nl] 0 0 {st.c with nl:=st.c.nl+1} K 2)
    |_, _ => A.fail "convert: bytes"
  | .makeMap t none=>match gg G.P t with
    |some x=>St.jn A st o.dst [] [] 0 x.no st.c K 1
    |none => A.fail "makeMap"
  | .mapUpdate t m k v=>k9 A G st o.dst t (st.ev m) (st.ev k) (st.ev v) K
  | .insert t m k v=>k9 A G st o.dst t (st.ev m) (st.ev k) (st.ev v) K
  | .assign x=>match st.ev x,mM G o.dst with
    | .cv (.one .eR),some el=>match G.P.info? el with
      |some i => if 0<i.size then St.jn A st o.dst [] [] i.size el st.c K else A.fail "assign: row"
      |none => A.fail "assign: row"
    |_, _ => A.fail "assign: row"
  |_ => A.fail "row: operation"
def St.dp(st:St)(d:Nat)(b:Bool):St := {st with t:=(d,.cv (.one (.bool (.lit b))))::st.t}
abbrev yM(R:Type):=FuncId->List SV->St->(SV->St->R)->R
abbrev Yl(R:Type):=Nat->List SV->St->(SV->St->R)->R
def dA(x:Nat × Nat):SV := .cv (.one (.loc x.1 x.2))
def tO(G:bV)(t:TypeId)(dst:Option Tmp):Bool :=
 match dst with
 |some d=>(G.loops.lookup (1000000+t*10000+d)).isSome
 |none=>false
def tP(G:bV)(f:FuncId):Option (TypeId × List Nat) :=
 match G.loops.lookup (800000000000000000+f)with
 |some (.inv _ (t::js) _)=>some (t,js)
 |_=>none
def sR(args:List SV):List Nat->Option (List Nat)
  | []=>some []
  |j::r=>match args[j]?,sR args r with
    |some (.cv (.one (.loc k _))),some l=>some (k::l)
    |_,_=>none
def tQ(m:Mem)(ks:List Nat):Mem:=m.filter λx => !ks.contains x.1
def wC(A:bX R)(G:bV)(KP:Nat->St->R)(st:St)(f:FuncId)(args:List SV)(t:TypeId)(js:List Nat):R :=
  match aQ G.P t,wc G.P 30 t,sR args js with
  |some (g,_),some ks,some bs =>
    if args.any jD = true \/ ¬args.all (SV.wf st.c) = true then A.fail "panics: arguments"
    else if ks.all CK.plain=true/\G.calls.contains f=true/\bs.Nodup/\bs.all (λb=>(getM st.m b).isSome)=true then
      let fr:=av st.c ks;let c1:=aY st.c ks
      A.AG f args (dY st.m (cC st.m st.o args)) (eH st.o (cC st.m st.o args)) bs fr t (eG g fr) c1.nv
        (KP c1.nv {st with m:=tQ st.m bs,c := {c1 with nv:=c1.nv+1},k := .jy c1.nv t (eG g fr)::st.k})
    else A.fail "panics"
  |_, _, _ => A.fail "panics: type"
def Sw(A:bX R)(G:bV)(KP:Nat->St->R)(st:St)(o:Oper)(f:FuncId)(args:List SV)(K:St->R):R :=
 match tP G f with
 |none=>n_ A G st o K
 |some (t,js)=>A.alt (n_ A G st o K) (wC A G KP st f args t js)
def wD(G:bV)(f:FuncId):Bool:=(G.loops.lookup (400000000000000000+f)).isSome
def sS(A:bX R)(G:bV)(st:St)(dst:Option Tmp)(f:FuncId)(args:List SV)(K:St->R):R :=
  match args with
  | [.cv (.one (.own k)),.cv (.one (.int _ (.lit 0))),.cv (.one (.gP k2 off n _))]=>match aO st.o k,getM st.m k2 with
    |some (ce,sz,t),some (cs,_) =>
      if 0<sz/\off+n*sz<=cs.length/\args.all (SV.wf st.c)=true/\G.calls.contains f=true then
        A.qV f args (dY st.m (cC st.m st.o args)) (eH st.o (cC st.m st.o args)) k (cT [.cu ((cs.drop off).take (n*sz))] ce) sz t
          (St.jn A st dst [k] (cT [.cu ((cs.drop off).take (n*sz))] ce) sz t st.c K)
      else A.fail "give"
    |_, _ => A.fail "give: no such row"
  |_ => A.fail "give: arguments"
def qY(A:bX R)(G:bV)(inl:yM R)(yl:Yl R)(rU:Bool)(KP:Nat->St->R)(st:St)(o:Oper)(K:St->R):R :=
  match o.op with
  | .panic x=>match st.ev x with
    | .cv (.one (.val i)) => if (ga st.k i).isSome = true then KP i st else A.fail "panic: unknown"
    |_ => A.fail "panic"
  | .defer c=>match c.callee,c.args.toList,o.dst,rU with
    | .value g,[],none,true=>match st.ev g with
      | .cv (.one (.fn f aK)) => if st.d = [] then K { st with df := (f, aK) :: st.df } else A.fail "defer: function"
      |_ => A.fail "defer: value"
    |_, _, _, _ => A.fail "defer"
  | .call {callee := .invoke r name,args,..}=>match st.ev r with
    | .cv (.one (.val i))=>match ga st.k i with
      |some (t,v)=>match methodOf G.P t name with
        | some f=>if G.inl.contains f=true then
            if (args.toList.map st.ev).any jD = true then A.fail "inline: arguments"
            else inl f (.cv v::args.toList.map st.ev) st λv s=>St.put A s o.dst v s.c K
          else n_ A G st o K
        |none => A.fail "invoke: method"
      |none => A.fail "invoke: unknown"
    |_ => A.fail "invoke"
  | .call {callee := .value g,args,..}=>match st.ev g with
    | .cv (.one (.fn f aK)) =>
      if wD G f=true/\aK=[]then sS A G st o.dst f (args.toList.map st.ev) K else
      if G.inl.contains f=true then
        if (args.toList.map st.ev).any jD = true then A.fail "inline: arguments"
        else inl f (args.toList.map st.ev++aK.map dA) st λv s=>St.put A s o.dst v s.c K
      else Sw A G KP st o f (args.toList.map st.ev++aK.map dA) K
    | .cv (.one (.g_ f first aK)) =>
      if G.inl.contains f=true then
        if (args.toList.map st.ev).any jD = true then A.fail "inline: arguments"
        else inl f (first.map dA++(args.toList.map st.ev++aK.map dA)) st λv s=>St.put A s o.dst v s.c K
      else n_ A G st o K
    | .cv (.one (.rT f first aK)) =>
      if G.inl.contains f=true then
        if (args.toList.map st.ev).any jD = true then A.fail "inline: arguments"
        else inl f (.cv (.agg (first.map aW.at))::(args.toList.map st.ev++aK.map dA)) st λv s=>St.put A s o.dst v s.c K
      else A.fail "call: method value"
    | .cv (.one (.sF k)) =>
      if (args.toList.map st.ev).any jD = true then A.fail "yield: arguments"
      else yl k (args.toList.map st.ev) st λv s=>St.put A s o.dst v s.c K
    |_ => A.fail "call: value"
  | .call {callee := .builtin .append,..}=>AI A G st o K
  | .makeSlice .. => oa A G st o K
  | .makeMap .. => oa A G st o K
  | .convert s d _=>if (gH G.P s d).isSome=true then oa A G st o K else n_ A G st o K
  | .mapUpdate .. => oa A G st o K
  | .insert .. => oa A G st o K
  | .assign x=>if (mM G o.dst).isSome=true/\st.ev x=.cv (.one .eR)then oa A G st o K else n_ A G st o K
  | .buildSlice t len _=>if len=0\/tO G t o.dst=true then oa A G st o K else n_ A G st o K
  | .slice _ _ _ _ (some _)=>oa A G st o K
  | .store _ a _=>match st.ev a with
    | .cv (.one (.fQ ..))=>oa A G st o K
    |_=>n_ A G st o K
  |_=>n_ A G st o K
def mw(A:bX R)(st:St)(dst:Option Tmp)(K:St->R)(v:SV)(c:ar):R:=match Nat.beq c.nk st.c.nk with
  |true=>St.put A st dst v c K
  |false => A.fail "blocks"
theorem KJ (A : bX R) (st : St) (dst : Option Tmp) (K : St -> R) : mw A st dst K = λv c => if c.nk = st.c.nk then St.put A st dst v c K else A.fail "blocks" := by
  funext v c;unfold mw;cases h:Nat.beq c.nk st.c.nk with
  |true=>rw [if_pos (Nat.eq_of_beq_eq_true h)]
  |false=>rw [if_neg (Nat.ne_of_beq_eq_false h)]
def nK(K:St->R):St->R:=λs=>s.norm K
theorem KK(K:St->R):nK K=K:=by funext s;exact St.norm_eq s K
def qZ(A:bX R)(G:bV)(st:St)(o:Oper)(x:Operand)(K:St->R):R:=if (mM G o.dst).isSome=true/\st.ev x=.cv (.one .eR)then oa A G st o K else mw A st o.dst K (st.ev x) st.c
def nw(A:bX R)(G:bV)(inl:yM R)(yl:Yl R)(rU:Bool)(KP:Nat->St->R)(st:St)(o:Oper)(K:St->R):R :=
 match o.op with
 | .move x=>mw A st o.dst K (st.ev x) st.c
 | .assign x=>qZ A G st o x K
 | .alloc t=>pG A G st o.dst t (nK K)
 | .box t x=>wA A st o.dst t x (nK K)
 | .load t x=>sL A G st t x (mw A st o.dst K)
 | .binOp op t x y _=>sN A G st op t x y (mw A st o.dst K)
 | .unOp op _ x=>wg A st.c op (st.ev x) (mw A st o.dst K)
 | .field t x f=>kU A G.P st.c t (st.ev x) f (mw A st o.dst K)
 | .fieldAddr s x f=>fK A G.P st.c s (st.ev x) f (mw A st o.dst K)
 | .indexAddr t x i=>fL A G.P st.o st.c t (st.ev x) (st.ev i) (mw A st o.dst K)
 | .index t x i=>kV A G.P st.c t (st.ev x) (st.ev i) (mw A st o.dst K)
 | .extract x i=>lH A st x i (mw A st o.dst K)
 |_=>qY A G inl yl rU KP st o (nK K)
theorem KL(A:bX R)(G:bV)(inl:yM R)(yl:Yl R)(rU:Bool)(KP:Nat->St->R):nw A G inl yl rU KP=qY A G inl yl rU KP:=by
 funext st o K;obtain⟨dst,op,type,pos,after,guard⟩:=o
 cases op<;>unfold nw<;>(try unfold qZ)<;>(try dsimp only)<;>(try rw [KK])<;>(try rw [KI])<;>(try rw [KJ])<;>first
  |rfl
  | (show nu A G st _ K=n_ A G st _ K;rw [Sv,EK];intro c h;cases h)
  | (unfold qY;dsimp only [];split;rfl;(show nu A G st _ K=n_ A G st _ K;rw [Sv,EK];intro c h;cases h))
def AJ(A:bX R)(step:St->Oper->(St->R)->R)(ops:Array Oper)(st:St)(o:Oper)(j:Nat)(want:Bool)(K:St->R):R :=
  match (ops[j]?).bind (·.dst)with
  |none => A.fail "guard"
  | some d=>if d < st.n then match ay st.t d with
      | .cv (.one (.bool e)) =>
        fR A e
          (λ_=>if want=true then (st.dp d true).norm λst=>step st o K else (st.dp d true).norm λst=>St.put A st o.dst .dX st.c K)
          (λ_=>if want=true then (st.dp d false).norm λst=>St.put A st o.dst .dX st.c K else (st.dp d false).norm λst=>step st o K)
      | .dX=>St.put A st o.dst .dX st.c K
      |_ => A.fail "guard: unknown"
    else A.fail "guard: slot"
def k_(A:bX R)(step:St->Oper->(St->R)->R)(ops:Array Oper):List Oper->St->(St->R)->R
  | [],st,K=>K st
  |o::r,st,K =>
    match o.guard with
    |none=>step st o λs=>k_ A step ops r s K
    |some (j,want)=>AJ A step ops st o j want λs=>k_ A step ops r s K
structure DS where
 rd:List (Nat × Nat)
 wr:List (Nat × Nat)
 al:List (Nat × Nat)
def aE:List At->List Nat
 | []=>[]
 | .loc k _::r | .gP k _ _ _::r=>k::aE r
 | .own k::r | .fQ k _ _ _::r | .omap k::r | .qR k::r=>k::aE r
 |_::r=>aE r
def bd(st:St)(o:Oper):List Nat :=
  match o.op with
  | .load _ x=>aE (aV (st.ev x))
  | .lookup _ x _ _=>aE (aV (st.ev x))
  | .indexAddr _ x _=>aE (aV (st.ev x))
  | .convert _ _ x=>aE (aV (st.ev x))
  | .binOp _ _ x _ _=>match st.ev x with
    | .cv (.one (.own k))=>[k]
    |_=>[]
  | .call {callee := .value g,args,..}=>match st.ev g with
    | .cv (.one (.fn _ aK))=>aE (cC st.m st.o (args.toList.map st.ev++aK.map λx=>.cv (.one (.loc x.1 x.2))))
    | .cv (.one (.g_ _ first aK))=>aE (cC st.m st.o ((first.map λx=>.cv (.one (.loc x.1 x.2)))++(args.toList.map st.ev++aK.map λx=>.cv (.one (.loc x.1 x.2)))))
    |_=>aE ((args.toList.map st.ev).flatMap aV)
  | .call {callee := .invoke r _,args,..}=>match st.ev r with
    | .cv (.one (.val i))=>match ga st.k i with
      |some (_,v)=>aE (cC st.m st.o (.cv v::args.toList.map st.ev))
      |none=>[]
    |_=>[]
  | .call {callee := .builtin _,args,..}=>aE ((args.toList.map st.ev).flatMap aV)
  |_=>[]
def eW:List SV->List Nat
 | []=>[]
 | .cv (.one (.loc k 0))::r=>k::eW r
 | .cv (.one (.own k))::r=>k::eW r
 |_::r=>eW r
def a8(st:St)(o:Oper):List Nat :=
  match o.op with
  | .call {callee := .value g,args,..}=>match st.ev g with
    | .cv (.one (.fn _ aK))=>eW (args.toList.map st.ev++aK.map λx=>.cv (.one (.loc x.1 x.2)))
    |_=>eW (args.toList.map st.ev)
  | .store _ x _=>aE (aV (st.ev x))
  | .mapUpdate _ x _ _ | .insert _ x _ _=>aE (aV (st.ev x))
  | .call {callee := .builtin .append,args,..}=>match args.toList with
    |x::_=>aE (aV (st.ev x))
    | []=>[]
  |_=>[]
def direct(ops:Array Oper)(i j:Nat):Bool :=
 match ops[i]? with
 |some o=>o.after.any λe=>Region.binds .any e && decide (e.on=j)
 |none=>false
def reach(ops:Array Oper):Nat->Nat->Nat->Bool
  |0,_,_=>false
  |d+1,i,j=>direct ops i j || match ops[i]? with
    |some o=>o.after.any λe=>Region.binds .any e && reach ops d e.on j
    |none=>false
def eX:SV->List Nat
 | .cv c=>aN c.cells
 | .cS l=>aN (l.flatMap CV.cells)
 |_=>[]
def dZ(ops:Array Oper):Bool :=
  (List.range ops.size).all λi=>match ops[i]? with
    |none=>false
    |some o=>(o.after.all λe => !Region.binds .any e || decide (e.on<i)) && (List.range ops.size).all λj=>match ops[j]? with
      |none=>false
      |some p =>
        match p.dst with
          |none=>true
          |some d=>decide (i=j\/o.dst≠some d) && (!(o.looksAt ops).contains d || (decide (j<i) && direct ops i j) || (decide (i<j) && direct ops j i))
def DS.fz(d:DS)(ops:Array Oper)(i k:Nat):Bool :=
 match d.al.lookup k with
 |none=>true
 |some j=>reach ops 3 i j
def di(st:St)(o:Oper):List Nat :=
 match o.op with
 | .store _ _ x=>eX (st.ev x)
 | .box _ x=>eX (st.ev x)
 | .mapUpdate _ _ k v | .insert _ _ k v=>eX (st.ev k)++eX (st.ev v)
 | .buildSlice _ _ parts=>parts.toList.flatMap λp=>eX (st.ev p.2)
 |_=>[]
def KM(ops:Array Oper)(i:Nat)(d:DS)(o:Oper)(s:St):Bool :=
 match o.dst with
  |none=>true
  |some x=>(eX (ay s.t x)).all (d.fz ops i)
def du(ops:Array Oper)(i:Nat):List Nat :=
 match ops[i]? with
 |some o=>(o.after.toList.filter (Region.binds .any ·)).map (·.on)
 |none=>[]
def i7(acc:List Nat):List Nat->List Nat
 | []=>acc
 |x::r=>i7 (if acc.contains x=true then acc else x::acc) r
def behind(ops:Array Oper):Nat->List Nat->List Nat
 |0,acc=>acc
 |d+1,acc=>behind ops d (i7 acc (acc.flatMap (du ops)))
def DI(ops:Array Oper)(i j:Nat):Bool:=(behind ops 10 (i7 [] (du ops i))).contains j
def pH(ops:Array Oper)(i j:Nat):Bool:=direct ops i j || DI ops i j
def yN(ops:Array Oper)(x y:Nat × Nat):Bool :=
 decide (x.1≠y.1) || decide (x.2=y.2) || (decide (y.2<x.2) && pH ops x.2 y.2) || (decide (x.2<y.2) && pH ops y.2 x.2)
def sT(ops:Array Oper)(rd wr:List (Nat × Nat)):Bool :=
 (rd.all λx=>wr.all λy=>yN ops x y) && wr.all λx=>wr.all λy=>yN ops x y
def iD(a b i:Nat):List (Nat × Nat):=(List.range (b-a)).map λj=>(a+j,i)
def o1(al:List (Nat × Nat))(o:bA):Bool:=o.all λx=>[1,2,3].all λd=>decide (al.lookup (x.1+d)=al.lookup x.1)
def KN(A:bX R)(G:bV)(st:St)(o:Oper)(K:St->R):R :=
  match o.op with
  | .call {callee := .builtin .append,..}=>AI A G st o K
  | .buildSlice t len _=>if len=0\/tO G t o.dst=true then oa A G st o K else n_ A G st o K
  | .store _ a _=>match st.ev a with
    | .cv (.one (.fQ ..))=>oa A G st o K
    |_=>n_ A G st o K
  | .makeMap .. => oa A G st o K
  | .mapUpdate .. => oa A G st o K
  | .insert .. => oa A G st o K
  | .convert s d _=>if (gH G.P s d).isSome=true then oa A G st o K else n_ A G st o K
  |_=>n_ A G st o K
def q_(A:bX R)(G:bV)(ops:Array Oper)(i:Nat)(d:DS)(st:St)(o:Oper)(K:DS->St->R):R :=
  if (bd st o++a8 st o++di st o).all (d.fz ops i)=true then
    KN A G st o λs =>
      if (KM ops i d o s && o1 (iD st.c.nk s.c.nk i++d.al) s.o)=true then
        K {rd:=(bd st o).map (·,i)++d.rd,wr:=(a8 st o).map (·,i)++d.wr,al:=iD st.c.nk s.c.nk i++d.al} s
      else A.fail "drawn: blocks"
  else A.fail "drawn: order"
def iL(A:bX R)(G:bV)(ops:Array Oper):Nat->List Oper->DS->St->(St->R)->R
  |_, [], d, st, K => if sT ops d.rd d.wr = true then K st else A.fail "drawn: read and written"
  |i,o::r,d,st,K =>
    match o.guard with
    |none=>q_ A G ops i d st o λd' s=>iL A G ops (i+1) r d' s K
    |some (j,want)=>match (ops[j]?).bind (·.dst)with
      |none => A.fail "guard"
      | some x=>if x < st.n then match ay st.t x with
          | .cv (.one (.bool e)) =>
            fR A e
              (λ_=>if want=true then q_ A G ops i d (st.dp x true) o λd' s=>iL A G ops (i+1) r d' s K else St.put A (st.dp x true) o.dst .dX st.c λs=>iL A G ops (i+1) r d s K)
              (λ_=>if want=true then St.put A (st.dp x false) o.dst .dX st.c λs=>iL A G ops (i+1) r d s K else q_ A G ops i d (st.dp x false) o λd' s=>iL A G ops (i+1) r d' s K)
          | .dX=>St.put A st o.dst .dX st.c λs=>iL A G ops (i+1) r d s K
          |_ => A.fail "guard: unknown"
        else A.fail "guard: slot"
def ny(ops:Array Oper):Nat->Nat
 |0=>0
 |n+1=>if (List.range n).all (λj=>(behind ops 10 (i7 [] (du ops n))).contains j)=true then ny ops n else n+1
def nz(P:Program)(o:Oper):Bool :=
 match o.op with
 | .call {callee := .builtin .len,..}=>false
 | .call {callee := .builtin .min,..}=>false
 | .call {callee := .builtin .max,..}=>false
 | .call _=>true
 | .convert s d _=>(gH P s d).isSome
 | .move _ | .assign _ | .pick .. | .load .. | .nilCheck _ | .binOp .. | .unOp .. | .field .. | .fieldAddr .. | .indexAddr .. | .index .. | .extract .. | .build .. | .typeAssert .. | .lookup .. | .makeFunc .. | .makeInterface .. => false
 | .slice _ _ _ _ m=>m.isSome
 |_=>true
def tR(ops:Array Oper):Nat->List Nat->List Nat
 |0,acc=>acc
 |j+1,acc=>tR ops j (if acc.contains j=true then i7 acc (du ops j)else acc)
def before(ops:Array Oper)(i:Nat):List Nat:=tR ops i (i7 [] (du ops i))
def yO(ops:Array Oper):List Nat->List Nat->List Nat
 |done,[]=>done
 |done,j::r=>if (du ops j).all done.contains=true then yO ops (done ++ [j]) r else yO ops done r
def canon(ops:Array Oper)(fl:List Nat):List Nat->List Nat->List Nat
 |done,[]=>yO ops done (fl.filter λj => !done.contains j)
 |done,a::r=>let d:=yO ops done (fl.filter λj => !done.contains j);canon ops fl (d ++ [a]) r
def EL(P:Program)(ops:Array Oper):List Nat:=(List.range ops.size).filter λi=>match ops[i]? with|some o=>nz P o|none=>false
def B1(P:Program)(ops:Array Oper):List Nat:=(List.range ops.size).filter λi=>match ops[i]? with|some o => !nz P o|none=>false
def pI(P:Program)(ops:Array Oper):List Nat:=canon ops (B1 P ops) [] (EL P ops)
def DJ(P:Program)(ops:Array Oper):List Nat->Bool
  | []=>true
  |i::r=>decide (i<ops.size) && !r.contains i && (du ops i).all (λj => !(i::r).contains j) &&
    (match ops[i]? with
     |some o => !nz P o || r.all (λx=>(du ops x).any λj=>(i::r).contains j)
     |none=>false) && DJ P ops r
def B2(o:Oper):Bool :=
 match o.op with
 | .call {callee := .value _,..}=>true
 | .call {callee := .invoke ..,..}=>true
 |_=>false
def pJ(P:Program)(ops:Array Oper):Bool :=
 ops.toList.any B2 && DJ P ops (pI P ops) && (List.range ops.size).all λj=>(pI P ops).contains j
structure gU where
 j:Nat
 dst:Option Tmp
 rd:List Nat
 ld:Option (Nat × Nat × Bool × Nat):=none
def yP(P:Program)(st:St)(o:Oper):Option (Nat × Nat × Bool × Nat) :=
  match o.op with
  | .load t x=>match aQ P t,st.ev x with
    |some (g,n),.cv (.one (.loc k off))=>some (k,off,g,n)
    |_,_=>none
  |_=>none
def wE(q:Nat × Nat × Bool × Nat)(cs:List At):Option CV :=
 if q.2.2.1=true then if q.2.1+q.2.2.2<=cs.length then some (.agg ((cs.drop q.2.1).take q.2.2.2))else none else (cs[q.2.1]?).map .one
def yQ(t:List (Nat × SV))(m:Mem)(p:gU):Bool :=
  match p.ld,p.dst with
  |some q,some d=>match getM m q.1,ay t d with
    |some (cs,_),.cv u=>decide (wE q cs=some u)
    |_,_=>false
  |_,_=>false
def cn(t:List (Nat × SV)):List gU->List (Nat × SV)
  | []=>t
  |p::r=>match p.dst with
    |some d=>(d,.any)::cn t r
    |none=>cn t r
def eI(t:List (Nat × SV))(dst:Option Tmp)(v:SV):List (Nat × SV) :=
 match dst with
 |some d=>(d,v)::t
 |none=>t
def Ix(A:bX R)(G:bV)(st:St)(o:Oper)(K:SV->ar->cr->R):R :=
  match o.op with
  | .makeInterface t x=>match G.P.underlying t,st.ev x with
    |some (.interface _), _ => A.fail "makeInterface"
    | some _,.cv v=>if v.flat=true/\v.wf st.c=true then
        A.jy st.c.nv t v (K (.cv (.one (.val st.c.nv))) {st.c with nv:=st.c.nv+1} (.jy st.c.nv t v::st.k))
      else A.fail "makeInterface: value"
    |_, _ => A.fail "makeInterface"
  |_ => uP A G st o λv c => if c.nk = st.c.nk /\ v.wf c = true then K v c st.k else A.fail "drawn: value"
def AK(s st:St)(k:Nat):Bool:=decide (getM s.m k=getM st.m k) && decide (aO s.o k=aO st.o k)
def re(n:Nat):Option Tmp->Bool
 |some d=>decide (d<n)
 |none=>true
inductive Gd where
 |yes
 |no
 |ask (e:BE) (want:Bool)
 |bad
def guardOf(ops:Array Oper)(st:St)(o:Oper):Gd :=
  match o.guard with
  |none=>.yes
  |some (j,want)=>match (ops[j]?).bind (·.dst)with
    |none=>.bad
    | some d=>if d < st.n then match ay st.t d with
        | .cv (.one (.bool e))=>.ask e want
        | .dX=>.no
        |_=>.bad
      else .bad
abbrev Kf:=List (BE × Bool)
def mN(A:bX R)(F:Kf)(e:BE)(t f:Kf->R):R :=
 match F.lookup e with
 |some true=>t F
 |some false=>f F
 |none=>fR A e (λ_=>t ((e,true)::F)) (λ_=>f ((e,false)::F))
def mO(A:bX R)(F:Kf)(g:Gd)(go no:Kf->R):R :=
  match g with
  | .yes=>go F
  | .no=>no F
  | .ask e want=>mN A F e (λF=>if want=true then go F else no F) (λF=>if want=true then no F else go F)
  | .bad => A.fail "guard: unknown"
def EM(A:bX R)(G:bV)(step:St->Oper->(St->R)->R)(ops:Array Oper)(st:St)(F:Kf)(P:List gU)(i:Nat)(o:Oper)(K:St->Kf->List gU->R):R :=
  let bf:=before ops i;let P0:=P.filter λp => !bf.contains p.j;let st0:St := {st with t:=cn st.t P0}
  mO A F (guardOf ops st0 o)
    (λF => step st0 o λs => if P0.all (λp => p.rd.all (AK s st) || yQ st.t s.m p) = true then K { s with t := eI st.t o.dst (match o.dst with|some d => ay s.t d|none => .any), n := st.n } F P0 else A.fail "drawn: read and written")
    (λF=>K {st with t:=eI st.t o.dst .dX} F P0)
def B3(A:bX R)(G:bV)(st:St)(F:Kf)(o:Oper)(K:SV->ar->cr->Kf->R):R :=
  match o.op with
  | .pick x a b=>match st.ev x with
    | .cv (.one (.bool e))=>mN A F e (λF=>K (st.ev a) st.c st.k F) (λF=>K (st.ev b) st.c st.k F)
    |_ => A.fail "pick"
  |_=>Ix A G st o λv c k=>K v c k F
def EN(A:bX R)(G:bV)(ops:Array Oper)(st:St)(F:Kf)(P:List gU)(i:Nat)(o:Oper)(K:St->Kf->List gU->R):R :=
 mO A F (guardOf ops st o)
  (λF=>B3 A G st F o λv c k F=>K {st with t:=eI st.t o.dst v,c:=c,k:=k} F (⟨i,o.dst,bd st o,yP G.P st o⟩::P))
  (λF=>K {st with t:=eI st.t o.dst .dX} F (⟨i,o.dst,[],none⟩::P))
def o3(A:bX R)(G:bV)(step:St->Oper->(St->R)->R)(ops:Array Oper):List Nat->St->Kf->List gU->(St->R)->R
  | [],st,_,_,K=>K st
  |i::r,st,F,P,K=>st.norm λst=>match ops[i]? with
    |none => A.fail "drawn: operation"
    |some o =>
      if re st.n o.dst=true then
        if nz G.P o=true then EM A G step ops st F P i o λs F P=>o3 A G step ops r s F P K
        else EN A G ops st F P i o λs F P=>o3 A G step ops r s F P K
      else A.fail "drawn: slot"
def sU(A:bX R)(G:bV)(inl:yM R)(yl:Yl R)(rU:Bool)(KP:Nat->St->R)(ops:Array Oper)(st:St)(K:St->R):R :=
  if dZ ops=true then
    if pJ G.P ops=true then o3 A G (nw A G inl yl rU KP) ops (pI G.P ops) st [] [] K else
    iL A G ops 0 (ops.toList.take (ny ops ops.size)) ⟨[],[],[]⟩ st λs=>k_ A (nw A G inl yl rU KP) ops (ops.toList.drop (ny ops ops.size)) s K
  else A.fail "drawn: form"
def keyOf:Code->Nat
 | .region id ops _=>1000000000000*ops.size+id
 | .seq a _=>keyOf a
 | .block _ b=>keyOf b
 | .scope b=>keyOf b
 | .loop b=>keyOf b
 | .cond _ a _=>keyOf a
 |_=>0
def dI(P:Program)(st:St):List ResultVar->Option (List CV)
  | []=>some []
  | .tmp t::r=>match ay st.t t,dI P st r with
    | .cv v,some l=>some (v::l)
    |_,_=>none
  | .cell a t::r=>match ay st.t a,dI P st r with
    | .cv (.one (.loc k off)),some l=>match getM st.m k with
      |some (cs,_)=>match partOf P t cs off with
        |some v=>some (v::l)
        |none=>none
      |none=>none
    |_,_=>none
def kindOf(o:bA):At->Option CK
  | .int k _=>some (.int k)
  | .bool _=>some .bool
  | .val _=>some .vD
  | .str _=>some .str
  | .sv _=>some .str
  | .dD _ _ sz _ _=>some (.sl sz)
  | .own k=>match aO o k with
    |some (ce,sz,t)=>if gG ce=true then some (.own sz t)else none
    |none=>none
  |_=>none
def eY(o:bA):List At->Option (List CK)
  | []=>some []
  |a::l=>match kindOf o a,eY o l with
    |some k,some r=>some (k::r)
    |_,_=>none
def pK(st:St):List (Nat × Nat)->Option (List (Nat × Nat))
  | []=>some []
  | (s,off)::r=>match ay st.t s,pK st r with
    | .cv (.one (.loc k o)),some l=>some ((k,o+off)::l)
    | .cv (.one (.omap k)),some l=>some ((k,off)::l)
    |_,_=>none
def iM(t:List (Nat × SV)):List Nat->Option (List CV)
  | []=>some []
  |s::r=>match ay t s,iM t r with
    | .cv v,some l=>some (v::l)
    |_,_=>none
def ka(m:Mem)(os:bA):List (Nat × Nat)->Option (List At)
  | []=>some []
  | (k,o)::r=>match getM m k,ka m os r with
    |some (cs,_),some l=>match cs[o]? with
      |some a=>some (a::l)
      |none=>none
    |none,some l=>match aO os k with
      |some (_,0,_+1)=>some (.own k::l)
      |_=>none
    |_,_=>none
def isInt:At->Bool
 | .int .. | .bool _=>true
 |_=>false
def LH.parts(m:Mem):LH->Option (List (Nat × Nat) × List (Nat × Nat) × List Nat × List Nat)
  | .kA=>none
  | .inv cells bx kill=>some ([],cells,bx,kill)
  | .Ks qU cells bx kill=>some (qU,cells,bx,kill)
  | .uK alts cells bx kill=>match alts.find? (λa=>match ka m [] a with|some l=>l.all isInt|none=>false)with
    |some qU=>some (qU,cells,bx,kill)
    |none=>none
def CV.shape:CV->Bool × Nat
 | .one _=>(false,1)
 | .agg l=>(true,l.length)
def nA:CV->List At->CV
 | .one a,l=>.one (l.headD a)
 | .agg x,l=>.agg (l.take x.length)
def dj(t:List (Nat × SV)):List Nat->List CV->List At->List (Nat × SV)
 |s::r,v::vs,l=>dj ((s,.cv (nA v l))::t) r vs (l.drop v.cells.length)
 |_,_,_=>t
def bY(m:Mem):List (Nat × Nat)->List At->Mem
  | (k,o)::r,a::l=>match getM m k with
    |some (cs,_)=>bY (jA m k (cs.set o a)) r l
    |none=>bY m r l
  |_,_=>m
def eZ(t:List (Nat × SV)):List Nat->List (Nat × SV)
 | []=>t
 |s::r=>(s,.any)::eZ t r
def gD(k:Nat)(free:List (Nat × Nat)):Nat->List At->List At->Bool
 |_,[],[]=>true
 |o,a::x,b::y=>(free.contains (k,o) || decide (a=b)) && gD k free (o+1) x y
 |_,_,_=>false
def aR:List At->List Nat
 | []=>[]
 | .own k::l=>k::aR l
 |_::l=>aR l
def sV(kf k:Nat):SV->SV
 | .cv (.one (.own j))=>if j=kf then .cv (.one (.own k))else .cv (.one (.own j))
 |v=>v
def rf(kf k:Nat):List (Nat × SV)->List (Nat × SV)
 | []=>[]
 | (i,v)::r=>(i,sV kf k v)::rf kf k r
def pL(kf k:Nat):bA->bA
 | []=>[]
 | (j,v)::r=>(if j=kf then k else j,v)::pL kf k r
def jq:List (Nat × Nat)->St->St
 | [],st=>st
 | (kf,k)::r,st=>jq r {st with t:=rf kf k st.t,o:=pL kf k st.o}
def tT(G:bV)(st:St)(key:Nat):List Nat :=
  match G.loops.lookup (500000000000000000+key)with
  |some (.inv _ bx _)=>bx.filterMap λs=>match ay st.t s with
    | .cv (.one (.own k))=>some k
    |_=>none
  |_=>[]
def isMap(o:bA)(k:Nat):Bool :=
 match aO o k with
 |some (_,0,_+1)=>true
 |_=>false
def pM(a b:St)(bx:List Nat)(free:List (Nat × Nat))(own:List Nat):Bool :=
 decide (b.n=a.n/\b.r=a.r/\b.d=a.d/\b.df=a.df) && (a.o.all λx=>own.contains x.1 || decide (aO b.o x.1=aO a.o x.1)) && (a.t.all λx=>bx.contains x.1 || decide (ay a.t x.1=.any) || decide (ay b.t x.1=ay a.t x.1)) &&
 (a.m.all λx=>match getM b.m x.1 with
  |some (cs,t)=>decide (t=x.2.2) && gD x.1 free 0 x.2.1 cs
  |none=>false)
def kA(A:bX R)(f:St->(Ex->St->R)->R)(K:Ex->St->R):Nat->St->R
  |0, _ => A.fail "rounds"
  |m+1,st=>f st λe s=>match e with
    | .normal=>s.vZ λs=>kA A f K m s
    |e=>K e s
def fu:List (Nat × Option Ex)->Nat->Option (Option Ex)
 | [],_=>none
 | (j,v)::r,i=>if j=i then some v else fu r i
def wF(r:List (Nat × Option Ex)):Option Nat->Bool
 |none=>true
 |some k=>(fu r k).isSome
def my:List (Nat × Option Ex)->Nat->Option Ex->List (Nat × Option Ex)
 | [],_,_=>[]
 | (j,v)::r,i,e=>if j=i then (j,e)::my r i e else (j,v)::my r i e
def mz:List (Nat × Option Ex)->Nat->List (Nat × Option Ex)
 | [],_=>[]
 | (j,v)::r,i=>if j=i then mz r i else (j,v)::mz r i
def nB:List (Nat × SV)->List Nat->List SV->List (Nat × SV)
 |t,p::ps,v::vs=>nB ((p,v)::t) ps vs
 |t,_,_=>t
def mP(m:Mem)(o:bA):Nat->List Nat->List Nat->List Nat
  |0,todo,seen=>todo++seen
  |_+1,[],seen=>seen
  |n+1,k::r,seen=>if seen.contains k=true then mP m o n r seen else
    mP m o n ((match getM m k with|some (cs,_)=>aN cs|none=>[])++(match aO o k with|some (ce,_,_)=>aN (jP ce)|none=>[])++r) (k::seen)
def St.prune(n0:Nat)(v:SV)(st:St):St :=
 if (st.m.takeWhile λx=>decide (n0<=x.1)).length<24 then st else
  let fz:=(st.m.filter λx=>decide (x.1<n0)).flatMap (λx=>(aN x.2.1).filter λk=>decide (n0<=k))++(st.o.filter λx=>decide (x.1<n0)).flatMap (λx=>(aN (jP x.2.1)).filter λk=>decide (n0<=k));let lv:=mP st.m st.o 3000 (eX v++fz) []
  {st with m:=st.m.filter λx=>decide (x.1<n0) || lv.contains x.1,o:=st.o.filter λx=>decide (x.1<n0) || lv.contains x.1}
def mQ:Code->Option (Tmp × Code)
  | .seq (.region _ ops false) rest=>match ops.toList with
    | [⟨some d,.call {callee := .builtin .recover,args,..},_,_,_,none⟩]=>if args.toList.length=0 then some (d,rest)else none
    |_=>none
  |_=>none
def leave(A:bX R)(G:bV)(ex:Code->St->(Ex->St->R)->R)(fn:Func)(e:Ex)(s:St)(KR:SV->St->R)(KP:Nat->St->R):R :=
  match s.df with
  | []=>match e with
    | .exit _ => A.fail "leave: exit"
    | .jz i=>match s.d with
      | []=>KP i s
      |_ => A.fail "leave: marks"
    |_=>match dI G.P s fn.results.toList with
      |some l=>KR (cJ l) s
      |none => A.fail "leave: results"
  | [(g,aK)]=>match s.d,G.P.funcs[g]? with
    | [],some gn=>match gn.body with
      |some b=>match mQ b with
        |some (dst,rest) =>
          if gn.results.toList=[]/\G.inl.contains g=true then
            let args:=aK.map dA
            let rv:Option SV:=match e with
              | .exit _=>none
              | .jz i=>if (ga s.k i).isSome=true then some (.cv (.one (.val i)))else none
              |_=>some (.cv (.one .pw))
            match rv with
            |none => A.fail "leave: exit"
            |some rv=>St.put A {t:=(List.range args.length).zip args,n:=args.length+(gn.ntmps-args.length),m:=s.m,c:=s.c,o:=s.o,r:=s.r,d := [],k:=s.k} (some dst) rv s.c λs1 =>
              ex rest s1 λe2 s2 =>
                let back:R:=match s2.d,s2.df with
                  | [],[]=>match dI G.P {t:=s.t,n:=s.n,m:=s2.m,c:=s2.c,o:=s2.o,r:=s2.r,d:=s.d,k:=s2.k} fn.results.toList with
                    |some l=>KR (cJ l) {t:=s.t,n:=s.n,m:=s2.m,c:=s2.c,o:=s2.o,r:=s2.r,d:=s.d,k:=s2.k}
                    |none => A.fail "leave: results"
                  |_, _ => A.fail "leave: closure"
                match e2 with
                | .normal=>back
                | .ret=>back
                |_ => A.fail "leave: closure"
          else A.fail "leave: closure's results"
        |none => A.fail "leave: closure's form"
      |none => A.fail "leave: closure's body"
    |_, _ => A.fail "leave: closure"
  |_ => A.fail "leave: closures"
def mA(A:bX R)(G:bV)(ex:Option Nat->Yl R->Code->St->(Ex->St->R)->R)(yl:Yl R)(K:Ex->St->R):yM R:=λf args s K'=>match G.P.funcs[f]? with
  |none => A.fail "inline: no such function"
  |some fn=>match fn.body with
    |none => A.fail "inline: no body"
    |some b =>
      oV (λt=>({t:=t,n:=args.length+(fn.ntmps-args.length),m:=s.m,c:=s.c,o:=s.o,r:=s.r,d := [],k:=s.k}:St).norm λs0=>ex none yl b s0 λe s' =>
        leave A G (ex none yl) fn e s' (λv s2=>K' v (St.prune s.c.nk v {t:=s.t,n:=s.n,m:=s2.m,c:=s2.c,o:=s2.o,r:=s2.r,d:=s.d,k:=s2.k,df:=s.df}))
          λi s2=>K (.jz i) {t:=s.t,n:=s.n,m:=s2.m,c:=s2.c,o:=s2.o,r:=s2.r,d:=s.d,k:=s2.k,df:=s.df}) args 0 []
def yR(A:bX R)(G:bV)(n:Nat)(ex:Option Nat->Yl R->Code->St->(Ex->St->R)->R)(yl:Yl R)(K:Ex->St->R):yM R:=λf args s K'=>match G.jm with
  | []=>match G.marks with
    | []=>mA A G ex yl K f args s K'
    |_::_=>match G.marks.contains f with
      |true=>A.mark (some n) f args s (mA A G ex yl K f args s λv s'=>A.mark none f [v] s' (K' v s'))
      |false=>mA A G ex yl K f args s K'
  |_::_=>match jN n f args s G.jm with
    |some e=>jB A e.asks (K' e.v e.s')
    |none=>mA A G ex yl K f args s K'
def wG(A:bX R)(ex:Code->St->(Ex->St->R)->R)(d:Tmp)(a b:Code)(st:St)(K:Ex->St->R):R:=match ay st.t d with
  | .cv (.one (.bool e)) => if d<st.n then fR A e (λ_ => (st.dp d true).norm λst => ex a st K) (λ_ => (st.dp d false).norm λst => ex b st K) else A.fail "cond: slot"
  |_ => A.fail "cond: unknown"
def wH(A:bX R)(G:bV)(ex:Option Nat->Yl R->Code->St->(Ex->St->R)->R)(rd:Option Nat)(yl:Yl R)(g:Tmp)(ps:Array Tmp)(assign body:Code)(st:St)(K:Ex->St->R):R:=match ay st.t g with
  | .cv (.one (.fn f aK)) =>
    if G.inl.contains f=true/\g<st.n/\wF st.r rd=true/\st.df=[]then
      let kr:=st.c.nk
      let Wk:Yl R:=λk args s K' =>
        if k=kr then
          if fu s.r kr=some none/\args.length=ps.size/\(ps.all λp=>decide (p<st.n))=true then
            ex (some kr) yl assign {t:=nB st.t ps.toList args,n:=st.n,m:=s.m,c:=s.c,o:=s.o,r:=s.r,d := [],k:=s.k} λe s1=>match e with
              | .normal=>if fu s1.r kr=some none then ex (some kr) yl body {s1 with r:=my s1.r kr (some .normal)} λe s2 =>
                if fu s2.r kr=some (some .normal)/\s2.df=[]then match e with
                  | .normal=>K' (.cv (.one (.bool (.lit true)))) {t:=s.t,n:=s.n,m:=s2.m,c:=s2.c,o:=s2.o,r:=my s2.r kr none,d:=s.d,k:=s2.k,df:=s.df}
                  | .jz _ => A.fail "yield: panic"
                  |e=>K' (.cv (.one (.bool (.lit false)))) {t:=s.t,n:=s.n,m:=s2.m,c:=s2.c,o:=s2.o,r:=my s2.r kr (some e),d:=s.d,k:=s2.k,df:=s.df}
                else A.fail "yield: record"
                else A.fail "yield: record at first"
              |_ => A.fail "yield: assignment"
          else A.fail "yield: not ready"
        else yl k args s K'
      match G.P.funcs[f]? with
      |none => A.fail "range: no such function"
      |some fn=>match fn.body with
        |none => A.fail "range: no body"
        |some b =>
          let args:=SV.cv (.one (.sF kr))::aK.map dA
          ex none Wk b {t:=(List.range args.length).zip args,n:=args.length+(fn.ntmps-args.length),m:=st.m,c := {st.c with nk:=kr+2},o:=st.o,r:=(kr,none)::st.r,d := [],k:=st.k} λe s' =>
            if ¬s'.df = [] then A.fail "range: defers" else
            match e with
            | .exit _ => A.fail "range: exit"
            | .jz _ => A.fail "range: panic"
            |_=>match dI G.P s' fn.results.toList with
              |some _=>match fu s'.r kr with
                |some none=>K .normal {t:=st.t,n:=st.n,m:=s'.m,c:=s'.c,o:=s'.o,r:=mz s'.r kr,d:=if rd.isSome=true then st.d else (kr+1)::st.d,k:=s'.k}
                |some (some .normal) => A.fail "range: busy"
                |some (some (.jz _)) => A.fail "range: panic"
                |some (some e)=>K e {t:=st.t,n:=st.n,m:=s'.m,c:=s'.c,o:=s'.o,r:=mz s'.r kr,d:=if rd.isSome=true then st.d else (kr+1)::st.d,k:=s'.k}
                |none => A.fail "range: record"
              |none => A.fail "range: results"
    else A.fail "range: function"
  |_ => A.fail "range: value"
def wI(A:bX R)(G:bV)(ex:Option Nat->Yl R->Code->St->(Ex->St->R)->R)(n:Nat)(rd:Option Nat)(yl:Yl R)(b:Code)(st:St)(K:Ex->St->R):R:=match (G.loops.lookup (keyOf b)).bind (LH.parts st.m)with
  |some (qU,cells,bx,kill)=>match pK st cells,iM st.t bx with
    |some fc,some vs =>
      let free:=qU++fc
      match ka st.m st.o free with
      |none => A.fail "loop: cells"
      |some ms =>
        let B4:=vs.flatMap CV.cells++ms
        match eY st.o B4 with
        |none => A.fail "loop: kinds"
        |some ks =>
          if (aR B4).Nodup then
            let fr:=av st.c ks;let fo:=bu st.c ks;let i9:=((aR fr).zip (aR B4)).filter λp=>(tT G st (keyOf b)).contains p.2 || isMap st.o p.2
            let B5:St:=jq i9 {t:=dj (eZ st.t kill) bx vs fr,n:=st.n,m:=bY st.m free (fr.drop (vs.flatMap CV.cells).length),c:=aY st.c ks,o:=fo++bZ st.o (aR B4),r:=st.r,d:=st.d,k:=st.k,df:=st.df}
            A.loop st.o B4 fo fr λcont =>
              ex rd yl b B5 λe s=>match e with
                | .normal=>match iM s.t bx,ka s.m s.o free with
                  |some ke,some mB =>
                    if pM B5 s bx free (fo.map (·.1)++i9.map (·.2))=true/\((aR fr).zip (aR (ke.flatMap CV.cells++mB))).all (fun p=>i9.all fun q=>q.1 != p.1 || q.2 == p.2)=true/\ke.map CV.shape=vs.map CV.shape/\eY s.o (ke.flatMap CV.cells++mB)=some ks/\(aR (ke.flatMap CV.cells++mB)).Nodup /\
                        (aR (ke.flatMap CV.cells++mB)).all (λk=>fo.any (λx=>x.1 == k) || (bZ st.o (aR B4)).all λx=>x.1 != k)=true then
                      cont s.o (ke.flatMap CV.cells++mB)
                    else A.fail "loop: not the same"
                  |_, _ => A.fail "loop: values"
                |e=>K e s
          else A.fail "loop: rows twice"
    |_, _ => A.fail "loop: slots"
  |none=>kA A (ex rd yl b) K n st
def exec(A:bX R)(G:bV):Nat->Option Nat->Yl R->Code->St->(Ex->St->R)->R
  |0, _, _, _, _, _ => A.fail "fuel"
  |n+1,rd,yl,c,st,K =>
    match c with
    | .skip=>K .normal st
    | .label _=>K .normal st
    | .ret=>K .ret st
    | .exit id=>K (.exit id) st
    | .region _ ops draw=>if draw=true then sU A G (yR A G n (exec A G n) yl K) yl rd.isNone (λi s=>K (.jz i) s) ops st (K .normal)else k_ A (nw A G (yR A G n (exec A G n) yl K) yl rd.isNone λi s=>K (.jz i) s) ops ops.toList st (K .normal)
    | .seq a b=>exec A G n rd yl a st λe s=>match e with
      | .normal=>exec A G n rd yl b s K
      |e=>K e s
    | .cond (.tmp d) a b=>wG A (exec A G n rd yl) d a b st K
    | .cond (.const (.bool t)) a b=>if t=true then exec A G n rd yl a st K else exec A G n rd yl b st K
    | .block id b=>exec A G n rd yl b st λe s=>match e with
      | .exit i=>if i=id then K .normal s else K (.exit i) s
      |e=>K e s
    | .scope b => if rd = none then exec A G n rd yl b st K else A.fail "scope in a round"
    | .rangeFunc (.tmp g) ps assign body=>wH A G (exec A G n) rd yl g ps assign body st K
    | .loop b=>wI A G (exec A G n) n rd yl b st K
    |_ => A.fail "code"
def rh(A:bX R)(G:bV)(n:Nat)(fn:Func)(b:Code)(args:List SV)(c:ar)(k:cr := []):R :=
  exec A G n none (λ_ _ _ _ => A.fail "yield") b { t := (List.range args.length).zip args, n := args.length + (fn.ntmps - args.length), m := [], c := c, k := k } fun e s =>
    leave A G (exec A G n none λ_ _ _ _ => A.fail "yield") fn e s (λv s2 => A.fin v (dY s2.m ((tJ v).flatMap CV.cells)) (eH s2.o ((tJ v).flatMap CV.cells))) λi _ => A.BX i
end Vc
