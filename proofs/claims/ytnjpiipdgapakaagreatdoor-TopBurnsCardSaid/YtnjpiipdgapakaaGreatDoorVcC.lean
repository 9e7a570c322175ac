import Derived.Deep.LoopGhost
import Derived.Scope
import Derived.Below
import Derived.Orders
import Derived.Handy
import Derived.KernelRfl
set_option linter.unusedVariables false
set_option linter.unusedSimpArgs false
namespace Vc
open Go Go.RowKit
abbrev OV := {v:Value // v.oneCell'=true}
structure Env where
 i:Nat->Int
 b:Nat->Bool
 v:Nat->OV
 p:Nat->Nat × Nat
 s:Nat->List UInt8
 l:Nat->List OV
def Env.fI(J:Env)(n:Nat)(x:Int):Env := {J with i:=λj=>if j=n then x else J.i j}
def Env.kL(J:Env)(n:Nat)(x:Bool):Env := {J with b:=λj=>if j=n then x else J.b j}
def Env.mD(J:Env)(n:Nat)(x:OV):Env := {J with v:=λj=>if j=n then x else J.v j}
def Env.pZ(J:Env)(n:Nat)(x:Nat × Nat):Env := {J with p:=λj=>if j=n then x else J.p j}
def Env.oP(J:Env)(n:Nat)(x:List UInt8):Env := {J with s:=λj=>if j=n then x else J.s j}
def Env.jy(J:Env)(n:Nat)(x:List OV):Env := {J with l:=λj=>if j=n then x else J.l j}
def Env.zero:Env:=⟨λ_=>0,λ_=>false,λ_=>⟨.nilFunc,rfl⟩,λ_=>(0,0),λ_=>[],λ_=>[]⟩
structure an where
 ni:Nat
 nb:Nat
 nv:Nat
 np:Nat
 nk:Nat
 ns:Nat
 nl:Nat
 deriving DecidableEq
structure an.le(c d:an):Prop where
 i:c.ni<=d.ni
 b:c.nb<=d.nb
 v:c.nv<=d.nv
 p:c.np<=d.np
 k:c.nk<=d.nk
 s:c.ns<=d.ns
 l:c.nl<=d.nl
theorem an.le_refl(c:an):c.le c:=⟨Nat.le_refl _,Nat.le_refl _,Nat.le_refl _,Nat.le_refl _,Nat.le_refl _,Nat.le_refl _,Nat.le_refl _⟩
theorem an.le_trans{c d e:an}(h:c.le d)(h':d.le e):c.le e :=
 ⟨Nat.le_trans h.i h'.i,Nat.le_trans h.b h'.b,Nat.le_trans h.v h'.v,Nat.le_trans h.p h'.p,Nat.le_trans h.k h'.k,Nat.le_trans h.s h'.s,Nat.le_trans h.l h'.l⟩
theorem an.jz(c:an)(n:Nat):c.le {c with nk:=c.nk+n}:=⟨Nat.le_refl _,Nat.le_refl _,Nat.le_refl _,Nat.le_refl _,Nat.le_add_right _ _,Nat.le_refl _,Nat.le_refl _⟩
theorem an.oQ(c:an)(n:Nat):c.le {c with nl:=c.nl+n}:=⟨Nat.le_refl _,Nat.le_refl _,Nat.le_refl _,Nat.le_refl _,Nat.le_refl _,Nat.le_refl _,Nat.le_add_right _ _⟩
theorem an.qP(c:an)(n:Nat):c.le {c with ni:=c.ni+n}:=⟨Nat.le_add_right _ _,Nat.le_refl _,Nat.le_refl _,Nat.le_refl _,Nat.le_refl _,Nat.le_refl _,Nat.le_refl _⟩
structure Env.au(c:an)(J aa:Env):Prop where
 i:∀j,j<c.ni->aa.i j=J.i j
 b:∀j,j<c.nb->aa.b j=J.b j
 v:∀j,j<c.nv->aa.v j=J.v j
 p:∀j,j<c.np->aa.p j=J.p j
 s:∀j,j<c.ns->aa.s j=J.s j
 l:∀j,j<c.nl->aa.l j=J.l j
theorem Env.ah(c:an)(J:Env):Env.au c J J:=⟨λ_ _=>rfl,λ_ _=>rfl,λ_ _=>rfl,λ_ _=>rfl,λ_ _=>rfl,λ_ _=>rfl⟩
theorem Env.ae{c d:an}{J aa I:Env}(hc:c.le d)(h:Env.au c J aa)(h':Env.au d aa I):Env.au c J I :=
 ⟨λj hj=>(h'.i j (Nat.lt_of_lt_of_le hj hc.i)).trans (h.i j hj),λj hj=>(h'.b j (Nat.lt_of_lt_of_le hj hc.b)).trans (h.b j hj),λj hj=>(h'.v j (Nat.lt_of_lt_of_le hj hc.v)).trans (h.v j hj),
  λj hj=>(h'.p j (Nat.lt_of_lt_of_le hj hc.p)).trans (h.p j hj),λj hj=>(h'.s j (Nat.lt_of_lt_of_le hj hc.s)).trans (h.s j hj),λj hj=>(h'.l j (Nat.lt_of_lt_of_le hj hc.l)).trans (h.l j hj)⟩
inductive IE where
 |lit (n:Int)
 |var (i:Nat)
 deriving DecidableEq
def IE.den(J:Env):IE->Int
 | .lit n=>n
 | .var i=>J.i i
def IE.wf(c:an):IE->Bool
 | .lit _=>true
 | .var i=>decide (i<c.ni)
theorem IE.U{c:an}{J aa:Env}(h:Env.au c J aa):∀{e:IE},e.wf c=true->e.den aa=e.den J
 | .lit _,_=>rfl
 | .var i,hw=>h.i i (by simpa [IE.wf]using hw)
theorem IE.aH{c d:an}(h:c.le d):∀{e:IE},e.wf c=true->e.wf d=true
 | .lit _,_=>rfl
 | .var i,hw=>by simp [IE.wf]at hw ⊢;exact Nat.lt_of_lt_of_le hw h.i
inductive SE where
 |lit (l:List UInt8)
 |var (i:Nat)
 deriving DecidableEq
def SE.den(J:Env):SE->List UInt8
 | .lit l=>l
 | .var i=>J.s i
def SE.wf(c:an):SE->Bool
 | .lit _=>true
 | .var i=>decide (i<c.ns)
theorem SE.U{c:an}{J aa:Env}(h:Env.au c J aa):∀{e:SE},e.wf c=true->e.den aa=e.den J
 | .lit _,_=>rfl
 | .var i,hw=>h.s i (by simpa [SE.wf]using hw)
theorem SE.aH{c d:an}(h:c.le d):∀{e:SE},e.wf c=true->e.wf d=true
 | .lit _,_=>rfl
 | .var i,hw=>by simp [SE.wf]at hw ⊢;exact Nat.lt_of_lt_of_le hw h.s
inductive BE where
 |lit (b:Bool)
 |var (i:Nat)
 |cmp (op:BinOp) (a b:IE)
 |not (a:BE)
 |and (a b:BE)
 |or (a b:BE)
 |eq (a b:BE)
 |seq (a b:SE)
 deriving DecidableEq
def gE(op:BinOp)(a b:Int):Bool :=
 match op with
 | .eql=>a == b
 | .neq=>a != b
 | .lss=>decide (a<b)
 | .leq=>decide (a<=b)
 | .gtr=>decide (a > b)
 | .geq=>decide (a >= b)
 |_=>false
def yD(op:BinOp)(a b:Int):Prop :=
 match op with
 | .eql=>a=b
 | .neq=>a≠b
 | .lss=>a<b
 | .leq=>a<=b
 | .gtr=>b<a
 | .geq=>b<=a
 |_=>False
theorem G7(op:BinOp)(a b:Int):yD op a b↔gE op a b=true:=by
 cases op<;>simp [yD,gE]
def BE.den(J:Env):BE->Bool
 | .lit b=>b
 | .var i=>J.b i
 | .cmp op a b=>gE op (a.den J) (b.den J)
 | .not a => !a.den J
 | .and a b=>a.den J && b.den J
 | .or a b=>a.den J || b.den J
 | .eq a b=>a.den J == b.den J
 | .seq a b=>decide (a.den J=b.den J)
def BE.prop(J:Env):BE->Prop
 | .lit b=>b=true
 | .var i=>J.b i=true
 | .cmp op a b=>yD op (a.den J) (b.den J)
 | .not a=>¬a.prop J
 | .and a b=>a.prop J/\b.prop J
 | .or a b=>a.prop J∨b.prop J
 | .eq a b=>a.prop J↔b.prop J
 | .seq a b=>a.den J=b.den J
theorem BE.cZ(J:Env):∀e:BE,e.prop J↔e.den J=true
  | .lit b=>Iff.rfl
  | .var i=>Iff.rfl
  | .cmp op a b=>G7 op _ _
  | .not a=>by simp [BE.prop,BE.den,BE.cZ J a]
  | .and a b=>by simp [BE.prop,BE.den,BE.cZ J a,BE.cZ J b]
  | .or a b=>by simp [BE.prop,BE.den,BE.cZ J a,BE.cZ J b]
  | .eq a b=>by
    simp only [BE.prop,BE.den,BE.cZ J a,BE.cZ J b];cases a.den J<;>cases b.den J<;>simp
  | .seq a b=>by simp [BE.prop,BE.den]
def BE.wf(c:an):BE->Bool
 | .lit _=>true
 | .var i=>decide (i<c.nb)
 | .cmp _ a b=>a.wf c && b.wf c
 | .not a=>a.wf c
 | .and a b | .or a b | .eq a b=>a.wf c && b.wf c
 | .seq a b=>a.wf c && b.wf c
theorem BE.U{c:an}{J aa:Env}(h:Env.au c J aa):∀{e:BE},e.wf c=true->e.den aa=e.den J
 | .lit _,_=>rfl
 | .var i,hw=>h.b i (by simpa [BE.wf]using hw)
 | .cmp op a b,hw=>by simp only [BE.wf,Bool.and_eq_true]at hw;simp only [BE.den,IE.U h hw.1,IE.U h hw.2]
 | .not a,hw=>by simp only [BE.wf]at hw;simp only [BE.den,BE.U h hw]
 | .and a b,hw=>by simp only [BE.wf,Bool.and_eq_true]at hw;simp only [BE.den,BE.U h hw.1,BE.U h hw.2]
 | .or a b,hw=>by simp only [BE.wf,Bool.and_eq_true]at hw;simp only [BE.den,BE.U h hw.1,BE.U h hw.2]
 | .eq a b,hw=>by simp only [BE.wf,Bool.and_eq_true]at hw;simp only [BE.den,BE.U h hw.1,BE.U h hw.2]
 | .seq a b,hw=>by simp only [BE.wf,Bool.and_eq_true]at hw;simp only [BE.den,SE.U h hw.1,SE.U h hw.2]
theorem BE.aH{c d:an}(h:c.le d):∀{e:BE},e.wf c=true->e.wf d=true
 | .lit _,_=>rfl
 | .var i,hw=>by simp [BE.wf]at hw ⊢;exact Nat.lt_of_lt_of_le hw h.b
 | .cmp _ a b,hw=>by simp only [BE.wf,Bool.and_eq_true]at hw ⊢;exact⟨IE.aH h hw.1,IE.aH h hw.2⟩
 | .not a,hw=>by simp only [BE.wf]at hw ⊢;exact BE.aH h hw
 | .and a b,hw=>by simp only [BE.wf,Bool.and_eq_true]at hw ⊢;exact⟨BE.aH h hw.1,BE.aH h hw.2⟩
 | .or a b,hw=>by simp only [BE.wf,Bool.and_eq_true]at hw ⊢;exact⟨BE.aH h hw.1,BE.aH h hw.2⟩
 | .eq a b,hw=>by simp only [BE.wf,Bool.and_eq_true]at hw ⊢;exact⟨BE.aH h hw.1,BE.aH h hw.2⟩
 | .seq a b,hw=>by simp only [BE.wf,Bool.and_eq_true]at hw ⊢;exact⟨SE.aH h hw.1,SE.aH h hw.2⟩
def BE.ju:BE->BE
  | .cmp op (.lit a) (.lit b)=>.lit (gE op a b)
  | .not a=>match a.ju with
    | .lit b=>.lit !b
    | .not c=>c
    |c=>.not c
  | .and a b=>match a.ju,b.ju with
    | .lit false,_=>.lit false
    | .lit true,d=>d
    |_,.lit false=>.lit false
    |c,.lit true=>c
    |c,d=>.and c d
  | .or a b=>match a.ju,b.ju with
    | .lit true,_=>.lit true
    | .lit false,d=>d
    |_,.lit true=>.lit true
    |c,.lit false=>c
    |c,d=>.or c d
  | .eq a b=>match a.ju,b.ju with
    | .lit c,.lit d=>.lit (c == d)
    | .lit true,d=>d
    |c,.lit true=>c
    | .lit false,d=>.not d
    |c,.lit false=>.not c
    |c,d=>.eq c d
  | .seq (.lit a) (.lit b)=>.lit (decide (a=b))
  |e=>e
theorem BE.eR(J:Env):∀e:BE,e.ju.den J=e.den J
  | .lit _=>rfl
  | .var _=>rfl
  | .cmp op a b=>by cases a<;>cases b<;>rfl
  | .not a=>by
    have h:=BE.eR J a;simp only [BE.ju,BE.den,<-h];split<;>simp_all [BE.den]
  | .and a b=>by
    have h:=BE.eR J a;have h':=BE.eR J b;simp only [BE.ju,BE.den,<-h,<-h'];split<;>simp_all [BE.den]
  | .or a b=>by
    have h:=BE.eR J a;have h':=BE.eR J b;simp only [BE.ju,BE.den,<-h,<-h'];split<;>simp_all [BE.den]
  | .eq a b=>by
    have h:=BE.eR J a;have h':=BE.eR J b;simp only [BE.ju,BE.den,<-h,<-h'];split<;>simp_all [BE.den]
  | .seq a b=>by cases a<;>cases b<;>rfl
inductive IP where
 |bin (op:BinOp) (k:IntKind) (a b:IE)
 |shl (k:IntKind) (a:IE) (n:Nat)
 |shr (a:IE) (n:Nat)
 |conv (k:IntKind) (a:IE)
 |neg (k:IntKind) (a:IE)
 |Fb (k:IntKind) (a:IE)
 |max (a b:IE)
 |min (a b:IE)
 |sum (a b:IE)
 |diff (a b:IE)
 |oR (s:SE)
 |rV (s:SE) (i:IE)
 |p8 (n:Nat) (vs:List Nat) (sz:Nat)
 deriving DecidableEq
def jY(op:BinOp)(k:IntKind)(a b:Int):Int :=
 match op with
 | .add=>k.wrap (a+b)
 | .sub=>k.wrap (a-b)
 | .mul=>k.wrap (a*b)
 | .quo=>k.wrap (a.tdiv b)
 | .rem=>a.tmod b
 | .shl=>k.wrap (a*2 ^ (Nat.min b.toNat k.bits))
 | .shr=>a.fdiv (2 ^ (Nat.min b.toNat k.bits))
 |op=>bits op k a b
def IP.den(J:Env):IP->Int
 | .bin op k a b=>jY op k (a.den J) (b.den J)
 | .shl k a n=>k.wrap (a.den J*((2 ^ n:Nat):Int))
 | .shr a n=>a.den J / ((2 ^ n:Nat):Int)
 | .conv k a=>k.wrap (a.den J)
 | .neg k a=>k.wrap (0-a.den J)
 | .Fb k a=>bits .xor k (if k.signed then -1 else k.max) (a.den J)
 | .max a b=>if b.den J > a.den J then b.den J else a.den J
 | .min a b=>if b.den J<a.den J then b.den J else a.den J
 | .sum a b=>a.den J+b.den J
 | .diff a b=>a.den J-b.den J
 | .oR s=>((s.den J).length:Int)
 | .rV s i=>(((s.den J).getD (i.den J).toNat 0).toNat:Int)
 | .p8 n vs sz=>(((n+(vs.map λj=>(J.l j).length).sum) / sz:Nat):Int)
def IP.wf(c:an):IP->Bool
 | .bin _ _ a b | .max a b | .min a b | .sum a b | .diff a b=>a.wf c && b.wf c
 | .shl _ a _ | .shr a _ | .conv _ a | .neg _ a | .Fb _ a=>a.wf c
 | .oR s=>s.wf c
 | .rV s i=>s.wf c && i.wf c
 | .p8 _ vs _=>vs.all λj=>decide (j<c.nl)
def IP.lits:IP->Bool
 | .bin _ _ (.lit _) (.lit _) | .max (.lit _) (.lit _) | .min (.lit _) (.lit _) | .sum (.lit _) (.lit _) | .diff (.lit _) (.lit _)=>true
 | .shl _ (.lit _) _ | .shr (.lit _) _ | .conv _ (.lit _) | .neg _ (.lit _) | .Fb _ (.lit _)=>true
 | .oR (.lit _) | .rV (.lit _) (.lit _) | .p8 _ [] _=>true
 |_=>false
theorem IP.oS{J aa:Env}:∀{p:IP},p.lits=true->p.den J=p.den aa:=by
 intro p h;cases p
 case bin op k a b=>cases a<;>cases b<;>first|rfl | (simp [IP.lits]at h)
 case max a b=>cases a<;>cases b<;>first|rfl | (simp [IP.lits]at h)
 case min a b=>cases a<;>cases b<;>first|rfl | (simp [IP.lits]at h)
 case sum a b=>cases a<;>cases b<;>first|rfl | (simp [IP.lits]at h)
 case diff a b=>cases a<;>cases b<;>first|rfl | (simp [IP.lits]at h)
 case shl k a n=>cases a<;>first|rfl | (simp [IP.lits]at h)
 case shr a n=>cases a<;>first|rfl | (simp [IP.lits]at h)
 case oR s=>cases s<;>first|rfl | (simp [IP.lits]at h)
 case rV s i=>cases s<;>cases i<;>first|rfl | (simp [IP.lits]at h)
 case p8 n vs sz=>cases vs<;>first|rfl | (simp [IP.lits]at h)
 all_goals (rename_i a;cases a<;>first|rfl | (simp [IP.lits]at h))
theorem IP.U{c:an}{J aa:Env}(h:Env.au c J aa){p:IP}(hw:p.wf c=true):p.den aa=p.den J:=by
 cases p
 case oR s=>simp only [IP.den,SE.U h hw]
 case rV s i=>simp only [IP.wf,Bool.and_eq_true]at hw;simp only [IP.den,SE.U h hw.1,IE.U h hw.2]
 case p8 n vs sz =>
  simp only [IP.den];congr 3;refine congrArg List.sum (List.map_congr_left λj hj => ?_);rw [h.l j (by simpa using List.all_eq_true.1 hw j hj)]
 all_goals (simp only [IP.wf,Bool.and_eq_true]at hw;first|simp only [IP.den,IE.U h hw.1,IE.U h hw.2]|simp only [IP.den,IE.U h hw])
inductive aJ where
 |int (k:IntKind) (e:IE)
 |bool (e:BE)
 |str (l:List UInt8)
 |sv (i:Nat)
 |c_
 |gZ (k off len cap:Nat)
 |fu (q p sz:Nat) (len cap:IE)
 |own (k:Nat)
 deriving DecidableEq
inductive At where
 |int (k:IntKind) (e:IE)
 |bool (e:BE)
 |val (i:Nat)
 |str (l:List UInt8)
 |oT
 |c_
 |p9
 |mE
 |rW
 |loc (k off:Nat)
 |gZ (k off len cap:Nat)
 |ext (p:Nat) (ix:IE) (sz c:Nat)
 |jf (p:Nat) (ix:IE) (sz:Nat) (len cap:IE)
 |fn (f:FuncId) (az:List (Nat × Nat))
 |sv (i:Nat)
 |fu (q p sz:Nat) (len cap:IE)
 |own (k:Nat)
 |eT (k:Nat) (ix:IE) (sz c:Nat)
 |kM (f:FuncId) (first az:List (Nat × Nat))
 |p_ (k:Nat)
 |omap (k:Nat)
 |oE (k:Nat)
 |oU (f:FuncId) (first:List aJ) (az:List (Nat × Nat))
 deriving DecidableEq
def aJ.at:aJ->At
 | .int k e=>.int k e
 | .bool e=>.bool e
 | .str l=>.str l
 | .sv i=>.sv i
 | .c_=>.c_
 | .gZ k off len cap=>.gZ k off len cap
 | .fu q p sz len cap=>.fu q p sz len cap
 | .own k=>.own k
def aJ.of:At->Option aJ
 | .int k e=>some (.int k e)
 | .bool e=>some (.bool e)
 | .str l=>some (.str l)
 | .sv i=>some (.sv i)
 | .c_=>some .c_
 | .gZ k off len cap=>some (.gZ k off len cap)
 | .fu q p sz len cap=>some (.fu q p sz len cap)
 | .own k=>some (.own k)
 |_=>none
def aJ.A5:List At->Option (List aJ)
  | []=>some []
  |a::r=>match aJ.of a,aJ.A5 r with
    |some x,some l=>some (x::l)
    |_,_=>none
theorem aJ.B8{a:At}{x:aJ}(h:aJ.of a=some x):x.at=a:=by
 cases a<;>simp only [aJ.of,Option.some.injEq,reduceCtorEq]at h<;>subst h<;>rfl
theorem aJ.tD:∀{l:List At} {r:List aJ},aJ.A5 l=some r->r.map aJ.at=l
  | [],r,h=>by simp only [aJ.A5,Option.some.injEq]at h;subst h;rfl
  |a::l,r,h=>by
    simp only [aJ.A5]at h;split at h
    · rename_i x l' h1 h2;simp only [Option.some.injEq]at h;subst h;rw [List.map_cons,aJ.B8 h1,aJ.tD h2]
    · cases h
def hJ:Nat->Nat->Nat × Nat
 |0,_=>(0,0)
 |k+1,n=>if n % 2=1 then (0,n / 2)else ((hJ k (n / 2)).1+1,(hJ k (n / 2)).2)
theorem Nw:∀(k a b:Nat),a<k->hJ k (2 ^ a*(2*b+1))=(a,b)
  |0,a,b,h=>by omega
  |k+1,0,b,_=>by
    unfold hJ;rw [Nat.pow_zero,Nat.one_mul,if_pos (by omega)];congr 1;omega
  |k+1,a+1,b,h=>by
    have e:2 ^ (a+1)*(2*b+1)=2*(2 ^ a*(2*b+1)):=by rw [Nat.pow_succ,Nat.mul_comm (2 ^ a) 2,Nat.mul_assoc]
    unfold hJ;rw [e,if_neg (by omega),Nat.mul_div_cancel_left _ (by decide),Nw k a b (by omega)]
def bR(p:Nat × Nat)(n m:Nat):Addr :=
 if n=0/\m=0 then ⟨p.1,(hJ (p.2+1) p.2).1,if (hJ (p.2+1) p.2).2=0 then none else some ((hJ (p.2+1) p.2).2-1)⟩else ⟨p.1,p.2,none⟩
theorem G8{p:Nat × Nat}{n m:Nat}(h:¬(n=0/\m=0)):bR p n m=⟨p.1,p.2,none⟩:=if_neg h
theorem G9(a:Addr):∃p,bR p 0 0=a:=by
 obtain⟨b,o,s⟩:=a
 have h:∀x,hJ (2 ^ o*(2*x+1)+1) (2 ^ o*(2*x+1))=(o,x):=λx=>Nw _ _ _ (by
  have h1:o<2 ^ o:=Nat.lt_two_pow_self;have h2:2 ^ o*1<=2 ^ o*(2*x+1):=Nat.mul_le_mul_left _ (by omega)
  omega)
 cases s with
 |none=>exact⟨(b,2 ^ o*(2*0+1)),by unfold bR;simp only [and_self,if_true];rw [h 0];rfl⟩
 |some x=>exact⟨(b,2 ^ o*(2*(x+1)+1)),by unfold bR;simp only [and_self,if_true];rw [h (x+1)];simp⟩
def cj(b code n base:Nat):Value:=if code=0 then .slice none 0 0 else .slice (some ⟨b,base,none⟩) n (code-1)
theorem G_(b code n base:Nat):(cj b code n base).oneCell'=true:=by unfold cj;split<;>rfl
def mF(md b code n base:Nat):Value:=match md with
 |0=>cj b code n base
 |1=>.map (some b)
 |_=>.slice (some ⟨b,0,none⟩) n (code-2)
def rowAt(md k:Nat):At:=match md with
 |0=>.own k
 |1=>.omap k
 |_=>.oE k
def ptr(b o:Nat):Value := .pointer (some ⟨b,o,none⟩)
def aJ.den(J:Env)(β:Nat->Nat):aJ->Value
 | .int k e=>.int k (e.den J)
 | .bool e=>.bool (e.den J)
 | .str l=>.string ⟨l.toArray⟩
 | .sv i=>.string ⟨(J.s i).toArray⟩
 | .c_=>.slice none 0 0
 | .gZ k off len cap=>.slice (some ⟨β k,off,none⟩) len cap
 | .fu q p _ len cap=>if J.b q=true then .slice none 0 0 else .slice (some (bR (J.p p) (len.den J).toNat (cap.den J).toNat)) (len.den J).toNat (cap.den J).toNat
 | .own k=>cj (β k) (β (k+1)) (β (k+2)) (β (k+3))
def aJ.wf(c:an):aJ->Bool
 | .int _ e=>e.wf c
 | .bool e=>e.wf c
 | .sv i=>decide (i<c.ns)
 | .gZ k _ _ _=>decide (k<c.nk)
 | .fu q p _ l m=>decide (q<c.nb) && decide (p<c.np) && l.wf c && m.wf c
 | .own k=>decide (k+3<c.nk)
 |_=>true
def At.den(J:Env)(β:Nat->Nat):At->Value
 | .int k e=>.int k (e.den J)
 | .bool e=>.bool (e.den J)
 | .val i=>(J.v i).1
 | .str l=>.string ⟨l.toArray⟩
 | .oT=>.pointer none
 | .c_=>.slice none 0 0
 | .p9=>.nilFunc
 | .mE=>.nilIface
 | .rW=>.map none
 | .loc k off=>.pointer (some ⟨β k,off,none⟩)
 | .gZ k off len cap=>.slice (some ⟨β k,off,none⟩) len cap
 | .ext p ix sz c=>.pointer (some ⟨(J.p p).1,(J.p p).2+(ix.den J).toNat*sz+c,none⟩)
 | .jf p ix sz len cap=>.slice (some ⟨(J.p p).1,(J.p p).2+(ix.den J).toNat*sz,none⟩) (len.den J).toNat (cap.den J).toNat
 | .fn f az=>.func (.func f) #[] (az.map λc=>.pointer (some ⟨β c.1,c.2,none⟩)).toArray
 | .sv i=>.string ⟨(J.s i).toArray⟩
 | .fu q p _ len cap=>if J.b q=true then .slice none 0 0 else .slice (some (bR (J.p p) (len.den J).toNat (cap.den J).toNat)) (len.den J).toNat (cap.den J).toNat
 | .own k=>cj (β k) (β (k+1)) (β (k+2)) (β (k+3))
 | .eT k ix sz c=>.pointer (some ⟨β k,(ix.den J).toNat*sz+c,none⟩)
 | .kM f first az=>.func (.func f) (first.map λc=>.pointer (some ⟨β c.1,c.2,none⟩)).toArray (az.map λc=>.pointer (some ⟨β c.1,c.2,none⟩)).toArray
 | .p_ k=>.func (.yield (β k)) #[] #[]
 | .omap k=>.map (some (β k))
 | .oE k=>.slice (some ⟨β k,0,none⟩) (β (k+2)) (β (k+1)-2)
 | .oU f first az=>.func (.func f) #[.agg (first.map (aJ.den J β)).toArray] (az.map λc=>.pointer (some ⟨β c.1,c.2,none⟩)).toArray
theorem aJ.tE(J:Env)(β:Nat->Nat)(x:aJ):x.at.den J β=x.den J β:=by cases x<;>rfl
theorem RD(J:Env)(β:Nat->Nat)(md k:Nat):(rowAt md k).den J β=mF md (β k) (β (k+1)) (β (k+2)) (β (k+3)):=by
 match md with
 |0=>rfl
 |1=>rfl
 |_+2=>rfl
theorem At.gi(J:Env)(β:Nat->Nat):∀a:At,(a.den J β).oneCell'=true
 | .val i=>(J.v i).2
 | .fu q p _ len cap=>by simp only [At.den];split<;>rfl
 | .own k=>G_ _ _ _ _
 | .sv .. | .eT .. | .kM .. | .p_ .. | .omap .. | .oE .. | .oU .. => rfl
 | .int .. | .bool .. | .str .. | .oT | .c_ | .p9 | .mE | .rW | .loc .. | .gZ .. | .ext .. | .jf .. | .fn .. => rfl
def At.wf(c:an):At->Bool
 | .int _ e=>e.wf c
 | .bool e=>e.wf c
 | .val i=>decide (i<c.nv)
 | .loc k _ | .gZ k _ _ _=>decide (k<c.nk)
 | .ext p ix _ _=>decide (p<c.np) && ix.wf c
 | .jf p ix _ l m=>decide (p<c.np) && ix.wf c && l.wf c && m.wf c
 | .fn _ az=>az.all λx=>decide (x.1<c.nk)
 | .sv i=>decide (i<c.ns)
 | .fu q p _ l m=>decide (q<c.nb) && decide (p<c.np) && l.wf c && m.wf c
 | .own k | .omap k | .oE k=>decide (k+3<c.nk)
 | .eT k ix _ _=>decide (k<c.nk) && ix.wf c
 | .kM _ first az=>(first.all λx=>decide (x.1<c.nk)) && az.all λx=>decide (x.1<c.nk)
 | .p_ k=>decide (k<c.nk)
 | .oU _ first az=>(first.all λx=>x.wf c) && az.all λx=>decide (x.1<c.nk)
 |_=>true
theorem aJ.B9(c:an)(x:aJ):x.at.wf c=x.wf c:=by cases x<;>rfl
def At.flat:At->Bool
 | .loc .. | .gZ .. | .own .. | .eT .. | .kM .. | .p_ .. | .omap .. | .oE .. | .oU .. => false
 | .fn _ az=>az.isEmpty
 |_=>true
theorem aJ.U{c:an}{J aa:Env}{β ag:Nat->Nat}(h:Env.au c J aa)(hb:∀k,k<c.nk->ag k=β k):∀{a:aJ},a.wf c=true->a.den aa ag=a.den J β:=by
 intro a hw;cases a<;>simp only [aJ.wf,Bool.and_eq_true,decide_eq_true_eq]at hw<;>simp only [aJ.den]
 case int=>rw [IE.U h hw]
 case bool=>rw [BE.U h hw]
 case sv i=>rw [h.s i hw]
 case gZ k o l m=>rw [hb k hw]
 case fu q p s l m=>rw [h.b q hw.1.1.1,h.p p hw.1.1.2,IE.U h hw.1.2,IE.U h hw.2]
 case own k=>rw [hb k (by omega),hb (k+1) (by omega),hb (k+2) (by omega),hb (k+3) (by omega)]
theorem aJ.aH{c d:an}(h:c.le d):∀{a:aJ},a.wf c=true->a.wf d=true:=by
 intro a hw;cases a<;>simp only [aJ.wf,Bool.and_eq_true,decide_eq_true_eq]at hw ⊢
 case int=>exact IE.aH h hw
 case bool=>exact BE.aH h hw
 case sv=>exact Nat.lt_of_lt_of_le hw h.s
 case gZ=>exact Nat.lt_of_lt_of_le hw h.k
 case fu=>exact⟨⟨⟨Nat.lt_of_lt_of_le hw.1.1.1 h.b,Nat.lt_of_lt_of_le hw.1.1.2 h.p⟩,IE.aH h hw.1.2⟩,IE.aH h hw.2⟩
 case own=>exact Nat.lt_of_lt_of_le hw h.k
theorem At.U{c:an}{J aa:Env}{β ag:Nat->Nat}(h:Env.au c J aa)(hb:∀k,k<c.nk->ag k=β k):∀{a:At},a.wf c=true->a.den aa ag=a.den J β:=by
 intro a hw;cases a<;>simp only [At.wf,Bool.and_eq_true,decide_eq_true_eq]at hw<;>simp only [At.den]
 case int=>rw [IE.U h hw]
 case bool=>rw [BE.U h hw]
 case val i=>rw [h.v i hw]
 case loc k o=>rw [hb k hw]
 case gZ k o l m=>rw [hb k hw]
 case ext p ix s e=>rw [h.p p hw.1,IE.U h hw.2]
 case jf p ix s l m=>rw [h.p p hw.1.1.1,IE.U h hw.1.1.2,IE.U h hw.1.2,IE.U h hw.2]
 case fn f az =>
  congr 2;apply List.map_congr_left;intro x hx;rw [hb x.1 (by simpa using List.all_eq_true.1 hw x hx)]
 case sv i=>rw [h.s i hw]
 case fu q p s l m=>rw [h.b q hw.1.1.1,h.p p hw.1.1.2,IE.U h hw.1.2,IE.U h hw.2]
 case own k=>rw [hb k (by omega),hb (k+1) (by omega),hb (k+2) (by omega),hb (k+3) (by omega)]
 case eT k ix s e=>rw [hb k hw.1,IE.U h hw.2]
 case omap k=>rw [hb k (by omega)]
 case oE k=>rw [hb k (by omega),hb (k+1) (by omega),hb (k+2) (by omega)]
 case kM f first az =>
  congr 2
  ·apply List.map_congr_left;intro x hx;rw [hb x.1 (by simpa using List.all_eq_true.1 hw.1 x hx)]
  ·apply List.map_congr_left;intro x hx;rw [hb x.1 (by simpa using List.all_eq_true.1 hw.2 x hx)]
 case p_ k=>rw [hb k hw]
 case oU f first az =>
  have e1:first.map (aJ.den aa ag)=first.map (aJ.den J β):=List.map_congr_left λx hx=>aJ.U h hb (List.all_eq_true.1 hw.1 x hx)
  have e2:(az.map λc=>(.pointer (some ⟨ag c.1,c.2,none⟩):Value))=az.map λc=>.pointer (some ⟨β c.1,c.2,none⟩):=List.map_congr_left λx hx=>by rw [hb x.1 (by simpa using List.all_eq_true.1 hw.2 x hx)]
  rw [e1,e2]
theorem At.aH{c d:an}(h:c.le d):∀{a:At},a.wf c=true->a.wf d=true:=by
 have lu:∀{l:List (Nat × Nat)},(l.all λx=>decide (x.1<c.nk))=true->(l.all λx=>decide (x.1<d.nk))=true:=λhw =>
  List.all_eq_true.2 λx hx=>decide_eq_true (Nat.lt_of_lt_of_le (of_decide_eq_true (List.all_eq_true.1 hw x hx)) h.k)
 intro a hw;cases a<;>simp only [At.wf,Bool.and_eq_true,decide_eq_true_eq]at hw ⊢
 case int=>exact IE.aH h hw
 case bool=>exact BE.aH h hw
 case val i=>exact Nat.lt_of_lt_of_le hw h.v
 case loc=>exact Nat.lt_of_lt_of_le hw h.k
 case gZ=>exact Nat.lt_of_lt_of_le hw h.k
 case ext=>exact⟨Nat.lt_of_lt_of_le hw.1 h.p,IE.aH h hw.2⟩
 case jf=>exact⟨⟨⟨Nat.lt_of_lt_of_le hw.1.1.1 h.p,IE.aH h hw.1.1.2⟩,IE.aH h hw.1.2⟩,IE.aH h hw.2⟩
 case fn=>exact lu hw
 case sv=>exact Nat.lt_of_lt_of_le hw h.s
 case fu=>exact⟨⟨⟨Nat.lt_of_lt_of_le hw.1.1.1 h.b,Nat.lt_of_lt_of_le hw.1.1.2 h.p⟩,IE.aH h hw.1.2⟩,IE.aH h hw.2⟩
 case own=>exact Nat.lt_of_lt_of_le hw h.k
 case omap=>exact Nat.lt_of_lt_of_le hw h.k
 case oE=>exact Nat.lt_of_lt_of_le hw h.k
 case eT=>exact⟨Nat.lt_of_lt_of_le hw.1 h.k,IE.aH h hw.2⟩
 case kM=>exact⟨lu hw.1,lu hw.2⟩
 case p_=>exact Nat.lt_of_lt_of_le hw h.k
 case oU f first az=>exact⟨List.all_eq_true.2 λx hx=>aJ.aH h (List.all_eq_true.1 hw.1 x hx),lu hw.2⟩
def At.ofValue:Value->Option At
 | .bool b=>some (.bool (.lit b))
 | .int k n=>some (.int k (.lit n))
 | .string s=>some (.str s.data.toList)
 | .pointer none=>some .oT
 | .slice none 0 0=>some .c_
 | .nilFunc=>some .p9
 | .nilIface=>some .mE
 | .map none=>some .rW
 | .func (.func f) first az=>if first.size=0/\az.size=0 then some (.fn f [])else none
 |_=>none
theorem At.cm{v:Value}{a:At}(h:At.ofValue v=some a)(c:an)(J:Env)(β:Nat->Nat):a.wf c=true/\a.den J β=v:=by
  unfold At.ofValue at h
  split at h<;>first
    | (cases h;exact⟨rfl,rfl⟩)
    | (split at h
       · rename_i hs;cases h;refine⟨rfl, ?_⟩;obtain⟨h1,h2⟩:=hs;rw [Array.size_eq_zero_iff]at h1 h2;subst h1 h2;rfl
       · cases h)
    |cases h
inductive CV where
 |one (a:At)
 |agg (l:List At)
 deriving DecidableEq
def CV.den(J:Env)(β:Nat->Nat):CV->Value
 | .one a=>a.den J β
 | .agg l=>.agg (l.map (At.den J β)).toArray
def CV.wf(c:an):CV->Bool
 | .one a=>a.wf c
 | .agg l=>l.all (At.wf c)
def CV.cells:CV->List At
 | .one a=>[a]
 | .agg l=>l
def CV.flat:CV->Bool
 | .one a=>a.flat
 | .agg l=>l.all At.flat
theorem vP{c:an}{J aa:Env}{β ag:Nat->Nat}(h:Env.au c J aa)(hb:∀k,k<c.nk->ag k=β k){l:List At}(hw:l.all (At.wf c)=true) :
  l.map (At.den aa ag)=l.map (At.den J β):=List.map_congr_left λx hx=>At.U h hb (List.all_eq_true.1 hw x hx)
theorem CV.U{c:an}{J aa:Env}{β ag:Nat->Nat}(h:Env.au c J aa)(hb:∀k,k<c.nk->ag k=β k):∀{a:CV},a.wf c=true->a.den aa ag=a.den J β
 | .one a,hw=>At.U h hb hw
 | .agg l,hw=>by simp only [CV.den,vP h hb hw]
theorem yE{c d:an}(h:c.le d){l:List At}(hw:l.all (At.wf c)=true):l.all (At.wf d)=true :=
 List.all_eq_true.2 λx hx=>At.aH h (List.all_eq_true.1 hw x hx)
theorem CV.aH{c d:an}(h:c.le d):∀{a:CV},a.wf c=true->a.wf d=true
 | .one a,hw=>At.aH h hw
 | .agg l,hw=>yE h hw
inductive Kn where
 |k_ (i:Nat) (t:TypeId) (v:CV)
 |mG (p g:Nat)
 deriving DecidableEq
def Kn.den(J:Env):Kn->Prop
 | .k_ i t v=>(J.v i).1=.iface t (v.den J (λ_=>0))
 | .mG p g=>J.p p=(g,0)
def Kn.wf(c:an):Kn->Bool
 | .k_ i _ v=>decide (i<c.nv) && (v.wf c && v.flat)
 | .mG p _=>decide (p<c.np)
theorem Kn.U{c:an}{J aa:Env}(h:Env.au c J aa):∀{x:Kn},x.wf c=true->x.den J->x.den aa
  | .k_ i t v,hw,hd=>by
    simp only [Kn.wf,Bool.and_eq_true,decide_eq_true_eq]at hw;simp only [Kn.den]at hd ⊢;rw [h.v i hw.1,hd,CV.U h (λ_ _=>rfl) hw.2.1]
  | .mG p g,hw,hd=>by
    simp only [Kn.wf,decide_eq_true_eq]at hw;simp only [Kn.den]at hd ⊢;rw [h.p p hw,hd]
theorem Kn.aH{c d:an}(h:c.le d):∀{x:Kn},x.wf c=true->x.wf d=true
  | .k_ i t v,hw=>by
    simp only [Kn.wf,Bool.and_eq_true,decide_eq_true_eq]at hw ⊢;exact⟨Nat.lt_of_lt_of_le hw.1 h.v,CV.aH h hw.2.1,hw.2.2⟩
  | .mG p g,hw=>by
    simp only [Kn.wf,decide_eq_true_eq]at hw ⊢;exact Nat.lt_of_lt_of_le hw h.p
abbrev bK:=List Kn
def bK.den(k:bK)(J:Env):Prop:=∀x∈k,x.den J
def bK.wf(k:bK)(c:an):Prop:=∀x∈k,x.wf c=true
theorem bK.U{k:bK}{c:an}{J aa:Env}(h:Env.au c J aa)(hw:bK.wf k c)(hd:bK.den k J):bK.den k aa:=λx hx=>Kn.U h (hw x hx) (hd x hx)
theorem bK.aH{k:bK}{c d:an}(h:c.le d)(hw:bK.wf k c):bK.wf k d:=λx hx=>Kn.aH h (hw x hx)
def mY:bK->Nat->Option Nat
 | [],_=>none
 | .mG p g'::r,g=>if g'=g then some p else mY r g
 |_::r,g=>mY r g
def mZ:bK->Nat->Option Nat
 | [],_=>none
 | .mG p' g::r,p=>if p'=p then some g else mZ r p
 |_::r,p=>mZ r p
def fv:bK->Nat->Option (TypeId × CV)
 | [],_=>none
 | .k_ j t v::r,i=>if j=i then some (t,v)else fv r i
 |_::r,i=>fv r i
theorem Fc:∀{k:bK} {g p:Nat},mY k g=some p->Kn.mG p g∈k
  | [],_,_,h=>by cases h
  | .mG p' g'::r,g,p,h=>by
    simp only [mY]at h;split at h
    · rename_i he;cases h;subst he;exact List.mem_cons_self ..
    · exact List.mem_cons_of_mem _ (Fc h)
  | .k_ .. :: r,g,p,h=>List.mem_cons_of_mem _ (Fc (k:=r) h)
theorem G':∀{k:bK} {g p:Nat},mZ k p=some g->Kn.mG p g∈k
  | [],_,_,h=>by cases h
  | .mG p' g'::r,g,p,h=>by
    simp only [mZ]at h;split at h
    · rename_i he;cases h;subst he;exact List.mem_cons_self ..
    · exact List.mem_cons_of_mem _ (G' h)
  | .k_ .. :: r,g,p,h=>List.mem_cons_of_mem _ (G' (k:=r) h)
theorem yF:∀{k:bK} {i:Nat} {t:TypeId} {v:CV},fv k i=some (t,v)->Kn.k_ i t v∈k
  | [],_,_,_,h=>by cases h
  | .k_ j t' v'::r,i,t,v,h=>by
    simp only [fv]at h;split at h
    · rename_i he;cases h;subst he;exact List.mem_cons_self ..
    · exact List.mem_cons_of_mem _ (yF h)
  | .mG .. :: r,i,t,v,h=>List.mem_cons_of_mem _ (yF (k:=r) h)
inductive SV where
 |any
 |fJ
 |cv (c:CV)
 |kx (l:List CV)
 deriving DecidableEq
def SV.den(J:Env)(β:Nat->Nat):SV->Value
 | .any=>undef
 | .fJ=>undef
 | .cv c=>c.den J β
 | .kx l=>.tuple (l.map (CV.den J β)).toArray
def SV.wf(c:an):SV->Bool
 | .any=>true
 | .fJ=>true
 | .cv x=>x.wf c
 | .kx l=>l.all (CV.wf c)
theorem SV.U{c:an}{J aa:Env}{β ag:Nat->Nat}(h:Env.au c J aa)(hb:∀k,k<c.nk->ag k=β k):∀{a:SV},a.wf c=true->a.den aa ag=a.den J β
  | .any,_=>rfl
  | .fJ,_=>rfl
  | .cv a,hw=>CV.U h hb hw
  | .kx l,hw=>by
    simp only [SV.den];rw [List.map_congr_left λx hx=>CV.U h hb (List.all_eq_true.1 hw x hx)]
theorem SV.aH{c d:an}(h:c.le d):∀{a:SV},a.wf c=true->a.wf d=true
 | .any,_=>rfl
 | .fJ,_=>rfl
 | .cv a,hw=>CV.aH h hw
 | .kx l,hw=>List.all_eq_true.2 λx hx=>CV.aH h (List.all_eq_true.1 hw x hx)
def ky:List Value->Option (List At)
  | []=>some []
  |v::l=>match At.ofValue v,ky l with
    |some a,some r=>some (a::r)
    |_,_=>none
theorem Nx:∀{l:List Value} {r:List At} (_:ky l=some r) (c:an) (J:Env) (β:Nat->Nat),r.all (At.wf c)=true/\r.map (At.den J β)=l
  | [],r,h,_,_,_=>by simp only [ky,Option.some.injEq]at h;subst h;exact⟨rfl,rfl⟩
  |v::l,r,h,c,J,β=>by
    simp only [ky]at h;split at h
    · rename_i a r' ha hr;simp only [Option.some.injEq]at h;subst h;obtain⟨h1,h2⟩:=At.cm ha c J β;obtain⟨h3,h4⟩:=Nx hr c J β;exact⟨by simp only [List.all_cons,h1,h3,Bool.and_self],by simp only [List.map_cons,h2,h4]⟩
    · cases h
def SV.ofValue:Value->SV
  | .agg cs=>match ky cs.toList with
    |some l=>.cv (.agg l)
    |none=>.any
  |v=>match At.ofValue v with
    |some a=>.cv (.one a)
    |none=>.any
theorem SV.cm(v:Value)(c:an)(J:Env)(β:Nat->Nat):(SV.ofValue v).wf c=true/\(SV.ofValue v ≠ .any->(SV.ofValue v).den J β=v):=by
 unfold SV.ofValue;split
 ·split
  ·rename_i cs l h;obtain⟨h1,h2⟩:=Nx h c J β;exact⟨h1,λ_=>by simp only [SV.den,CV.den,h2,Array.toArray_toList]⟩
  ·exact⟨rfl,λh=>(h rfl).elim⟩
 ·split
  ·rename_i a h;obtain⟨h1,h2⟩:=At.cm h c J β;exact⟨h1,λ_=>h2⟩
  ·exact⟨rfl,λh=>(h rfl).elim⟩
inductive Sg where
 |cE (l:List At)
 |var (i:Nat)
 deriving DecidableEq
abbrev CE:=List Sg
def Sg.den(J:Env)(β:Nat->Nat):Sg->List Value
 | .cE l=>l.map (At.den J β)
 | .var i=>(J.l i).map (·.1)
def ak(J:Env)(β:Nat->Nat):CE->List Value
 | []=>[]
 |s::r=>s.den J β++ak J β r
def Sg.wf(c:an):Sg->Bool
 | .cE l=>l.all (At.wf c)
 | .var i=>decide (i<c.nl)
def bP(c:an)(l:CE):Bool:=l.all (Sg.wf c)
def lx:CE->Nat
 | []=>0
 | .cE l::r=>l.length+lx r
 | .var _::r=>lx r
def jg:CE->List Nat
 | []=>[]
 | .cE _::r=>jg r
 | .var i::r=>i::jg r
def dC:CE->Option (List At)
 | []=>some []
 | .cE l::r=>(dC r).map (l ++ ·)
 | .var _::_=>none
def cA:CE->CE->CE
 | [],y=>y
 | [.cE l],.cE l'::y=>.cE (l++l')::y
 |s::r,y=>s::cA r y
theorem Sg.U{c:an}{J aa:Env}{β ag:Nat->Nat}(h:Env.au c J aa)(hb:∀k,k<c.nk->ag k=β k):∀{s:Sg},s.wf c=true->s.den aa ag=s.den J β
 | .cE l,hw=>vP h hb hw
 | .var i,hw=>by simp only [Sg.den];rw [h.l i (by simpa [Sg.wf]using hw)]
theorem zy{c:an}{J aa:Env}{β ag:Nat->Nat}(h:Env.au c J aa)(hb:∀k,k<c.nk->ag k=β k):∀{l:CE},bP c l=true->ak aa ag l=ak J β l
  | [],_=>rfl
  |s::r,hw=>by
    simp only [bP,List.all_cons,Bool.and_eq_true]at hw;simp only [ak,Sg.U h hb hw.1,zy h hb (l:=r) hw.2]
theorem Sg.aH{c d:an}(h:c.le d):∀{s:Sg},s.wf c=true->s.wf d=true
 | .cE l,hw=>yE h hw
 | .var i,hw=>by simp [Sg.wf]at hw ⊢;exact Nat.lt_of_lt_of_le hw h.l
theorem yG{c d:an}(h:c.le d){l:CE}(hw:bP c l=true):bP d l=true :=
 List.all_eq_true.2 λs hs=>Sg.aH h (List.all_eq_true.1 hw s hs)
theorem B_(J:Env)(β:Nat->Nat):∀(x y:CE),ak J β (cA x y)=ak J β x++ak J β y
  | [],y=>rfl
  | [.cE l],[]=>by simp [cA,ak]
  | [.cE l],.cE l'::y=>by simp [cA,ak,Sg.den]
  | [.cE l],.var i::y=>by simp [cA,ak]
  | [.var i],y=>by simp [cA,ak]
  | .cE l::t::r,y=>by
    have:=B_ J β (t::r) y
    simp only [cA,ak,List.append_assoc]at this ⊢;rw [this]
  | .var i::t::r,y=>by
    have:=B_ J β (t::r) y
    simp only [cA,ak,List.append_assoc]at this ⊢;rw [this]
theorem Ha(c:an):∀(x y:CE),bP c x=true->bP c y=true->bP c (cA x y)=true
  | [],y,_,hy=>hy
  | [.cE l],[],hx,_=>hx
  | [.cE l],.cE l'::y,hx,hy=>by
    simp only [bP,List.all_cons,List.all_nil,Bool.and_true,Bool.and_eq_true,Sg.wf,cA,List.all_append]at *;exact⟨⟨hx,hy.1⟩,hy.2⟩
  | [.cE l],.var i::y,hx,hy=>by
    simp only [bP,List.all_cons,List.all_nil,Bool.and_true,Bool.and_eq_true,cA]at *;exact⟨hx,hy⟩
  | [.var i],y,hx,hy=>by
    simp only [bP,List.all_cons,List.all_nil,Bool.and_true,Bool.and_eq_true,cA]at *;exact⟨hx,hy⟩
  | .cE l::t::r,y,hx,hy=>by
    have h1:bP c (t::r)=true:=by simp only [bP,List.all_cons,Bool.and_eq_true]at hx ⊢;exact hx.2
    have:=Ha c (t::r) y h1 hy
    simp only [bP,cA,List.all_cons,Bool.and_eq_true]at hx this ⊢;exact⟨hx.1,this⟩
  | .var i::t::r,y,hx,hy=>by
    have h1:bP c (t::r)=true:=by simp only [bP,List.all_cons,Bool.and_eq_true]at hx ⊢;exact hx.2
    have:=Ha c (t::r) y h1 hy
    simp only [bP,cA,List.all_cons,Bool.and_eq_true]at hx this ⊢;exact⟨hx.1,this⟩
theorem Hb(J:Env)(β:Nat->Nat):∀(x:CE),(ak J β x).length=lx x+((jg x).map λj=>(J.l j).length).sum
 | []=>rfl
 | .cE l::r=>by simp only [ak,Sg.den,List.length_append,List.length_map,lx,jg,Hb J β r];omega
 | .var i::r=>by simp only [ak,Sg.den,List.length_append,List.length_map,lx,jg,Hb J β r,List.map_cons,List.sum_cons];omega
theorem B'(J:Env)(β:Nat->Nat):∀{x:CE} {l:List At},dC x=some l->ak J β x=l.map (At.den J β)
  | [],l,h=>by simp only [dC,Option.some.injEq]at h;subst h;rfl
  | .cE a::r,l,h=>by
    simp only [dC,Option.map_eq_some_iff]at h;obtain⟨l',h1,rfl⟩:=h;simp only [ak,Sg.den,B' J β h1,List.map_append]
  | .var _::_,l,h=>by simp [dC]at h
theorem tF(J:Env)(β:Nat->Nat):∀(x:CE),∀v∈ak J β x,v.oneCell'=true
  | [],v,h=>by cases h
  | .cE l::r,v,h=>by
    simp only [ak,Sg.den,List.mem_append,List.mem_map]at h;rcases h with ⟨a,_,rfl⟩|h
    · exact At.gi J β a
    · exact tF J β r v h
  | .var i::r,v,h=>by
    simp only [ak,Sg.den,List.mem_append,List.mem_map]at h;rcases h with ⟨a,_,rfl⟩|h
    · exact a.2
    · exact tF J β r v h
def oV:Value->UInt8
 | .int _ n=>UInt8.ofNat n.toNat
 |_=>0
inductive SP where
 |cat (a b:SE)
 |sub (s:SE) (l h:IE)
 |row (ce:CE)
 deriving DecidableEq
def SP.den(J:Env):SP->List UInt8
 | .cat a b=>a.den J++b.den J
 | .sub s l h=>((s.den J).drop (l.den J).toNat).take ((h.den J).toNat-(l.den J).toNat)
 | .row ce=>(ak J (λ_=>0) ce).map oV
def SP.ok(J:Env):SP->Prop
 | .cat a b=>(a.den J).length+(b.den J).length<=9223372036854775807
 | .sub s l h=>0<=l.den J/\l.den J<=h.den J/\h.den J<=((s.den J).length:Int)
 | .row ce=>∀v∈ak J (λ_=>0) ce,∃n:Int,v=.int .u8 n
def yH:List At->Bool
 | []=>true
 | .int _ (.lit _)::r=>yH r
 |_=>false
def kz:List At->Bool
 | []=>true
 | .int k (.lit _)::r=>decide (k=.u8) && kz r
 |_=>false
def SP.lits:SP->Bool
 | .cat (.lit _) (.lit _)=>true
 | .sub (.lit _) (.lit _) (.lit _)=>true
 | .row [.cE l]=>kz l
 | .row []=>true
 |_=>false
def SP.okB:SP->Bool
 | .cat (.lit a) (.lit b)=>decide (a.length+b.length<=9223372036854775807)
 | .sub (.lit s) (.lit l) (.lit h)=>decide (0<=l) && decide (l<=h) && decide (h<=(s.length:Int))
 | .row _=>true
 |_=>false
theorem Ny{J aa:Env}{β:Nat->Nat}:∀{l:List At},kz l=true->l.map (At.den J β)=l.map (At.den aa β)/\∀v∈l.map (At.den J β),∃n:Int,v=.int .u8 n
  | [],_=>⟨rfl,λv h=>by cases h⟩
  | .int k (.lit n)::r,h=>by
    simp only [kz,Bool.and_eq_true,decide_eq_true_eq]at h;obtain⟨h1,h2⟩:=Ny (J:=J) (aa:=aa) (β:=β) h.2;refine⟨by simp only [List.map_cons,h1,At.den,IE.den],λv hv => ?_⟩;simp only [List.map_cons,List.mem_cons]at hv;rcases hv with rfl|hv
    · exact⟨n,by simp only [At.den,IE.den,h.1]⟩
    · exact h2 v hv
  | .int k (.var _)::r,h=>by simp [kz]at h
  | .bool _::_,h | .val _::_,h | .str _::_,h | .oT::_,h | .c_::_,h | .p9::_,h | .mE::_,h | .rW::_,h=>by simp [kz]at h
  | .loc .. :: _,h | .gZ .. :: _,h | .ext .. :: _,h | .jf .. :: _,h | .fn .. :: _,h | .sv .. :: _,h | .fu .. :: _,h | .own .. :: _,h=>by simp [kz]at h
  | .eT .. :: _,h | .kM .. :: _,h | .p_ .. :: _,h | .omap .. :: _,h | .oE .. :: _,h | .oU .. :: _,h=>by simp [kz]at h
theorem SP.oW{J aa:Env}:∀{p:SP},p.lits=true->p.okB=true->p.den J=p.den aa/\p.ok J
  | .cat (.lit a) (.lit b),_,h=>⟨rfl,by simpa only [SP.okB,SP.ok,SE.den,decide_eq_true_eq]using h⟩
  | .sub (.lit s) (.lit l) (.lit h),_,ho=>by
    simp only [SP.okB,Bool.and_eq_true,decide_eq_true_eq]at ho;exact⟨rfl,ho.1.1,ho.1.2,ho.2⟩
  | .row [.cE l],h,_=>by
    obtain⟨h1,h2⟩:=Ny (J:=J) (aa:=aa) (β:=λ_=>0) (l:=l) h;exact⟨by simp only [SP.den,ak,Sg.den,h1],λv hv=>h2 v (by simpa [ak,Sg.den]using hv)⟩
  | .row [],_,_=>⟨rfl,λv hv=>by cases hv⟩
  | .cat (.var _) _,h,_ | .cat (.lit _) (.var _),h,_=>by simp [SP.lits]at h
  | .sub (.var _) _ _,h,_ | .sub (.lit _) (.var _) _,h,_ | .sub (.lit _) (.lit _) (.var _),h,_=>by simp [SP.lits]at h
  | .row (.var _::_),h,_ | .row (.cE _::_::_),h,_=>by simp [SP.lits]at h
def SP.wf(c:an):SP->Bool
 | .cat a b=>a.wf c && b.wf c
 | .sub s l h=>s.wf c && l.wf c && h.wf c
 | .row ce=>bP c ce
theorem SP.au{c:an}{J aa:Env}(h:Env.au c J aa):∀{p:SP},p.wf c=true->p.den aa=p.den J/\(p.ok J->p.ok aa)
  | .cat a b,hw=>by
    simp only [SP.wf,Bool.and_eq_true]at hw;simp only [SP.den,SP.ok,SE.U h hw.1,SE.U h hw.2];exact⟨trivial,λh=>h⟩
  | .sub s l e,hw=>by
    simp only [SP.wf,Bool.and_eq_true]at hw;simp only [SP.den,SP.ok,SE.U h hw.1.1,IE.U h hw.1.2,IE.U h hw.2];exact⟨trivial,λh=>h⟩
  | .row ce,hw=>by
    simp only [SP.den,SP.ok,zy (β:=λ_=>0) (ag:=λ_=>0) h (λ_ _=>rfl) (show bP c ce=true from hw)];exact⟨trivial,λh=>h⟩
end Vc
set_option linter.unusedVariables false
namespace Vc
open Go Go.RowKit
inductive CK where
 |int (k:IntKind)
 |bool
 |tf
 |str
 |sl (sz:Nat)
 |own (sz:Nat) (t:TypeId)
 deriving DecidableEq
abbrev Mem:=List (Nat × List At × TypeId)
abbrev aY:=List (Nat × CE × Nat × TypeId)
inductive LP where
 |set (ce:CE) (ix:IE) (sz off:Nat) (l:List At)
 |rep (n:IE) (l:List At)
 |oE (i:Nat)
 deriving DecidableEq
inductive LH where
 |jZ
 |inv (cells:List (Nat × Nat)) (aW kill:List Nat)
 |yI (oX cells:List (Nat × Nat)) (aW kill:List Nat)
 |ai (alts:List (List (Nat × Nat))) (cells:List (Nat × Nat)) (aW kill:List Nat)
inductive Ex where
 |normal
 |exit (id:Nat)
 |ret
 |iC (i:Nat)
 deriving DecidableEq
structure St where
 t:List (Nat × SV)
 n:Nat
 m:Mem
 c:an
 o:aY := []
 r:List (Nat × Option Ex) := []
 d:List Nat := []
 k:bK := []
 df:List (FuncId × List (Nat × Nat)) := []
 deriving DecidableEq
inductive Ask where
 |mG (g:Nat) (cs:List At) (t:TypeId)
 |k_ (n:Nat) (t:TypeId) (v:CV)
 |call (f:FuncId) (args:List SV) (m:Mem) (o:aY) (r:SV)
 |m9 (f:FuncId) (args:List SV) (r:SV)
 |m_ (f:FuncId) (args:List SV) (m:Mem) (o:aY) (k:Nat) (ce:CE) (sz:Nat) (t:TypeId)
structure jA where
 n:Nat
 f:FuncId
 args:List SV
 s:St
 asks:List Ask
 v:SV
 s':St
structure bY where
 P:Program
 calls:List FuncId
 ext:List FuncId
 inl:List FuncId
 loops:List (Nat × LH)
 fw:List (Nat × List At × TypeId) := []
 rX:List jA := []
 marks:List FuncId := []
structure bZ(R:Type) where
 fail:String->R
 fin:SV->Mem->aY->R
 int:Nat->IP->R->R
 jW:BE->R->R
 ite:BE->R->R->R
 call:FuncId->List SV->Mem->aY->List At->SV->R->R
 m9:FuncId->List SV->List At->SV->R->R
 load:At->Nat->IE->Nat->Nat->R->R
 loop:aY->List At->aY->List At->((aY->List At->R)->R)->R
 rd:At->CE->IE->Nat->Nat->R->R
 rY:Nat->LP->R->R
 Fe:Nat->At->Nat->R->R
 Ca:SV->Mem->aY->List TypeId->R
 xq:FuncId->List SV->Mem->aY->List (Nat × List At × TypeId)->List At->SV->R->R
 str:Nat->SP->R->R
 Hc:SV->aY->Nat->TypeId->R
 xr:FuncId->List SV->Mem->aY->Nat->Nat->Nat->TypeId->List At->SV->R->R
 mG:Nat->List At->TypeId->R->R
 k_:Nat->TypeId->CV->R->R
 alt:R->R->R
 xu:FuncId->List SV->Mem->aY->List Nat->List At->TypeId->CV->Nat->R->R
 yJ:Nat->R
 m_:FuncId->List SV->Mem->aY->Nat->CE->Nat->TypeId->R->R
 Cb:Nat->CE->List At->List CK->Nat->R->R
 mark:Option Nat->FuncId->List SV->St->R->R
def aq:List (Nat × SV)->Nat->SV
  | [],_=>.any
  |p::r,i=>match Nat.beq p.1 i with
    |true=>p.2
    |false=>aq r i
def getM:Mem->Nat->Option (List At × TypeId)
 | [],_=>none
 | (j,v)::r,i=>if j=i then some v else getM r i
def iE:Mem->Nat->List At->Mem
 | [],_,_=>[]
 | (j,v)::r,i,cs=>if j=i then (j,cs,v.2)::r else (j,v)::iE r i cs
def aD:aY->Nat->Option (CE × Nat × TypeId)
 | [],_=>none
 | (j,v)::r,i=>if j=i then some v else aD r i
def rZ:aY->Nat->aY
 | [],_=>[]
 | (j,v)::r,i=>if j=i then rZ r i else (j,v)::rZ r i
def bI:aY->List Nat->aY
 |o,[]=>o
 |o,k::l=>bI (rZ o k) l
def Sg.flat:Sg->Bool
 | .cE l=>l.all At.flat
 | .var _=>true
def fK(l:CE):Bool:=l.all Sg.flat
def St.ev(st:St):Operand->SV
  | .tmp t=>aq st.t t
  | .const v=>SV.ofValue v
  | .global g=>match mY st.k g with
    |some p=>.cv (.one (.ext p (.lit 0) 0 0))
    |none=>.any
  | .func f=>.cv (.one (.fn f []))
variable {R:Type}
def Ask.run(A:bZ R):Ask->R->R
 | .mG g cs t,k=>A.mG g cs t k
 | .k_ n t v,k=>A.k_ n t v k
 | .call f args m o r,k=>A.call f args m o [] r k
 | .m9 f args r,k=>A.m9 f args [] r k
 | .m_ f args m o k' ce sz t,k=>A.m_ f args m o k' ce sz t k
def qf(A:bZ R):List Ask->R->R
 | [],k=>k
 |a::l,k=>a.run A (qf A l k)
def iL(n:Nat)(f:FuncId)(args:List SV)(s:St):List jA->Option jA
  | []=>none
  |e::r=>match Nat.beq e.f f && Nat.beq e.n n with
    |true=>if e.args=args/\e.s=s then some e else iL n f args s r
    |false=>iL n f args s r
theorem Hd{n:Nat}{f:FuncId}{args:List SV}{s:St}:∀{l:List jA} {e:jA},iL n f args s l=some e->e∈l/\e.n=n/\e.f=f/\e.args=args/\e.s=s
  | [],e,h=>by cases h
  |x::r,e,h=>by
    unfold iL at h;cases hb:Nat.beq x.f f && Nat.beq x.n n with
    |true =>
      rw [hb]at h;simp only at h;rw [Bool.and_eq_true]at hb;split at h
      · rename_i hc;cases h;exact⟨by simp,Nat.eq_of_beq_eq_true hb.2,Nat.eq_of_beq_eq_true hb.1,hc.1,hc.2⟩
      · obtain⟨h1,h2⟩:=Hd h;exact⟨List.mem_cons_of_mem _ h1,h2⟩
    |false =>
      rw [hb]at h;obtain⟨h1,h2⟩:=Hd h;exact⟨List.mem_cons_of_mem _ h1,h2⟩
def kA{α:Type}(l:List α)(K:List α->R):R :=
 match l with
 | []=>K []
 |a::r=>K (a::r)
def j4(n:Nat)(K:Nat->R):R :=
 match n with
 |0=>K 0
 |k+1=>K (Nat.succ k)
theorem He{α:Type}(l:List α)(K:List α->R):kA l K=K l:=by cases l<;>rfl
theorem Ff(n:Nat)(K:Nat->R):j4 n K=K n:=by cases n<;>rfl
def St.norm(st:St)(K:St->R):R :=
  match st with
  |⟨t,n,m,c,o,r,d,k,df⟩=>match c with
    |⟨ni,nb,nv,np,nk,ns,nl⟩ =>
      kA t λt=>j4 n λn=>kA m λm=>j4 ni λni=>j4 nb λnb=>j4 nv λnv=>j4 np λnp=>j4 nk λnk=>j4 ns λns=>j4 nl λnl =>
        kA o λo=>kA r λr=>kA d λd=>kA k λk=>kA df λdf=>K ⟨t,n,m,⟨ni,nb,nv,np,nk,ns,nl⟩,o,r,d,k,df⟩
theorem St.norm_eq(st:St)(K:St->R):st.norm K=K st:=by
 obtain⟨t,n,m,⟨ni,nb,nv,np,nk,ns,nl⟩,o,r,d,k,df⟩:=st;simp only [St.norm,He,Ff]
def na{α:Type}(K:List α->R):List α->List α->R
 | [],acc=>K acc
 |a::r,acc=>na K r (a::acc)
def fE{α:Type}(K:List α->R):List α->List α->R
 | [],acc=>na K acc []
 |a::r,acc=>fE K r (a::acc)
theorem Fg{α:Type}(K:List α->R):∀(l acc:List α),na K l acc=K (l.reverse++acc)
 | [],acc=>rfl
 |a::r,acc=>by rw [na,Fg K r];simp
theorem Nz{α:Type}(K:List α->R):∀(l acc:List α),fE K l acc=K (acc.reverse++l)
 | [],acc=>by rw [fE,Fg]
 |a::r,acc=>by rw [fE,Nz K r];simp
theorem Fh{α:Type}(K:List α->R)(l:List α):fE K l []=K l:=by rw [Nz];rfl
def jB(z:Int)(K:Int->R):R :=
 match z with
 | .ofNat n=>j4 n λn=>K (.ofNat n)
 | .negSucc n=>j4 n λn=>K (.negSucc n)
theorem NA(z:Int)(K:Int->R):jB z K=K z:=by cases z<;>(unfold jB;simp only [Ff])
def nQ(e:BE)(K:BE->R):R :=
 match e with
 | .lit true=>K (.lit true)
 | .lit false=>K (.lit false)
 |e=>K e
theorem RE(e:BE)(K:BE->R):nQ e K=K e:=by unfold nQ;split<;>rfl
def nR(v:SV)(K:SV->R):R :=
 match v with
 | .cv (.one (.bool e))=>nQ e λe=>K (.cv (.one (.bool e)))
 | .cv (.agg l)=>fE (λl=>K (.cv (.agg l))) l []
 |v=>K v
theorem RF(v:SV)(K:SV->R):nR v K=K v:=by
 unfold nR;split
 ·exact RE _ _
 ·exact Fh _ _
 ·rfl
def jC(s i:Nat):Bool:=Nat.beq (Nat.land (Nat.shiftRight s i) 1) 1
def fx:Nat->List (Nat × SV)->List (Nat × SV)
  |_,[]=>[]
  |s,p::r=>match jC s p.1 with
    |true=>fx s r
    |false=>p::fx (Nat.lor s (Nat.shiftLeft 1 p.1)) r
def nc(K:List (Nat × SV)->R):List (Nat × SV)->Nat->List (Nat × SV)->R
  | [],_,acc=>na K acc []
  |p::r,s,acc=>match jC s p.1 with
    |true=>nc K r s acc
    |false=>j4 (Nat.lor s (Nat.shiftLeft 1 p.1)) λs=>nc K r s (p::acc)
theorem Hf(K:List (Nat × SV)->R):∀(l:List (Nat × SV)) (s:Nat) (acc:List (Nat × SV)),nc K l s acc=K (acc.reverse++fx s l)
  | [],s,acc=>by rw [nc,Fg,fx]
  |p::r,s,acc=>by
    rw [nc,fx];cases jC s p.1 with
    |true=>exact Hf K r s acc
    |false=>simp only [Ff,Hf K r];simp
def St.tG(st:St)(K:St->R):R:=nc (λt=>K {st with t:=t}) st.t 0 []
theorem St.vQ(st:St)(K:St->R):st.tG K=K {st with t:=fx 0 st.t}:=by
 unfold St.tG;rw [Hf];rfl
theorem Hg(s i:Nat):jC s i=s.testBit i:=by
 have h:Nat.land (Nat.shiftRight s i) 1=(s >>> i) % 2:=Nat.and_one_is_mod _;unfold jC;rw [h,Nat.testBit,Nat.one_and_eq_mod_two];rcases Nat.mod_two_eq_zero_or_one (s >>> i)with h|h<;>rw [h]<;>rfl
theorem RG(s i j:Nat):jC (Nat.lor s (Nat.shiftLeft 1 i)) j=(jC s j || decide (i=j)):=by
 rw [Hg,Hg];show (s ||| 1 <<< i).testBit j=_;rw [Nat.testBit_or,Nat.testBit_shiftLeft];by_cases h:i=j
 ·subst h;simp
 ·by_cases h2:i<=j
  ·have:(1:Nat).testBit (j-i)=false:=by
    obtain⟨d,hd⟩:∃d,j-i=d+1:=⟨j-i-1,by omega⟩;rw [hd,Nat.testBit_succ];simp
   simp [h,h2,this]
  ·simp [h,h2]
theorem Hh(i:Nat):∀(l:List (Nat × SV)) (s:Nat),aq (fx s l) i=if jC s i=true then .any else aq l i
  | [],s=>by rw [fx,aq];split<;>rfl
  |p::r,s=>by
    rw [fx]
    have hc:∀q,aq (p::q) i=if p.1=i then p.2 else aq q i:=λq=>by
      show (match Nat.beq p.1 i with|true=>p.2|false=>aq q i)=_;cases h:Nat.beq p.1 i with
      |true=>rw [if_pos (Nat.eq_of_beq_eq_true h)]
      |false=>rw [if_neg (Nat.ne_of_beq_eq_false h)]
    cases hb:jC s p.1 with
    |true =>
      show aq (fx s r) i=_;rw [Hh i r s,hc];by_cases h:p.1=i
      · rw [<-h,hb];simp
      · rw [if_neg h]
    |false =>
      show aq (p::fx (Nat.lor s (Nat.shiftLeft 1 p.1)) r) i=_;rw [hc,hc,Hh i r,RG];by_cases h:p.1=i
      · rw [if_pos h,if_pos h,<-h,hb];simp
      · simp [h]
theorem NB(t:List (Nat × SV))(i:Nat):aq (fx 0 t) i=aq t i:=by
 rw [Hh,Hg];simp
def St.Hi(st:St)(c:an)(K:St->R):R :=
  match st with
  |⟨t,n,m,_,o,r,d,k,df⟩=>match c with
    |⟨ni,nb,nv,np,nk,ns,nl⟩=>K ⟨t,n,m,⟨ni,nb,nv,np,nk,ns,nl⟩,o,r,d,k,df⟩
def St.Cc(st:St)(x:Nat × SV)(c:an)(K:St->R):R :=
  match st with
  |⟨t,n,m,_,o,r,d,k,df⟩=>match c with
    |⟨ni,nb,nv,np,nk,ns,nl⟩=>K ⟨x::t,n,m,⟨ni,nb,nv,np,nk,ns,nl⟩,o,r,d,k,df⟩
def A6(a b:IntKind):Bool:=Nat.beq a.ctorIdx b.ctorIdx
theorem NC(a b:IntKind):A6 a b=true↔a=b:=by cases a<;>cases b<;>decide
def tH(v:SV)(K:SV->R):R :=
 match v with
 | .cv c=>K (.cv c)
 | .kx l=>K (.kx l)
 | .any=>K .any
 | .fJ=>K .fJ
theorem RH(v:SV)(K:SV->R):tH v K=K v:=by cases v<;>rfl
def nf(K:List (Nat × SV)->R):List SV->Nat->List (Nat × SV)->R
 | [],_,acc=>na K acc []
 |v::r,i,acc=>tH v λv=>j4 (i+1) λj=>nf K r j ((i,v)::acc)
theorem ND(K:List (Nat × SV)->R):∀(l:List SV) (i:Nat) (acc:List (Nat × SV)),nf K l i acc=K (acc.reverse++(List.range' i l.length).zip l)
  | [],i,acc=>by rw [nf,Fg];simp
  |v::r,i,acc=>by
    rw [nf,RH,Ff,ND K r];simp [List.range'_succ]
theorem Hj(K:List (Nat × SV)->R)(l:List SV):nf K l 0 []=K ((List.range l.length).zip l):=by
 rw [ND,List.range_eq_range'];rfl
def St.put(A:bZ R)(st:St)(dst:Option Tmp)(v:SV)(c:an)(K:St->R):R :=
  match dst with
  |none=>st.Hi c K
  |some d=>match Nat.blt d st.n with
    |true=>match v.wf c with
      |true=>nR v λv=>st.Cc (d,v) c K
      |false => A.fail "put"
    |false => A.fail "put"
def aF(P:Program)(t:TypeId):Option (Bool × Nat) :=
 match P.underlying t,P.info? t with
 |some d,some i=>some (match d with | .struct _ | .array _ _=>true|_=>false,i.size)
 |_,_=>none
def pieces{α:Type}(f:α->Option (List CK)):List α->Option (List CK)
  | []=>some []
  |x::l=>match f x,pieces f l with
    |some a,some b=>some (a++b)
    |_,_=>none
def times{α:Type}(l:List α):Nat->List α
 |0=>[]
 |n+1=>l++times l n
def tI(P:Program):Nat->TypeId->Option (List CK)
  |0,_=>none
  |n+1,t=>match P.underlying t with
    |some (.int k)=>some [.int k]
    |some .bool=>some [.bool]
    |some (.struct fs)=>pieces (λf=>tI P n f.type) fs.toList
    |some (.array m e)=>(tI P n e).map (times · m)
    |some .string=>some [.str]
    |some (.slice e)=>match aF P e with
      |some (_,s)=>some [.sl s]
      |none=>none
    |some _=>some [.tf]
    |none=>none
def a8(c:an):CK->At
 | .int k=>.int k (.var c.ni)
 | .bool=>.bool (.var c.nb)
 | .tf=>.val c.nv
 | .str=>.sv c.ns
 | .sl sz=>.fu c.nb c.np sz (.var c.ni) (.var (c.ni+1))
 | .own _ _=>.own c.nk
def aS(c:an):CK->an
 | .int _ => {c with ni:=c.ni+1}
 | .bool => {c with nb:=c.nb+1}
 | .tf => {c with nv:=c.nv+1}
 | .str => {c with ns:=c.ns+1}
 | .sl _ => {c with nb:=c.nb+1,np:=c.np+1,ni:=c.ni+2}
 | .own _ _ => {c with nk:=c.nk+4,nl:=c.nl+1}
def CK.plain:CK->Bool
 | .own .. => false
 |_=>true
def ao(c:an):List CK->List At
 | []=>[]
 |k::l=>a8 c k::ao (aS c k) l
def aK(c:an):List CK->an
 | []=>c
 |k::l=>aK (aS c k) l
def aV(c:an):List CK->aY
 | []=>[]
 | .own sz t::l=>(c.nk,[.var c.nl],sz,t)::aV (aS c (.own sz t)) l
 |k::l=>aV (aS c k) l
def gF(P:Program):List TypeId->Option (List (Bool × List CK))
  | []=>some []
  |t::l=>match aF P t,tI P 30 t,gF P l with
    |some (g,_),some ks,some r=>if (g=true∨ks.length=1)/\ks.all CK.plain=true then some ((g,ks)::r)else none
    |_,_,_=>none
def bN:List (Bool × List CK)->List CK
 | []=>[]
 | (_,ks)::r=>ks++bN r
def dK(g:Bool)(l:List At):CV :=
 match g,l with
 |false,[a]=>.one a
 |_,l=>.agg l
def bE:List (Bool × List CK)->List At->List CV
 | [],_=>[]
 | (g,ks)::r,l=>dK g (l.take ks.length)::bE r (l.drop ks.length)
def cd(cs:List CV):SV :=
 match cs with
 | [c]=>.cv c
 |cs=>.kx cs
def gj(A:bZ R)(c:an)(k:IntKind)(p:IP)(K:SV->an->R):R :=
  match p.lits with
  |true=>jB (p.den Env.zero) λz=>K (.cv (.one (.int k (.lit z)))) c
  |false => if p.wf c = true then A.int c.ni p (K (.cv (.one (.int k (.var c.ni)))) { c with ni := c.ni+1 }) else A.fail "int"
def qg(A:bZ R)(c:an)(p:IP)(K:IE->an->R):R :=
  if p.lits=true then jB (p.den Env.zero) λz=>K (.lit z) c
  else if p.wf c = true then A.int c.ni p (K (.var c.ni) { c with ni := c.ni+1 }) else A.fail "sum"
def oY(A:bZ R)(c:an)(op:IE->IE->IP)(a b:IE)(K:IE->an->R):R:=qg A c (op a b) K
def gG(A:bZ R)(c:an)(ce:CE)(sz:Nat)(K:IE->an->R):R:=qg A c (.p8 (lx ce) (jg ce) sz) K
def bj(A:bZ R)(e:BE)(r:R):R :=
 match e.ju with
 | .lit true=>r
 |e'=>A.jW e' r
def fe(A:bZ R)(e:BE)(t f:Unit->R):R :=
 match e with
 | .lit true=>t ()
 | .lit false=>f ()
 |e =>
 match e.ju with
 | .lit true=>t ()
 | .lit false=>f ()
 | .not e'=>A.ite e' (f ()) (t ())
 | .cmp .neq a b=>A.ite (.cmp .eql a b) (f ()) (t ())
 |e'=>A.ite e' (t ()) (f ())
def hU(A:bZ R)(e:IE)(n:Nat):Nat->(Nat->R)->R
  |0, _ => A.fail "cases"
  |1,K=>K (n-1)
  |j+2,K=>fe A (.cmp .eql e (.lit ((n-(j+2):Nat):Int))) (λ_=>K (n-(j+2))) (λ_=>hU A e n (j+1) K)
def iM:BinOp->Bool
 | .add | .sub | .mul | .and | .or | .xor | .andNot=>true
 |_=>false
def ng:BinOp->Bool
 | .eql | .neq | .lss | .leq | .gtr | .geq=>true
 |_=>false
def r9(P:Program)(f:TypeId->Option (List CK)):Nat->List Field->Option (List CK)
  |_,[]=>some []
  |off, fd :: r => if fd.name = "_" ∨ fd.offset ≠ off then none else match f fd.type, aF P fd.type with
    |some ks,some (_,n)=>if n=ks.length then (r9 P f (off+n) r).map (ks ++ ·)else none
    |_,_=>none
def jh(P:Program):Nat->TypeId->Option (List CK)
  |0,_=>none
  |n+1,t=>match P.underlying t with
    |some (.int k)=>some [.int k]
    |some .bool=>some [.bool]
    |some .string=>some [.str]
    |some (.struct fs)=>if P.stoodInHeld t=true then none else r9 P (jh P n) 0 fs.toList
    |some (.array m e)=>match jh P n e,aF P e with
      |some ks,some (_,s)=>if s=ks.length then some (times ks m)else none
      |_,_=>none
    |_=>none
def strOf:At->Option SE
 | .str l=>some (.lit l)
 | .sv i=>some (.var i)
 |_=>none
def eU(k:CK)(a b:At):Option BE :=
  match k with
  | .int k=>match a,b with
    | .int k1 a,.int k2 b=>if k1=k/\k2=k then some (.cmp .eql a b)else none
    |_,_=>none
  | .bool=>match a,b with
    | .bool a,.bool b=>some (.eq a b)
    |_,_=>none
  | .str=>match strOf a,strOf b with
    |some p,some q=>some (.seq p q)
    |_,_=>none
  |_=>none
def aT:List CK->List At->List At->Option BE
  | [],[],[]=>some (.lit true)
  |k::r,a::x,b::y=>match eU k a b,aT r x y with
    |some e,some e'=>some (.and e e')
    |_,_=>none
  |_,_,_=>none
inductive Nl where
 |jD
 |held
 |may (q:Nat)
 |RI
 deriving DecidableEq
def nS:At->Nl
 | .oT=>.jD
 | .loc .. | .ext .. | .eT .. => .held
 | .c_=>.jD
 | .gZ .. | .jf .. => .held
 | .fu q .. => .may q
 | .p9=>.jD
 | .fn .. | .kM .. | .p_ .. | .oU .. => .held
 |_=>.RI
def r_:Nl->Nl->Option BE
 | .jD,.jD=>some (.lit true)
 | .jD,.held | .held,.jD=>some (.lit false)
 | .jD,.may q | .may q,.jD=>some (.var q)
 |_,_=>none
def da:At->Nat
 | .oT | .loc .. | .ext .. | .eT .. => 0
 | .c_ | .gZ .. | .jf .. | .fu .. => 1
 | .p9 | .fn .. | .kM .. | .p_ .. | .oU .. => 2
 |_=>3
def nh(P:Program)(t:TypeId)(x y:At):Option BE :=
  match P.underlying t with
  | some (.pointer e)=>if da x=0/\da y=0 then match r_ (nS x) (nS y)with
      |some b=>some b
      |none=>match x,y with
        | .loc k o,.loc k' o'=>match aF P e with
          |some (_,n)=>if k=k'/\n≠0 then some (.lit (decide (o=o')))else none
          |none=>none
        |_,_=>none
    else none
  |some (.slice _)=>if da x=1/\da y=1 then r_ (nS x) (nS y)else none
  |some (.func _ _ _)=>if da x=2/\da y=2 then r_ (nS x) (nS y)else none
  |_=>none
def ly(g:Bool)(n:Nat):CV->Bool
 | .one _ => !g && decide (n=1)
 | .agg l=>g && decide (l.length=n)
def cI(g:Bool)(n:Nat):Nat:=2*n+if g=true then 1 else 0
structure fL where
 key:TypeId
 el:TypeId
 ks:List CK
 gk:Bool
 ge:Bool
 ne:Nat
def fL.no(x:fL):Nat:=cI x.gk x.ks.length*1048576+cI x.ge x.ne
def eV(P:Program)(t:TypeId):Option fL :=
  match P.underlying t with
  |some (.map key el)=>match jh P 30 key,aF P key,aF P el with
    |some ks,some (gk,nk),some (ge,ne)=>if nk=ks.length/\0<nk/\nk<500000/\ne<500000 then some ⟨key,el,ks,gk,ge,ne⟩else none
    |_,_,_=>none
  |_=>none
def nj:Value->Value->Bool
 | .int k a,.int k' b=>decide (k=k') && a == b
 | .bool a,.bool b=>a == b
 | .string a,.string b=>decide (a.data.toList=b.data.toList)
 |_,_=>false
def iv:List Value->List Value->Bool
 | [],[]=>true
 |a::x,b::y=>nj a b && iv x y
 |_,_=>false
def lz:CK->Value->Bool
 | .int k,.int k' _=>decide (k'=k)
 | .bool,.bool _=>true
 | .str,.string _=>true
 |_,_=>false
def eI:List CK->List Value->Bool
 | [],[]=>true
 |k::r,v::l=>lz k v && eI r l
 |_,_=>false
def hZ(ks:List CK)(n:Nat):Nat->List Value->Bool
 |0,_=>true
 |_+1,[]=>true
 |f+1,l=>eI ks (l.take ks.length) && hZ ks n f (l.drop n)
def iF(ks:List CK)(n:Nat)(l:List Value):Bool:=hZ ks n l.length l
def bS(nk n:Nat)(key:List Value):Nat->List Value->Option Nat
 |0,_=>none
 |_+1,[]=>none
 |f+1,l=>if iv key (l.take nk)=true then some 0 else (bS nk n key f (l.drop n)).map (·+1)
def fy(nk n:Nat)(key l:List Value):Int :=
 match bS nk n key l.length l with
 |some i=>(i:Int)
 |none => -1
def gm:CK->At->Bool
 | .int k,.int k' _=>decide (k'=k)
 | .bool,.bool _=>true
 | .str,a=>(strOf a).isSome
 |_,_=>false
def eW:List CK->List At->Bool
 | [],[]=>true
 |k::r,a::l=>gm k a && eW r l
 |_,_=>false
def nT(A:bZ R)(c:an)(x:fL)(ce:CE)(kc:List At)(K:IE->an->R):R :=
  if eW x.ks kc=true/\fK ce=true/\kc.all At.flat=true/\bP c ce=true/\kc.all (At.wf c)=true then
    A.Cb c.ni ce kc x.ks x.ne (K (.var c.ni) {c with ni:=c.ni+1})
  else A.fail "map: keys"
def jE(A:bZ R)(c:an)(x:fL)(kc:List At)(found:Nat->List At->R)(Cd:Unit->R):Nat->List At->Nat->R
  |0, _, _ => A.fail "map: entries"
  |n+1,cs,i=>if cs=[]then Cd ()else
    match aT x.ks kc (cs.take x.ks.length)with
    | some e=>if e.wf c=true/\x.ks.length + x.ne<=cs.length then
        fe A e (λ_=>found i ((cs.drop x.ks.length).take x.ne)) (λ_=>jE A c x kc found Cd n (cs.drop (x.ks.length+x.ne)) (i+1))
      else A.fail "map: entries"
    |none => A.fail "map: keys"
def lA(A:bZ R)(c:an)(p:SP)(K:SV->an->R):R :=
  if p.lits=true/\p.okB=true then fE (λl=>K (.cv (.one (.str l))) c) (p.den Env.zero) []
  else if p.wf c = true then A.str c.ns p (K (.cv (.one (.sv c.ns))) { c with ns := c.ns+1 }) else A.fail "string"
def kB(A:bZ R)(P:Program)(c:an)(op:BinOp)(t:TypeId)(x y:SV)(K:SV->an->R):R :=
  match x,y with
  | .cv (.one (.int k a)),.cv (.one (.int k' b)) =>
    if op=.shl then
      match b with
      | .lit n => if 0 <= n /\ n.toNat<k.bits then gj A c k (.shl k a n.toNat) K else A.fail "shift"
      |b=>bj A (.cmp .geq b (.lit 0)) (gj A c k (.bin .shl k a b) K)
    else if op=.shr then
      match b with
      | .lit n => if 0 <= n /\ n.toNat<k.bits then gj A c k (.shr a n.toNat) K else A.fail "shift"
      |b=>bj A (.cmp .geq b (.lit 0)) (gj A c k (.bin .shr k a b) K)
    else if k=k' then
      if iM op then gj A c k (.bin op k a b) K
      else if op=.quo∨op=.rem then bj A (.cmp .neq b (.lit 0)) (gj A c k (.bin op k a b) K)
      else if ng op then K (.cv (.one (.bool (BE.cmp op a b).ju))) c
      else A.fail "binOp"
    else A.fail "binOp: kinds"
  | .cv (.one (.bool a)),.cv (.one (.bool b)) =>
    match P.underlying t with
    |some .bool =>
      if op=.eql then K (.cv (.one (.bool (BE.eq a b).ju))) c
      else if op=.neq then K (.cv (.one (.bool (BE.not (BE.eq a b)).ju))) c
      else A.fail "binOp: bools"
    |_ => A.fail "binOp: bools"
  | .cv (.agg a),.cv (.agg b) =>
    match jh P 30 t,aF P t with
    |some ks,some (true,_)=>match aT ks a b with
      |some e =>
        if P.eqGuardType P.depth t = true then A.fail "binOp: guard"
        else if op=.eql then K (.cv (.one (.bool e.ju))) c
        else if op=.neq then K (.cv (.one (.bool (BE.not e).ju))) c
        else A.fail "binOp: structs"
      |none => A.fail "binOp: cells"
    |_, _ => A.fail "binOp: types"
  | .cv (.one x),.cv (.one y) =>
    match P.underlying t,strOf x,strOf y with
    |some .string,some a,some b =>
      if op=.eql then K (.cv (.one (.bool (BE.seq a b).ju))) c
      else if op=.neq then K (.cv (.one (.bool (BE.not (BE.seq a b)).ju))) c
      else if op=.add then lA A c (.cat a b) K
      else A.fail "binOp: strings"
    |_,_,_=>match nh P t x y with
      |some e =>
        if op=.eql then K (.cv (.one (.bool e.ju))) c
        else if op=.neq then K (.cv (.one (.bool (BE.not e).ju))) c
        else A.fail "binOp: operands"
      |none => A.fail "binOp: operands"
  |_, _ => A.fail "binOp: operands"
def nU(A:bZ R)(p:Nat)(ix:IE)(sz:Nat):Nat->List CK->an->(List At->an->R)->R
 |_,[],c,K=>K [] c
 |off,k::l,c,K=>A.load (a8 c k) p ix sz off (nU A p ix sz (off+1) l (aS c k) λr c'=>K (a8 c k::r) c')
def qQ(A:bZ R)(ce:CE)(ix:IE)(sz:Nat):Nat->List CK->an->(List At->an->R)->R
 |_,[],c,K=>K [] c
 |off,k::l,c,K=>A.rd (a8 c k) ce ix sz off (qQ A ce ix sz (off+1) l (aS c k) λr c'=>K (a8 c k::r) c')
def gp(ce:CE)(ix:IE)(sz off:Nat):Option (List At × Nat) :=
 match ix,dC ce with
 | .lit j,some cs=>some (cs,j.toNat*sz+off)
 |_,_=>none
def lC(A:bZ R)(P:Program)(m:Mem)(o:aY)(c:an)(t:TypeId)(x:SV)(K:SV->an->R):R :=
  match aF P t with
  |none => A.fail "load: type"
  |some (g,n) =>
    match x with
    | .cv (.one (.eT k ix sz off)) =>
      match aD o k with
      |none => A.fail "load: no such row"
      |some (ce,s0,t0)=>if 0<s0∨t0=0 then
        match gp ce ix sz off with
        |some (cs,p) =>
          if g=true then
            if p+n <= cs.length then K (.cv (.agg ((cs.drop p).take n))) c else A.fail "load: beyond"
          else match cs[p]? with
            |some a=>K (.cv (.one a)) c
            |none => A.fail "load: beyond"
        |none =>
          match tI P 30 t with
          |none => A.fail "load: kinds"
          |some ks =>
            if ks.length=(if g=true then n else 1)/\ks.all CK.plain=true/\fK ce=true/\bP c ce=true/\ix.wf c=true then
              qQ A ce ix sz off ks c λl c'=>K (.cv (dK g l)) c'
            else A.fail "load: kinds"
        else A.fail "load: a map"
    | .cv (.one (.loc k off)) =>
      match getM m k with
      |none => A.fail "load: no such block"
      |some (cs,_) =>
        if g=true then
          if off+n <= cs.length then K (.cv (.agg ((cs.drop off).take n))) c else A.fail "load: beyond"
        else match cs[off]? with
          |some a=>K (.cv (.one a)) c
          |none => A.fail "load: beyond"
    | .cv (.one (.ext p ix sz off)) =>
      match tI P 30 t with
      |none => A.fail "load: kinds"
      |some ks =>
        if ks.length=(if g=true then n else 1)/\ks.all CK.plain=true/\p<c.np/\ix.wf c=true then
          nU A p ix sz off ks c λl c'=>K (.cv (dK g l)) c'
        else A.fail "load: kinds"
    |_ => A.fail "load: address"
def tJ(A:bZ R)(c:an)(op:UnOp)(x:SV)(K:SV->an->R):R :=
  match op,x with
  | .neg,.cv (.one (.int k a))=>gj A c k (.neg k a) K
  | .xor,.cv (.one (.int k a))=>gj A c k (.Fb k a) K
  | .not,.cv (.one (.bool a))=>K (.cv (.one (.bool (BE.not a).ju))) c
  |_, _ => A.fail "unOp"
def qh(A:bZ R)(P:Program)(c:an)(s d:TypeId)(x:SV)(K:SV->an->R):R :=
  match P.underlying s,P.underlying d,x with
  |some _,some (.int k),.cv (.one (.int _ a))=>gj A c k (.conv k a) K
  |_, _, _ => A.fail "convert"
def partOf(P:Program)(t:TypeId)(cs:List At)(off:Nat):Option CV :=
 match aF P t with
 |some (true,n)=>if off+n<=cs.length then some (.agg ((cs.drop off).take n))else none
 |some (false,_)=>(cs[off]?).map .one
 |none=>none
def jF(A:bZ R)(P:Program)(c:an)(t:TypeId)(x:SV)(f:Nat)(K:SV->an->R):R :=
  match P.underlying t,x with
  |some (.struct fs),.cv (.agg cs) =>
    match fs[f]? with
    |some fd=>match partOf P fd.type cs fd.offset with
      |some v=>K (.cv v) c
      |none => A.fail "field: part"
    |none => A.fail "field"
  |_, _ => A.fail "field"
def eX(A:bZ R)(P:Program)(c:an)(s:TypeId)(x:SV)(f:Nat)(K:SV->an->R):R :=
  match P.underlying s with
  |some (.struct fs)=>match fs[f]? with
    |some fd=>match aF P fd.type with
      |some (_, n) => if n = 0 then A.fail "fieldAddr: no cells" else match x with
        | .cv (.one (.loc k off))=>K (.cv (.one (.loc k (off+fd.offset)))) c
        | .cv (.one (.ext p ix sz off))=>K (.cv (.one (.ext p ix sz (off+fd.offset)))) c
        | .cv (.one (.eT k ix sz off))=>K (.cv (.one (.eT k ix sz (off+fd.offset)))) c
        |_ => A.fail "fieldAddr: address"
      |none => A.fail "fieldAddr"
    |none => A.fail "fieldAddr"
  |_ => A.fail "fieldAddr"
def eY(A:bZ R)(P:Program)(o:aY)(c:an)(t:TypeId)(x i:SV)(K:SV->an->R):R :=
  match i with
  | .cv (.one (.int _ e)) =>
    match P.underlying t,x with
    |some (.slice el),.cv (.one (.own k))=>match aF P el,aD o k with
      | some (_,s),some (ce,sz,_)=>if s=sz/\0 < sz then
          gG A c ce sz λn c1=>bj A (.cmp .geq e (.lit 0)) (bj A (.cmp .lss e n) (K (.cv (.one (.eT k e sz 0))) c1))
        else A.fail "indexAddr: a part of a row"
      |_, _ => A.fail "indexAddr: no such row"
    |some (.slice el),.cv (.one (.oE k))=>match aF P el,aD o k with
      | some (_,s),some (ce,sz,t0)=>if s=1/\sz=0/\t0=0 then
          gG A c ce 1 λn c1=>bj A (.cmp .geq e (.lit 0)) (bj A (.cmp .lss e n) (K (.cv (.one (.eT k e 1 0))) c1))
        else A.fail "indexAddr: bytes"
      |_, _ => A.fail "indexAddr: no such row"
    |some (.slice el),.cv (.one (.fu q p sz len _))=>match aF P el with
      | some (_,s)=>if s=sz then
          bj A (.not (.var q)) (bj A (.cmp .geq e (.lit 0)) (bj A (.cmp .lss e len) (K (.cv (.one (.ext p e sz 0))) c)))
        else A.fail "indexAddr: a part of a slice"
      |none => A.fail "indexAddr"
    |some (.array n el),.cv (.one (.eT k ix sz off))=>match aF P el with
      |some (_,s)=>match e with
        | .lit j => if 0 <= j /\ j.toNat<n then K (.cv (.one (.eT k ix sz (off+j.toNat*s)))) c else A.fail "indexAddr: beyond"
        |e=>bj A (.cmp .geq e (.lit 0)) (bj A (.cmp .lss e (.lit n)) (hU A e n n λj=>K (.cv (.one (.eT k ix sz (off+j*s)))) c))
      |none => A.fail "indexAddr"
    |some (.array n el),.cv (.one (.loc k off))=>match aF P el with
      |some (_,s)=>match e with
        | .lit j => if 0 <= j /\ j.toNat<n then K (.cv (.one (.loc k (off+j.toNat*s)))) c else A.fail "indexAddr: beyond"
        |e=>bj A (.cmp .geq e (.lit 0)) (bj A (.cmp .lss e (.lit n)) (hU A e n n λj=>K (.cv (.one (.loc k (off+j*s)))) c))
      |none => A.fail "indexAddr"
    |some (.array n el),.cv (.one (.ext p ix sz off))=>match aF P el with
      |some (_,s)=>match e with
        | .lit j => if 0 <= j /\ j.toNat<n then K (.cv (.one (.ext p ix sz (off+j.toNat*s)))) c else A.fail "indexAddr: beyond"
        |e=>bj A (.cmp .geq e (.lit 0)) (bj A (.cmp .lss e (.lit n)) (hU A e n n λj=>K (.cv (.one (.ext p ix sz (off+j*s)))) c))
      |none => A.fail "indexAddr"
    |some (.slice el),.cv (.one (.gZ k off len _))=>match aF P el with
      |some (_,s)=>match e with
        | .lit j => if 0 <= j /\ j.toNat<len then K (.cv (.one (.loc k (off+j.toNat*s)))) c else A.fail "indexAddr: beyond"
        |e=>bj A (.cmp .geq e (.lit 0)) (bj A (.cmp .lss e (.lit len)) (hU A e len len λj=>K (.cv (.one (.loc k (off+j*s)))) c))
      |none => A.fail "indexAddr"
    |some (.slice el),.cv (.one (.jf p ix sz len _))=>match aF P el with
      | some (_,s)=>if s=sz then
          bj A (.cmp .geq e (.lit 0)) (bj A (.cmp .lss e len) (if ix=.lit 0 then K (.cv (.one (.ext p e sz 0))) c
            else bj A (.cmp .geq ix (.lit 0)) (oY A c .sum ix e λe' c'=>K (.cv (.one (.ext p e' sz 0))) c')))
        else A.fail "indexAddr: a part of a slice"
      |none => A.fail "indexAddr"
    |_, _ => A.fail "indexAddr: operand"
  |_ => A.fail "indexAddr: index"
def jG(A:bZ R)(P:Program)(c:an)(t:TypeId)(x i:SV)(K:SV->an->R):R :=
  match i with
  | .cv (.one (.int _ e)) =>
    match P.underlying t,x with
    |some (.array n el),.cv (.agg cs)=>match aF P el with
      |some (_,s)=>match e with
        | .lit j=>if 0<=j/\j.toNat < n then match partOf P el cs (j.toNat * s)with
            |some v=>K (.cv v) c
            |none => A.fail "index: part"
          else A.fail "index: beyond"
        | e => bj A (.cmp .geq e (.lit 0)) (bj A (.cmp .lss e (.lit n)) (hU A e n n fun j=>match partOf P el cs (j * s)with
            |some v=>K (.cv v) c
            |none => A.fail "index: part"))
      |none => A.fail "index"
    |some .string,.cv (.one x)=>match strOf x with
      |some s=>qg A c (.oR s) λn c1=>bj A (.cmp .geq e (.lit 0)) (bj A (.cmp .lss e n) (gj A c1 .u8 (.rV s e) K))
      |none => A.fail "index: a string"
    |_, _ => A.fail "index: operand"
  |_ => A.fail "index: index"
def yK(op:BinOp)(a b:IE):BE :=
 match a,b with
 | .lit x,.lit y=>.lit (gE op x y)
 |a,b=>(BE.cmp op a b).ju
theorem Hk(op:BinOp)(a b:IE):yK op a b=(BE.cmp op a b).ju:=by
 unfold yK;split<;>simp [BE.ju]
def nV(A:bZ R)(P:Program)(c:an)(op:BinOp)(t:TypeId)(k k':IntKind)(a b:IE)(K:SV->an->R):R :=
  match ng op with
  |true=>match A6 k k' with
    |true=>K (.cv (.one (.bool (yK op a b)))) c
    |false => A.fail "binOp: kinds"
  |false=>match iM op with
    |true=>match A6 k k' with
      |true=>gj A c k (.bin op k a b) K
      |false => A.fail "binOp: kinds"
    |false=>kB A P c op t (.cv (.one (.int k a))) (.cv (.one (.int k' b))) K
theorem RJ(A:bZ R)(P:Program)(c:an)(op:BinOp)(t:TypeId)(k k':IntKind)(a b:IE)(K:SV->an->R):nV A P c op t k k' a b K=kB A P c op t (.cv (.one (.int k a))) (.cv (.one (.int k' b))) K:=by
 by_cases hk:k=k'
 ·have h2:A6 k k'=true:=(NC k k').2 hk;unfold nV;rw [h2];unfold kB;cases op<;>simp [ng,iM,hk,Hk]
 ·have h2:A6 k k'=false:=by
   cases h:A6 k k' with
   |true=>exact absurd ((NC k k').1 h) hk
   |false=>rfl
  unfold nV;rw [h2];unfold kB;cases op<;>simp [ng,iM,hk]
def cn(place:Nat->Option (Nat × Nat))(cells:List At):List (Nat × SV)->Option (List At)
  | []=>some cells
  | (i,.cv v)::r=>match place i with
    |some (off,size)=>if v.cells.length=size/\off+size<=cells.length then cn place (cells.take off++v.cells++cells.drop (off+size)) r else none
    |none=>none
  |_::_=>none
def cq(P:Program)(t:TypeId):Option CV :=
  match P.info? t with
  |some i=>match i.zero with
    |some v=>match SV.ofValue v with
      | .cv c=>some c
      |_=>none
    |none=>none
  |none=>none
def db(P:Program):List Field->Option (List (Nat × Nat))
  | []=>some []
  |f::l=>match aF P f.type,db P l with
    |some (_,n),some r=>some ((f.offset,n)::r)
    |_,_=>none
def jH(A:bZ R)(P:Program)(c:an)(t:TypeId)(parts:List (Nat × SV))(K:SV->an->R):R :=
  match P.underlying t,cq P t with
  |some (.struct fs),some z=>match db P fs.toList with
    |some pl=>match cn (pl[·]?) z.cells parts with
      |some cs=>K (.cv (.agg cs)) c
      |none => A.fail "build: parts"
    |none => A.fail "build: places"
  |some (.array _ el),some z=>match aF P el with
    |some (_,s)=>match cn (λi=>some (i*s,s)) z.cells parts with
      |some cs=>K (.cv (.agg cs)) c
      |none => A.fail "build: parts"
    |none => A.fail "build"
  |_, _ => A.fail "build"
def ff:List SV->Option (List (Nat × Nat))
 | []=>some []
 | .cv (.one (.loc k o))::r=>(ff r).map ((k,o) :: ·)
 |_=>none
def dL(o:aY):List At->aY
  | []=>[]
  | .own k::r=>match aD o k with
    |some v=>(k,v)::dL o r
    |none=>dL o r
  |_::r=>dL o r
def cu(m:Mem):List At->Mem
  | []=>[]
  | .loc k _::r | .gZ k _ _ _::r=>match getM m k with
    |some v=>(k,v)::cu m r
    |none=>cu m r
  |_::r=>cu m r
def aI:SV->List At
 | .cv c=>c.cells
 |_=>[]
def iG:SV->Bool
 | .any=>true
 | .fJ=>true
 |_=>false
def oZ:SV->List CV
 | .cv c=>[c]
 | .kx l=>l
 |_=>[]
def iN:CE->List At
 | []=>[]
 | .cE l::r=>l++iN r
 | .var _::r=>iN r
def inside(m:Mem)(o:aY):List At->List At
 | []=>[]
 | .loc k _::r | .gZ k _ _ _::r=>(match getM m k with|some (cs,_)=>cs|none=>[])++inside m o r
 | .own k::r=>(match aD o k with|some (ce,_,_)=>iN ce|none=>[])++inside m o r
 |_::r=>inside m o r
def deep(m:Mem)(o:aY):Nat->List At->List At
 |0,l=>l
 |n+1,l=>l++deep m o n (inside m o l)
def bT(m:Mem)(o:aY)(args:List SV):List At:=deep m o 2 (args.flatMap aI)
def RK(z:Int):Nat:=if z<0 then 2*z.natAbs-1 else 2*z.natAbs
def Ce(n:Nat):Int:=if n % 2=1 then -(((n+1) / 2:Nat):Int)else ((n / 2:Nat):Int)
def lE:List At->List (Nat × Nat)
 | []=>[]
 | .int _ (.lit z)::r=>(10,RK z)::lE r
 | .bool (.lit b)::r=>(11,if b=true then 1 else 0)::lE r
 | .str l::r=>(12,l.length)::(l.map λb=>(13,b.toNat))++lE r
 |_::r=>lE r
def qi:List SV->List (Nat × Nat)
 | []=>[]
 | .cv v::r=>lE v.cells++qi r
 |_::r=>qi r
def nW:List CK->List (Nat × Nat)->Option (List At)
 | [],[]=>some []
 | .int k::r,(0,n)::l=>(nW r l).map (.int k (.lit (Ce n)) :: ·)
 | .bool::r,(1,n)::l=>(nW r l).map (.bool (.lit (decide (n=1))) :: ·)
 | .str::r,(2,n)::l=>(nW r (l.drop n)).map (.str ((l.take n).map λx=>UInt8.ofNat x.2) :: ·)
 |_,_=>none
def lF(ks:List CK)(key:List (Nat × Nat)):List (List (Nat × Nat))->Option (List At)
  | []=>none
  | a :: r=>if a.take key.length=key then match nW ks (a.drop key.length)with
      |some l=>some l
      |none=>lF ks key r
    else lF ks key r
def qR(G:bY)(f:FuncId)(args:List SV)(ks:List CK):Option (List At) :=
 match G.loops.lookup (700000000000000000+f)with
 |some (.ai alts _ _ _)=>lF ks (qi args) alts
 |_=>none
def qS(b:Nat):List UInt8->Nat->Int
  | [],_ => -1
  |x::r,i=>match Nat.beq x.toNat b with
    |true=>(i:Int)
    |false=>qS b r (i+1)
def Cf:List UInt8->List UInt8->Bool
 | [],_=>true
 |_::_,[]=>false
 |a::r,b::s=>Nat.beq a.toNat b.toNat && Cf r s
def tK(p:List UInt8):List UInt8->Nat->Int
  | [],i=>if p=[]then (i:Int)else -1
  |x::r,i=>match Cf p (x::r)with
    |true=>(i:Int)
    |false=>tK p r (i+1)
def qT(G:bY)(f:FuncId)(args:List SV):Option (List At) :=
  match G.loops.lookup (300000000000000000+f)with
  |some (.inv _ [kd] _)=>match kd,args with
    |1,[.cv (.one (.str s)),.cv (.one (.int _ (.lit b)))]=>some [.int .i64 (.lit (qS b.toNat s 0))]
    |2,[.cv (.one (.str s)),.cv (.one (.str p))]=>some [.int .i64 (.lit (tK p s 0))]
    |3,[.cv (.one (.int _ (.lit x))),.cv (.one (.int _ (.lit y))),.cv (.one (.int _ (.lit z)))]=>some [.int .u64 (.lit ((x+y+z) % 18446744073709551616)),.int .u64 (.lit ((x+y+z) / 18446744073709551616))]
    |4,[.cv (.one (.int _ (.lit x))),.cv (.one (.int _ (.lit y))),.cv (.one (.int _ (.lit z)))]=>some [.int .u64 (.lit ((x-y-z) % 18446744073709551616)),.int .u64 (.lit (if x<y+z then 1 else 0))]
    |_,_=>none
  |_=>none
def j5(A:bZ R)(G:bY)(m:Mem)(o:aY)(c:an)(f:FuncId)(args:List SV)(K:SV->an->R):R :=
  match G.P.funcs[f]? with
  |none => A.fail "call: no such function"
  |some fn=>match gF G.P fn.resultTypes.toList with
    |none => A.fail "call: results"
    |some ss =>
      if args.any iG = true ∨ ¬args.all (SV.wf c) = true then A.fail "call: arguments"
      else if G.ext.contains f=true then
        match qT G f args with
        |some l => if l.all (At.wf c) = true /\ l.all At.flat = true then A.m9 f args [] (cd (bE ss l)) (K (cd (bE ss l)) c) else A.fail "call: hint"
        |none=>A.m9 f args (ao c (bN ss)) (cd (bE ss (ao c (bN ss)))) (K (cd (bE ss (ao c (bN ss)))) (aK c (bN ss)))
      else if G.calls.contains f=true then
        match qR G f args (bN ss)with
        |some l => if l.all (At.wf c) = true /\ l.all At.flat = true then A.call f args (cu m (bT m o args)) (dL o (bT m o args)) [] (cd (bE ss l)) (K (cd (bE ss l)) c) else A.fail "call: hint"
        |none=>A.call f args (cu m (bT m o args)) (dL o (bT m o args)) (ao c (bN ss)) (cd (bE ss (ao c (bN ss)))) (K (cd (bE ss (ao c (bN ss)))) (aK c (bN ss)))
      else A.fail "call: unknown function"
def cJ(d:IE):Option SV->Option IE
 |none=>some d
 |some (.cv (.one (.int _ e)))=>some e
 |some _=>none
def jI(A:bZ R)(P:Program)(c:an)(t:TypeId)(s:SE)(lo hi:Option SV)(K:SV->an->R):R :=
  match P.underlying t,cJ (.lit 0) lo,hi with
  |some .string, some l, none => if l.wf c = true then qg A c (.oR s) λn c1 => lA A c1 (.sub s l n) K else A.fail "slice: string"
  |some .string,some l,some (.cv (.one (.int _ e)))=>lA A c (.sub s l e) K
  |_, _, _ => A.fail "slice: string"
def jJ(A:bZ R)(P:Program)(c:an)(t:TypeId)(x:SV)(lo hi:Option SV)(K:SV->an->R):R :=
  match P.underlying t,x with
  |some (.slice el),.cv (.one (.jf p ix sz len cap))=>match aF P el,cJ (.lit 0) lo,cJ len hi with
    | some (_,s),some l,some h=>if s=sz then
        bj A (.cmp .geq len (.lit 0)) (bj A (.cmp .leq len cap) (bj A (.cmp .geq l (.lit 0)) (bj A (.cmp .leq l h) (bj A (.cmp .leq h cap) (
          if l=.lit 0 then K (.cv (.one (.jf p ix sz h cap))) c
          else bj A (.cmp .geq ix (.lit 0)) (oY A c .diff h l λyL c1=>oY A c1 .diff cap l λyM c2 =>
            fe A (.cmp .lss l cap) (λ_=>oY A c2 .sum ix l λNF c3=>K (.cv (.one (.jf p NF sz yL yM))) c3) (λ_=>K (.cv (.one (.jf p ix sz yL yM))) c2)))))))
      else A.fail "slice: size"
    |_, _, _ => A.fail "slice: bounds"
  |some (.slice el),.cv (.one (.gZ k off len cap))=>match aF P el,cJ (.lit 0) lo,cJ (.lit len) hi with
    |some (_,s),some (.lit l),some (.lit h) =>
      if 0 <= l /\ l <= h /\ h <= cap then K (.cv (.one (.gZ k (if l.toNat = cap then off else off+l.toNat*s) (h.toNat-l.toNat) (cap-l.toNat)))) c else A.fail "slice: beyond"
    |_, _, _ => A.fail "slice: bounds"
  |some (.array n el),.cv (.one (.ext p (.lit j) sz off))=>match aF P el,cJ (.lit 0) lo,cJ (.lit n) hi with
    |some (_,s),some (.lit l),some (.lit h) =>
      if 0 <= l /\ l <= h /\ h <= n /\ j = 0 /\ off = 0 /\ 0<s /\ p<c.np then K (.cv (.one (.jf p (.lit (if l.toNat = n then 0 else l)) s (.lit (h-l)) (.lit (n-l))))) c else A.fail "slice: beyond"
    |_, _, _ => A.fail "slice: bounds"
  |some (.array n el),.cv (.one (.loc k off))=>match aF P el,cJ (.lit 0) lo,cJ (.lit n) hi with
    |some (_,s),some (.lit l),some (.lit h) =>
      if 0 <= l /\ l <= h /\ h <= n then K (.cv (.one (.gZ k (if l.toNat = n then off else off+l.toNat*s) (h.toNat-l.toNat) (n-l.toNat)))) c else A.fail "slice: beyond"
    |_, _, _ => A.fail "slice: bounds"
  |_, _ => A.fail "slice: operand"
def nX(A:bZ R)(P:Program)(c:an)(t:TypeId)(x:SV)(lo hi:Option SV)(K:SV->an->R):R :=
  match x with
  | .cv (.one (.fu q p sz len cap))=>bj A (.not (.var q)) (bj A (.cmp .gtr cap (.lit 0)) (jJ A P c t (.cv (.one (.jf p (.lit 0) sz len cap))) lo hi K))
  | .cv (.one (.str l))=>jI A P c t (.lit l) lo hi K
  | .cv (.one (.sv i))=>jI A P c t (.var i) lo hi K
  | .cv (.one (.own k))=>match P.underlying t,cJ (.lit 0) lo,hi with
    |some (.slice el),some l,none=>match aF P el with
      |some _ => if l = .lit 0 then K (.cv (.one (.own k))) c else A.fail "slice: row"
      |none => A.fail "slice: row"
    |_, _, _ => A.fail "slice: row"
  |x=>jJ A P c t x lo hi K
def lG(A:bZ R)(P:Program)(o:aY)(c:an)(t:TypeId)(m k:SV)(ok:Bool)(K:SV->an->R):R :=
  match eV P t,m,k with
  |some x,.cv (.one .rW),.cv kv=>match cq P x.el with
    |some z => if ly x.gk x.ks.length kv = true then K (if ok = true then .kx [z, .one (.bool (.lit false))] else .cv z) c else A.fail "nil map: key"
    |none => A.fail "nil map: zero"
  |some x,.cv (.one (.omap j)),.cv kv=>match aD o j,cq P x.el with
    |some (ce,sz,tc),some z=>match dC ce with
      | some cs=>if ly x.gk x.ks.length kv=true/\tc=x.no/\sz=0 then
          jE A c x kv.cells (λ_ v=>K (if ok=true then .kx [dK x.ge v,.one (.bool (.lit true))]else .cv (dK x.ge v)) c)
            (λ_=>K (if ok=true then .kx [z,.one (.bool (.lit false))]else .cv z) c) (cs.length+1) cs 0
        else A.fail "map: key"
      |none=>match tI P 30 x.el with
        | some ls=>if ly x.gk x.ks.length kv=true/\tc=x.no/\sz=0/\ls.length=x.ne/\ls.all CK.plain=true then
            nT A c x ce kv.cells λi c1=>fe A (.cmp .geq i (.lit 0))
              (λ_=>qQ A ce i (x.ks.length+x.ne) x.ks.length ls c1 λl c2=>K (if ok=true then .kx [dK x.ge l,.one (.bool (.lit true))]else .cv (dK x.ge l)) c2)
              (λ_=>K (if ok=true then .kx [z,.one (.bool (.lit false))]else .cv z) c1)
          else A.fail "map: key"
        |none => A.fail "map: elements"
    |_, _ => A.fail "map: no such"
  |_, _, _ => A.fail "lookup"
def tL(A:bZ R)(P:Program)(o:aY)(c:an)(t:Option TypeId)(x:SV)(K:SV->an->R):R :=
  match t.bind P.underlying,x with
  |some (.slice _),.cv (.one (.own k))=>match aD o k with
    |some (ce, sz, _) => if 0<sz then gG A c ce sz λn c1 => K (.cv (.one (.int .i64 n))) c1 else A.fail "len"
    |none => A.fail "len: no such row"
  |some (.slice _),.cv (.one (.oE k))=>match aD o k with
    |some (ce, sz, t0) => if sz = 0 /\ t0 = 0 then gG A c ce 1 λn c1 => K (.cv (.one (.int .i64 n))) c1 else A.fail "len: bytes"
    |none => A.fail "len: no such row"
  |some (.slice _),.cv (.one (.fu q _ _ len _))=>bj A (.cmp .geq len (.lit 0)) (bj A (.or (.not (.var q)) (.cmp .eql len (.lit 0))) (K (.cv (.one (.int .i64 len))) c))
  |some .string,.cv (.one (.sv i))=>qg A c (.oR (.var i)) λn c1=>K (.cv (.one (.int .i64 n))) c1
  |some (.slice _),.cv (.one (.gZ _ _ len _))=>K (.cv (.one (.int .i64 (.lit len)))) c
  |some (.slice _),.cv (.one .c_)=>K (.cv (.one (.int .i64 (.lit 0)))) c
  |some (.slice _),.cv (.one (.jf _ _ _ len _))=>bj A (.cmp .geq len (.lit 0)) (K (.cv (.one (.int .i64 len))) c)
  |some .string,.cv (.one (.str l))=>K (.cv (.one (.int .i64 (.lit l.length)))) c
  |some (.array n _),_=>K (.cv (.one (.int .i64 (.lit n)))) c
  |some (.map _ _),.cv (.one (.omap k))=>match aD o k,t.bind (eV P)with
    |some (ce,sz,tc),some x=>match dC ce with
      |some cs => if tc = x.no /\ sz = 0 then K (.cv (.one (.int .i64 (.lit (cs.length / (x.ks.length+x.ne) : Nat))))) c else A.fail "len: map"
      |none => if tc = x.no /\ sz = 0 then gG A c ce (x.ks.length+x.ne) λn c1 => K (.cv (.one (.int .i64 n))) c1 else A.fail "len: map"
    |_, _ => A.fail "len: map"
  |_, _ => A.fail "len"
def jK(A:bZ R)(c:an)(mx:Bool)(x y:SV)(K:SV->an->R):R :=
  match x,y with
  | .cv (.one (.int k a)),.cv (.one (.int _ b))=>gj A c k (if mx then .max a b else .min a b) K
  |_, _ => A.fail "min, max"
def j6(P:Program)(o:aY)(op:BinOp)(t:TypeId)(x y:SV):Option (CE × Nat) :=
  if op=.eql∨op=.neq then
    match P.underlying t,x,y with
    |some (.slice _),.cv (.one (.own k)),.cv (.one .c_)=>match aD o k with
      |some (ce,sz,_)=>if 0<sz then some (ce,sz)else none
      |none=>none
    |_,_,_=>none
  else none
def ji(k:bK):SV->Option Bool
  | .cv (.one .mE)=>some true
  | .cv (.one (.val i))=>match fv k i with
    |some _=>some false
    |none=>none
  |_=>none
def nr:Operand->Bool
 | .const _=>true
 |_=>false
def lH(P:Program)(k:bK)(op:BinOp)(t:TypeId)(xo yo:Operand)(x y:SV):Option Bool :=
  match P.underlying t with
  |some (.interface _)=>match ji k x,ji k y with
    |some a,some b=>if (a=true∨b=true)/\(nr xo=true∨nr yo=true)then (if op=.eql then some (a == b)else if op=.neq then some (!(a == b))else none)else none
    |_,_=>none
  |_=>none
def methodOf(P:Program)(t:TypeId)(name:String):Option FuncId :=
  match P.info? t,P.underlying t with
  |some i,some d=>match i.methods.find? (·.name == name)with
    |some m=>match m.func,m.path.toList with
      |some (f,false),[]=>match d with
        | .pointer _=>none
        |_=>some f
      |_,_=>none
    |none=>none
  |_,_=>none
def jL(G:bY)(k:bK)(c:an)(t:TypeId)(x:SV):Option (Nat × List At × TypeId × CV) :=
  match x with
  | .cv (.one (.ext p (.lit j) sz off))=>match mZ k p with
    |some g=>match G.fw.lookup g with
      |some (cs,ty)=>match partOf G.P t cs (j.toNat*sz+off)with
        |some v=>if cs.all (At.wf c)=true/\cs.all At.flat=true then some (g,cs,ty,v)else none
        |none=>none
      |none=>none
    |none=>none
  |_=>none
def doAssert(A:bZ R)(P:Program)(k:bK)(c:an)(x:SV)(asserted:TypeId)(ok:Bool)(K:SV->an->R):R :=
  match P.underlying asserted,x with
  |some (.interface _), _ => A.fail "typeAssert: an interface"
  |some _,.cv (.one (.val i))=>match fv k i with
    |some (t,v) =>
      if t=asserted then K (if ok=true then .kx [v,.one (.bool (.lit true))]else .cv v) c
      else if ok=true then match cq P asserted with
        |some z=>K (.kx [z,.one (.bool (.lit false))]) c
        |none => A.fail "typeAssert: zero"
      else A.fail "typeAssert: panics"
    |none => A.fail "typeAssert: unknown"
  | some _,.cv (.one .mE)=>if ok=true then match cq P asserted with
      |some z=>K (.kx [z,.one (.bool (.lit false))]) c
      |none => A.fail "typeAssert: zero"
    else A.fail "typeAssert: panics"
  |_, _ => A.fail "typeAssert"
def xv(m:Mem)(o:aY):SV->Option CE
  | .cv (.one (.own k))=>match aD o k with
    |some (ce,sz,_)=>if sz=1/\fK ce=true then some ce else none
    |none=>none
  | .cv (.one (.gZ k off len _))=>match getM m k with
    |some (cs,_)=>if off+len<=cs.length/\cs.all At.flat=true then some [.cE ((cs.drop off).take len)]else none
    |none=>none
  | .cv (.one .c_)=>some []
  |_=>none
def jM(P:Program)(c:an)(s d:TypeId)(x:SV):Option At :=
  match P.underlying s,P.underlying d with
  |some (.slice e),some .string=>match P.underlying e,x with
    |some (.int .u8),.cv (.one a)=>match a with
      | .fu .. | .jf .. => if a.wf c=true then some a else none
      |_=>none
    |_,_=>none
  |_,_=>none
def bytesOf(P:Program)(m:Mem)(o:aY)(s d:TypeId)(x:SV):Option CE :=
  match P.underlying s,P.underlying d with
  |some (.slice e),some .string=>match P.underlying e with
    |some (.int .u8)=>xv m o x
    |_=>none
  |_,_=>none
def fM(P:Program)(s d:TypeId):Option TypeId :=
  match P.underlying s,P.underlying d with
  |some .string,some (.slice e)=>match P.underlying e with
    |some (.int .u8)=>some e
    |_=>none
  |_,_=>none
def lI(l:List UInt8):List At:=l.map λb=>.int .u8 (.lit b.toNat)
def tM(A:bZ R)(G:bY)(st:St)(o:Oper)(K:SV->an->R):R :=
  match o.op with
  | .move x=>K (st.ev x) st.c
  | .assign x=>K (st.ev x) st.c
  | .pick x a b=>match st.ev x with
    | .cv (.one (.bool e))=>fe A e (λ_=>K (st.ev a) st.c) (λ_=>K (st.ev b) st.c)
    |_ => A.fail "pick"
  | .load t x=>match jL G st.k st.c t (st.ev x)with
    |some (g,cs,ty,v)=>A.mG g cs ty (K (.cv v) st.c)
    |none=>lC A G.P st.m st.o st.c t (st.ev x) K
  | .nilCheck x=>match st.ev x with
    | .cv (.one (.loc k off))=>K (.cv (.one (.loc k off))) st.c
    | .cv (.one (.ext p ix sz off))=>K (.cv (.one (.ext p ix sz off))) st.c
    | .cv (.one (.eT k ix sz off))=>K (.cv (.one (.eT k ix sz off))) st.c
    | .cv (.one (.fn f az))=>K (.cv (.one (.fn f az))) st.c
    | .cv (.one (.kM f first az))=>K (.cv (.one (.kM f first az))) st.c
    | .cv (.one (.p_ k))=>K (.cv (.one (.p_ k))) st.c
    | .cv (.one (.oU f l az))=>K (.cv (.one (.oU f l az))) st.c
    |_ => A.fail "nilCheck"
  | .binOp op t x y _=>match j6 G.P st.o op t (st.ev x) (st.ev y)with
    |some (ce,sz)=>gG A st.c ce sz λn c1=>bj A (.cmp .gtr n (.lit 0)) (K (.cv (.one (.bool (.lit (decide (op=.neq)))))) c1)
    |none=>match lH G.P st.k op t x y (st.ev x) (st.ev y)with
      |some b=>K (.cv (.one (.bool (.lit b)))) st.c
      |none=>kB A G.P st.c op t (st.ev x) (st.ev y) K
  | .lookup t x i ok=>lG A G.P st.o st.c t (st.ev x) (st.ev i) ok K
  | .typeAssert x _ asserted ok=>doAssert A G.P st.k st.c (st.ev x) asserted ok K
  | .unOp op _ x=>tJ A st.c op (st.ev x) K
  | .convert s d x=>match bytesOf G.P st.m st.o s d (st.ev x)with
    |some ce=>lA A st.c (.row ce) K
    |none=>match jM G.P st.c s d (st.ev x)with
      |some a=>A.Fe st.c.nl a 1 (lA A {st.c with nl:=st.c.nl+1} (.row [.var st.c.nl]) K)
      |none=>qh A G.P st.c s d (st.ev x) K
  | .field t x f=>jF A G.P st.c t (st.ev x) f K
  | .fieldAddr s x f=>eX A G.P st.c s (st.ev x) f K
  | .indexAddr t x i=>eY A G.P st.o st.c t (st.ev x) (st.ev i) K
  | .index t x i=>jG A G.P st.c t (st.ev x) (st.ev i) K
  | .extract x i=>match st.ev x with
    | .kx l=>match l[i]? with
      |some v=>K (.cv v) st.c
      |none => A.fail "extract"
    |_ => A.fail "extract"
  | .build t parts=>jH A G.P st.c t (parts.toList.map λp=>(p.1,st.ev p.2)) K
  | .slice t x lo hi none=>nX A G.P st.c t (st.ev x) (lo.map st.ev) (hi.map st.ev) K
  | .makeFunc (.func f) first az=>if first.size=0 then match ff (az.toList.map st.ev)with
      |some l=>K (.cv (.one (.fn f l))) st.c
      |none => A.fail "makeFunc"
    else match ff (first.toList.map st.ev),ff (az.toList.map st.ev)with
      |some q,some l=>K (.cv (.one (.kM f q l))) st.c
      |none,some l=>match first.toList.map st.ev with
        | [.cv (.agg cs)]=>match aJ.A5 cs with
          |some r=>K (.cv (.one (.oU f r l))) st.c
          |none => A.fail "makeFunc: receiver"
        |_ => A.fail "makeFunc: receiver"
      |_, _ => A.fail "makeFunc"
  | .call {callee := .builtin .len,args,argTypes}=>match args.toList with
    | [x]=>tL A G.P st.o st.c argTypes[0]? (st.ev x) K
    |_ => A.fail "len"
  | .call {callee := .builtin .max,args,..}=>match args.toList with
    | [x,y]=>jK A st.c true (st.ev x) (st.ev y) K
    |_ => A.fail "max"
  | .call {callee := .builtin .min,args,..}=>match args.toList with
    | [x,y]=>jK A st.c false (st.ev x) (st.ev y) K
    |_ => A.fail "min"
  | .call {callee := .invoke r name,args,..}=>match st.ev r with
    | .cv (.one (.val i))=>match fv st.k i with
      |some (t,v)=>match methodOf G.P t name with
        |some f=>j5 A G st.m st.o st.c f (.cv v::args.toList.map st.ev) K
        |none => A.fail "invoke: method"
      |none => A.fail "invoke: unknown"
    |_ => A.fail "invoke"
  | .call {callee := .value g,args,..}=>match st.ev g with
    | .cv (.one (.fn f az))=>j5 A G st.m st.o st.c f (args.toList.map st.ev++az.map λx=>.cv (.one (.loc x.1 x.2))) K
    | .cv (.one (.kM f first az))=>j5 A G st.m st.o st.c f ((first.map λx=>.cv (.one (.loc x.1 x.2)))++(args.toList.map st.ev++az.map λx=>.cv (.one (.loc x.1 x.2)))) K
    |_ => A.fail "call: value"
  |_ => A.fail "operation"
def qj(A:bZ R)(G:bY)(st:St)(t:TypeId)(x:Operand)(K:SV->an->R):R:=match jL G st.k st.c t (st.ev x)with
 |some (g,cs,ty,v)=>A.mG g cs ty (K (.cv v) st.c)
 |none=>lC A G.P st.m st.o st.c t (st.ev x) K
def nt(A:bZ R)(G:bY)(st:St)(op:BinOp)(t:TypeId)(x y:Operand)(K:SV->an->R):R:=match j6 G.P st.o op t (st.ev x) (st.ev y)with
  |some (ce,sz)=>gG A st.c ce sz λn c1=>bj A (.cmp .gtr n (.lit 0)) (K (.cv (.one (.bool (.lit (decide (op=.neq)))))) c1)
  |none=>match lH G.P st.k op t x y (st.ev x) (st.ev y)with
    |some b=>K (.cv (.one (.bool (.lit b)))) st.c
    |none=>kB A G.P st.c op t (st.ev x) (st.ev y) K
def qk(A:bZ R)(G:bY)(st:St)(op:BinOp)(t:TypeId)(x y:Operand)(K:SV->an->R):R:=match st.ev x with
  | .cv (.one (.int k a))=>match st.ev y with
    | .cv (.one (.int k' b))=>nV A G.P st.c op t k k' a b K
    |_=>nt A G st op t x y K
  |_=>nt A G st op t x y K
theorem RL(A:bZ R)(G:bY)(st:St)(op:BinOp)(t:TypeId)(x y:Operand)(K:SV->an->R):qk A G st op t x y K=nt A G st op t x y K:=by
 unfold qk;split
 ·rename_i k a hx;split
  ·rename_i k' b hy;rw [RJ];unfold nt
   have h1:j6 G.P st.o op t (st.ev x) (st.ev y)=none:=by
    rw [hx,hy];unfold j6;split
    ·split<;>first|rfl | (rename_i h _;cases h)|simp_all
    ·rfl
   have h2:lH G.P st.k op t x y (st.ev x) (st.ev y)=none:=by
    rw [hx,hy];unfold lH;simp only [ji];split<;>rfl
   rw [h1,h2,hx,hy]
  ·rfl
 ·rfl
def j7(A:bZ R)(st:St)(x:Operand)(i:Nat)(K:SV->an->R):R:=match st.ev x with
  | .kx l=>match l[i]? with
    |some v=>K (.cv v) st.c
    |none => A.fail "extract"
  |_ => A.fail "extract"
def sd(A:bZ R)(G:bY)(st:St)(o:Oper)(K:SV->an->R):R :=
 match o.op with
 | .move x=>K (st.ev x) st.c
 | .assign x=>K (st.ev x) st.c
 | .load t x=>qj A G st t x K
 | .binOp op t x y _=>nt A G st op t x y K
 | .unOp op _ x=>tJ A st.c op (st.ev x) K
 | .field t x f=>jF A G.P st.c t (st.ev x) f K
 | .fieldAddr s x f=>eX A G.P st.c s (st.ev x) f K
 | .indexAddr t x i=>eY A G.P st.o st.c t (st.ev x) (st.ev i) K
 | .index t x i=>jG A G.P st.c t (st.ev x) (st.ev i) K
 | .extract x i=>j7 A st x i K
 |_=>tM A G st o K
theorem Cg(A:bZ R)(G:bY)(st:St)(o:Oper)(K:SV->an->R):sd A G st o K=tM A G st o K:=by
 obtain⟨dst,op,type,pos,after,guard⟩:=o;cases op<;>first|rfl | (unfold sd tM qj;rfl) | (unfold sd tM nt;rfl) | (unfold sd tM j7;rfl)
end Vc
set_option linter.unusedVariables false
namespace Vc
open Go Go.RowKit
variable {R:Type}
def St.new(A:bZ R)(st:St)(dst:Option Tmp)(cs:List At)(t:TypeId)(v:Nat->At)(K:St->R):R :=
  if cs.all (At.wf st.c)=true then
    fE (λcs=>St.put A {st with m:=(st.c.nk,cs,t)::st.m} dst (.cv (.one (v st.c.nk))) {st.c with nk:=st.c.nk+1} K) cs []
  else A.fail "new"
def kN(A:bZ R)(G:bY)(st:St)(o:Oper)(K:St->R):R :=
  match o.op with
  | .alloc t=>match cq G.P t with
    |some z=>St.new A st o.dst z.cells t (.loc · 0) K
    |none => A.fail "alloc"
  | .box t x=>match st.ev x with
    | .cv v=>St.new A st o.dst v.cells t (.loc · 0) K
    |_ => A.fail "box"
  | .makeInterface t x=>match G.P.underlying t,st.ev x with
    |some (.interface _), _ => A.fail "makeInterface"
    | some _,.cv v=>if v.flat=true/\v.wf st.c=true then
        A.k_ st.c.nv t v (St.put A {st with k := .k_ st.c.nv t v::st.k} o.dst (.cv (.one (.val st.c.nv))) {st.c with nv:=st.c.nv+1} K)
      else A.fail "makeInterface: value"
    |_, _ => A.fail "makeInterface"
  | .store t a x=>match aF G.P t,st.ev a,st.ev x with
    |some (_,n),.cv (.one (.loc k off)),.cv v=>match getM st.m k with
      | some (cs,_)=>if v.cells.length=n/\off + n<=cs.length/\v.wf st.c=true then
          St.put A {st with m:=iE st.m k (cs.take off++v.cells++cs.drop (off+n))} o.dst .any st.c K
        else A.fail "store: size"
      |none => A.fail "store: no such block"
    |_, _, _ => A.fail "store"
  | .buildSlice t len parts=>match G.P.underlying t with
    |some (.slice el)=>match aF G.P el,cq G.P el with
      | some (_,s),some z=>if z.cells.length=s/\0 < s/\0 < len/\len * s<=4096 then
          match cn (λi=>some (i*s,s)) (times z.cells len) (parts.toList.map λp=>(p.1,st.ev p.2))with
          |some cs=>St.new A st o.dst cs el (.gZ · 0 len len) K
          |none => A.fail "buildSlice: parts"
        else A.fail "buildSlice: size"
      |_, _ => A.fail "buildSlice"
    |_ => A.fail "buildSlice"
  |_ => tM A G st o λv c => if c.nk = st.c.nk then St.put A st o.dst v c K else A.fail "blocks"
def vR(G:bY)(f:FuncId):Option (List (Nat × List Nat)) :=
 match G.loops.lookup (3000000+f)with
 |some (.inv iR (j::js) _)=>some ((j::js).map λa=>(a,(iR.filter λx=>x.1 == a).map (·.2)))
 |_=>none
def tN:At->Option CK
 | .int k _=>some (.int k)
 | .bool _=>some .bool
 | .str _=>some .str
 | .sv _=>some .str
 |_=>none
def iO(cs:List At):List Nat->Option (List CK)
  | []=>some []
  |i::r=>match (cs[i]?).bind tN,iO cs r with
    |some k,some l=>some (k::l)
    |_,_=>none
def gH:List At->List Nat->List At->List At
 |cs,i::r,a::l=>gH (cs.take i++a::cs.drop (i+1)) r l
 |cs,_,_=>cs
structure tO where
 k:Nat
 cs:List At
 t:TypeId
 iR:List Nat
 ks:List CK
def h_(m:Mem)(args:List SV):List (Nat × List Nat)->Option (List tO)
  | []=>some []
  | (j,iR)::r=>match args[j]?,h_ m args r with
    |some (.cv (.one (.loc k 0))),some l=>match getM m k with
      |some (cs,t)=>match iO cs iR with
        |some ks=>some (⟨k,cs,t,iR,ks⟩::l)
        |none=>none
      |none=>none
    |_,_=>none
def jj:List tO->List At->List (Nat × List At × TypeId)
 | [],_=>[]
 |e::r,fr=>(e.k,gH e.cs e.iR (fr.take e.ks.length),e.t)::jj r (fr.drop e.ks.length)
def fz:Mem->List (Nat × List At × TypeId)->Mem
 |m,[]=>m
 |m,(k,cs,_)::r=>fz (iE m k cs) r
def tP(A:bZ R)(G:bY)(st:St)(dst:Option Tmp)(f:FuncId)(args:List SV)(jo:List (Nat × List Nat))(K:St->R):R :=
  match G.P.funcs[f]? with
  |none => A.fail "call: no such function"
  |some fn=>match gF G.P fn.resultTypes.toList,h_ st.m args jo with
    |some ss,some bl =>
      let ks:=bN ss++bl.flatMap (·.ks);let fr:=ao st.c ks;let ns:=jj bl (fr.drop (bN ss).length)
      if args.any iG = true ∨ ¬args.all (SV.wf st.c) = true then A.fail "call: arguments"
      else if (bl.map (·.k)).Nodup then
        if G.calls.contains f=true then
          A.xq f args (cu st.m (bT st.m st.o args)) (dL st.o (bT st.m st.o args)) ns fr (cd (bE ss fr))
            (St.put A {st with m:=fz st.m ns} dst (cd (bE ss fr)) (aK st.c ks) K)
        else A.fail "call: unknown function"
      else A.fail "effect: a block twice"
    |_, _ => A.fail "effect"
def o0(G:bY)(st:St)(o:Oper):Option (FuncId × List SV × List (Nat × List Nat)) :=
  match o.op with
  | .call {callee := .value g,args,..}=>match st.ev g with
    | .cv (.one (.fn f az))=>match vR G f with
      |some jo=>if (h_ st.m (args.toList.map st.ev++az.map λx=>.cv (.one (.loc x.1 x.2))) jo).isSome=true then some (f,args.toList.map st.ev++az.map λx=>.cv (.one (.loc x.1 x.2)),jo)else none
      |none=>none
    |_=>none
  |_=>none
def dk:aY->Nat->CE->aY
 | [],_,_=>[]
 | (j,v)::r,i,ce=>if j=i then (j,ce,v.2)::r else (j,v)::dk r i ce
def ql(G:bY)(f:FuncId):Option Nat :=
 match G.loops.lookup (600000000000000000+f)with
 |some (.inv _ (j::_) _)=>some j
 |_=>none
def qm(A:bZ R)(G:bY)(st:St)(dst:Option Tmp)(f:FuncId)(args:List SV)(j:Nat)(K:St->R):R :=
  match G.P.funcs[f]? with
  |none => A.fail "call: no such function"
  |some fn=>match gF G.P fn.resultTypes.toList,args[j]? with
    |some ss,some (.cv (.one (.own k)))=>match aD st.o k with
      |some (_,sz,t) =>
        let c1:an := {st.c with nl:=st.c.nl+1};let fr:=ao c1 (bN ss)
        if args.any iG = true ∨ ¬args.all (SV.wf st.c) = true then A.fail "call: arguments"
        else if G.calls.contains f=true then
          A.xr f args (cu st.m (bT st.m st.o args)) (dL st.o (bT st.m st.o args)) k st.c.nl sz t fr (cd (bE ss fr))
            (St.put A {st with o:=dk st.o k [.var st.c.nl]} dst (cd (bE ss fr)) (aK c1 (bN ss)) K)
        else A.fail "call: unknown function"
      |none => A.fail "effect: no such row"
    |_, _ => A.fail "effect"
def lJ(G:bY)(st:St)(o:Oper):Option (FuncId × List SV × Nat) :=
  match o.op with
  | .call {callee := .value g,args,..}=>match st.ev g with
    | .cv (.one (.fn f az))=>match ql G f with
      |some j=>match (args.toList.map st.ev++az.map λx=>SV.cv (.one (.loc x.1 x.2)))[j]? with
        |some (.cv (.one (.own _)))=>some (f,args.toList.map st.ev++az.map λx=>.cv (.one (.loc x.1 x.2)),j)
        |_=>none
      |none=>none
    |_=>none
  |_=>none
def mw(A:bZ R)(G:bY)(st:St)(o:Oper)(K:St->R):R :=
  match o0 G st o with
  |some (f,args,jo)=>tP A G st o.dst f args jo K
  |none=>match lJ G st o with
    |some (f,args,j)=>qm A G st o.dst f args j K
    |none=>kN A G st o K
def nY(A:bZ R)(G:bY)(st:St)(dst:Option Tmp)(t:TypeId)(K:St->R):R:=match cq G.P t with
  |some z=>St.new A st dst z.cells t (.loc · 0) K
  |none => A.fail "alloc"
def tQ(A:bZ R)(st:St)(dst:Option Tmp)(t:TypeId)(x:Operand)(K:St->R):R:=match st.ev x with
  | .cv v=>St.new A st dst v.cells t (.loc · 0) K
  |_ => A.fail "box"
def qU(A:bZ R)(G:bY)(st:St)(dst:Option Tmp)(t:TypeId)(a x:Operand)(K:St->R):R:=match aF G.P t,st.ev a,st.ev x with
  |some (_,n),.cv (.one (.loc k off)),.cv v=>match getM st.m k with
    | some (cs,_)=>if v.cells.length=n/\off + n<=cs.length/\v.wf st.c=true then
        fE (λl=>St.put A {st with m:=iE st.m k l} dst .any st.c K) (cs.take off++v.cells++cs.drop (off+n)) []
      else A.fail "store: size"
    |none => A.fail "store: no such block"
  |_, _, _ => A.fail "store"
def lK(A:bZ R)(G:bY)(st:St)(o:Oper)(K:St->R):R :=
  match o.op with
  | .alloc t=>nY A G st o.dst t K
  | .box t x=>tQ A st o.dst t x K
  | .makeInterface .. => kN A G st o K
  | .store t a x=>qU A G st o.dst t a x K
  | .buildSlice .. => kN A G st o K
  |_ => sd A G st o λv c => if c.nk = st.c.nk then St.put A st o.dst v c K else A.fail "blocks"
theorem NG(A:bZ R)(G:bY)(st:St)(o:Oper)(K:St->R):lK A G st o K=kN A G st o K:=by
 obtain⟨dst,op,type,pos,after,guard⟩:=o;cases op<;>first|rfl | (unfold lK kN;simp only [Cg];done) | (unfold lK kN nY;rfl) | (unfold lK kN tQ;rfl) | (unfold lK kN qU;simp only [Fh];done)
theorem Ch(A:bZ R)(G:bY)(st:St)(o:Oper)(K:St->R)(h:∀c,o.op ≠ .call c):mw A G st o K=kN A G st o K:=by
 obtain⟨dst,op,type,pos,after,guard⟩:=o;cases op
 case call c=>exact absurd rfl (h c)
 all_goals rfl
def St.gM(A:bZ R)(st:St)(dst:Option Tmp)(ic:List Nat)(ce:CE)(sz:Nat)(el:TypeId)(c:an)(K:St->R)(md:Nat:=0):R :=
  if bP c ce=true then
    St.put A {st with o:=(c.nk,ce,sz,el)::bI st.o ic} dst (.cv (.one (rowAt md c.nk))) {c with nk:=c.nk+4} K
  else A.fail "row"
def rowOf(o:aY)(sz:Nat)(el:TypeId):SV->Option (CE × List Nat)
  | .cv (.one .c_)=>some ([],[])
  | .cv (.one (.own k))=>match aD o k with
    |some (ce,s,t)=>if s=sz/\t=el then some (ce,[k])else none
    |none=>none
  |_=>none
def tR(A:bZ R)(st:St)(sz:Nat)(ic:List Nat)(y:SV)(K:CE->an->R):R :=
  match y with
  | .cv (.one .c_)=>K [] st.c
  | .cv (.one (.gZ k off len _))=>match getM st.m k with
    |some (cs, _) => if off+len*sz <= cs.length then K [.cE ((cs.drop off).take (len*sz))] st.c else A.fail "append: beyond"
    |none => A.fail "append: no such block"
  | .cv (.one (.own k))=>match aD st.o k with
    |some (ce, s, _) => if s = sz /\ ic.contains k = false then K ce st.c else A.fail "append: a row to itself"
    |none => A.fail "append: no such row"
  | .cv (.one x)=>match x with
    | .jf _ _ s _ _ | .fu _ _ s _ _ => if s = sz /\ x.wf st.c = true then A.Fe st.c.nl x sz (K [.var st.c.nl] { st.c with nl := st.c.nl+1 }) else A.fail "append: a part"
    |_ => A.fail "append: what"
  |_ => A.fail "append: what"
def fg:Int:=1073741824
def xw(A:bZ R)(G:bY)(st:St)(o:Oper)(K:St->R):R :=
  match o.op with
  | .call {callee := .builtin .append,args,argTypes}=>match args.toList,argTypes.toList with
    | [x,y],[t,t']=>match G.P.underlying t with
      |some (.slice el)=>match G.P.info? el,cq G.P el with
        |some i,some z =>
          if t'=t/\0<i.size/\z.cells.length=i.size/\i.bytes<=131072 then
            match rowOf st.o i.size el (st.ev x)with
            | some (ce,ic)=>tR A st i.size ic (st.ev y) fun add c1 =>
                gG A c1 (cA ce add) i.size λn c2=>bj A (.cmp .leq n (.lit fg)) (St.gM A st o.dst ic (cA ce add) i.size el c2 K)
            |none => A.fail "append: to what"
          else A.fail "append: type"
        |_, _ => A.fail "append: element"
      |_ => A.fail "append: slice"
    |_, _ => A.fail "append: arguments"
  |_ => A.fail "append"
def aJ.ids:aJ->List Nat
 | .gZ k _ _ _=>[k]
 | .own k=>[k,k+1,k+2,k+3]
 |_=>[]
def aE:List At->List Nat
 | []=>[]
 | .loc k _::r | .gZ k _ _ _::r=>k::aE r
 | .own k::r | .omap k::r | .oE k::r=>k::(k+1)::(k+2)::(k+3)::aE r
 | .eT k _ _ _::r | .p_ k::r=>k::aE r
 | .fn _ az::r=>az.map (·.1)++aE r
 | .kM _ first az::r=>first.map (·.1)++az.map (·.1)++aE r
 | .oU _ first az::r=>first.flatMap aJ.ids++az.map (·.1)++aE r
 |_::r=>aE r
def la(G:bY)(dst:Option Tmp):Option TypeId :=
  match dst with
  |some d=>match G.loops.lookup (900000000+d)with
    |some (.inv _ [el] _)=>some el
    |_=>none
  |none=>none
def jN(A:bZ R)(G:bY)(st:St)(dst:Option Tmp)(t:TypeId)(m k v:SV)(K:St->R):R :=
  match eV G.P t,m,k,v with
  |some x,.cv (.one (.omap j)),.cv kv,.cv vv=>match aD st.o j with
    |some (ce,sz,tc)=>match dC ce with
      | some cs=>if ly x.gk x.ks.length kv=true/\ly x.ge x.ne vv=true/\tc=x.no/\sz=0 then
          jE A st.c x kv.cells
            (λi _=>St.put A {st with o:=dk st.o j [.cE (cs.take (i*(x.ks.length+x.ne)+x.ks.length)++vv.cells++cs.drop (i*(x.ks.length+x.ne)+x.ks.length+x.ne))]} dst .any st.c K)
            (λ_=>St.put A {st with o:=dk st.o j [.cE (cs++(kv.cells++vv.cells))]} dst .any st.c K) (cs.length+1) cs 0
        else A.fail "map: entry"
      | none=>if ly x.gk x.ks.length kv=true/\ly x.ge x.ne vv=true/\tc=x.no/\sz=0/\vv.flat=true/\vv.wf st.c=true then
          nT A st.c x ce kv.cells λi c1=>fe A (.cmp .geq i (.lit 0))
            (λ_=>A.rY c1.nl (.set ce i (x.ks.length+x.ne) x.ks.length vv.cells) (St.put A {st with o:=dk st.o j [.var c1.nl]} dst .any {c1 with nl:=c1.nl+1} K))
            (λ_=>St.put A {st with o:=dk st.o j (cA ce [.cE (kv.cells++vv.cells)])} dst .any c1 K)
        else A.fail "map: entry"
    |none => A.fail "map: no such"
  |_, _, _, _ => A.fail "mapUpdate"
def my(A:bZ R)(G:bY)(st:St)(o:Oper)(K:St->R):R :=
  match o.op with
  | .makeSlice t l cp=>match G.P.underlying t with
    |some (.slice el)=>match G.P.info? el,cq G.P el with
      |some i,some z =>
        if 0<i.size/\z.cells.length=i.size/\i.bytes<=131072/\z.cells.all At.flat=true/\z.wf st.c=true then
          match st.ev l,st.ev cp with
          | .cv (.one (.int _ e)),.cv (.one (.int _ e2)) =>
            if e=.lit 0 then
              bj A (.cmp .geq e2 (.lit 0)) (bj A (.cmp .leq e2 (.lit fg)) (St.gM A st o.dst [] [] i.size el st.c K))
            else if e=e2 then
              bj A (.cmp .geq e (.lit 0)) (bj A (.cmp .leq e (.lit fg)) (match e with
                | .lit n=>St.gM A st o.dst [] [.cE (times z.cells n.toNat)] i.size el st.c K
                |e => if e.wf st.c = true then A.rY st.c.nl (.rep e z.cells) (St.gM A st o.dst [] [.var st.c.nl] i.size el { st.c with nl := st.c.nl+1 } K) else A.fail "makeSlice: length"))
            else A.fail "makeSlice: capacity"
          |_, _ => A.fail "makeSlice: lengths"
        else A.fail "makeSlice: type"
      |_, _ => A.fail "makeSlice: element"
    |_ => A.fail "makeSlice"
  | .buildSlice t len parts=>match G.P.underlying t with
    |some (.slice el)=>match G.P.info? el with
      |some i=>if len=0/\parts.toList.length=0/\0<i.size then St.gM A st o.dst [] [] i.size el st.c K else match aF G.P el,cq G.P el with
        | some (_,s),some z=>if z.cells.length=s/\0 < s/\0 < len/\len * s<=4096 then
            match cn (λi=>some (i*s,s)) (times z.cells len) (parts.toList.map λp=>(p.1,st.ev p.2))with
            |some cs => if cs.length = len*s /\ aE cs = [] then St.gM A st o.dst [] [.cE cs] s el st.c K else A.fail "buildSlice: row"
            |none => A.fail "buildSlice: parts"
          else A.fail "buildSlice: size"
        |_, _ => A.fail "buildSlice: row"
      |none => A.fail "buildSlice: row"
    |_ => A.fail "buildSlice: row"
  | .slice t x lo (some hi) (some mx)=>match G.P.underlying t,st.ev hi,st.ev mx,cJ (.lit 0) (lo.map st.ev)with
    |some (.slice el),.cv (.one (.int _ (.lit 0))),.cv (.one (.int _ (.lit 0))),some (.lit 0)=>match G.P.info? el,st.ev x with
      |some i,.cv (.one (.jf ..))|some i,.cv (.one (.own ..))|some i,.cv (.one .c_) =>
        if 0<i.size then St.gM A st o.dst [] [] i.size el st.c K else A.fail "slice: row"
      |_, _ => A.fail "slice: row"
    |_, _, _, _ => A.fail "slice: row"
  | .store t a x=>match aF G.P t,st.ev a,st.ev x with
    |some (_,n),.cv (.one (.eT k ix sz off)),.cv v=>match aD st.o k with
      |some (ce,s,_) =>
        if s=sz/\v.cells.length=n/\off+n<=sz/\0<sz/\v.wf st.c=true/\ix.wf st.c=true/\bP st.c ce=true then
          gG A st.c ce sz λm c1=>bj A (.cmp .geq ix (.lit 0)) (bj A (.cmp .lss ix m) (
            match gp ce ix sz off with
            |some (cs,p)=>St.put A {st with o:=dk st.o k [.cE (cs.take p++v.cells++cs.drop (p+n))]} o.dst .any c1 K
            | none=>if fK ce=true/\v.flat=true then
                A.rY c1.nl (.set ce ix sz off v.cells) (St.put A {st with o:=dk st.o k [.var c1.nl]} o.dst .any {c1 with nl:=c1.nl+1} K)
              else A.fail "store: row"))
        else A.fail "store: row"
      |none => A.fail "store: no such row"
    |_, _, _ => A.fail "store: row"
  | .convert s d x=>match fM G.P s d,st.ev x with
    |some _,.cv (.one (.str l))=>St.gM A st o.dst [] [.cE (lI l)] 0 0 st.c K 2
    |some _,.cv (.one (.sv i))=>A.rY st.c.nl (.oE i) (St.gM A st o.dst [] [.var st.c.nl] 0 0 {st.c with nl:=st.c.nl+1} K 2)
    |_, _ => A.fail "convert: bytes"
  | .makeMap t none=>match eV G.P t with
    |some x=>St.gM A st o.dst [] [] 0 x.no st.c K 1
    |none => A.fail "makeMap"
  | .mapUpdate t m k v=>jN A G st o.dst t (st.ev m) (st.ev k) (st.ev v) K
  | .insert t m k v=>jN A G st o.dst t (st.ev m) (st.ev k) (st.ev v) K
  | .assign x=>match st.ev x,la G o.dst with
    | .cv (.one .c_),some el=>match G.P.info? el with
      |some i => if 0<i.size then St.gM A st o.dst [] [] i.size el st.c K else A.fail "assign: row"
      |none => A.fail "assign: row"
    |_, _ => A.fail "assign: row"
  |_ => A.fail "row: operation"
def St.cQ(st:St)(d:Nat)(b:Bool):St := {st with t:=(d,.cv (.one (.bool (.lit b))))::st.t}
abbrev vS(R:Type):=FuncId->List SV->St->(SV->St->R)->R
abbrev Yl(R:Type):=Nat->List SV->St->(SV->St->R)->R
def cU(x:Nat × Nat):SV := .cv (.one (.loc x.1 x.2))
def qV(G:bY)(t:TypeId)(dst:Option Tmp):Bool :=
 match dst with
 |some d=>(G.loops.lookup (1000000+t*10000+d)).isSome
 |none=>false
def qW(G:bY)(f:FuncId):Option (TypeId × List Nat) :=
 match G.loops.lookup (800000000000000000+f)with
 |some (.inv _ (t::js) _)=>some (t,js)
 |_=>none
def qn(args:List SV):List Nat->Option (List Nat)
  | []=>some []
  |j::r=>match args[j]?,qn args r with
    |some (.cv (.one (.loc k _))),some l=>some (k::l)
    |_,_=>none
def qX(m:Mem)(ks:List Nat):Mem:=m.filter λx => !ks.contains x.1
def tT(A:bZ R)(G:bY)(KP:Nat->St->R)(st:St)(f:FuncId)(args:List SV)(t:TypeId)(js:List Nat):R :=
  match aF G.P t,tI G.P 30 t,qn args js with
  |some (g,_),some ks,some bs =>
    if args.any iG = true ∨ ¬args.all (SV.wf st.c) = true then A.fail "panics: arguments"
    else if ks.all CK.plain=true/\G.calls.contains f=true/\bs.Nodup/\bs.all (λb=>(getM st.m b).isSome)=true then
      let fr:=ao st.c ks;let c1:=aK st.c ks
      A.xu f args (cu st.m (bT st.m st.o args)) (dL st.o (bT st.m st.o args)) bs fr t (dK g fr) c1.nv
        (KP c1.nv {st with m:=qX st.m bs,c := {c1 with nv:=c1.nv+1},k := .k_ c1.nv t (dK g fr)::st.k})
    else A.fail "panics"
  |_, _, _ => A.fail "panics: type"
def NH(A:bZ R)(G:bY)(KP:Nat->St->R)(st:St)(o:Oper)(f:FuncId)(args:List SV)(K:St->R):R :=
 match qW G f with
 |none=>mw A G st o K
 |some (t,js)=>A.alt (mw A G st o K) (tT A G KP st f args t js)
def tU(G:bY)(f:FuncId):Bool:=(G.loops.lookup (400000000000000000+f)).isSome
def qo(A:bZ R)(G:bY)(st:St)(dst:Option Tmp)(f:FuncId)(args:List SV)(K:St->R):R :=
  match args with
  | [.cv (.one (.own k)),.cv (.one (.int _ (.lit 0))),.cv (.one (.gZ k2 off n _))]=>match aD st.o k,getM st.m k2 with
    |some (ce,sz,t),some (cs,_) =>
      if 0<sz/\off+n*sz<=cs.length/\args.all (SV.wf st.c)=true/\G.calls.contains f=true then
        A.m_ f args (cu st.m (bT st.m st.o args)) (dL st.o (bT st.m st.o args)) k (cA [.cE ((cs.drop off).take (n*sz))] ce) sz t
          (St.gM A st dst [k] (cA [.cE ((cs.drop off).take (n*sz))] ce) sz t st.c K)
      else A.fail "give"
    |_, _ => A.fail "give: no such row"
  |_ => A.fail "give: arguments"
def o5(G:bY)(f:FuncId):Option TypeId :=
 match G.loops.lookup (410000000000000000+f)with
 |some (.inv _ [el] _)=>some el
 |_=>none
def qp(A:bZ R)(G:bY)(st:St)(dst:Option Tmp)(f:FuncId)(args:List SV)(el:TypeId)(K:St->R):R :=
  match args,G.P.info? el with
  | [.cv (.one .c_),.cv (.one (.int ik e))],some i =>
    if 0<i.size /\ [SV.cv (.one .c_),.cv (.one (.int ik e))].all (SV.wf st.c)=true/\G.calls.contains f=true then
      A.m_ f [.cv (.one .c_),.cv (.one (.int ik e))] [] [] st.c.nk [] i.size el (St.gM A st dst [] [] i.size el st.c K)
    else A.fail "grow"
  |_, _ => A.fail "grow: arguments"
def o6(A:bZ R)(G:bY)(inl:vS R)(yl:Yl R)(pQ:Bool)(KP:Nat->St->R)(st:St)(o:Oper)(K:St->R):R :=
  match o.op with
  | .panic x=>match st.ev x with
    | .cv (.one (.val i)) => if (fv st.k i).isSome = true then KP i st else A.fail "panic: unknown"
    |_ => A.fail "panic"
  | .defer c=>match c.callee,c.args.toList,o.dst,pQ with
    | .value g,[],none,true=>match st.ev g with
      | .cv (.one (.fn f az)) => if st.d = [] then K { st with df := (f, az) :: st.df } else A.fail "defer: function"
      |_ => A.fail "defer: value"
    |_, _, _, _ => A.fail "defer"
  | .call {callee := .invoke r name,args,..}=>match st.ev r with
    | .cv (.one (.val i))=>match fv st.k i with
      |some (t,v)=>match methodOf G.P t name with
        | some f=>if G.inl.contains f=true then
            if (args.toList.map st.ev).any iG = true then A.fail "inline: arguments"
            else inl f (.cv v::args.toList.map st.ev) st λv s=>St.put A s o.dst v s.c K
          else mw A G st o K
        |none => A.fail "invoke: method"
      |none => A.fail "invoke: unknown"
    |_ => A.fail "invoke"
  | .call {callee := .value g,args,..}=>match st.ev g with
    | .cv (.one (.fn f az)) =>
      if (o5 G f).isSome=true/\az=[]then qp A G st o.dst f (args.toList.map st.ev) ((o5 G f).getD 0) K else
      if tU G f=true/\az=[]then qo A G st o.dst f (args.toList.map st.ev) K else
      if G.inl.contains f=true then
        if (args.toList.map st.ev).any iG = true then A.fail "inline: arguments"
        else inl f (args.toList.map st.ev++az.map cU) st λv s=>St.put A s o.dst v s.c K
      else NH A G KP st o f (args.toList.map st.ev++az.map cU) K
    | .cv (.one (.kM f first az)) =>
      if G.inl.contains f=true then
        if (args.toList.map st.ev).any iG = true then A.fail "inline: arguments"
        else inl f (first.map cU++(args.toList.map st.ev++az.map cU)) st λv s=>St.put A s o.dst v s.c K
      else mw A G st o K
    | .cv (.one (.oU f first az)) =>
      if G.inl.contains f=true then
        if (args.toList.map st.ev).any iG = true then A.fail "inline: arguments"
        else inl f (.cv (.agg (first.map aJ.at))::(args.toList.map st.ev++az.map cU)) st λv s=>St.put A s o.dst v s.c K
      else A.fail "call: method value"
    | .cv (.one (.p_ k)) =>
      if (args.toList.map st.ev).any iG = true then A.fail "yield: arguments"
      else yl k (args.toList.map st.ev) st λv s=>St.put A s o.dst v s.c K
    |_ => A.fail "call: value"
  | .call {callee := .builtin .append,..}=>xw A G st o K
  | .makeSlice .. => my A G st o K
  | .makeMap .. => my A G st o K
  | .convert s d _=>if (fM G.P s d).isSome=true then my A G st o K else mw A G st o K
  | .mapUpdate .. => my A G st o K
  | .insert .. => my A G st o K
  | .assign x=>if (la G o.dst).isSome=true/\st.ev x=.cv (.one .c_)then my A G st o K else mw A G st o K
  | .buildSlice t len _=>if len=0∨qV G t o.dst=true then my A G st o K else mw A G st o K
  | .slice _ _ _ _ (some _)=>my A G st o K
  | .store _ a _=>match st.ev a with
    | .cv (.one (.eT ..))=>my A G st o K
    |_=>mw A G st o K
  |_=>mw A G st o K
def kO(A:bZ R)(st:St)(dst:Option Tmp)(K:St->R)(v:SV)(c:an):R:=match Nat.beq c.nk st.c.nk with
  |true=>St.put A st dst v c K
  |false => A.fail "blocks"
theorem Hl (A : bZ R) (st : St) (dst : Option Tmp) (K : St -> R) : kO A st dst K = λv c => if c.nk = st.c.nk then St.put A st dst v c K else A.fail "blocks" := by
  funext v c;unfold kO;cases h:Nat.beq c.nk st.c.nk with
  |true=>rw [if_pos (Nat.eq_of_beq_eq_true h)]
  |false=>rw [if_neg (Nat.ne_of_beq_eq_false h)]
def nK(K:St->R):St->R:=λs=>s.norm K
theorem Hm(K:St->R):nK K=K:=by funext s;exact St.norm_eq s K
def o7(A:bZ R)(G:bY)(st:St)(o:Oper)(x:Operand)(K:St->R):R:=if (la G o.dst).isSome=true/\st.ev x=.cv (.one .c_)then my A G st o K else kO A st o.dst K (st.ev x) st.c
def lM(A:bZ R)(G:bY)(inl:vS R)(yl:Yl R)(pQ:Bool)(KP:Nat->St->R)(st:St)(o:Oper)(K:St->R):R :=
 match o.op with
 | .move x=>kO A st o.dst K (st.ev x) st.c
 | .assign x=>o7 A G st o x K
 | .alloc t=>nY A G st o.dst t (nK K)
 | .box t x=>tQ A st o.dst t x (nK K)
 | .load t x=>qj A G st t x (kO A st o.dst K)
 | .binOp op t x y _=>qk A G st op t x y (kO A st o.dst K)
 | .unOp op _ x=>tJ A st.c op (st.ev x) (kO A st o.dst K)
 | .field t x f=>jF A G.P st.c t (st.ev x) f (kO A st o.dst K)
 | .fieldAddr s x f=>eX A G.P st.c s (st.ev x) f (kO A st o.dst K)
 | .indexAddr t x i=>eY A G.P st.o st.c t (st.ev x) (st.ev i) (kO A st o.dst K)
 | .index t x i=>jG A G.P st.c t (st.ev x) (st.ev i) (kO A st o.dst K)
 | .extract x i=>j7 A st x i (kO A st o.dst K)
 |_=>o6 A G inl yl pQ KP st o (nK K)
theorem Hn(A:bZ R)(G:bY)(inl:vS R)(yl:Yl R)(pQ:Bool)(KP:Nat->St->R):lM A G inl yl pQ KP=o6 A G inl yl pQ KP:=by
 funext st o K;obtain⟨dst,op,type,pos,after,guard⟩:=o
 cases op<;>unfold lM<;>(try unfold o7)<;>(try dsimp only)<;>(try rw [Hm])<;>(try rw [RL])<;>(try rw [Hl])<;>first
  |rfl
  | (show lK A G st _ K=mw A G st _ K;rw [NG,Ch];intro c h;cases h)
  | (unfold o6;dsimp only [];split;rfl;(show lK A G st _ K=mw A G st _ K;rw [NG,Ch];intro c h;cases h))
def xx(A:bZ R)(step:St->Oper->(St->R)->R)(ops:Array Oper)(st:St)(o:Oper)(j:Nat)(want:Bool)(K:St->R):R :=
  match (ops[j]?).bind (·.dst)with
  |none => A.fail "guard"
  | some d=>if d < st.n then match aq st.t d with
      | .cv (.one (.bool e)) =>
        fe A e
          (λ_=>if want=true then (st.cQ d true).norm λst=>step st o K else (st.cQ d true).norm λst=>St.put A st o.dst .fJ st.c K)
          (λ_=>if want=true then (st.cQ d false).norm λst=>St.put A st o.dst .fJ st.c K else (st.cQ d false).norm λst=>step st o K)
      | .fJ=>St.put A st o.dst .fJ st.c K
      |_ => A.fail "guard: unknown"
    else A.fail "guard: slot"
def jO(A:bZ R)(step:St->Oper->(St->R)->R)(ops:Array Oper):List Oper->St->(St->R)->R
  | [],st,K=>K st
  |o::r,st,K =>
    match o.guard with
    |none=>step st o λs=>jO A step ops r s K
    |some (j,want)=>xx A step ops st o j want λs=>jO A step ops r s K
structure DS where
 rd:List (Nat × Nat)
 wr:List (Nat × Nat)
 al:List (Nat × Nat)
def av:List At->List Nat
 | []=>[]
 | .loc k _::r | .gZ k _ _ _::r=>k::av r
 | .own k::r | .eT k _ _ _::r | .omap k::r | .oE k::r=>k::av r
 |_::r=>av r
def aP(st:St)(o:Oper):List Nat :=
  match o.op with
  | .load _ x=>av (aI (st.ev x))
  | .lookup _ x _ _=>av (aI (st.ev x))
  | .indexAddr _ x _=>av (aI (st.ev x))
  | .convert _ _ x=>av (aI (st.ev x))
  | .binOp _ _ x _ _=>match st.ev x with
    | .cv (.one (.own k))=>[k]
    |_=>[]
  | .call {callee := .value g,args,..}=>match st.ev g with
    | .cv (.one (.fn _ az))=>av (bT st.m st.o (args.toList.map st.ev++az.map λx=>.cv (.one (.loc x.1 x.2))))
    | .cv (.one (.kM _ first az))=>av (bT st.m st.o ((first.map λx=>.cv (.one (.loc x.1 x.2)))++(args.toList.map st.ev++az.map λx=>.cv (.one (.loc x.1 x.2)))))
    |_=>av ((args.toList.map st.ev).flatMap aI)
  | .call {callee := .invoke r _,args,..}=>match st.ev r with
    | .cv (.one (.val i))=>match fv st.k i with
      |some (_,v)=>av (bT st.m st.o (.cv v::args.toList.map st.ev))
      |none=>[]
    |_=>[]
  | .call {callee := .builtin _,args,..}=>av ((args.toList.map st.ev).flatMap aI)
  |_=>[]
def dV:List SV->List Nat
 | []=>[]
 | .cv (.one (.loc k 0))::r=>k::dV r
 | .cv (.one (.own k))::r=>k::dV r
 |_::r=>dV r
def aL(st:St)(o:Oper):List Nat :=
  match o.op with
  | .call {callee := .value g,args,..}=>match st.ev g with
    | .cv (.one (.fn _ az))=>dV (args.toList.map st.ev++az.map λx=>.cv (.one (.loc x.1 x.2)))
    |_=>dV (args.toList.map st.ev)
  | .store _ x _=>av (aI (st.ev x))
  | .mapUpdate _ x _ _ | .insert _ x _ _=>av (aI (st.ev x))
  | .call {callee := .builtin .append,args,..}=>match args.toList with
    |x::_=>av (aI (st.ev x))
    | []=>[]
  |_=>[]
def direct(ops:Array Oper)(i j:Nat):Bool :=
 match ops[i]? with
 |some o=>o.after.any λe=>Region.binds .any e && decide (e.on=j)
 |none=>false
def reach(ops:Array Oper):Nat->Nat->Nat->Bool
  |0,_,_=>false
  |d+1,i,j=>direct ops i j || match ops[i]? with
    |some o=>o.after.any λe=>Region.binds .any e && reach ops d e.on j
    |none=>false
def dW:SV->List Nat
 | .cv c=>aE c.cells
 | .kx l=>aE (l.flatMap CV.cells)
 |_=>[]
def dz(ops:Array Oper):Bool :=
  (List.range ops.size).all λi=>match ops[i]? with
    |none=>false
    |some o=>(o.after.all λe => !Region.binds .any e || decide (e.on<i)) && (List.range ops.size).all λj=>match ops[j]? with
      |none=>false
      |some p =>
        match p.dst with
          |none=>true
          |some d=>decide (i=j∨o.dst≠some d) && (!(o.looksAt ops).contains d || (decide (j<i) && direct ops i j) || (decide (i<j) && direct ops j i))
def DS.eB(d:DS)(ops:Array Oper)(i k:Nat):Bool :=
 match d.al.lookup k with
 |none=>true
 |some j=>reach ops 3 i j
def cN(st:St)(o:Oper):List Nat :=
 match o.op with
 | .store _ _ x=>dW (st.ev x)
 | .box _ x=>dW (st.ev x)
 | .mapUpdate _ _ k v | .insert _ _ k v=>dW (st.ev k)++dW (st.ev v)
 | .buildSlice _ _ parts=>parts.toList.flatMap λp=>dW (st.ev p.2)
 |_=>[]
def Ho(ops:Array Oper)(i:Nat)(d:DS)(o:Oper)(s:St):Bool :=
 match o.dst with
  |none=>true
  |some x=>(dW (aq s.t x)).all (d.eB ops i)
def cR(ops:Array Oper)(i:Nat):List Nat :=
 match ops[i]? with
 |some o=>(o.after.toList.filter (Region.binds .any ·)).map (·.on)
 |none=>[]
def ig(acc:List Nat):List Nat->List Nat
 | []=>acc
 |x::r=>ig (if acc.contains x=true then acc else x::acc) r
def behind(ops:Array Oper):Nat->List Nat->List Nat
 |0,acc=>acc
 |d+1,acc=>behind ops d (ig acc (acc.flatMap (cR ops)))
def A7(ops:Array Oper)(i j:Nat):Bool:=(behind ops 10 (ig [] (cR ops i))).contains j
def nZ(ops:Array Oper)(i j:Nat):Bool:=direct ops i j || A7 ops i j
def vT(ops:Array Oper)(x y:Nat × Nat):Bool :=
 decide (x.1≠y.1) || decide (x.2=y.2) || (decide (y.2<x.2) && nZ ops x.2 y.2) || (decide (x.2<y.2) && nZ ops y.2 x.2)
def qq(ops:Array Oper)(rd wr:List (Nat × Nat)):Bool :=
 (rd.all λx=>wr.all λy=>vT ops x y) && wr.all λx=>wr.all λy=>vT ops x y
def gI(a b i:Nat):List (Nat × Nat):=(List.range (b-a)).map λj=>(a+j,i)
def nu(al:List (Nat × Nat))(o:aY):Bool:=o.all λx=>[1,2,3].all λd=>decide (al.lookup (x.1+d)=al.lookup x.1)
def Hp(A:bZ R)(G:bY)(st:St)(o:Oper)(K:St->R):R :=
  match o.op with
  | .call {callee := .builtin .append,..}=>xw A G st o K
  | .buildSlice t len _=>if len=0∨qV G t o.dst=true then my A G st o K else mw A G st o K
  | .store _ a _=>match st.ev a with
    | .cv (.one (.eT ..))=>my A G st o K
    |_=>mw A G st o K
  | .makeMap .. => my A G st o K
  | .mapUpdate .. => my A G st o K
  | .insert .. => my A G st o K
  | .convert s d _=>if (fM G.P s d).isSome=true then my A G st o K else mw A G st o K
  |_=>mw A G st o K
def o8(A:bZ R)(G:bY)(ops:Array Oper)(i:Nat)(d:DS)(st:St)(o:Oper)(K:DS->St->R):R :=
  if (aP st o++aL st o++cN st o).all (d.eB ops i)=true then
    Hp A G st o λs =>
      if (Ho ops i d o s && nu (gI st.c.nk s.c.nk i++d.al) s.o)=true then
        K {rd:=(aP st o).map (·,i)++d.rd,wr:=(aL st o).map (·,i)++d.wr,al:=gI st.c.nk s.c.nk i++d.al} s
      else A.fail "drawn: blocks"
  else A.fail "drawn: order"
def gN(A:bZ R)(G:bY)(ops:Array Oper):Nat->List Oper->DS->St->(St->R)->R
  |_, [], d, st, K => if qq ops d.rd d.wr = true then K st else A.fail "drawn: read and written"
  |i,o::r,d,st,K =>
    match o.guard with
    |none=>o8 A G ops i d st o λd' s=>gN A G ops (i+1) r d' s K
    |some (j,want)=>match (ops[j]?).bind (·.dst)with
      |none => A.fail "guard"
      | some x=>if x < st.n then match aq st.t x with
          | .cv (.one (.bool e)) =>
            fe A e
              (λ_=>if want=true then o8 A G ops i d (st.cQ x true) o λd' s=>gN A G ops (i+1) r d' s K else St.put A (st.cQ x true) o.dst .fJ st.c λs=>gN A G ops (i+1) r d s K)
              (λ_=>if want=true then St.put A (st.cQ x false) o.dst .fJ st.c λs=>gN A G ops (i+1) r d s K else o8 A G ops i d (st.cQ x false) o λd' s=>gN A G ops (i+1) r d' s K)
          | .fJ=>St.put A st o.dst .fJ st.c λs=>gN A G ops (i+1) r d s K
          |_ => A.fail "guard: unknown"
        else A.fail "guard: slot"
def lN(ops:Array Oper):Nat->Nat
 |0=>0
 |n+1=>if (List.range n).all (λj=>(behind ops 10 (ig [] (cR ops n))).contains j)=true then lN ops n else n+1
def lO(P:Program)(o:Oper):Bool :=
 match o.op with
 | .call {callee := .builtin .len,..}=>false
 | .call {callee := .builtin .min,..}=>false
 | .call {callee := .builtin .max,..}=>false
 | .call _=>true
 | .convert s d _=>(fM P s d).isSome
 | .move _ | .assign _ | .pick .. | .load .. | .nilCheck _ | .binOp .. | .unOp .. | .field .. | .fieldAddr .. | .indexAddr .. | .index .. | .extract .. | .build .. | .typeAssert .. | .lookup .. | .makeFunc .. | .makeInterface .. => false
 | .slice _ _ _ _ m=>m.isSome
 |_=>true
def qY(ops:Array Oper):Nat->List Nat->List Nat
 |0,acc=>acc
 |j+1,acc=>qY ops j (if acc.contains j=true then ig acc (cR ops j)else acc)
def before(ops:Array Oper)(i:Nat):List Nat:=qY ops i (ig [] (cR ops i))
def vU(ops:Array Oper):List Nat->List Nat->List Nat
 |done,[]=>done
 |done,j::r=>if (cR ops j).all done.contains=true then vU ops (done ++ [j]) r else vU ops done r
def canon(ops:Array Oper)(fl:List Nat):List Nat->List Nat->List Nat
 |done,[]=>vU ops done (fl.filter λj => !done.contains j)
 |done,a::r=>let d:=vU ops done (fl.filter λj => !done.contains j);canon ops fl (d ++ [a]) r
def Ci(P:Program)(ops:Array Oper):List Nat:=(List.range ops.size).filter λi=>match ops[i]? with|some o=>lO P o|none=>false
def yN(P:Program)(ops:Array Oper):List Nat:=(List.range ops.size).filter λi=>match ops[i]? with|some o => !lO P o|none=>false
def n7(P:Program)(ops:Array Oper):List Nat:=canon ops (yN P ops) [] (Ci P ops)
def A8(P:Program)(ops:Array Oper):List Nat->Bool
  | []=>true
  |i::r=>decide (i<ops.size) && !r.contains i && (cR ops i).all (λj => !(i::r).contains j) &&
    (match ops[i]? with
     |some o => !lO P o || r.all (λx=>(cR ops x).any λj=>(i::r).contains j)
     |none=>false) && A8 P ops r
def yO(o:Oper):Bool :=
 match o.op with
 | .call {callee := .value _,..}=>true
 | .call {callee := .invoke ..,..}=>true
 |_=>false
def n8(P:Program)(ops:Array Oper):Bool :=
 ops.toList.any yO && A8 P ops (n7 P ops) && (List.range ops.size).all λj=>(n7 P ops).contains j
structure fY where
 j:Nat
 dst:Option Tmp
 rd:List Nat
 ld:Option (Nat × Nat × Bool × Nat):=none
def vV(P:Program)(st:St)(o:Oper):Option (Nat × Nat × Bool × Nat) :=
  match o.op with
  | .load t x=>match aF P t,st.ev x with
    |some (g,n),.cv (.one (.loc k off))=>some (k,off,g,n)
    |_,_=>none
  |_=>none
def tV(q:Nat × Nat × Bool × Nat)(cs:List At):Option CV :=
 if q.2.2.1=true then if q.2.1+q.2.2.2<=cs.length then some (.agg ((cs.drop q.2.1).take q.2.2.2))else none else (cs[q.2.1]?).map .one
def vW(t:List (Nat × SV))(m:Mem)(p:fY):Bool :=
  match p.ld,p.dst with
  |some q,some d=>match getM m q.1,aq t d with
    |some (cs,_),.cv u=>decide (tV q cs=some u)
    |_,_=>false
  |_,_=>false
def bO(t:List (Nat × SV)):List fY->List (Nat × SV)
  | []=>t
  |p::r=>match p.dst with
    |some d=>(d,.any)::bO t r
    |none=>bO t r
def dM(t:List (Nat × SV))(dst:Option Tmp)(v:SV):List (Nat × SV) :=
 match dst with
 |some d=>(d,v)::t
 |none=>t
def Fi(A:bZ R)(G:bY)(st:St)(o:Oper)(K:SV->an->bK->R):R :=
  match o.op with
  | .makeInterface t x=>match G.P.underlying t,st.ev x with
    |some (.interface _), _ => A.fail "makeInterface"
    | some _,.cv v=>if v.flat=true/\v.wf st.c=true then
        A.k_ st.c.nv t v (K (.cv (.one (.val st.c.nv))) {st.c with nv:=st.c.nv+1} (.k_ st.c.nv t v::st.k))
      else A.fail "makeInterface: value"
    |_, _ => A.fail "makeInterface"
  |_ => sd A G st o λv c => if c.nk = st.c.nk /\ v.wf c = true then K v c st.k else A.fail "drawn: value"
def xz(s st:St)(k:Nat):Bool:=decide (getM s.m k=getM st.m k) && decide (aD s.o k=aD st.o k)
def o9(n:Nat):Option Tmp->Bool
 |some d=>decide (d<n)
 |none=>true
inductive Gd where
 |yes
 |no
 |ask (e:BE) (want:Bool)
 |bad
def guardOf(ops:Array Oper)(st:St)(o:Oper):Gd :=
  match o.guard with
  |none=>.yes
  |some (j,want)=>match (ops[j]?).bind (·.dst)with
    |none=>.bad
    | some d=>if d < st.n then match aq st.t d with
        | .cv (.one (.bool e))=>.ask e want
        | .fJ=>.no
        |_=>.bad
      else .bad
abbrev Kf:=List (BE × Bool)
def lb(A:bZ R)(F:Kf)(e:BE)(t f:Kf->R):R :=
 match F.lookup e with
 |some true=>t F
 |some false=>f F
 |none=>fe A e (λ_=>t ((e,true)::F)) (λ_=>f ((e,false)::F))
def lf(A:bZ R)(F:Kf)(g:Gd)(go no:Kf->R):R :=
  match g with
  | .yes=>go F
  | .no=>no F
  | .ask e want=>lb A F e (λF=>if want=true then go F else no F) (λF=>if want=true then no F else go F)
  | .bad => A.fail "guard: unknown"
def Cj(A:bZ R)(G:bY)(step:St->Oper->(St->R)->R)(ops:Array Oper)(st:St)(F:Kf)(P:List fY)(i:Nat)(o:Oper)(K:St->Kf->List fY->R):R :=
  let bf:=before ops i;let P0:=P.filter λp => !bf.contains p.j;let st0:St := {st with t:=bO st.t P0}
  lf A F (guardOf ops st0 o)
    (λF => step st0 o λs => if P0.all (λp => p.rd.all (xz s st) || vW st.t s.m p) = true then K { s with t := dM st.t o.dst (match o.dst with|some d => aq s.t d|none => .any), n := st.n } F P0 else A.fail "drawn: read and written")
    (λF=>K {st with t:=dM st.t o.dst .fJ} F P0)
def yP(A:bZ R)(G:bY)(st:St)(F:Kf)(o:Oper)(K:SV->an->bK->Kf->R):R :=
  match o.op with
  | .pick x a b=>match st.ev x with
    | .cv (.one (.bool e))=>lb A F e (λF=>K (st.ev a) st.c st.k F) (λF=>K (st.ev b) st.c st.k F)
    |_ => A.fail "pick"
  |_=>Fi A G st o λv c k=>K v c k F
def Ck(A:bZ R)(G:bY)(ops:Array Oper)(st:St)(F:Kf)(P:List fY)(i:Nat)(o:Oper)(K:St->Kf->List fY->R):R :=
 lf A F (guardOf ops st o)
  (λF=>yP A G st F o λv c k F=>K {st with t:=dM st.t o.dst v,c:=c,k:=k} F (⟨i,o.dst,aP st o,vV G.P st o⟩::P))
  (λF=>K {st with t:=dM st.t o.dst .fJ} F (⟨i,o.dst,[],none⟩::P))
def nw(A:bZ R)(G:bY)(step:St->Oper->(St->R)->R)(ops:Array Oper):List Nat->St->Kf->List fY->(St->R)->R
  | [],st,_,_,K=>K st
  |i::r,st,F,P,K=>st.norm λst=>match ops[i]? with
    |none => A.fail "drawn: operation"
    |some o =>
      if o9 st.n o.dst=true then
        if lO G.P o=true then Cj A G step ops st F P i o λs F P=>nw A G step ops r s F P K
        else Ck A G ops st F P i o λs F P=>nw A G step ops r s F P K
      else A.fail "drawn: slot"
def qs(A:bZ R)(G:bY)(inl:vS R)(yl:Yl R)(pQ:Bool)(KP:Nat->St->R)(ops:Array Oper)(st:St)(K:St->R):R :=
  if dz ops=true then
    if n8 G.P ops=true then nw A G (lM A G inl yl pQ KP) ops (n7 G.P ops) st [] [] K else
    gN A G ops 0 (ops.toList.take (lN ops ops.size)) ⟨[],[],[]⟩ st λs=>jO A (lM A G inl yl pQ KP) ops (ops.toList.drop (lN ops ops.size)) s K
  else A.fail "drawn: form"
def keyOf:Code->Nat
 | .region id ops _=>1000000000000*ops.size+id
 | .seq a _=>keyOf a
 | .block _ b=>keyOf b
 | .scope b=>keyOf b
 | .loop b=>keyOf b
 | .cond _ a _=>keyOf a
 |_=>0
def dc(P:Program)(st:St):List ResultVar->Option (List CV)
  | []=>some []
  | .tmp t::r=>match aq st.t t,dc P st r with
    | .cv v,some l=>some (v::l)
    |_,_=>none
  | .cell a t::r=>match aq st.t a,dc P st r with
    | .cv (.one (.loc k off)),some l=>match getM st.m k with
      |some (cs,_)=>match partOf P t cs off with
        |some v=>some (v::l)
        |none=>none
      |none=>none
    |_,_=>none
def kindOf(o:aY):At->Option CK
  | .int k _=>some (.int k)
  | .bool _=>some .bool
  | .val _=>some .tf
  | .str _=>some .str
  | .sv _=>some .str
  | .fu _ _ sz _ _=>some (.sl sz)
  | .own k=>match aD o k with
    |some (ce,sz,t)=>if fK ce=true then some (.own sz t)else none
    |none=>none
  |_=>none
def dX(o:aY):List At->Option (List CK)
  | []=>some []
  |a::l=>match kindOf o a,dX o l with
    |some k,some r=>some (k::r)
    |_,_=>none
def n9(st:St):List (Nat × Nat)->Option (List (Nat × Nat))
  | []=>some []
  | (s,off)::r=>match aq st.t s,n9 st r with
    | .cv (.one (.loc k o)),some l=>some ((k,o+off)::l)
    | .cv (.one (.omap k)),some l=>some ((k,off)::l)
    |_,_=>none
def gO(t:List (Nat × SV)):List Nat->Option (List CV)
  | []=>some []
  |s::r=>match aq t s,gO t r with
    | .cv v,some l=>some (v::l)
    |_,_=>none
def i6(m:Mem)(os:aY):List (Nat × Nat)->Option (List At)
  | []=>some []
  | (k,o)::r=>match getM m k,i6 m os r with
    |some (cs,_),some l=>match cs[o]? with
      |some a=>some (a::l)
      |none=>none
    |none,some l=>match aD os k with
      |some (_,0,_+1)=>some (.own k::l)
      |_=>none
    |_,_=>none
def isInt:At->Bool
 | .int .. | .bool _=>true
 |_=>false
def LH.parts(m:Mem):LH->Option (List (Nat × Nat) × List (Nat × Nat) × List Nat × List Nat)
  | .jZ=>none
  | .inv cells aW kill=>some ([],cells,aW,kill)
  | .yI oX cells aW kill=>some (oX,cells,aW,kill)
  | .ai alts cells aW kill=>match alts.find? (λa=>match i6 m [] a with|some l=>l.all isInt|none=>false)with
    |some oX=>some (oX,cells,aW,kill)
    |none=>none
def CV.shape:CV->Bool × Nat
 | .one _=>(false,1)
 | .agg l=>(true,l.length)
def lP:CV->List At->CV
 | .one a,l=>.one (l.headD a)
 | .agg x,l=>.agg (l.take x.length)
def cO(t:List (Nat × SV)):List Nat->List CV->List At->List (Nat × SV)
 |s::r,v::vs,l=>cO ((s,.cv (lP v l))::t) r vs (l.drop v.cells.length)
 |_,_,_=>t
def bH(m:Mem):List (Nat × Nat)->List At->Mem
  | (k,o)::r,a::l=>match getM m k with
    |some (cs,_)=>bH (iE m k (cs.set o a)) r l
    |none=>bH m r l
  |_,_=>m
def dY(t:List (Nat × SV)):List Nat->List (Nat × SV)
 | []=>t
 |s::r=>(s,.any)::dY t r
def fG(k:Nat)(free:List (Nat × Nat)):Nat->List At->List At->Bool
 |_,[],[]=>true
 |o,a::x,b::y=>(free.contains (k,o) || decide (a=b)) && fG k free (o+1) x y
 |_,_,_=>false
def aG:List At->List Nat
 | []=>[]
 | .own k::l=>k::aG l
 |_::l=>aG l
def qt(kf k:Nat):SV->SV
 | .cv (.one (.own j))=>if j=kf then .cv (.one (.own k))else .cv (.one (.own j))
 |v=>v
def o_(kf k:Nat):List (Nat × SV)->List (Nat × SV)
 | []=>[]
 | (i,v)::r=>(i,qt kf k v)::o_ kf k r
def n_(kf k:Nat):aY->aY
 | []=>[]
 | (j,v)::r=>(if j=kf then k else j,v)::n_ kf k r
def iy:List (Nat × Nat)->St->St
 | [],st=>st
 | (kf,k)::r,st=>iy r {st with t:=o_ kf k st.t,o:=n_ kf k st.o}
def qZ(G:bY)(st:St)(key:Nat):List Nat :=
  match G.loops.lookup (500000000000000000+key)with
  |some (.inv _ aW _)=>aW.filterMap λs=>match aq st.t s with
    | .cv (.one (.own k))=>some k
    |_=>none
  |_=>[]
def isMap(o:aY)(k:Nat):Bool :=
 match aD o k with
 |some (_,0,_+1)=>true
 |_=>false
def oa(a b:St)(aW:List Nat)(free:List (Nat × Nat))(own:List Nat):Bool :=
 decide (b.n=a.n/\b.r=a.r/\b.d=a.d/\b.df=a.df) && (a.o.all λx=>own.contains x.1 || decide (aD b.o x.1=aD a.o x.1)) && (a.t.all λx=>aW.contains x.1 || decide (aq a.t x.1=.any) || decide (aq b.t x.1=aq a.t x.1)) &&
 (a.m.all λx=>match getM b.m x.1 with
  |some (cs,t)=>decide (t=x.2.2) && fG x.1 free 0 x.2.1 cs
  |none=>false)
def jZ(A:bZ R)(f:St->(Ex->St->R)->R)(K:Ex->St->R):Nat->St->R
  |0, _ => A.fail "rounds"
  |m+1,st=>f st λe s=>match e with
    | .normal=>s.tG λs=>jZ A f K m s
    |e=>K e s
def eC:List (Nat × Option Ex)->Nat->Option (Option Ex)
 | [],_=>none
 | (j,v)::r,i=>if j=i then some v else eC r i
def tW(r:List (Nat × Option Ex)):Option Nat->Bool
 |none=>true
 |some k=>(eC r k).isSome
def kP:List (Nat × Option Ex)->Nat->Option Ex->List (Nat × Option Ex)
 | [],_,_=>[]
 | (j,v)::r,i,e=>if j=i then (j,e)::kP r i e else (j,v)::kP r i e
def kQ:List (Nat × Option Ex)->Nat->List (Nat × Option Ex)
 | [],_=>[]
 | (j,v)::r,i=>if j=i then kQ r i else (j,v)::kQ r i
def lQ:List (Nat × SV)->List Nat->List SV->List (Nat × SV)
 |t,p::ps,v::vs=>lQ ((p,v)::t) ps vs
 |t,_,_=>t
def lg(m:Mem)(o:aY):Nat->List Nat->List Nat->List Nat
  |0,todo,seen=>todo++seen
  |_+1,[],seen=>seen
  |n+1,k::r,seen=>if seen.contains k=true then lg m o n r seen else
    lg m o n ((match getM m k with|some (cs,_)=>aE cs|none=>[])++(match aD o k with|some (ce,_,_)=>aE (iN ce)|none=>[])++r) (k::seen)
def St.prune(n0:Nat)(v:SV)(st:St):St :=
 if (st.m.takeWhile λx=>decide (n0<=x.1)).length<24 then st else
  let eB:=(st.m.filter λx=>decide (x.1<n0)).flatMap (λx=>(aE x.2.1).filter λk=>decide (n0<=k))++(st.o.filter λx=>decide (x.1<n0)).flatMap (λx=>(aE (iN x.2.1)).filter λk=>decide (n0<=k));let lv:=lg st.m st.o 3000 (dW v++eB) []
  {st with m:=st.m.filter λx=>decide (x.1<n0) || lv.contains x.1,o:=st.o.filter λx=>decide (x.1<n0) || lv.contains x.1}
def lh:Code->Option (Tmp × Code)
  | .seq (.region _ ops false) rest=>match ops.toList with
    | [⟨some d,.call {callee := .builtin .recover,args,..},_,_,_,none⟩]=>if args.toList.length=0 then some (d,rest)else none
    |_=>none
  |_=>none
def leave(A:bZ R)(G:bY)(ex:Code->St->(Ex->St->R)->R)(fn:Func)(e:Ex)(s:St)(KR:SV->St->R)(KP:Nat->St->R):R :=
  match s.df with
  | []=>match e with
    | .exit _ => A.fail "leave: exit"
    | .iC i=>match s.d with
      | []=>KP i s
      |_ => A.fail "leave: marks"
    |_=>match dc G.P s fn.results.toList with
      |some l=>KR (cd l) s
      |none => A.fail "leave: results"
  | [(g,az)]=>match s.d,G.P.funcs[g]? with
    | [],some gn=>match gn.body with
      |some b=>match lh b with
        |some (dst,rest) =>
          if gn.results.toList=[]/\G.inl.contains g=true then
            let args:=az.map cU
            let rv:Option SV:=match e with
              | .exit _=>none
              | .iC i=>if (fv s.k i).isSome=true then some (.cv (.one (.val i)))else none
              |_=>some (.cv (.one .mE))
            match rv with
            |none => A.fail "leave: exit"
            |some rv=>St.put A {t:=(List.range args.length).zip args,n:=args.length+(gn.ntmps-args.length),m:=s.m,c:=s.c,o:=s.o,r:=s.r,d := [],k:=s.k} (some dst) rv s.c λs1 =>
              ex rest s1 λe2 s2 =>
                let back:R:=match s2.d,s2.df with
                  | [],[]=>match dc G.P {t:=s.t,n:=s.n,m:=s2.m,c:=s2.c,o:=s2.o,r:=s2.r,d:=s.d,k:=s2.k} fn.results.toList with
                    |some l=>KR (cd l) {t:=s.t,n:=s.n,m:=s2.m,c:=s2.c,o:=s2.o,r:=s2.r,d:=s.d,k:=s2.k}
                    |none => A.fail "leave: results"
                  |_, _ => A.fail "leave: closure"
                match e2 with
                | .normal=>back
                | .ret=>back
                |_ => A.fail "leave: closure"
          else A.fail "leave: closure's results"
        |none => A.fail "leave: closure's form"
      |none => A.fail "leave: closure's body"
    |_, _ => A.fail "leave: closure"
  |_ => A.fail "leave: closures"
def qv(A:bZ R)(G:bY)(ex:Option Nat->Yl R->Code->St->(Ex->St->R)->R)(yl:Yl R)(K:Ex->St->R):vS R:=λf args s K'=>match G.P.funcs[f]? with
  |none => A.fail "inline: no such function"
  |some fn=>match fn.body with
    |none => A.fail "inline: no body"
    |some b =>
      nf (λt=>({t:=t,n:=args.length+(fn.ntmps-args.length),m:=s.m,c:=s.c,o:=s.o,r:=s.r,d := [],k:=s.k}:St).norm λs0=>ex none yl b s0 λe s' =>
        leave A G (ex none yl) fn e s' (λv s2=>K' v (St.prune s.c.nk v {t:=s.t,n:=s.n,m:=s2.m,c:=s2.c,o:=s2.o,r:=s2.r,d:=s.d,k:=s2.k,df:=s.df}))
          λi s2=>K (.iC i) {t:=s.t,n:=s.n,m:=s2.m,c:=s2.c,o:=s2.o,r:=s2.r,d:=s.d,k:=s2.k,df:=s.df}) args 0 []
def vX(A:bZ R)(G:bY)(n:Nat)(ex:Option Nat->Yl R->Code->St->(Ex->St->R)->R)(yl:Yl R)(K:Ex->St->R):vS R:=λf args s K'=>match G.rX with
  | []=>match G.marks with
    | []=>qv A G ex yl K f args s K'
    |_::_=>match G.marks.contains f with
      |true=>A.mark (some n) f args s (qv A G ex yl K f args s λv s'=>A.mark none f [v] s' (K' v s'))
      |false=>qv A G ex yl K f args s K'
  |_::_=>match iL n f args s G.rX with
    |some e=>qf A e.asks (K' e.v e.s')
    |none=>qv A G ex yl K f args s K'
def tX(A:bZ R)(ex:Code->St->(Ex->St->R)->R)(d:Tmp)(a b:Code)(st:St)(K:Ex->St->R):R:=match aq st.t d with
  | .cv (.one (.bool e)) => if d<st.n then fe A e (λ_ => (st.cQ d true).norm λst => ex a st K) (λ_ => (st.cQ d false).norm λst => ex b st K) else A.fail "cond: slot"
  |_ => A.fail "cond: unknown"
def tY(A:bZ R)(G:bY)(ex:Option Nat->Yl R->Code->St->(Ex->St->R)->R)(rd:Option Nat)(yl:Yl R)(g:Tmp)(ps:Array Tmp)(assign body:Code)(st:St)(K:Ex->St->R):R:=match aq st.t g with
  | .cv (.one (.fn f az)) =>
    if G.inl.contains f=true/\g<st.n/\tW st.r rd=true/\st.df=[]then
      let kr:=st.c.nk
      let RM:Yl R:=λk args s K' =>
        if k=kr then
          if eC s.r kr=some none/\args.length=ps.size/\(ps.all λp=>decide (p<st.n))=true then
            ex (some kr) yl assign {t:=lQ st.t ps.toList args,n:=st.n,m:=s.m,c:=s.c,o:=s.o,r:=s.r,d := [],k:=s.k} λe s1=>match e with
              | .normal=>if eC s1.r kr=some none then ex (some kr) yl body {s1 with r:=kP s1.r kr (some .normal)} λe s2 =>
                if eC s2.r kr=some (some .normal)/\s2.df=[]then match e with
                  | .normal=>K' (.cv (.one (.bool (.lit true)))) {t:=s.t,n:=s.n,m:=s2.m,c:=s2.c,o:=s2.o,r:=kP s2.r kr none,d:=s.d,k:=s2.k,df:=s.df}
                  | .iC _ => A.fail "yield: panic"
                  |e=>K' (.cv (.one (.bool (.lit false)))) {t:=s.t,n:=s.n,m:=s2.m,c:=s2.c,o:=s2.o,r:=kP s2.r kr (some e),d:=s.d,k:=s2.k,df:=s.df}
                else A.fail "yield: record"
                else A.fail "yield: record at first"
              |_ => A.fail "yield: assignment"
          else A.fail "yield: not ready"
        else yl k args s K'
      match G.P.funcs[f]? with
      |none => A.fail "range: no such function"
      |some fn=>match fn.body with
        |none => A.fail "range: no body"
        |some b =>
          let args:=SV.cv (.one (.p_ kr))::az.map cU
          ex none RM b {t:=(List.range args.length).zip args,n:=args.length+(fn.ntmps-args.length),m:=st.m,c := {st.c with nk:=kr+2},o:=st.o,r:=(kr,none)::st.r,d := [],k:=st.k} λe s' =>
            if ¬s'.df = [] then A.fail "range: defers" else
            match e with
            | .exit _ => A.fail "range: exit"
            | .iC _ => A.fail "range: panic"
            |_=>match dc G.P s' fn.results.toList with
              |some _=>match eC s'.r kr with
                |some none=>K .normal {t:=st.t,n:=st.n,m:=s'.m,c:=s'.c,o:=s'.o,r:=kQ s'.r kr,d:=if rd.isSome=true then st.d else (kr+1)::st.d,k:=s'.k}
                |some (some .normal) => A.fail "range: busy"
                |some (some (.iC _)) => A.fail "range: panic"
                |some (some e)=>K e {t:=st.t,n:=st.n,m:=s'.m,c:=s'.c,o:=s'.o,r:=kQ s'.r kr,d:=if rd.isSome=true then st.d else (kr+1)::st.d,k:=s'.k}
                |none => A.fail "range: record"
              |none => A.fail "range: results"
    else A.fail "range: function"
  |_ => A.fail "range: value"
def tZ(A:bZ R)(G:bY)(ex:Option Nat->Yl R->Code->St->(Ex->St->R)->R)(n:Nat)(rd:Option Nat)(yl:Yl R)(b:Code)(st:St)(K:Ex->St->R):R:=match (G.loops.lookup (keyOf b)).bind (LH.parts st.m)with
  |some (oX,cells,aW,kill)=>match n9 st cells,gO st.t aW with
    |some fc,some vs =>
      let free:=oX++fc
      match i6 st.m st.o free with
      |none => A.fail "loop: cells"
      |some ms =>
        let yQ:=vs.flatMap CV.cells++ms
        match dX st.o yQ with
        |none => A.fail "loop: kinds"
        |some ks =>
          if (aG yQ).Nodup then
            let fr:=ao st.c ks;let fo:=aV st.c ks;let ij:=((aG fr).zip (aG yQ)).filter λp=>(qZ G st (keyOf b)).contains p.2 || isMap st.o p.2
            let yR:St:=iy ij {t:=cO (dY st.t kill) aW vs fr,n:=st.n,m:=bH st.m free (fr.drop (vs.flatMap CV.cells).length),c:=aK st.c ks,o:=fo++bI st.o (aG yQ),r:=st.r,d:=st.d,k:=st.k,df:=st.df}
            A.loop st.o yQ fo fr λcont =>
              ex rd yl b yR λe s=>match e with
                | .normal=>match gO s.t aW,i6 s.m s.o free with
                  |some i7,some kR =>
                    if oa yR s aW free (fo.map (·.1)++ij.map (·.2))=true/\((aG fr).zip (aG (i7.flatMap CV.cells++kR))).all (fun p=>ij.all fun q=>q.1 != p.1 || q.2 == p.2)=true/\i7.map CV.shape=vs.map CV.shape/\dX s.o (i7.flatMap CV.cells++kR)=some ks/\(aG (i7.flatMap CV.cells++kR)).Nodup /\
                        (aG (i7.flatMap CV.cells++kR)).all (λk=>fo.any (λx=>x.1 == k) || (bI st.o (aG yQ)).all λx=>x.1 != k)=true then
                      cont s.o (i7.flatMap CV.cells++kR)
                    else A.fail "loop: not the same"
                  |_, _ => A.fail "loop: values"
                |e=>K e s
          else A.fail "loop: rows twice"
    |_, _ => A.fail "loop: slots"
  |none=>jZ A (ex rd yl b) K n st
def exec(A:bZ R)(G:bY):Nat->Option Nat->Yl R->Code->St->(Ex->St->R)->R
  |0, _, _, _, _, _ => A.fail "fuel"
  |n+1,rd,yl,c,st,K =>
    match c with
    | .skip=>K .normal st
    | .label _=>K .normal st
    | .ret=>K .ret st
    | .exit id=>K (.exit id) st
    | .region _ ops draw=>if draw=true then qs A G (vX A G n (exec A G n) yl K) yl rd.isNone (λi s=>K (.iC i) s) ops st (K .normal)else jO A (lM A G (vX A G n (exec A G n) yl K) yl rd.isNone λi s=>K (.iC i) s) ops ops.toList st (K .normal)
    | .seq a b=>exec A G n rd yl a st λe s=>match e with
      | .normal=>exec A G n rd yl b s K
      |e=>K e s
    | .cond (.tmp d) a b=>tX A (exec A G n rd yl) d a b st K
    | .cond (.const (.bool t)) a b=>if t=true then exec A G n rd yl a st K else exec A G n rd yl b st K
    | .block id b=>exec A G n rd yl b st λe s=>match e with
      | .exit i=>if i=id then K .normal s else K (.exit i) s
      |e=>K e s
    | .scope b => if rd = none then exec A G n rd yl b st K else A.fail "scope in a round"
    | .rangeFunc (.tmp g) ps assign body=>tY A G (exec A G n) rd yl g ps assign body st K
    | .loop b=>tZ A G (exec A G n) n rd yl b st K
    |_ => A.fail "code"
def xA(A:bZ R)(G:bY)(n:Nat)(fn:Func)(b:Code)(args:List SV)(c:an)(k:bK := []):R :=
  exec A G n none (λ_ _ _ _ => A.fail "yield") b { t := (List.range args.length).zip args, n := args.length + (fn.ntmps - args.length), m := [], c := c, k := k } fun e s =>
    leave A G (exec A G n none λ_ _ _ _ => A.fail "yield") fn e s (λv s2 => A.fin v (cu s2.m ((oZ v).flatMap CV.cells)) (dL s2.o ((oZ v).flatMap CV.cells))) λi _ => A.yJ i
def t_(A:bZ R)(G:bY)(n:Nat)(fn:Func)(b:Code)(args:List SV)(bs:List (List At × TypeId))(c:an)(k:bK := []):R :=
  exec A G n none (λ_ _ _ _ => A.fail "yield") b { t := (List.range args.length).zip args, n := args.length + (fn.ntmps - args.length), m := (List.range bs.length).zip bs, c := c, k := k } fun e s =>
    leave A G (exec A G n none λ_ _ _ _ => A.fail "yield") fn e s (λv s2 => A.Ca v (cu s2.m ((List.range bs.length).map (λk => At.loc k 0) ++ (oZ v).flatMap CV.cells)) (dL s2.o ((oZ v).flatMap CV.cells)) (bs.map (·.2))) λi _ => A.yJ i
end Vc
