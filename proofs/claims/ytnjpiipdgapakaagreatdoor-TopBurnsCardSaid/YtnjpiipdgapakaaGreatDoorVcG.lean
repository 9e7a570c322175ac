import Derived.Test.YtnjpiipdgapakaaGreatDoorVcC
import Derived.Laws.StructEq
import Derived.Laws.Entries
import Derived.DeepKeys
import Derived.Laws.CopyRow
import Derived.Laws.Cells
set_option linter.unusedVariables false
set_option linter.unusedSimpArgs false
namespace Vc
open Go Go.RowKit
def aw(v:Value)(W:World)(e:Ending)(w':World):Prop:=e=.returned v/\Below W.heap.size W w'
def b0:Nat->Nat:=λ_=>0
structure dN extends World where
 mH:List Nat := []
structure bn(x:Nat)(W w':World):Prop where
 os:w'.os=W.os
 tape:w'.tape=W.tape
 output:w'.output=W.output
 size:W.heap.size<=w'.heap.size
 block:∀k,k<W.heap.size->k≠x->w'.heap[k]? = W.heap[k]?
structure ua(xs:List Nat)(W w':World):Prop where
 os:w'.os=W.os
 tape:w'.tape=W.tape
 output:w'.output=W.output
 size:W.heap.size<=w'.heap.size
 block:∀k,k<W.heap.size->k ∉ xs->w'.heap[k]? = W.heap[k]?
def cS(W:dN)(w':World):Prop:=match W.mH with
 | []=>Below W.heap.size W.toWorld w'
 | [x]=>bn x W.toWorld w'
 |x::y::l=>ua (x::y::l) W.toWorld w'
def ny(v:Value)(x:Nat)(cs:Array Value)(t:TypeId)(W:World)(e:Ending)(w':World):Prop:=e=.returned v/\bn x W w'/\w'.heap[x]? = some (.cells cs t)
def Cl(v:Value)(l:List (Nat × Array Value × TypeId))(W:World)(e:Ending)(w':World):Prop:=e=.returned v/\ua (l.map (·.1)) W w'/\∀x∈l,w'.heap[x.1]? = some (.cells x.2.1 x.2.2)
def dT(W:dN)(b:Nat):Prop:=match W.mH with
 | []=>W.heap.size<=b
 | [x]=>b=x∨W.heap.size<=b
 |x::y::l=>b∈x::y::l∨W.heap.size<=b
def nz(x:Nat)(W:World):World := {W with heap:=W.heap.setIfInBounds x (.deferred none)}
def q_:List Nat->World->World
 | [],W=>W
 |x::l,W=>nz x (q_ l W)
def dN.seen(W:dN):World:=q_ W.mH W.toWorld
theorem cS.os{W:dN}{w':World}(h:cS W w'):w'.os=W.os:=by
 unfold cS at h;split at h<;>exact h.os
theorem cS.tape{W:dN}{w':World}(h:cS W w'):w'.tape=W.tape:=by
 unfold cS at h;split at h<;>exact h.tape
theorem cS.output{W:dN}{w':World}(h:cS W w'):w'.output=W.output:=by
 unfold cS at h;split at h<;>exact h.output
theorem cS.size{W:dN}{w':World}(h:cS W w'):W.heap.size<=w'.heap.size:=by
 unfold cS at h;split at h<;>exact h.size
theorem cS.block{W:dN}{w':World}(h:cS W w')(k:Nat)(hk:k<W.heap.size)(hl:k ∉ W.mH):w'.heap[k]? = W.heap[k]? := by
 unfold cS at h;split at h
 ·exact h.block k hk
 ·rename_i x hx;exact h.block k hk λe=>hl (by rw [hx,e];exact List.mem_singleton.2 rfl)
 ·rename_i x y l hx;exact h.block k hk (by rw [hx]at hl;exact hl)
theorem cS.mk{W:dN}{w':World}(h1:w'.os=W.os)(h2:w'.tape=W.tape)(h3:w'.output=W.output)(h4:W.heap.size<=w'.heap.size)(h5:∀k,k<W.heap.size->k ∉ W.mH->w'.heap[k]? = W.heap[k]?):cS W w':=by
 unfold cS;split
 ·rename_i hx;exact⟨h1,h2,h3,h4,λk hk=>h5 k hk (by rw [hx];simp)⟩
 ·rename_i x hx;exact⟨h1,h2,h3,h4,λk hk hn=>h5 k hk (by rw [hx];simpa using hn)⟩
 ·rename_i x y l hx;exact⟨h1,h2,h3,h4,λk hk hn=>h5 k hk (by rw [hx];exact hn)⟩
theorem cS.trans{W:dN}{w w':World}(h:cS W w)(hb:Below w.heap.size w w'):cS W w' :=
 cS.mk (hb.os.trans h.os) (hb.tape.trans h.tape) (hb.output.trans h.output) (Nat.le_trans h.size hb.size) λk hk hl=>(hb.block k (Nat.lt_of_lt_of_le hk h.size)).trans (h.block k hk hl)
theorem cS.drew{W:dN}{w:World}(h:cS W w):cS W w.drew:=cS.mk h.os h.tape h.output h.size h.block
theorem cS.refl(W:dN):cS W W.toWorld:=cS.mk rfl rfl rfl (Nat.le_refl _) λ_ _ _=>rfl
theorem dT.out{W:dN}{b:Nat}(h:dT W b):b∈W.mH∨W.heap.size<=b:=by
 unfold dT at h;split at h
 ·exact .inr h
 ·rename_i x hx;rcases h with h|h
  ·exact .inl (by rw [hx,h];exact List.mem_singleton.2 rfl)
  ·exact .inr h
 ·rename_i x y l hx;rw [hx];exact h
theorem dT.mk{W:dN}{b:Nat}(h:b∈W.mH∨W.heap.size<=b):dT W b:=by
 unfold dT;split
 ·rename_i hx;rcases h with h|h
  ·rw [hx]at h;cases h
  ·exact h
 ·rename_i x hx;rcases h with h|h
  ·rw [hx]at h;exact .inl (by simpa using h)
  ·exact .inr h
 ·rename_i x y l hx;rw [hx]at h;exact h
theorem Hq{x:Nat}{W:World}{a:Addr}{v:Value}(h:(nz x W).cell? a=some v):a.block≠x/\W.cell? a=some v:=by
 have hx:a.block≠x:=by
  intro e;have hb:=World.block_lt_of_cell? _ _ h;unfold World.cell? nz at h;subst e;simp only [nz,Array.size_setIfInBounds]at hb;simp [Array.getElem?_setIfInBounds,hb]at h
 refine⟨hx, ?_⟩;rw [<-h];unfold World.cell? nz;rw [Array.getElem?_setIfInBounds_ne (by omega)]
theorem NI{W:World}{a:Addr}{v:Value}:∀{xs:List Nat},(q_ xs W).cell? a=some v->a.block ∉ xs/\W.cell? a=some v
  | [],h=>⟨List.not_mem_nil,h⟩
  |x::l,h=>by
    obtain⟨h1,h2⟩:=Hq (show (nz x (q_ l W)).cell? a=some v from h);obtain⟨h3,h4⟩:=NI h2;exact⟨λhm=>(List.mem_cons.1 hm).elim h1 h3,h4⟩
theorem cS.cell{W:dN}{w:World}(h:cS W w){a:Addr}{v:Value}(hc:W.seen.cell? a=some v):w.cell? a=some v:=by
 obtain⟨hb,hc⟩:=NI hc;rw [<-hc];unfold World.cell?;rw [h.block a.block (World.block_lt_of_cell? _ _ hc) hb]
inductive Vl where
 |i (n:Int)
 |b (b:Bool)
 |v (v:Value)
 |s (l:List UInt8)
 |l (xs:List Value)
def vl(o:aY)(J:Env):At->Vl
  | .int _ e=>.i (e.den J)
  | .bool e=>.b (e.den J)
  | .str l=>.s l
  | .sv i=>.s (J.s i)
  | .own k=>match aD o k with
    |some (ce,_,_)=>.l (ak J b0 ce)
    |none=>.l []
  |a=>.v (a.den J b0)
def se:List At->(Env->Prop)->Env->Prop
 | [],k,J=>k J
 | .int _ (.var n)::l,k,J=>∃x:Int,se l k (J.fI n x)
 | .bool (.var n)::l,k,J=>∃x:Bool,se l k (J.kL n x)
 | .val n::l,k,J=>∃x:OV,se l k (J.mD n x)
 | .sv n::l,k,J=>∃x:List UInt8,se l k (J.oP n x)
 | .fu q p _ (.var n) (.var m)::l,k,J=>∃(x:Bool) (y:Nat × Nat) (a b:Int),se l k ((((J.kL q x).pZ p y).fI n a).fI m b)
 |_,_,_=>False
def lR(o:aY):List At->(Env->Prop)->Env->Prop
  | [],k,J=>k J
  | .int _ (.var n)::l,k,J=>∀x:Int,lR o l k (J.fI n x)
  | .bool (.var n)::l,k,J=>∀x:Bool,lR o l k (J.kL n x)
  | .val n::l,k,J=>∀x:OV,lR o l k (J.mD n x)
  | .sv n::l,k,J=>∀x:List UInt8,lR o l k (J.oP n x)
  | .fu q p _ (.var n) (.var m)::l,k,J=>∀(x:Bool) (y:Nat × Nat) (a b:Int),lR o l k ((((J.kL q x).pZ p y).fI n a).fI m b)
  | .own j::l,k,J=>match aD o j with
    |some ([.var n],_,_)=>∀x:List OV,lR o l k (J.jy n x)
    |_=>False
  |_,_,_=>False
def fN(own:Nat->Prop)(b code n base:Nat)(xs:List Value)(sz:Nat)(t:TypeId)(w:World):Prop :=
 xs.length=n*sz/\0<sz/\((code<=1/\n=0) ∨
  (2<=code/\base=0/\own b/\n<=code-1/\code-1<=maxLen/\∃cur,w.heap[b]? = some (.cells cur t (0,0))/\cur.size=(code-1)*sz/\cur.toList.take (n*sz)=xs))
def ub(es:Array MapEntry):List Value:=es.toList.flatMap λe=>e.key.cells.toList++e.val.cells.toList
def de(c:Nat)(v:Value):Prop:=if c % 2=1 then ∃cs,v=.agg cs/\cs.size=c / 2 else v.oneCell'=true/\c=2
def xB(ob:Option Obj)(n:Nat)(xs:List Value)(t:Nat):Prop:=match t with
 |0=>n=xs.length/\∃C ty mk,ob=some (.cells C ty mk)/\C.toList.take xs.length=xs
 |t+1=>∃es clock,ob=some (.map es clock)/\ub es=xs/\∀e∈es.toList,de ((t+1) / 1048576) e.key/\de ((t+1) % 1048576) e.val
def bF(own:Nat->Prop)(b code n base:Nat)(xs:List Value)(sz:Nat)(t:TypeId)(w:World):Prop :=
 fN own b code n base xs sz t w∨(sz=0/\own b/\2<=code/\xB (w.heap[b]?) n xs t)
theorem bF.eB{own:Nat->Prop}{b code n base:Nat}{xs:List Value}{sz:Nat}{t:TypeId}{w:World}(h:bF own b code n base xs sz t w)(hz:0<sz):fN own b code n base xs sz t w:=by
 rcases h with h|⟨h,_⟩
 ·exact h
 ·omega
theorem bF.imp{own Cm:Nat->Prop}{b code n base:Nat}{xs:List Value}{sz:Nat}{t:TypeId}{w:World}(h:bF own b code n base xs sz t w)(f:2<=code->own b->Cm b):bF Cm b code n base xs sz t w:=by
 rcases h with ⟨a1,a2,a3⟩|⟨a1,a2,a3,a4⟩
 ·refine .inl ⟨a1,a2, ?_⟩;rcases a3 with a3|⟨b1,b2,b3,b4⟩
  ·exact .inl a3
  ·exact .inr ⟨b1,b2,f b1 b3,b4⟩
 ·exact .inr ⟨a1,f a3 a2,a3,a4⟩
theorem bF.heap{own:Nat->Prop}{b code n base:Nat}{xs:List Value}{sz:Nat}{t:TypeId}{w w':World}(h:bF own b code n base xs sz t w)(hh:2<=code->w'.heap[b]? = w.heap[b]?):bF own b code n base xs sz t w':=by
 rcases h with ⟨a1,a2,a3⟩|⟨a1,a2,a3,a4⟩
 ·refine .inl ⟨a1,a2, ?_⟩;rcases a3 with a3|⟨b1,b2,b3,b4,b5,cur,b6,b7,b8⟩
  ·exact .inl a3
  ·exact .inr ⟨b1,b2,b3,b4,b5,cur,by rw [hh b1,b6],b7,b8⟩
 ·exact .inr ⟨a1,a2,a3,by rw [hh a3];exact a4⟩
theorem bF.own{own:Nat->Prop}{b code n base:Nat}{xs:List Value}{sz:Nat}{t:TypeId}{w:World}(h:bF own b code n base xs sz t w)(hc:2<=code):own b:=by
 rcases h with ⟨a1,a2,a3⟩|⟨a1,a2,a3,a4⟩
 ·rcases a3 with a3|⟨b1,b2,b3,b4⟩
  ·omega
  ·exact b3
 ·exact a2
def Datum:Obj->Prop
 | .loop _=>False
 | .deferred _=>False
 |_=>True
theorem bF.datum{own:Nat->Prop}{b code n base:Nat}{xs:List Value}{sz:Nat}{t:TypeId}{w:World}(h:bF own b code n base xs sz t w)(hc:2<=code):∃o,w.heap[b]? = some o/\Datum o:=by
 rcases h with ⟨a1,a2,a3⟩|⟨a1,a2,a3,a4⟩
 ·rcases a3 with a3|⟨b1,b2,b3,b4,b5,cur,b6,b7,b8⟩
  ·omega
  ·exact⟨_,b6,trivial⟩
 ·cases t with
  |zero=>obtain⟨_,C,ty,mk,h,_⟩:=a4;exact⟨_,h,trivial⟩
  |succ t=>obtain⟨es,cl,h,_⟩:=a4;exact⟨_,h,trivial⟩
def yS(v:Value)(b code n base:Nat)(xs:List Value)(sz:Nat)(t:TypeId)(W:World)(e:Ending)(w':World):Prop :=
 e=.returned v/\(code<=1->Below W.heap.size W w')/\(2<=code->bn b W w')/\bF (λ_=>True) b code n base xs sz t w'
abbrev pa(lo b code n base:Nat)(xs:List Value)(sz:Nat)(t:TypeId)(w:World):Prop:=bF (λb=>lo<=b) b code n base xs sz t w
def uc(W:dN)(J:Env)(β:Nat->Nat):aY->World->Prop
 | [],_=>True
 | (k,ce,sz,t)::r,w=>bF (dT W) (β k) (β (k+1)) (β (k+2)) (β (k+3)) (ak J β ce) sz t w/\uc W J β r w
def lS(W:dN)(J:Env)(β:Nat->Nat):Mem->aY->World->Prop
 | [],o,w=>uc W J β o w
 | (k,cs,t)::r,o,w=>(dT W (β k)/\w.heap[β k]? = some (.cells (cs.map (At.den J β)).toArray t))/\lS W J β r o w
def gP(W:World)(v:Value)(sz:Nat)(xs:List Value):Prop :=
 (v=.slice none 0 0/\xs=[])∨(∃a,v=.slice (some a) 0 0/\xs=[])∨∃b o len cap,v=.slice (some ⟨b,o,none⟩) len cap/\xs.length=len*sz/\∀j u,xs[j]? = some u->W.cell? ⟨b,o+j,none⟩=some u
def A9(b:UInt8):Value := .int .u8 b.toNat
def LP.den(J:Env):LP->List Value
 | .set ce ix sz off l=>(ak J b0 ce).take ((ix.den J).toNat*sz+off)++l.map (At.den J b0)++(ak J b0 ce).drop ((ix.den J).toNat*sz+off+l.length)
 | .oE i=>(J.s i).map A9
 | .rep n l=>times (l.map (At.den J b0)) (n.den J).toNat
def dZ:SV->Bool
 | .cv c=>c.flat
 | .kx l=>l.all CV.flat
 |_=>true
def pb(m:Mem):Nat->List TypeId->Option (List (List At))
  |_,[]=>some []
  |k,t::r=>match getM m k,pb m (k+1) r with
    |some (cs,t'),some l=>if t'=t then some (cs::l)else none
    |_,_=>none
def At.iH(n:Nat):At->Bool
 | .loc k _=>decide (k<n)
 | .fn _ az=>az.all λx=>decide (x.1<n)
 |a=>a.flat
def dD(xs:List Nat):Nat->Nat:=λk=>xs.getD k 0
def vY(v:Value)(l:List (Nat × Array Value × TypeId))(W:World):Ending->World->Prop:=match l with
 | [x]=>ny v x.1 x.2.1 x.2.2 W
 |l=>Cl v l W
def j8(l:List Nat)(C:Prop):Prop:=match l with
 | []=>C
 | [_]=>C
 |x::y::l=>(x::y::l).Nodup->C
def Hr(v:Value)(xs:List Nat)(W:World)(e:Ending)(w':World):Prop:=e=.panicked [{v:=v,recovered:=false}]/\ua xs W w'
theorem j8.out{l:List Nat}{C:Prop}(h:j8 l C)(hn:l.Nodup):C:=by
 unfold j8 at h;split at h
 ·exact h
 ·exact h
 ·exact h hn
theorem vY.out{v:Value}{l:List (Nat × Array Value × TypeId)}{W:World}{e:Ending}{w':World}(h:vY v l W e w'):Cl v l W e w':=by
 unfold vY at h;split at h
 ·obtain⟨h1,h2,h3⟩:=h;refine⟨h1,⟨h2.os,h2.tape,h2.output,h2.size,λk hk hn=>h2.block k hk λe=>hn (by simp [e])⟩,λy hy => ?_⟩;simp only [List.mem_singleton]at hy;subst hy;exact h3
 ·exact h
def yT(bk ck:Nat)(xs:List Value)(sz:Nat)(t:TypeId)(W:World)(e:Ending)(w':World):Prop :=
  ∃b code n base,e=.returned (cj b code n base)/\bF (λ_=>True) b code n base xs sz t w'/\(w'.os=W.os/\w'.tape=W.tape/\w'.output=W.output/\W.heap.size<=w'.heap.size) /\
    (∀x,x<W.heap.size->(2<=ck->x≠bk)->w'.heap[x]? = W.heap[x]?)/\(2<=code->W.heap.size<=b∨(2<=ck/\b=bk))
def PA(P:Program)(W:dN)(Q:Value->Prop)(QM QP:World->Value->Prop):bZ (Env->Prop) where
  fail _:=λ_=>False
  fin v m o:=λJ=>match dZ v with
    |true=>Q (v.den J b0)
    |false=>∀(β:Nat->Nat) (w':World),cS W w'->lS W J β m o w'->QM w' (v.den J β)
  int n p k:=λJ=>∀x:Int,x=p.den J->k (J.fI n x)
  jW e k:=λJ=>e.prop J/\k J
  ite e t f:=λJ=>(e.prop J->t J)/\(¬e.prop J->f J)
  call f args m o fr r k:=λJ=>se fr (λaa=>(match args.all dZ with
    |true=>∀w':World,cS W w'->Calls P f (args.map (SV.den J b0)).toArray w' (aw (r.den aa b0) w')
    |false=>∀(β:Nat->Nat) (w':World),cS W w'->lS W J β m o w'->Calls P f (args.map (SV.den J β)).toArray w' (aw (r.den aa b0) w'))/\k aa) J
  m9 f args fr r k:=λJ=>se fr (λaa=>(args.all dZ=true/\∀w':World,(callFunc f (args.map (SV.den J b0)).toArray).run P w'=.ok (.value (r.den aa b0)) w')/\k aa) J
  load a p ix sz off k:=λJ=>se [a] (λaa=>W.seen.cell? ⟨(J.p p).1,(J.p p).2+(ix.den J).toNat*sz+off,none⟩=some (a.den aa b0)/\k aa) J
  loop oi i fo fr body:=λJ=>∃(Inv:List Vl->Prop) (μ:List Vl->Nat),Inv (i.map (vl oi J)) /\
    lR fo fr (λaa=>Inv (fr.map (vl fo aa))->body (λoy ys I=>Inv (ys.map (vl oy I))/\μ (ys.map (vl oy I))<μ (fr.map (vl fo aa))) aa) J
  rd a ce ix sz off k:=λJ=>se [a] (λaa=>(ak J b0 ce)[(ix.den J).toNat*sz+off]? = some (a.den aa b0)/\k aa) J
  rY n lp k:=λJ=>∀L:List OV,L.map (·.1)=lp.den J->k (J.jy n L)
  Fe n x sz k:=λJ=>∃L:List OV,gP W.seen (x.den J b0) sz (L.map (·.1))/\k (J.jy n L)
  Ca v m o ts:=λJ=>match pb m 0 ts with
    |some l=>(match dZ v && l.all (λcs=>cs.all (At.iH ts.length))with
      |true=>Q (.agg (v.den J b0::l.map λcs=>.agg (cs.map (At.den J (dD W.mH))).toArray).toArray)
      |false=>False)
    |none=>False
  Hc v o sz t:=λJ=>match aD o 0 with
    |some (ce,tg,t')=>(match dZ v && fK ce && decide (tg=sz/\t'=t)with
      |true=>Q (.agg #[v.den J b0,.agg (ak J b0 ce).toArray])
      |false=>False)
    |none=>False
  xr f args m o k n sz t fr r K:=λJ=>∃L:List OV,se fr (λaa=>(∀(β:Nat->Nat) (w':World),cS W w'->lS W J β m o w'->Calls P f (args.map (SV.den J β)).toArray w' (yS (r.den aa b0) (β k) (β (k+1)) (β (k+2)) (β (k+3)) (L.map (·.1)) sz t w'))/\K aa) (J.jy n L)
  mG g cs ty k:=λJ=>(∃Cn mk,W.seen.heap[g]? = some (.cells (cs.map (At.den J b0)).toArray Cn mk))/\k J
  k_ n t v k:=λJ=>∀x:OV,x.1=.iface t (v.den J b0)->k (J.mD n x)
  alt p q:=λJ=>p J∨q J
  xu f args m o ks fr t v n k:=λJ=>se fr (λaa=>(∀(β:Nat->Nat) (w':World),cS W w'->lS W J β m o w'->j8 (ks.map β) (Calls P f (args.map (SV.den J β)).toArray w' (Hr (.iface t (v.den aa b0)) (ks.map β) w')))/\∀x:OV,x.1=.iface t (v.den aa b0)->k (aa.mD n x)) J
  m_ f args m o k ce sz t K:=λJ=>(∀(β:Nat->Nat) (w':World),cS W w'->lS W J β m o w'->Calls P f (args.map (SV.den J β)).toArray w' (yT (β k) (β (k+1)) (ak J β ce) sz t w'))/\K J
  Cb n ce kc ks ne k:=λJ=>iF ks (ks.length+ne) (ak J b0 ce)=true/\∀x:Int,x=fy ks.length (ks.length+ne) (kc.map (At.den J b0)) (ak J b0 ce)->k (J.fI n x)
  mark _ _ _ _ k:=k
  yJ i:=λJ=>∀w':World,cS W w'->QP w' (J.v i).1
  str n p k:=λJ=>p.ok J/\∀s:List UInt8,s=p.den J->k (J.oP n s)
  xq f args m o js fr r k:=λJ=>se fr (λaa=>(∀(β:Nat->Nat) (w':World),cS W w'->lS W J β m o w'->j8 (js.map λx=>β x.1) (Calls P f (args.map (SV.den J β)).toArray w' (vY (r.den aa b0) (js.map λx=>(β x.1,(x.2.1.map (At.den aa β)).toArray,x.2.2)) w')))/\k aa) J
theorem xC(c:an)(J:Env)(x:Int):Env.au c J (J.fI c.ni x) :=
 ⟨λj hj=>if_neg (Nat.ne_of_lt hj),λ_ _=>rfl,λ_ _=>rfl,λ_ _=>rfl,λ_ _=>rfl,λ_ _=>rfl⟩
theorem NJ(c:an)(J:Env)(x:Bool):Env.au c J (J.kL c.nb x) :=
 ⟨λ_ _=>rfl,λj hj=>if_neg (Nat.ne_of_lt hj),λ_ _=>rfl,λ_ _=>rfl,λ_ _=>rfl,λ_ _=>rfl⟩
theorem Co(c:an)(J:Env)(x:OV):Env.au c J (J.mD c.nv x) :=
 ⟨λ_ _=>rfl,λ_ _=>rfl,λj hj=>if_neg (Nat.ne_of_lt hj),λ_ _=>rfl,λ_ _=>rfl,λ_ _=>rfl⟩
theorem Cp(c:an)(J:Env)(x:List UInt8):Env.au c J (J.oP c.ns x) :=
 ⟨λ_ _=>rfl,λ_ _=>rfl,λ_ _=>rfl,λ_ _=>rfl,λj hj=>if_neg (Nat.ne_of_lt hj),λ_ _=>rfl⟩
theorem re(c:an)(J:Env)(x:List OV):Env.au c J (J.jy c.nl x) :=
 ⟨λ_ _=>rfl,λ_ _=>rfl,λ_ _=>rfl,λ_ _=>rfl,λ_ _=>rfl,λj hj=>if_neg (Nat.ne_of_lt hj)⟩
theorem NK(c:an)(J:Env)(x:Bool)(y:Nat × Nat)(a b:Int):Env.au c J ((((J.kL c.nb x).pZ c.np y).fI c.ni a).fI (c.ni+1) b) :=
 ⟨λj hj=>by
  show (if j=c.ni+1 then b else if j=c.ni then a else J.i j)=J.i j;rw [if_neg (by omega),if_neg (by omega)],λj hj=>if_neg (Nat.ne_of_lt hj),λ_ _=>rfl,λj hj=>if_neg (Nat.ne_of_lt hj),λ_ _=>rfl,λ_ _=>rfl⟩
theorem zn(c:an)(k:CK):c.le (aS c k):=by
 cases k<;>constructor<;>simp [aS]
theorem vo:∀(ks:List CK) (c:an),c.le (aK c ks)
 | [],c=>an.le_refl c
 |k::l,c=>an.le_trans (zn c k) (vo l _)
theorem Fj(c:an)(k:CK):(a8 c k).wf (aS c k)=true:=by
 cases k<;>simp [a8,aS,At.wf,IE.wf,BE.wf]
theorem yU:∀(ks:List CK) (c:an),(ao c ks).all (At.wf (aK c ks))=true
  | [],c=>rfl
  |k::l,c=>by
    simp only [ao,aK,List.all_cons,Bool.and_eq_true];exact⟨At.aH (vo l _) (Fj c k),yU l _⟩
theorem Fk(c:an)(k:CK)(h:k.plain=true):(a8 c k).flat=true:=by cases k<;>first|rfl|cases h
theorem Cq:∀(ks:List CK) (c:an),ks.all CK.plain=true->(ao c ks).all At.flat=true
  | [],c,_=>rfl
  |k::l,c,h=>by
    simp only [List.all_cons,Bool.and_eq_true]at h;simp only [ao,List.all_cons,Fk c k h.1,Cq l _ h.2,Bool.and_self]
theorem ti:∀(ks:List CK) (c:an) {k:Env->Prop} {J:Env},se (ao c ks) k J->∃aa,Env.au c J aa/\k aa
  | [],c,k,J,h=>⟨J,Env.ah _ _,h⟩
  | .int kd::l,c,k,J,h=>by
    obtain⟨x,h⟩:=h;obtain⟨aa,h1,h2⟩:=ti l _ h;exact⟨aa,Env.ae (zn c (.int kd)) (xC c J x) h1,h2⟩
  | .bool::l,c,k,J,h=>by
    obtain⟨x,h⟩:=h;obtain⟨aa,h1,h2⟩:=ti l _ h;exact⟨aa,Env.ae (zn c .bool) (NJ c J x) h1,h2⟩
  | .tf::l,c,k,J,h=>by
    obtain⟨x,h⟩:=h;obtain⟨aa,h1,h2⟩:=ti l _ h;exact⟨aa,Env.ae (zn c .tf) (Co c J x) h1,h2⟩
  | .str::l,c,k,J,h=>by
    obtain⟨x,h⟩:=h;obtain⟨aa,h1,h2⟩:=ti l _ h;exact⟨aa,Env.ae (zn c .str) (Cp c J x) h1,h2⟩
  | .sl sz::l,c,k,J,h=>by
    obtain⟨x,y,a,b,h⟩:=h;obtain⟨aa,h1,h2⟩:=ti l _ h;exact⟨aa,Env.ae (zn c (.sl sz)) (NK c J x y a b) h1,h2⟩
  | .own sz t::l,c,k,J,h=>h.elim
def cr(c:an)(J:Env)(K:SV->an->Env->Prop)(V:SV->Env->Prop):Prop :=
 ∃sv c' aa,K sv c' aa/\c.le c'/\Env.au c J aa/\∀I,Env.au c' aa I->V sv I
theorem cr.pure{c:an}{J:Env}{K:SV->an->Env->Prop}{V:SV->Env->Prop}{sv:SV}(h:K sv c J)(hv:∀I,Env.au c J I->V sv I):cr c J K V :=
 ⟨sv,c,J,h,an.le_refl _,Env.ah _ _,hv⟩
theorem cr.mono{c:an}{J:Env}{K:SV->an->Env->Prop}{V V':SV->Env->Prop}(h:cr c J K V)(hv:∀sv I,Env.au c J I->V sv I->V' sv I):cr c J K V':=by
 obtain⟨sv,c',aa,h1,h2,h3,h4⟩:=h;exact⟨sv,c',aa,h1,h2,h3,λI h5=>hv sv I (Env.ae h2 h3 h5) (h4 I h5)⟩
variable {P:Program} {W:dN} {Q:Value->Prop} {QM QP:World->Value->Prop}
theorem zr{c:an}{k:IntKind}{p:IP}{K:SV->an->Env->Prop}{J:Env}(h:gj (PA P W Q QM QP) c k p K J) :
    cr c J K λsv I=>∀β,sv.den I β=.int k (p.den I)/\sv ≠ .any:=by
  unfold gj at h;cases hl:p.lits with
  |true =>
    rw [hl]at h;simp only [NA]at h;exact cr.pure h λI _ β=>⟨by simp only [SV.den,CV.den,At.den,IE.den];rw [IP.oS hl],by simp⟩
  |false =>
    rw [hl]at h;simp only at h;split at h
    · rename_i hw;have h1:=h (p.den J) rfl;have hle:c.le {c with ni:=c.ni+1}:=zn c (.int k);refine⟨_,_,_,h1,hle,xC c J _,λI hl β=>⟨?_,by simp⟩⟩
      have e1:I.i c.ni=p.den J:=by
        rw [hl.i c.ni (Nat.lt_succ_self _)];exact if_pos rfl
      simp only [SV.den,CV.den,At.den,IE.den,e1];rw [IP.U (Env.ae hle (xC c J _) hl) hw]
    · exact h.elim
theorem Cr{c:an}{p:SP}{K:SV->an->Env->Prop}{J:Env}(h:lA (PA P W Q QM QP) c p K J) :
  cr c J K λsv I=>p.ok I/\sv ≠ .any/\∀β,sv.den I β=.string ⟨(p.den I).toArray⟩:=by
 unfold lA at h;split at h
 ·rename_i hl;rw [Fh]at h
  exact cr.pure h λI _=>⟨(SP.oW (aa:=I) hl.1 hl.2).2,by simp,λβ=>by
   simp only [SV.den,CV.den,At.den];rw [(SP.oW (J:=Env.zero) (aa:=I) hl.1 hl.2).1]⟩
 split at h
 ·rename_i hw;obtain⟨h0,h1⟩:=h;have h1:=h1 (p.den J) rfl;have hle:c.le {c with ns:=c.ns+1}:=zn c .str;refine⟨_,_,_,h1,hle,Cp c J _,λI hl => ?_⟩
  have e1:I.s c.ns=p.den J:=by
   rw [hl.s c.ns (Nat.lt_succ_self _)];exact if_pos rfl
  have hk:=SP.au (Env.ae hle (Cp c J _) hl) hw;refine⟨hk.2 h0,by simp,λβ => ?_⟩;simp only [SV.den,CV.den,At.den,e1];rw [hk.1]
 ·exact h.elim
theorem mJ(J:Env)(n:Int):(IE.lit n).den J=n:=rfl
theorem vZ{J:Env}{d:BE}{t f:Env->Prop}(h:(d.prop J->t J)/\(¬d.prop J->f J)):(d.den J=true/\t J)∨(d.den J=false/\f J):=by
 by_cases hd:d.den J=true
 ·exact .inl ⟨hd,h.1 ((BE.cZ J d).2 hd)⟩
 ·exact .inr ⟨by simpa using hd,h.2 λhp=>hd ((BE.cZ J d).1 hp)⟩
theorem za{e:BE}{r:Env->Prop}{J:Env}(h:bj (PA P W Q QM QP) e r J):e.prop J/\r J:=by
  unfold bj at h;have hs:=BE.eR J e;generalize e.ju=d at h hs;have key:d.prop J/\r J->e.prop J/\r J:=λhh=>⟨(BE.cZ J e).2 (hs▸(BE.cZ J _).1 hh.1),hh.2⟩;cases d with
  |lit b=>cases b with
    |true=>exact key ⟨rfl,h⟩
    |false=>exact key h
  |_=>exact key h
theorem zq{e:BE}{t f:Unit->Env->Prop}{J:Env}(h:fe (PA P W Q QM QP) e t f J):(e.den J=true/\t () J)∨(e.den J=false/\f () J):=by
  unfold fe at h;split at h
  · exact .inl ⟨rfl,h⟩
  · exact .inr ⟨rfl,h⟩
  rw [<-BE.eR J e];generalize e.ju=d at h;cases d with
  |lit b=>cases b with
    |true=>exact .inl ⟨rfl,h⟩
    |false=>exact .inr ⟨rfl,h⟩
  |not d =>
    rcases vZ h with ⟨h1,h2⟩|⟨h1,h2⟩
    · exact .inr ⟨by simp only [BE.den,h1,Bool.not_true],h2⟩
    · exact .inl ⟨by simp only [BE.den,h1,Bool.not_false],h2⟩
  |cmp op a b =>
    cases op
    case neq =>
      rcases vZ (d := .cmp .eql a b) h with ⟨h1,h2⟩|⟨h1,h2⟩
      · exact .inr ⟨by simp only [BE.den,gE]at h1 ⊢;simp [bne,h1],h2⟩
      · exact .inl ⟨by simp only [BE.den,gE]at h1 ⊢;simp [bne,h1],h2⟩
    all_goals exact vZ h
  |_=>exact vZ h
theorem A_{e:IE}{n:Nat}{K:Nat->Env->Prop}{J:Env}(h0:0<=e.den J)(h1:e.den J < n) :
    ∀(j:Nat),j<=n->((n-j:Nat):Int)<=e.den J->hU (PA P W Q QM QP) e n j K J->∃m:Nat,m<n/\e.den J=m/\K m J
  |0,_,_,h=>h.elim
  |1,hj,hl,h=>⟨n-1,by omega,by omega,h⟩
  |j+2,hj,hl,h=>by
    rcases zq h with ⟨hd,h⟩|⟨hd,h⟩
    · simp only [BE.den,gE,mJ,beq_iff_eq]at hd;exact⟨n-(j+2),by omega,hd,h⟩
    · simp only [BE.den,gE,mJ,beq_eq_false_iff_ne,ne_eq]at hd;exact A_ h0 h1 (j+1) (by omega) (by omega) h
theorem Hs(op:BinOp)(t:TypeId)(k:IntKind)(a b:Int)(w:World)(h:iM op=true):(binOp op t (.int k a) (.int k b)).run P w=.ok (.int k (jY op k a b)) w:=by
 cases op<;>first | (simp [iM]at h;done) | (simp [binOp,Op.intArith,Op.intBits,jY,bits])
theorem Ht(op:BinOp)(t:TypeId)(k:IntKind)(a b:Int)(w:World)(h:op=.quo∨op=.rem)(hb:b≠0):(binOp op t (.int k a) (.int k b)).run P w=.ok (.int k (jY op k a b)) w:=by
 rcases h with rfl|rfl<;>simp [binOp,Op.intDiv,jY,hb]
theorem Hu(op:BinOp)(t:TypeId)(k:IntKind)(a b:Int)(w:World)(h:ng op=true):(binOp op t (.int k a) (.int k b)).run P w=.ok (.bool (gE op a b)) w:=by
 cases op<;>first | (simp [ng]at h;done) | (simp [binOp,Op.intCmp,gE])
theorem NL(t:TypeId)(k k':IntKind)(a b:Int)(w:World)(hb:0<=b):(binOp .shl t (.int k a) (.int k' b)).run P w=.ok (.int k (jY .shl k a b)) w:=by
 have:¬b<0:=by omega
 simp [binOp,Op.shift,jY,this]
theorem NM(t:TypeId)(k k':IntKind)(a b:Int)(w:World)(hb:0<=b):(binOp .shr t (.int k a) (.int k' b)).run P w=.ok (.int k (jY .shr k a b)) w:=by
 have:¬b<0:=by omega
 simp [binOp,Op.shift,jY,this]
theorem Hv(k:IntKind)(a n:Int)(h0:0<=n)(h1:n.toNat<k.bits):jY .shl k a n=k.wrap (a*((2 ^ n.toNat:Nat):Int)):=by
 simp only [jY];rw [show Nat.min n.toNat k.bits=n.toNat from Nat.min_eq_left (by omega)]
 norm_cast
theorem Hw(k:IntKind)(a n:Int)(h0:0<=n)(h1:n.toNat<k.bits):jY .shr k a n=a / ((2 ^ n.toNat:Nat):Int):=by
 simp only [jY];rw [show Nat.min n.toNat k.bits=n.toNat from Nat.min_eq_left (by omega)];rw [show ((2:Int) ^ n.toNat)=((2 ^ n.toNat:Nat):Int) by norm_cast];exact Int.fdiv_eq_ediv_of_nonneg _ (Int.natCast_nonneg _)
theorem RN(op:BinOp)(t:TypeId)(x y:Operand)(k k':IntKind)(a b:Int)(w:World):(eqGuard op t x y (.int k a) (.int k' b)).run P w=.ok () w:=by
 cases op<;>simp [eqGuard]
theorem NN(op:BinOp)(t:TypeId)(x y:Operand)(a b:Bool)(w:World):(eqGuard op t x y (.bool a) (.bool b)).run P w=.ok () w:=by
 cases op<;>simp [eqGuard]
def mK(P:Program)(op:BinOp)(t:TypeId)(x y:SV)(sv:SV)(J:Env):Prop :=
 sv ≠ .any/\∀(β:Nat->Nat) (w:World) (xo yo:Operand),((do eqGuard op t xo yo (x.den J β) (y.den J β);binOp op t (x.den J β) (y.den J β)):Sem Value).run P w=.ok (sv.den J β) w
theorem mK.ints{op:BinOp}{t:TypeId}{k k':IntKind}{a b:IE}{sv:SV}{J:Env}(h0:sv ≠ .any)
  (h:∀(β:Nat->Nat) (w:World),(binOp op t (.int k (a.den J)) (.int k' (b.den J))).run P w=.ok (sv.den J β) w):mK P op t (.cv (.one (.int k a))) (.cv (.one (.int k' b))) sv J:=by
 refine⟨h0,λβ w xo yo => ?_⟩;simp only [SV.den,CV.den,At.den,Sem.run_bind,RN,Result.andThen_ok];exact h β w
end Vc
set_option linter.unusedVariables false
namespace Vc
open Go Go.RowKit
variable {P:Program}
theorem v7{k:CK}{r:List CK}{a b:List At}{e:BE}(h:aT (k::r) a b=some e) :
    ∃a0 x b0 y e1 e2,a=a0::x/\b=b0::y/\eU k a0 b0=some e1/\aT r x y=some e2/\e=.and e1 e2:=by
  cases a with
  |nil=>simp [aT]at h
  |cons a0 x =>
    cases b with
    |nil=>simp [aT]at h
    |cons b0 y =>
      simp only [aT]at h;split at h
      · rename_i e1 e2 h1 h2;simp only [Option.some.injEq]at h;exact⟨a0,x,b0,y,e1,e2,rfl,rfl,h1,h2,h.symm⟩
      · cases h
theorem Hx(J:Env):∀ (k1 k2:List CK) {a b:List At} {e:BE},aT (k1++k2) a b=some e ->
    ∃e1 e2,aT k1 (a.take k1.length) (b.take k1.length)=some e1/\aT k2 (a.drop k1.length) (b.drop k1.length)=some e2/\e.den J=(e1.den J && e2.den J)
  | [],k2,a,b,e,h=>⟨.lit true,e,by simp [aT],by simpa using h,by simp [BE.den]⟩
  |c::k1,k2,a,b,e,h=>by
    obtain⟨a0,x,b0,y,e1,e2,rfl,rfl,h1,h2,rfl⟩:=v7 h;obtain⟨f1,f2,q1,q2,q3⟩:=Hx J k1 k2 h2;exact⟨.and e1 f1,f2,by simp [aT,h1,q1],by simpa using q2,by simp only [BE.den,q3,Bool.and_assoc]⟩
def jv(P:Program)(t:TypeId)(J:Env)(β:Nat->Nat)(x:Value)(xs:List At):Prop :=
 match P.underlying t with
 |some (.struct _)|some (.array _ _)=>x=.agg (xs.map (At.den J β)).toArray
 |_=>∃a,xs=[a]/\x=a.den J β
theorem zz{t:TypeId}{g:Bool}{n:Nat}(h:aF P t=some (g,n)) :
  ∃d i,P.underlying t=some d/\P.info? t=some i/\n=i.size/\g=(match d with | .struct _ | .array _ _=>true|_=>false):=by
 unfold aF at h;split at h
 ·rename_i d i h1 h2;simp only [Option.some.injEq,Prod.mk.injEq]at h;exact⟨d,i,h1,h2,h.2.symm,h.1.symm⟩
 ·cases h
theorem Fl{t:TypeId}{g:Bool}{n:Nat}(h:aF P t=some (g,n))(w:World):(isAgg t).run P w=.ok g w:=by
 obtain⟨d,i,h1,h2,rfl,rfl⟩:=zz h;unfold isAgg;simp only [Sem.run_bind,run_underlying h1,Result.andThen_ok];cases d<;>rfl
theorem pc{t:TypeId}{g:Bool}{n:Nat}(h:aF P t=some (g,n))(w:World):(Go.sizeOf t).run P w=.ok n w:=by
 obtain⟨d,i,h1,h2,rfl,rfl⟩:=zz h;simp [Go.sizeOf,typeInfo,h2]
theorem RO(xs:List Value)(off n:Nat):(xs.toArray.extract off (off+n))=((xs.drop off).take n).toArray:=by
 apply Array.ext';rw [Array.toList_extract];simp [List.extract]
theorem Hy{t:TypeId}{g:Bool}{n:Nat}(h:aF P t=some (g,n))(hg:g=true)(xs:List Value)(off:Nat)(w:World) :
  (part t xs.toArray off).run P w=.ok (.agg ((xs.drop off).take n).toArray) w:=by
 subst hg;simp only [part,Sem.run_bind,Fl h,Result.andThen_ok,if_true,pc h,Sem.run_pure,RO]
theorem NO{t:TypeId}{g:Bool}{n:Nat}(h:aF P t=some (g,n))(hg:g=false)(xs:List Value)(off:Nat)(v:Value)(hv:xs[off]? = some v)(w:World) :
  (part t xs.toArray off).run P w=.ok v w:=by
 subst hg;simp [part,Fl h,hv]
theorem A'(J:Env):∀{ks:List CK} {a b:List At} {e:BE},aT ks a b=some e->a.length=ks.length/\b.length=ks.length
  | [],a,b,e,h=>by
    cases a with
    |nil=>cases b with
      |nil=>exact⟨rfl,rfl⟩
      |cons _ _=>simp [aT]at h
    |cons _ _=>simp [aT]at h
  |c::ks,a,b,e,h=>by
    obtain⟨a0,x,b0,y,e1,e2,rfl,rfl,h1,h2,rfl⟩:=v7 h
    have:=A' J h2
    simp [this]
theorem Ba{t:TypeId}{g:Bool}{n:Nat}(h:aF P t=some (g,n)){J:Env}{β:Nat->Nat}(xs:List At)(off:Nat)(hs:g=false->n=1)(hl:((xs.drop off).take n).length=n)(w:World) :
    ∃v,(part t (xs.map (At.den J β)).toArray off).run P w=.ok v w/\jv P t J β v ((xs.drop off).take n):=by
  obtain⟨d,i,h1,h2,rfl,rfl⟩:=zz h;cases d
  case struct fs =>
    exact⟨_,Hy h rfl _ off w,by simp [jv,h1,List.map_take,List.map_drop]⟩
  case array m e =>
    exact⟨_,Hy h rfl _ off w,by simp [jv,h1,List.map_take,List.map_drop]⟩
  all_goals
    rw [hs rfl]at hl ⊢;cases hx:(xs.drop off).take 1 with
    |nil=>rw [hx]at hl;simp at hl
    |cons a r =>
      have hr:r=[]:=by rw [hx]at hl;simpa using hl
      subst hr
      have ha:xs[off]? = some a:=by
        have h3:((xs.drop off).take 1)[0]? = some a:=by rw [hx];rfl
        rw [List.getElem?_take_of_lt (by omega),List.getElem?_drop]at h3;simpa using h3
      exact⟨a.den J β,NO h rfl _ off _ (by simp [ha]) w,by simp [jv,h1]⟩
def yV(P:Program)(d:Nat)(t:TypeId)(ks:List CK):Prop :=
 ∀(J:Env) (β:Nat->Nat) (xs ys:List At) (e:BE) (x y:Value) (w:World),aT ks xs ys=some e->jv P t J β x xs->jv P t J β y ys->(Op.equalIn d t x y).run P w=.ok (e.den J) w
theorem NP{d:Nat}{f:TypeId->Option (List CK)}(IH:∀ t ks,f t=some ks->yV P d t ks/\(∀ g n,aF P t=some (g,n)->g=false->ks.length=1))(J:Env)(β:Nat->Nat)(xs ys:List At)(w:World) :
    ∀(fs:List Field) (off:Nat) (ks:List CK) (e:BE),r9 P f off fs=some ks->aT ks (xs.drop off) (ys.drop off)=some e ->
      (Op.eqFields d (xs.map (At.den J β)).toArray (ys.map (At.den J β)).toArray fs).run P w=.ok (e.den J) w
  | [],off,ks,e,h,he=>by
    simp only [r9,Option.some.injEq]at h;subst h
    have:=A' J he
    have h1:xs.drop off=[]:=List.eq_nil_of_length_eq_zero (by simpa using this.1);have h2:ys.drop off=[]:=List.eq_nil_of_length_eq_zero (by simpa using this.2);rw [h1,h2]at he;simp only [aT,Option.some.injEq]at he;subst he;simp [Op.eqFields,BE.den]
  |fd::r,off,ks,e,h,he=>by
    simp only [r9]at h;split at h
    · cases h
    · rename_i hn;simp only [not_or,Decidable.not_not]at hn;obtain⟨hn,ho⟩:=hn;split at h
      · rename_i k1 g n h1 h2;split at h
        · rename_i hl;simp only [Option.map_eq_some_iff]at h;obtain⟨k2,h3,rfl⟩:=h;obtain⟨e1,e2,q1,q2,q3⟩:=Hx J k1 k2 he;obtain⟨Fm,sc⟩:=IH _ _ h1;have lT:=A' J q1;subst hl;obtain⟨v,p1,v1⟩:=Ba (J:=J) (β:=β) h2 xs off (λhg=>sc _ _ h2 hg) lT.1 w;obtain⟨u,p2,u1⟩:=Ba (J:=J) (β:=β) h2 ys off (λhg=>sc _ _ h2 hg) lT.2 w;have r1:=Fm J β _ _ e1 v u w q1 v1 u1;have r2:=NP IH J β xs ys w r (off+k1.length) k2 e2 h3 (by rw [List.drop_drop]at q2;rw [List.drop_drop]at q2;exact q2);subst ho;simp only [Op.eqFields,hn,ne_eq,not_false_eq_true,if_true,Sem.run_bind,p1,p2,r1,Result.andThen_ok,q3];cases e1.den J
          · simp
          · simpa using r2
        · cases h
      · cases h
theorem NQ{d:Nat}{t:TypeId}{k1:List CK}{g:Bool}(Fm:yV P d t k1)(hz:aF P t=some (g,k1.length))(sc:g=false->k1.length=1)(J:Env)(β:Nat->Nat)(xs ys:List At)(w:World) :
    ∀(m i:Nat) (e:BE),aT (times k1 m) (xs.drop (i*k1.length)) (ys.drop (i*k1.length))=some e ->
      (Op.eqItems d t k1.length (xs.map (At.den J β)).toArray (ys.map (At.den J β)).toArray (List.range' i m)).run P w=.ok (e.den J) w
  |0,i,e,he=>by
    have:=A' J he
    have h1:xs.drop (i*k1.length)=[]:=List.eq_nil_of_length_eq_zero (by simpa [times]using this.1);have h2:ys.drop (i*k1.length)=[]:=List.eq_nil_of_length_eq_zero (by simpa [times]using this.2);rw [h1,h2]at he;simp only [times,aT,Option.some.injEq]at he;subst he;simp [Op.eqItems,BE.den]
  |m+1,i,e,he=>by
    obtain⟨e1,e2,q1,q2,q3⟩:=Hx J k1 (times k1 m) he;have lT:=A' J q1;obtain⟨v,p1,v1⟩:=Ba (J:=J) (β:=β) hz xs (i*k1.length) sc lT.1 w;obtain⟨u,p2,u1⟩:=Ba (J:=J) (β:=β) hz ys (i*k1.length) sc lT.2 w;have r1:=Fm J β _ _ e1 v u w q1 v1 u1;have r2:=NQ Fm hz sc J β xs ys w m (i+1) e2 (by rw [List.drop_drop,List.drop_drop]at q2;rw [Nat.add_mul,Nat.one_mul];exact q2);rw [List.range'_succ];simp only [Op.eqItems,Sem.run_bind,p1,p2,r1,Result.andThen_ok,q3];cases e1.den J
    · simp
    · simpa using r2
theorem RP(bs:ByteArray)(i:Nat)(r:List UInt8):ByteArray.toList.loop bs i r=r.reverse++bs.data.toList.drop i:=by
  fun_induction ByteArray.toList.loop bs i r with
  |case1 i r h ih =>
    rw [ih];have h':i<bs.data.size:=h
    have h2:bs.data.toList.drop i=bs.get! i::bs.data.toList.drop (i+1):=by
      rw [List.drop_eq_getElem_cons (by simpa using h')];congr 1
      cases bs with|mk d =>
        show d.toList[i]=d[i]!;rw [getElem!_pos d i h'];simp
    rw [h2];simp
  |case2 i r h =>
    have:bs.data.toList.drop i=[]:=List.drop_eq_nil_of_le (by have:¬i<bs.data.size:=h;simpa using Nat.le_of_not_lt this)
    simp [this]
theorem NR(l:List UInt8):(⟨l.toArray⟩:ByteArray).toList=l:=by
 unfold ByteArray.toList;rw [RP];simp
theorem vt{a:At}{s:SE}(h:strOf a=some s)(J:Env)(β:Nat->Nat):a.den J β=.string ⟨(s.den J).toArray⟩:=by
 cases a<;>simp only [strOf,Option.some.injEq,reduceCtorEq]at h<;>subst h<;>rfl
theorem Cs(a b:List UInt8):((⟨a.toArray⟩:ByteArray)=⟨b.toArray⟩)↔a=b:=by
 simp
theorem Fo:∀(n:Nat) (t:TypeId) (ks:List CK),jh P n t=some ks->∀g m,aF P t=some (g,m)->g=false->ks.length=1
  |0,_,_,h=>by cases h
  |n+1,t,ks,h=>by
    intro g m hz hg;obtain⟨d,i,h1,h2,rfl,rfl⟩:=zz hz;simp only [jh,h1]at h;cases d<;>simp only [reduceCtorEq,Option.some.injEq]at h hg
    all_goals (subst h;rfl)
theorem Ct(d:Nat):∀(n:Nat) (t:TypeId) (ks:List CK),jh P n t=some ks->yV P (d+n) t ks
  |0,_,_,h=>by cases h
  |n+1,t,ks,h=>by
    intro J β xs ys e x y w he hx hy;simp only [jh]at h;cases hu:P.underlying t with
    |none=>simp [hu]at h
    |some dd =>
      simp only [hu]at h;simp only [jv,hu]at hx hy;cases dd<;>simp only [reduceCtorEq,Option.some.injEq]at h
      case int k =>
        subst h;obtain⟨a,rfl,rfl⟩:=hx;obtain⟨b,rfl,rfl⟩:=hy;obtain⟨a0,x,b1,y,e1,e2,p1,p2,h1,h2,rfl⟩:=v7 he;cases p1;cases p2;simp only [aT,Option.some.injEq]at h2;subst h2;simp only [eU]at h1;split at h1
        · split at h1
          · rename_i hk;simp only [Option.some.injEq]at h1;subst h1;obtain⟨rfl,rfl⟩:=hk;simp only [At.den,BE.den,gE,Bool.and_true];exact run_equalIn_int w (d+n) t _ _ _ _ hu
          · cases h1
        · cases h1
      case bool =>
        subst h;obtain⟨a,rfl,rfl⟩:=hx;obtain⟨b,rfl,rfl⟩:=hy;obtain⟨a0,x,b1,y,e1,e2,p1,p2,h1,h2,rfl⟩:=v7 he;cases p1;cases p2;simp only [aT,Option.some.injEq]at h2;subst h2;simp only [eU]at h1;split at h1
        · simp only [Option.some.injEq]at h1;subst h1;simp only [At.den,BE.den,Bool.and_true];exact run_equalIn_bool w (d+n) t _ _ hu
        · cases h1
      case string =>
        subst h;obtain⟨a,rfl,rfl⟩:=hx;obtain⟨b,rfl,rfl⟩:=hy;obtain⟨a0,x,b1,y,e1,e2,p1,p2,h1,h2,rfl⟩:=v7 he;cases p1;cases p2;simp only [aT,Option.some.injEq]at h2;subst h2;simp only [eU]at h1;split at h1
        · rename_i p q hp hq;simp only [Option.some.injEq]at h1;subst h1;rw [vt hp,vt hq];simp only [BE.den,Bool.and_true];rw [show d+(n+1)=(d+n)+1 from rfl,run_equalIn_string w (d+n) t _ _ hu];congr 1;by_cases hc:p.den J=q.den J
          · simp [hc]
          · have:¬((⟨(p.den J).toArray⟩:ByteArray)=⟨(q.den J).toArray⟩):=λhe=>hc ((Cs _ _).1 he)
            simp [hc,this]
        · cases h1
      case struct fs =>
        subst hx hy;split at h
        · cases h
        · rename_i hp;have xD:P.fieldsOf t=fs:=by simp [Program.fieldsOf,hu]
          have:=NP (λt ks h=>⟨Ct d n t ks h,Fo n t ks h⟩) J β xs ys w fs.toList 0 ks e h (by simpa using he)
          rw [show d+(n+1)=(d+n)+1 from rfl,run_equalIn_struct w (d+n) t _ _ (by rw [xD];exact hu) (by simpa using hp),xD];exact this
      case array m el =>
        subst hx hy;split at h
        · rename_i k1 g s h1 h2;split at h
          · rename_i hs;subst hs;simp only [Option.some.injEq]at h;subst h;obtain⟨d',i',_,hi,iS,_⟩:=zz h2
            have:=NQ (Ct d n el k1 h1) h2 (λhg=>Fo n el k1 h1 _ _ h2 hg) J β xs ys w m 0 e (by simpa using he)
            rw [show d+(n+1)=(d+n)+1 from rfl,run_equalIn_array w (d+n) _ _ hu hi,List.range_eq_range'];rw [show P.cellsOf el=k1.length by simp [Program.cellsOf,hi,iS]];exact this
          · cases h
        · cases h
theorem Hz{t:TypeId}{ks:List CK}{xs ys:List At}{e:BE}(hk:jh P 30 t=some ks)(he:aT ks xs ys=some e)(ha:∃g n,aF P t=some (g,n)/\g=true)(J:Env)(β:Nat->Nat)(w:World) :
  (Op.equalIn 10000 t (.agg (xs.map (At.den J β)).toArray) (.agg (ys.map (At.den J β)).toArray)).run P w=.ok (e.den J) w:=by
 obtain⟨g,n,hz,rfl⟩:=ha;obtain⟨d,i,h1,h2,rfl,hg⟩:=zz hz;refine Ct 9970 30 t ks hk J β xs ys e _ _ w he ?_ ?_
 ·cases d<;>simp only [reduceCtorEq]at hg<;>simp [jv,h1]
 ·cases d<;>simp only [reduceCtorEq]at hg<;>simp [jv,h1]
end Vc
set_option linter.unusedVariables false
namespace Vc
open Go Go.RowKit
variable {P:Program} {W:dN} {Q:Value->Prop} {QM QP:World->Value->Prop}
theorem NS(op:BinOp)(t:TypeId)(x y:Operand)(a b:Array Value)(w:World)(h:P.eqGuardType P.depth t=false):(eqGuard op t x y (.agg a) (.agg b)).run P w=.ok () w :=
 run_eqGuard_agg w op t x y a b h
theorem HA(t:TypeId)(a b:Bool)(w:World)(h:P.underlying t=some .bool):(binOp .eql t (.bool a) (.bool b)).run P w=.ok (.bool (a == b)) w:=by
 simp only [binOp];simp [run_equal_bool w t a b h]
theorem HB(t:TypeId)(a b:Bool)(w:World)(h:P.underlying t=some .bool):(binOp .neq t (.bool a) (.bool b)).run P w=.ok (.bool (!(a == b))) w:=by
 simp only [binOp];simp [run_equal_bool w t a b h]
theorem vu(e:BE)(J:Env)(β:Nat->Nat):(SV.cv (.one (.bool e.ju))).den J β=.bool (e.den J):=by
 simp only [SV.den,CV.den,At.den,BE.eR]
theorem NT(p q:List UInt8):(p == q)=decide (p=q):=by
 by_cases hc:p=q
 ·subst hc;simp
 ·rw [decide_eq_false hc];exact beq_eq_false_iff_ne.2 hc
theorem HC(op:BinOp)(t:TypeId)(x y:Operand)(a b:ByteArray)(w:World):(eqGuard op t x y (.string a) (.string b)).run P w=.ok () w:=by
 cases op<;>simp [eqGuard]
def Cu:Value->Bool
 | .pointer _ | .slice _ _ _ | .nilFunc | .func _ _ _=>true
 |_=>false
theorem Cv{p:At}(h:da p≠3)(J:Env)(β:Nat->Nat):Cu (p.den J β)=true:=by
 cases p<;>simp [da]at h<;>simp only [At.den]<;>first|rfl | (split<;>rfl)
theorem NU(op:BinOp)(t:TypeId)(x y:Operand)(a b:Value)(h:Cu a=true)(w:World):(eqGuard op t x y a b).run P w=.ok () w:=by
 cases a<;>simp [Cu]at h<;>cases op<;>simp [eqGuard]
theorem HD{a:Value}(b:Value)(h:Cu a=true)(t:TypeId):(binOp .eql t a b=do pure (.bool (<-Op.equal t a b)))/\(binOp .neq t a b=do pure (.bool (!(<-Op.equal t a b)))):=by
 cases a<;>simp [Cu]at h<;>exact⟨rfl,rfl⟩
theorem NW(op:BinOp)(t:TypeId)(x y:Operand)(p q:At)(h:da p≠3)(J:Env)(β:Nat->Nat)(w:World):(eqGuard op t x y (p.den J β) (q.den J β)).run P w=.ok () w :=
 NU op t x y _ _ (Cv h J β) w
theorem HE(d:Nat){t e:TypeId}(a:Option Addr)(w:World)(h:P.underlying t=some (.pointer e)):(Op.equalIn (d+1) t (.pointer none) (.pointer a)).run P w=.ok a.isNone w:=by
 cases a<;>simp [Op.equalIn,run_underlying h]
theorem HF(d:Nat){t e:TypeId}(a:Option Addr)(w:World)(h:P.underlying t=some (.pointer e)):(Op.equalIn (d+1) t (.pointer a) (.pointer none)).run P w=.ok a.isNone w:=by
 cases a<;>simp [Op.equalIn,run_underlying h]
theorem HG(d:Nat){t e:TypeId}(b o o':Nat)(w:World)(h:P.underlying t=some (.pointer e)){i:TypeInfo}(hi:P.info? e=some i)(hs:i.size≠0) :
  (Op.equalIn (d+1) t (.pointer (some ⟨b,o,none⟩)) (.pointer (some ⟨b,o',none⟩))).run P w=.ok (decide (o=o')) w:=by
 have hz:(Go.sizeOf e).run P w=.ok i.size w:=by simp [Go.sizeOf,typeInfo,hi]
 by_cases ho:o=o'<;>simp [Op.equalIn,run_underlying h,hz,hs,sameAddr,ho]
theorem Cw(d:Nat){t e:TypeId}(a:Option Addr)(n c:Nat)(w:World)(h:P.underlying t=some (.slice e)):(Op.equalIn (d+1) t (.slice none 0 0) (.slice a n c)).run P w=.ok a.isNone w:=by
 cases a<;>simp [Op.equalIn,run_underlying h]
theorem HH(d:Nat){t e:TypeId}(a:Option Addr)(n c:Nat)(w:World)(h:P.underlying t=some (.slice e)):(Op.equalIn (d+1) t (.slice a n c) (.slice none 0 0)).run P w=.ok a.isNone w:=by
 cases a<;>simp [Op.equalIn,run_underlying h]
theorem HI(d:Nat){t:TypeId}{a b c}(w:World)(h:P.underlying t=some (.func a b c)):(Op.equalIn (d+1) t .nilFunc .nilFunc).run P w=.ok true w:=by
 simp [Op.equalIn,run_underlying h]
theorem HJ(d:Nat){t:TypeId}{a b c}(x y z)(w:World)(h:P.underlying t=some (.func a b c)):(Op.equalIn (d+1) t .nilFunc (.func x y z)).run P w=.ok false w:=by
 simp [Op.equalIn,run_underlying h]
theorem HK(d:Nat){t:TypeId}{a b c}(x y z)(w:World)(h:P.underlying t=some (.func a b c)):(Op.equalIn (d+1) t (.func x y z) .nilFunc).run P w=.ok false w:=by
 simp [Op.equalIn,run_underlying h]
theorem NX{t:TypeId}{x y:At}{e:BE}(h:nh P t x y=some e)(J:Env)(β:Nat->Nat)(w:World):(Op.equal t (x.den J β) (y.den J β)).run P w=.ok (e.den J) w:=by
 unfold Op.equal Op.maxDepth;generalize hd:10000=d;obtain⟨d,rfl⟩:∃d',d=d'+1:=⟨9999,hd.symm⟩;clear hd;unfold nh at h;split at h
 ·rename_i el hu;split at h
  ·rename_i hk;split at h
   ·rename_i b hb;simp only [Option.some.injEq]at h;subst h;cases x<;>simp [da]at hk<;>cases y<;>simp [da]at hk<;>simp [nS,r_]at hb<;>subst hb<;>first|exact HE d _ w hu|exact HF d _ w hu
   ·split at h
    ·rename_i k o k' o';split at h
     ·rename_i g n hn;split at h
      ·rename_i hc;simp only [Option.some.injEq]at h;subst h;obtain⟨rfl,iT⟩:=hc;unfold aF at hn;split at hn
       ·rename_i d0 i hd hi;simp only [Option.some.injEq,Prod.mk.injEq]at hn;obtain⟨_,rfl⟩:=hn;exact HG d _ _ _ w hu hi iT
       ·cases hn
      ·cases h
     ·cases h
    ·cases h
  ·cases h
 ·rename_i el hu;split at h
  ·rename_i hk;cases x<;>simp [da]at hk<;>cases y<;>simp [da]at hk<;>simp [nS,r_]at h<;>subst h<;>simp only [At.den,BE.den]
   all_goals first|exact Cw d _ _ _ w hu|exact HH d _ _ _ w hu | (split<;>rename_i hq<;>simp only [hq]<;>first|exact Cw d _ _ _ w hu|exact HH d _ _ _ w hu)
  ·cases h
 ·rename_i hu;split at h
  ·rename_i hk;cases x<;>simp [da]at hk<;>cases y<;>simp [da]at hk<;>simp [nS,r_]at h<;>subst h<;>first|exact HI d w hu|exact HJ d _ _ _ w hu|exact HK d _ _ _ w hu
  ·cases h
 ·cases h
theorem NY{x:At}(y:At)(h:da x≠3)(t:TypeId)(J:Env)(β:Nat->Nat):(binOp .eql t (x.den J β) (y.den J β)=do pure (.bool (<-Op.equal t (x.den J β) (y.den J β))))/\(binOp .neq t (x.den J β) (y.den J β)=do pure (.bool (!(<-Op.equal t (x.den J β) (y.den J β))))) :=
 HD _ (Cv h J β) t
theorem RQ{t:TypeId}{x y:At}{e:BE}(h:nh P t x y=some e):da x≠3:=by
 unfold nh at h;split at h
 ·split at h
  ·rename_i hk;omega
  ·cases h
 ·split at h
  ·rename_i hk;omega
  ·cases h
 ·split at h
  ·rename_i hk;omega
  ·cases h
 ·cases h
theorem HL{t:TypeId}{a b:List UInt8}{w:World}(h:a.length+b.length<=9223372036854775807):(binOp .add t (.string ⟨a.toArray⟩) (.string ⟨b.toArray⟩)).run P w=.ok (.string ⟨(a++b).toArray⟩) w:=by
 have e:(⟨a.toArray⟩++⟨b.toArray⟩:ByteArray)=⟨(a++b).toArray⟩:=by
  apply ByteArray.ext;simp
 have hs:¬((((⟨a.toArray⟩:ByteArray).size+(⟨b.toArray⟩:ByteArray).size:Nat):Int) > IntKind.i64.max):=by
  show ¬(((a.toArray.size+b.toArray.size:Nat):Int) > 9223372036854775807);simp only [List.size_toArray];omega
 simp only [binOp,Op.stringOp];rw [if_neg hs,e];rfl
theorem RR{c:an}{op:BinOp}{t:TypeId}{x y:SV}{K:SV->an->Env->Prop}{J:Env}(hx:x.wf c=true)(hy:y.wf c=true)
  (h:kB (PA P W Q QM QP) P c op t x y K J):cr c J K (mK P op t x y):=by
 unfold kB at h;split at h
 ·rename_i k a k' b;have wa:a.wf c=true:=hx;have wb:b.wf c=true:=hy;split at h
  ·rename_i ho;subst ho;split at h
   ·rename_i n;split at h
    ·rename_i hn;refine (zr h).mono λsv I _ hv=>mK.ints (hv b0).2 λβ w => ?_;rw [(hv β).1,mJ,NL t k k' _ _ w hn.1,Hv k _ n hn.1 hn.2];rfl
    ·exact h.elim
   ·obtain⟨h1,h2⟩:=za h;refine (zr h2).mono λsv I hl hv=>mK.ints (hv b0).2 λβ w => ?_;have h3:0<=b.den I:=by rw [IE.U hl wb];exact h1
    rw [(hv β).1,NL t k k' _ _ w h3];rfl
  ·split at h
   ·rename_i ho;subst ho;split at h
    ·rename_i n;split at h
     ·rename_i hn;refine (zr h).mono λsv I _ hv=>mK.ints (hv b0).2 λβ w => ?_;rw [(hv β).1,mJ,NM t k k' _ _ w hn.1,Hw k _ n hn.1 hn.2];rfl
     ·exact h.elim
    ·obtain⟨h1,h2⟩:=za h;refine (zr h2).mono λsv I hl hv=>mK.ints (hv b0).2 λβ w => ?_;have h3:0<=b.den I:=by rw [IE.U hl wb];exact h1
     rw [(hv β).1,NM t k k' _ _ w h3];rfl
   ·split at h
    ·rename_i hk;subst hk;split at h
     ·rename_i ha;refine (zr h).mono λsv I hl hv=>mK.ints (hv b0).2 λβ w => ?_;rw [(hv β).1,Hs op t k _ _ w ha];rfl
     ·split at h
      ·rename_i hq;obtain⟨h1,h2⟩:=za h;refine (zr h2).mono λsv I hl hv=>mK.ints (hv b0).2 λβ w => ?_;have h3:b.den I≠0:=by rw [IE.U hl wb];exact h1
       rw [(hv β).1,Ht op t k _ _ w hq h3];rfl
      ·split at h
       ·rename_i hc;refine cr.pure h λI hl=>mK.ints (by simp) λβ w => ?_;rw [vu,Hu op t k _ _ w hc];rfl
       ·exact h.elim
    ·exact h.elim
 ·rename_i a b;generalize hu:P.underlying t=u at h;split at h
  ·split at h
   ·rename_i ho;subst ho;refine cr.pure h λI hl=>⟨by simp,λβ w xo yo => ?_⟩;rw [vu];simp only [SV.den,CV.den,At.den,Sem.run_bind,NN,Result.andThen_ok,HA t _ _ w hu,BE.den]
   ·split at h
    ·rename_i ho;subst ho;refine cr.pure h λI hl=>⟨by simp,λβ w xo yo => ?_⟩;rw [vu];simp only [SV.den,CV.den,At.den,Sem.run_bind,NN,Result.andThen_ok,HB t _ _ w hu,BE.den]
    ·exact h.elim
  ·exact h.elim
 ·rename_i a b;generalize hk:jh P 30 t=u1 at h;generalize hz:aF P t=u2 at h;split at h
  ·rename_i ks n;generalize he:aT ks a b=u3 at h;split at h
   ·rename_i e;split at h
    ·exact h.elim
    ·rename_i hg;have eF:P.eqGuardType P.depth t=false:=by simpa using hg
     have key:=λI β w=>Hz hk he ⟨true,n,hz,rfl⟩ I β w;split at h
     ·rename_i ho;subst ho;refine cr.pure h λI hl=>⟨by simp,λβ w xo yo => ?_⟩;rw [vu];simp only [SV.den,CV.den,Sem.run_bind,NS _ _ _ _ _ _ _ eF,Result.andThen_ok,run_eql_struct,key]
     ·split at h
      ·rename_i ho;subst ho;refine cr.pure h λI hl=>⟨by simp,λβ w xo yo => ?_⟩;rw [vu];simp only [SV.den,CV.den,Sem.run_bind,NS _ _ _ _ _ _ _ eF,Result.andThen_ok,run_neq_struct,key,BE.den]
      ·exact h.elim
   ·exact h.elim
  ·exact h.elim
 ·rename_i x y _ _;generalize hu:P.underlying t=u at h;generalize xE:strOf x=sx at h;generalize Fp:strOf y=sy at h;split at h
  ·rename_i a b;have dx:=λI β=>vt xE I β;have dy:=λI β=>vt Fp I β;split at h
   ·rename_i ho;subst ho;refine cr.pure h λI hl=>⟨by simp,λβ w xo yo => ?_⟩;rw [vu];simp only [SV.den,CV.den,dx,dy,Sem.run_bind,HC,Result.andThen_ok,BE.den];simp only [binOp,Op.stringOp,NR,Sem.run_pure];rw [NT]
   ·split at h
    ·rename_i ho;subst ho;refine cr.pure h λI hl=>⟨by simp,λβ w xo yo => ?_⟩;rw [vu];simp only [SV.den,CV.den,dx,dy,Sem.run_bind,HC,Result.andThen_ok,BE.den];simp only [binOp,Op.stringOp,NR,Sem.run_pure];rw [NT]
    ·split at h
     ·rename_i ho;subst ho;refine (Cr h).mono λsv I hl hv=>⟨hv.2.1,λβ w xo yo => ?_⟩;rw [hv.2.2 β];have hk:=hv.1;simp only [SP.ok]at hk;simp only [SV.den,CV.den,dx,dy,Sem.run_bind,HC,Result.andThen_ok,SP.den];exact HL hk
     ·exact h.elim
  ·generalize hn:nh P t x y=en at h;split at h
   ·rename_i e;have hk:=RQ hn;split at h
    ·rename_i ho;subst ho;refine cr.pure h λI hl=>⟨by simp,λβ w xo yo => ?_⟩;rw [vu];simp only [SV.den,CV.den,Sem.run_bind,NW _ _ _ _ _ _ hk,Result.andThen_ok,(NY y hk t I β).1,NX hn,Sem.run_pure]
    ·split at h
     ·rename_i ho;subst ho;refine cr.pure h λI hl=>⟨by simp,λβ w xo yo => ?_⟩;rw [vu];simp only [SV.den,CV.den,Sem.run_bind,NW _ _ _ _ _ _ hk,Result.andThen_ok,(NY y hk t I β).2,NX hn,Sem.run_pure,BE.den]
     ·exact h.elim
   ·exact h.elim
 ·exact h.elim
theorem RS{c:an}{op:UnOp}{x:SV}{K:SV->an->Env->Prop}{J:Env}(h:tJ (PA P W Q QM QP) c op x K J) :
  cr c J K λsv I=>sv ≠ .any/\x ≠ .any/\∀β w,(Op.unary op (x.den I β)).run P w=.ok (sv.den I β) w:=by
 unfold tJ at h;split at h
 ·exact (zr h).mono λsv I _ hv=>⟨(hv b0).2,by simp,λβ w=>by rw [(hv β).1];simp [SV.den,CV.den,At.den,Op.unary,Op.intArith,IP.den]⟩
 ·exact (zr h).mono λsv I _ hv=>⟨(hv b0).2,by simp,λβ w=>by rw [(hv β).1];simp [SV.den,CV.den,At.den,Op.unary,Op.intBits,IP.den,bits]⟩
 ·exact cr.pure h λI _=>⟨by simp,by simp,λβ w=>by rw [vu];simp [SV.den,CV.den,At.den,Op.unary,BE.den]⟩
 ·exact h.elim
theorem RT{c:an}{s d:TypeId}{x:SV}{K:SV->an->Env->Prop}{J:Env}(h:qh (PA P W Q QM QP) P c s d x K J) :
  cr c J K λsv I=>sv ≠ .any/\x ≠ .any/\∀β w,(convert s d (x.den I β)).run P w=.ok (sv.den I β) w:=by
 unfold qh at h;generalize h1:P.underlying s=u1 at h;generalize h2:P.underlying d=u2 at h;split at h
 ·rename_i ds k k0 a;refine (zr h).mono λsv I _ hv=>⟨(hv b0).2,by simp,λβ w => ?_⟩;rw [(hv β).1];simp only [SV.den,CV.den,At.den,convert,Sem.run_bind,run_underlying h1,run_underlying h2,Result.andThen_ok];cases ds<;>simp [Conv.intToInt,IP.den]
 ·exact h.elim
theorem NZ{t:TypeId}{cs:List At}{off:Nat}{v:CV}(h:partOf P t cs off=some v)(J:Env)(β:Nat->Nat)(w:World) :
  (part t (cs.map (At.den J β)).toArray off).run P w=.ok (v.den J β) w:=by
 unfold partOf at h;split at h
 ·rename_i n hz;split at h
  ·simp only [Option.some.injEq]at h;subst h;rw [Hy hz rfl];simp [CV.den,List.map_take,List.map_drop]
  ·cases h
 ·rename_i n hz;simp only [Option.map_eq_some_iff]at h;obtain⟨a,ha,rfl⟩:=h;exact NO hz rfl _ off (a.den J β) (by simp [ha]) w
 ·cases h
theorem RU{c:an}{t:TypeId}{x:SV}{f:Nat}{K:SV->an->Env->Prop}{J:Env}(h:jF (PA P W Q QM QP) P c t x f K J) :
  cr c J K λsv I=>sv ≠ .any/\x ≠ .any/\∀β w,(Instr.field t (x.den I β) f).run P w=.ok (sv.den I β) w:=by
 unfold jF at h;generalize h1:P.underlying t=u1 at h;split at h
 ·rename_i fs cs;generalize h2:fs[f]? = u2 at h;split at h
  ·rename_i fd;generalize h3:partOf P fd.type cs fd.offset=u3 at h;split at h
   ·rename_i v;refine cr.pure h λI _=>⟨by simp,by simp,λβ w => ?_⟩;simp [SV.den,CV.den,Instr.field,run_underlying h1,h2,asAgg,NZ h3]
   ·exact h.elim
  ·exact h.elim
 ·exact h.elim
theorem RW{c:an}{s:TypeId}{x:SV}{f:Nat}{K:SV->an->Env->Prop}{J:Env}(h:eX (PA P W Q QM QP) P c s x f K J) :
  cr c J K λsv I=>sv ≠ .any/\x ≠ .any/\∀β w,(Instr.fieldAt s (x.den I β) f).run P w=.ok (sv.den I β) w:=by
 unfold eX at h;generalize h1:P.underlying s=u1 at h;split at h
 ·rename_i fs;generalize h2:fs[f]? = u2 at h;split at h
  ·rename_i fd;generalize h3:aF P fd.type=u3 at h;split at h
   ·rename_i g n;split at h
    ·exact h.elim
    ·rename_i hn
     have key:∀(b o:Nat) (w:World),(fieldPlace ⟨b,o,none⟩ fd).run P w=.ok ⟨b,o+fd.offset,none⟩ w:=by
      intro b o w;simp only [fieldPlace,Sem.run_bind,pc h3,Result.andThen_ok,hn,if_false,Sem.run_pure,Addr.add];split
      ·rename_i h0;simp [h0]
      ·rfl
     split at h
     ·refine cr.pure h λI _=>⟨by simp,by simp,λβ w => ?_⟩;simp [SV.den,CV.den,At.den,Instr.fieldAt,run_underlying h1,h2,Instr.sureAddr,key]
     ·refine cr.pure h λI _=>⟨by simp,by simp,λβ w => ?_⟩;simp [SV.den,CV.den,At.den,Instr.fieldAt,run_underlying h1,h2,Instr.sureAddr,key,Nat.add_assoc]
     ·refine cr.pure h λI _=>⟨by simp,by simp,λβ w => ?_⟩;simp [SV.den,CV.den,At.den,Instr.fieldAt,run_underlying h1,h2,Instr.sureAddr,key,Nat.add_assoc]
     ·exact h.elim
   ·exact h.elim
  ·exact h.elim
 ·exact h.elim
end Vc
set_option linter.unusedVariables false
namespace Vc
open Go Go.RowKit
variable {P:Program} {W:dN} {Q:Value->Prop} {QM QP:World->Value->Prop}
theorem sf(b o m:Nat):(⟨b,o,none⟩:Addr).add m=⟨b,o+m,none⟩:=by
 unfold Addr.add;split<;>simp_all
theorem Bb{t el:TypeId}{n:Nat}{g:Bool}{s:Nat}(h1:P.underlying t=some (.array n el))(hz:aF P el=some (g,s))(b o:Nat)(k:IntKind)(i:Int)(h0:0<=i)(hn:i<n)(w:World) :
  (Instr.indexAt t (ptr b o) (.int k i)).run P w=.ok (ptr b (o+i.toNat*s)) w:=by
 simp [Instr.indexAt,asIntOf,run_underlying h1,Instr.sureAddr,ptr,h0,hn,pc hz,sf]
theorem yW{t el:TypeId}{n m:Nat}{g:Bool}{s:Nat}(h1:P.underlying t=some (.slice el))(hz:aF P el=some (g,s))(b o:Nat)(k:IntKind)(i:Int)(h0:0<=i)(hn:i<n)(w:World) :
  (Instr.indexAt t (.slice (some ⟨b,o,none⟩) n m) (.int k i)).run P w=.ok (ptr b (o+i.toNat*s)) w:=by
 simp [Instr.indexAt,asIntOf,run_underlying h1,ptr,h0,hn,pc hz,sf]
theorem Cx{c:an}{p:IP}{K:IE->an->Env->Prop}{J:Env}(h:qg (PA P W Q QM QP) c p K J) :
  ∃e c' aa,K e c' aa/\c.le c'/\c'.nk=c.nk/\Env.au c J aa/\e.wf c'=true/\∀I,Env.au c' aa I->e.den I=p.den I:=by
 unfold qg at h;split at h
 ·rename_i hl;rw [NA]at h;exact⟨_,c,J,h,an.le_refl _,rfl,Env.ah _ _,rfl,λI _=>(IP.oS (J:=Env.zero) (aa:=I) hl)⟩
 ·split at h
  ·rename_i hw;have h1:=h (p.den J) rfl;have hle:c.le {c with ni:=c.ni+1}:=an.qP c 1;refine⟨_,_,_,h1,hle,rfl,xC c J _,by simp [IE.wf],λI hl => ?_⟩
   have e1:I.i c.ni=p.den J:=by
    rw [hl.i c.ni (Nat.lt_succ_self _)];exact if_pos rfl
   simp only [IE.den,e1];rw [IP.U (Env.ae hle (xC c J _) hl) hw]
  ·exact h.elim
theorem Fq{c:an}{op:IE->IE->IP}{a b:IE}{K:IE->an->Env->Prop}{J:Env}(h:oY (PA P W Q QM QP) c op a b K J) :
  ∃e c' aa,K e c' aa/\c.le c'/\c'.nk=c.nk/\Env.au c J aa/\e.wf c'=true/\∀I,Env.au c' aa I->e.den I=(op a b).den I:=Cx h
inductive oF where
 |fix (cs:List At) (t:TypeId)
 |row (ce:CE) (sz:Nat) (t:TypeId)
def aC(m:Mem)(o:aY)(k:Nat):Option oF :=
  match getM m k with
  |some (cs,t)=>some (.fix cs t)
  |none=>match aD o k with
    |some (ce,sz,t)=>some (.row ce sz t)
    |none=>none
def Holds(W:dN)(J:Env)(β:Nat->Nat)(k:Nat):oF->World->Prop
 | .fix cs t,w=>dT W (β k)/\w.heap[β k]? = some (.cells (cs.map (At.den J β)).toArray t)
 | .row ce sz t,w=>bF (dT W) (β k) (β (k+1)) (β (k+2)) (β (k+3)) (ak J β ce) sz t w
def fj(W:dN)(m:Mem)(o:aY)(l:List Nat)(J:Env)(β:Nat->Nat)(w:World):Prop :=
 ∀k∈l,∀e,aC m o k=some e->Holds W J β k e w
theorem nA{m:Mem}{o:aY}{k:Nat}{cs:List At}{t:TypeId}(h:getM m k=some (cs,t)):aC m o k=some (.fix cs t):=by
 simp [aC,h]
theorem jP{m:Mem}{o:aY}{k:Nat}{ce:CE}{sz:Nat}{t:TypeId}(hm:getM m k=none)(h:aD o k=some (ce,sz,t)):aC m o k=some (.row ce sz t):=by
 simp [aC,hm,h]
def jQ(m:Mem)(o:aY):Prop:=∀k x,aD o k=some x->getM m k=none
theorem HM{lo:Nat->Prop}{b code n base:Nat}{xs:List Value}{sz:Nat}{t:TypeId}{w:World}(h:fN lo b code n base xs sz t w):xs.length / sz=n:=by
 rw [h.1];exact Nat.mul_div_cancel _ h.2.1
theorem N0{lo:Nat->Prop}{b code n base:Nat}{xs:List Value}{sz:Nat}{t:TypeId}{w:World}(h:fN lo b code n base xs sz t w)(hn:0<n) :
  2<=code/\base=0/\∃cur,w.heap[b]? = some (.cells cur t (0,0))/\cur.toList.take (n*sz)=xs:=by
 rcases h.2.2 with ⟨_,h0⟩|⟨h1,h2,_,_,_,cur,h3,_,h4⟩
 ·omega
 ·exact⟨h1,h2,cur,h3,h4⟩
theorem HN(J:Env)(β:Nat->Nat)(ce:CE)(sz:Nat):(IP.p8 (lx ce) (jg ce) sz).den J=(((ak J β ce).length / sz:Nat):Int):=by
 rw [Hb];rfl
theorem xF{c:an}{ce:CE}{sz:Nat}{K:IE->an->Env->Prop}{J:Env}(h:gG (PA P W Q QM QP) c ce sz K J) :
  ∃e c' aa,K e c' aa/\c.le c'/\c'.nk=c.nk/\Env.au c J aa/\e.wf c'=true/\∀I β,Env.au c' aa I->e.den I=(((ak I β ce).length / sz:Nat):Int):=by
 obtain⟨e,c',aa,h1,h2,h3,h4,h5,h6⟩:=Cx h;exact⟨e,c',aa,h1,h2,h3,h4,h5,λI β hl=>by rw [h6 I hl,HN I β]⟩
theorem RX{c:an}{t:TypeId}{x i:SV}{K:SV->an->Env->Prop}{J:Env}{m:Mem}{o:aY}(jR:jQ m o)(hx:x.wf c=true)(hi:i.wf c=true)(h:eY (PA P W Q QM QP) P o c t x i K J) :
  cr c J K λsv I=>sv ≠ .any/\(x ≠ .any/\i ≠ .any)/\∀β w,fj W m o (av (aI x)) I β w->(Instr.indexAt t (x.den I β) (i.den I β)).run P w=.ok (sv.den I β) w:=by
 unfold eY at h;split at h
 ·rename_i ki e;have we:e.wf c=true:=hi;generalize h1:P.underlying t=u1 at h;split at h
  ·rename_i el k;generalize hz:aF P el=u2 at h;generalize iz:aD o k=u3 at h;split at h
   ·rename_i g s ce sz ty;split at h
    ·rename_i hs;obtain⟨rfl,xG⟩:=hs;obtain⟨n,c1,aM,r1,r2,r3,r4,r5,r6⟩:=xF h;obtain⟨q1,ha⟩:=za r1;obtain⟨q2,hk⟩:=za ha;refine⟨_,c1,aM,hk,r2,r4,λI hl=>⟨by simp,by simp,λβ w dq => ?_⟩⟩;have fP:=Env.ae r2 r4 hl;have aZ:=(dq k (by simp [aI,CV.cells,av]) _ (jP (jR k _ iz) iz)).eB xG;have e1:0<=e.den I:=by rw [IE.U hl (IE.aH r2 we)];exact q1
     have e2:e.den I<n.den I:=by rw [IE.U hl (IE.aH r2 we),IE.U hl r5];exact q2
     have e3:=r6 I β hl;rw [HM aZ]at e3;obtain⟨p1,p2,_⟩:=N0 aZ (by omega)
     have:=yW (P:=P) (n:=β (k+2)) (m:=β (k+1)-1) h1 hz (β k) 0 ki (e.den I) e1 (by omega) w
     have e4:¬β (k+1)=0:=by omega
     simpa [SV.den,CV.den,At.den,cj,e4,p2,ptr]using this
    ·exact h.elim
   ·exact h.elim
  ·rename_i el k;generalize hz:aF P el=u2 at h;generalize iz:aD o k=u3 at h;split at h
   ·rename_i g s ce sz ty;split at h
    ·rename_i hs;obtain⟨rfl,rfl,rfl⟩:=hs;obtain⟨n,c1,aM,r1,r2,r3,r4,r5,r6⟩:=xF h;obtain⟨q1,ha⟩:=za r1;obtain⟨q2,hk⟩:=za ha;refine⟨_,c1,aM,hk,r2,r4,λI hl=>⟨by simp,by simp,λβ w dq => ?_⟩⟩;have fP:=Env.ae r2 r4 hl;have aZ:=dq k (by simp [aI,CV.cells,av]) _ (jP (jR k _ iz) iz);rcases aZ with aZ|⟨_,_,_,ho⟩
     ·exact absurd aZ.2.1 (by omega)
     have e1:0<=e.den I:=by rw [IE.U hl (IE.aH r2 we)];exact q1
     have e2:e.den I<n.den I:=by rw [IE.U hl (IE.aH r2 we),IE.U hl r5];exact q2
     have e3:=r6 I β hl;rw [Nat.div_one,<-ho.1]at e3
     have:=yW (P:=P) (n:=β (k+2)) (m:=β (k+1)-2) h1 hz (β k) 0 ki (e.den I) e1 (by omega) w
     simpa [SV.den,CV.den,At.den,ptr]using this
    ·exact h.elim
   ·exact h.elim
  ·rename_i el q p sz len cap;have wx:(decide (q<c.nb) && decide (p<c.np) && len.wf c && cap.wf c)=true:=hx;simp only [Bool.and_eq_true,decide_eq_true_eq]at wx;generalize hz:aF P el=u2 at h;split at h
   ·rename_i g s;split at h
    ·rename_i hs;subst hs;obtain⟨q0,h⟩:=za h;obtain⟨q1,ha⟩:=za h;clear h;obtain⟨q2,h⟩:=za ha;clear ha;refine cr.pure h λI hl=>⟨by simp,by simp,λβ w dq => ?_⟩;have p0:¬I.b q=true:=by rw [hl.b q wx.1.1.1];exact q0
     have p1:0<=e.den I:=by rw [IE.U hl we];exact q1
     have p2:e.den I<len.den I:=by rw [IE.U hl we,IE.U hl wx.1.2];exact q2
     have:=yW (P:=P) (n:=(len.den I).toNat) (m:=(cap.den I).toNat) h1 hz (I.p p).1 (I.p p).2 ki (e.den I) p1 (by omega) w
     have q0:¬((len.den I).toNat=0/\(cap.den I).toNat=0):=by omega
     simpa [SV.den,CV.den,At.den,ptr,p0,G8 q0]using this
    ·exact h.elim
   ·exact h.elim
  ·rename_i n el k ix sz off;generalize hz:aF P el=u2 at h;split at h
   ·rename_i g s;split at h
    ·rename_i j;split at h
     ·rename_i hj;refine cr.pure h λI _=>⟨by simp,by simp,λβ w dq => ?_⟩
      have:=Bb h1 hz (β k) ((ix.den I).toNat*sz+off) ki j hj.1 (by have:=hj.1;have:=hj.2;omega) w
      simpa [SV.den,CV.den,At.den,ptr,mJ,Nat.add_assoc]using this
     ·exact h.elim
    ·obtain⟨q1,h⟩:=za h;obtain⟨q2,h⟩:=za h;obtain⟨m',hm,he,h⟩:=A_ q1 q2 n (Nat.le_refl _) (by rw [Nat.sub_self];exact q1) h;refine cr.pure h λI hl=>⟨by simp,by simp,λβ w dq => ?_⟩;have jx:e.den I=(m':Int):=by rw [IE.U hl we];exact he
     have:=Bb h1 hz (β k) ((ix.den I).toNat*sz+off) ki (e.den I) (by rw [jx];omega) (by rw [jx];omega) w
     rw [jx]at this;simp only [SV.den,CV.den,At.den,jx];simpa [ptr,Nat.add_assoc]using this
   ·exact h.elim
  ·rename_i n el k off;generalize hz:aF P el=u2 at h;split at h
   ·rename_i g s;split at h
    ·rename_i j;split at h
     ·rename_i hj;refine cr.pure h λI _=>⟨by simp,by simp,λβ w dq => ?_⟩;exact Bb h1 hz _ _ _ _ hj.1 (by have:=hj.1;have:=hj.2;omega) w
     ·exact h.elim
    ·obtain⟨q1,h⟩:=za h;obtain⟨q2,h⟩:=za h;obtain⟨m,hm,he,h⟩:=A_ q1 q2 n (Nat.le_refl _) (by rw [Nat.sub_self];exact q1) h;refine cr.pure h λI hl=>⟨by simp,by simp,λβ w dq => ?_⟩;have jx:e.den I=(m:Int):=by rw [IE.U hl we];exact he
     have:=Bb h1 hz (β k) off ki (e.den I) (by rw [jx];omega) (by rw [jx];omega) w
     rw [jx]at this;simp only [SV.den,CV.den,At.den,jx];simpa [ptr]using this
   ·exact h.elim
  ·rename_i n el p ix sz off;generalize hz:aF P el=u2 at h;split at h
   ·rename_i g s;split at h
    ·rename_i j;split at h
     ·rename_i hj;refine cr.pure h λI _=>⟨by simp,by simp,λβ w dq => ?_⟩
      have:=Bb h1 hz (I.p p).1 ((I.p p).2+(ix.den I).toNat*sz+off) ki j hj.1 (by have:=hj.1;have:=hj.2;omega) w
      simpa [SV.den,CV.den,At.den,ptr,mJ,Nat.add_assoc]using this
     ·exact h.elim
    ·obtain⟨q1,h⟩:=za h;obtain⟨q2,h⟩:=za h;obtain⟨m,hm,he,h⟩:=A_ q1 q2 n (Nat.le_refl _) (by rw [Nat.sub_self];exact q1) h;refine cr.pure h λI hl=>⟨by simp,by simp,λβ w dq => ?_⟩;have jx:e.den I=(m:Int):=by rw [IE.U hl we];exact he
     have:=Bb h1 hz (I.p p).1 ((I.p p).2+(ix.den I).toNat*sz+off) ki (e.den I) (by rw [jx];omega) (by rw [jx];omega) w
     rw [jx]at this;simp only [SV.den,CV.den,At.den,jx];simpa [ptr,Nat.add_assoc]using this
   ·exact h.elim
  ·rename_i el k off len cap;generalize hz:aF P el=u2 at h;split at h
   ·rename_i g s;split at h
    ·rename_i j;split at h
     ·rename_i hj;refine cr.pure h λI _=>⟨by simp,by simp,λβ w dq => ?_⟩;exact yW h1 hz _ _ _ _ hj.1 (by have:=hj.1;have:=hj.2;omega) w
     ·exact h.elim
    ·obtain⟨q1,h⟩:=za h;obtain⟨q2,h⟩:=za h;obtain⟨m,hm,he,h⟩:=A_ q1 q2 len (Nat.le_refl _) (by rw [Nat.sub_self];exact q1) h;refine cr.pure h λI hl=>⟨by simp,by simp,λβ w dq => ?_⟩;have jx:e.den I=(m:Int):=by rw [IE.U hl we];exact he
     have:=yW (m:=cap) h1 hz (β k) off ki (e.den I) (by rw [jx];omega) (n:=len) (by rw [jx];omega) w
     rw [jx]at this;simp only [SV.den,CV.den,At.den,jx];simpa [ptr]using this
   ·exact h.elim
  ·rename_i el p ix sz len cap;have wx:((decide (p<c.np) && ix.wf c && len.wf c && cap.wf c))=true:=hx;simp only [Bool.and_eq_true]at wx;generalize hz:aF P el=u2 at h;split at h
   ·rename_i g s;split at h
    ·rename_i hs;subst hs;obtain⟨q1,ha⟩:=za h;clear h;obtain⟨q2,h⟩:=za ha;clear ha;have tr:∀{I},Env.au c J I->0<=e.den I/\e.den I<len.den I:=λhl=>⟨by rw [IE.U hl we];exact q1,by rw [IE.U hl we,IE.U hl wx.1.2];exact q2⟩;split at h
     ·rename_i Fs;subst Fs;refine cr.pure h λI hl=>⟨by simp,by simp,λβ w dq => ?_⟩;obtain⟨p1,p2⟩:=tr hl
      have:=yW (n:=(len.den I).toNat) (m:=(cap.den I).toNat) h1 hz (I.p p).1 ((I.p p).2+(IE.den I (.lit 0)).toNat*s) ki (e.den I) p1 (by omega) w
      simpa [SV.den,CV.den,At.den,ptr,mJ]using this
     ·obtain⟨q3,h⟩:=za h;obtain⟨e',c',aa,r1,r2,r3,r4,r5,r6⟩:=Fq h;refine⟨_,c',aa,r1,r2,r4,λI hl=>⟨by simp,by simp,λβ w dq => ?_⟩⟩;have fP:=Env.ae r2 r4 hl;obtain⟨p1,p2⟩:=tr fP;have p3:0<=ix.den I:=by rw [IE.U fP wx.1.1.2];exact q3
      have:=yW (n:=(len.den I).toNat) (m:=(cap.den I).toNat) h1 hz (I.p p).1 ((I.p p).2+(ix.den I).toNat*s) ki (e.den I) p1 (by omega) w
      have e1:(e'.den I).toNat=(ix.den I).toNat+(e.den I).toNat:=by
       rw [r6 I hl];simp only [IP.den];omega
      simpa [SV.den,CV.den,At.den,ptr,mJ,e1,Nat.add_mul,Nat.add_assoc]using this
    ·exact h.elim
   ·exact h.elim
  ·exact h.elim
 ·exact h.elim
theorem N1{t el:TypeId}{n:Nat}{g:Bool}{s:Nat}(h1:P.underlying t=some (.array n el))(hz:aF P el=some (g,s))(cs:List At)(k:IntKind)(i:Int)(h0:0<=i)(hn:i<n){v:CV}
  (hv:partOf P el cs (i.toNat*s)=some v) (J:Env) (β:Nat->Nat) (w:World) :
  (Instr.index t (.agg (cs.map (At.den J β)).toArray) (.int k i)).run P w=.ok (v.den J β) w:=by
 have:=NZ hv J β w
 simp [Instr.index,asIntOf,run_underlying h1,h0,hn,pc hz];simpa using this
theorem HO(l:List UInt8)(i:Nat)(h:i<l.length):(⟨l.toArray⟩:ByteArray)[i]? = some (l.getD i 0):=by
 have hs:i<(⟨l.toArray⟩:ByteArray).size:=by show i<l.toArray.size;simpa using h
 rw [getElem?_pos _ i hs];congr 1;show l.toArray[i]=_;simp [List.getD,h]
theorem RY{c:an}{t:TypeId}{x i:SV}{K:SV->an->Env->Prop}{J:Env}(hx:x.wf c=true)(hi:i.wf c=true)(h:jG (PA P W Q QM QP) P c t x i K J) :
  cr c J K λsv I=>sv ≠ .any/\(x ≠ .any/\i ≠ .any)/\∀β w,(Instr.index t (x.den I β) (i.den I β)).run P w=.ok (sv.den I β) w:=by
 unfold jG at h;split at h
 ·rename_i ki e;have we:e.wf c=true:=hi;generalize h1:P.underlying t=u1 at h;split at h
  ·rename_i n el cs;generalize hz:aF P el=u2 at h;split at h
   ·rename_i g s;split at h
    ·rename_i j;split at h
     ·rename_i hj;generalize hp:partOf P el cs (j.toNat*s)=u3 at h;split at h
      ·rename_i v;refine cr.pure h λI _=>⟨by simp,by simp,λβ w => ?_⟩;exact N1 h1 hz cs ki j hj.1 (by have:=hj.1;have:=hj.2;omega) hp I β w
      ·exact h.elim
     ·exact h.elim
    ·obtain⟨q1,h⟩:=za h;obtain⟨q2,h⟩:=za h;obtain⟨m,hm,he,h⟩:=A_ q1 q2 n (Nat.le_refl _) (by rw [Nat.sub_self];exact q1) h;generalize hp:partOf P el cs (m*s)=u3 at h;split at h
     ·rename_i v;refine cr.pure h λI hl=>⟨by simp,by simp,λβ w => ?_⟩;have jx:e.den I=(m:Int):=by rw [IE.U hl we];exact he
      have:=N1 h1 hz cs ki (e.den I) (by rw [jx];omega) (by rw [jx];omega) (v:=v) (by rw [jx];simpa using hp) I β w
      exact this
     ·exact h.elim
   ·exact h.elim
  ·rename_i x;generalize hs:strOf x=u2 at h;split at h
   ·rename_i s;have wx:x.wf c=true:=hx
    have ws:s.wf c=true:=by
     cases x<;>simp only [strOf,Option.some.injEq,reduceCtorEq]at hs<;>subst hs<;>exact wx
    obtain⟨n,c1,aM,r1,r2,r3,r4,r5,r6⟩:=Cx h;obtain⟨q1,ha⟩:=za r1;obtain⟨q2,hb⟩:=za ha;obtain⟨sv,c2,ar,k1,k2,k3,k4⟩:=zr hb;refine⟨sv,c2,ar,k1,an.le_trans r2 k2,Env.ae r2 r4 k3,λI hl => ?_⟩;have mL:=Env.ae k2 k3 hl;have fP:=Env.ae r2 r4 mL;obtain⟨v1,v2⟩:=k4 I hl b0;refine⟨v2,by simp,λβ w => ?_⟩;have e1:0<=e.den I:=by rw [IE.U mL (IE.aH r2 we)];exact q1
    have e2:e.den I<((s.den I).length:Int):=by
     have:=r6 I mL
     simp only [IP.den]at this;rw [<-this,IE.U mL (IE.aH r2 we),IE.U mL r5];exact q2
    have v3:=(k4 I hl β).1;rw [v3];simp only [SV.den,CV.den];rw [vt hs I β];simp only [At.den,IP.den];have hb:(e.den I).toNat<(s.den I).length:=by omega
    have j9:=HO (s.den I) (e.den I).toNat hb;simp [Instr.index,asIntOf,run_underlying h1,e1,j9]
   ·exact h.elim
  ·exact h.elim
 ·exact h.elim
theorem N2:∀ (v:List Value) (k off:Nat) (cs:List Value),off + k + v.length<=cs.length ->
    (v.zipIdx k).foldl (λ(a:Array Value) (x:Value × Nat)=>a.setIfInBounds (off+x.2) x.1) cs.toArray=(cs.take (off+k)++v++cs.drop (off+k+v.length)).toArray
  | [],k,off,cs,h=>by simp
  |x::v,k,off,cs,h=>by
    simp only [List.zipIdx_cons,List.foldl_cons];have hs:cs.toArray.setIfInBounds (off+k) x=(cs.set (off+k) x).toArray:=by simp
    rw [hs,N2 v (k+1) off (cs.set (off+k) x) (by simp at h ⊢;omega)];congr 1
    have:=list_seg_step cs (off+k) x v (by simp at h ⊢;omega)
    simpa [Nat.add_assoc]using this
theorem N3{α β:Type}(f:α->β)(l:List α)(v:List α)(a b:Nat):(l.take a++v++l.drop b).map f=(l.map f).take a++v.map f++(l.map f).drop b:=by
 simp [List.map_take,List.map_drop]
theorem CV.ba(J:Env)(β:Nat->Nat)(v:CV):(v.den J β).cells=(v.cells.map (At.den J β)).toArray:=by
  cases v with
  |agg l=>rfl
  |one a =>
    have h1:=At.gi J β a;simp only [CV.den,CV.cells,List.map_cons,List.map_nil];cases hd:a.den J β<;>first|rfl | (rw [hd]at h1;simp [Value.oneCell']at h1)
theorem Ft{place:Nat->Option (Nat × Nat)}(J:Env)(β:Nat->Nat):∀ (parts:List (Nat × SV)) (cells:List At) {cs:List At},cn place cells parts=some cs ->
    Instr.fill place (cells.map (At.den J β)).toArray (parts.map λp=>(p.1,p.2.den J β))=some (cs.map (At.den J β)).toArray
  | [],cells,cs,h=>by simp only [cn,Option.some.injEq]at h;subst h;rfl
  | (i,.any)::r,_,_,h=>by simp [cn]at h
  | (i,.fJ)::r,_,_,h=>by simp [cn]at h
  | (i,.kx l)::r,_,_,h=>by simp [cn]at h
  | (i,.cv v)::r,cells,cs,h=>by
    simp only [cn]at h;cases hp:place i with
    |none=>simp [hp]at h
    |some q =>
      obtain⟨off,size⟩:=q;simp only [hp]at h;split at h
      · rename_i hs;obtain⟨h1,h2⟩:=hs;have ih:=Ft J β r _ h;have hlen:(v.den J β).cells.size=size:=by rw [CV.ba];simpa using h1
        simp only [List.map_cons,Instr.fill,hp,SV.den];rw [if_neg (by rw [hlen];simp;omega)];rw [CV.ba,<-Array.foldl_toList,Array.toList_zipIdx]
        have:=N2 (v.cells.map (At.den J β)) 0 off (cells.map (At.den J β)) (by simp;omega)
        simp only [Nat.add_zero,List.length_map,h1]at this;rw [<-N3]at this;simp only []at this ⊢;rw [this];exact ih
      · cases h
theorem v8{t:TypeId}{z:CV}(h:cq P t=some z)(J:Env)(β:Nat->Nat)(w:World)(c:an):(zeroValue t).run P w=.ok (z.den J β) w/\z.wf c=true:=by
  unfold cq at h;cases hi:P.info? t with
  |none=>simp [hi]at h
  |some i =>
    simp only [hi]at h;cases hz:i.zero with
    |none=>simp [hz]at h
    |some v =>
      simp only [hz]at h;have h2:=SV.cm v c J β;generalize hs:SV.ofValue v=sv at h h2;cases sv with
      |cv x =>
        simp only [Option.some.injEq]at h;subst h;refine⟨?_,h2.1⟩;have h3:=h2.2 (by simp);simp only [SV.den]at h3;simp [zeroValue,typeInfo,hi,hz,h3]
      |_=>simp at h
theorem N4:∀(fs:List Field) {pl:List (Nat × Nat)} (w:World),db P fs=some pl->(fs.mapM (λf=>do pure (f.offset,<-Go.sizeOf f.type):Field->Sem (Nat × Nat))).run P w=.ok pl w
  | [],pl,w,h=>by simp only [db,Option.some.injEq]at h;subst h;simp
  |f::l,pl,w,h=>by
    simp only [db]at h;split at h
    · rename_i g n r h1 h2;simp only [Option.some.injEq]at h;subst h
      have:=N4 l w h2
      simp only [List.mapM_cons,Sem.run_bind,pc h1,Result.andThen_ok,Sem.run_pure,this]
    · cases h
theorem RZ{c:an}{t:TypeId}{parts:List (Nat × SV)}{K:SV->an->Env->Prop}{J:Env}(h:jH (PA P W Q QM QP) P c t parts K J) :
  cr c J K λsv I=>sv ≠ .any/\∀β w,(Instr.build t (parts.map λp=>(p.1,p.2.den I β)).toArray).run P w=.ok (sv.den I β) w:=by
 unfold jH at h;generalize h1:P.underlying t=u1 at h;generalize h2:cq P t=u2 at h;split at h
 ·rename_i fs z;generalize h3:db P fs.toList=u3 at h;split at h
  ·rename_i pl;generalize h4:cn (λx=>pl[x]?) z.cells parts=u4 at h;split at h
   ·rename_i cs;refine cr.pure h λI _=>⟨by simp,λβ w => ?_⟩;have q1:=(v8 h2 I β w c).1;have q2:=N4 fs.toList w h3;have q3:=Ft I β parts z.cells h4;simp only [Instr.build,Sem.run_bind,q1,Result.andThen_ok,run_underlying h1];rw [Array.mapM_eq_mapM_toList];simp only [Sem.run_map,q2,Result.andThen_ok,CV.ba];have e:(λ(x:Nat)=>(pl.toArray)[x]?)=λ(x:Nat)=>pl[x]? := by funext x;simp
    simp only [e,q3];rfl
   ·exact h.elim
  ·exact h.elim
 ·rename_i n el z;generalize h3:aF P el=u3 at h;split at h
  ·rename_i g s;generalize h4:cn (λi=>some (i*s,s)) z.cells parts=u4 at h;split at h
   ·rename_i cs;refine cr.pure h λI _=>⟨by simp,λβ w => ?_⟩;have q1:=(v8 h2 I β w c).1;have q3:=Ft I β parts z.cells h4;simp only [Instr.build,Sem.run_bind,q1,Result.andThen_ok,run_underlying h1,pc h3,CV.ba,q3];rfl
   ·exact h.elim
  ·exact h.elim
 ·exact h.elim
end Vc
