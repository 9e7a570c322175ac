import Derived.Test.YtpfgephckjpcjaaGreatDoorVcC
import Derived.Laws.StructEq
import Derived.Laws.Entries
import Derived.DeepKeys
import Derived.Laws.CopyRow
import Derived.Laws.Cells
set_option linter.unusedVariables false
set_option linter.unusedSimpArgs false
namespace Vc
open Go Go.RowKit
def aR(v:Value)(W:World)(e:Ending)(w':World):Prop:=e=.returned v/\Below W.heap.size W w'
def b0:Nat->Nat:=λ_=>0
structure e_ extends World where
 oS:List Nat := []
structure bg(x:Nat)(W w':World):Prop where
 os:w'.os=W.os
 tape:w'.tape=W.tape
 output:w'.output=W.output
 size:W.heap.size<=w'.heap.size
 block:∀k,k<W.heap.size->k≠x->w'.heap[k]? = W.heap[k]?
structure vQ(xs:List Nat)(W w':World):Prop where
 os:w'.os=W.os
 tape:w'.tape=W.tape
 output:w'.output=W.output
 size:W.heap.size<=w'.heap.size
 block:∀k,k<W.heap.size->k ∉ xs->w'.heap[k]? = W.heap[k]?
def dT(W:e_)(w':World):Prop:=match W.oS with
 | []=>Below W.heap.size W.toWorld w'
 | [x]=>bg x W.toWorld w'
 |x::y::l=>vQ (x::y::l) W.toWorld w'
def f_(v:Value)(x:Nat)(cs:Array Value)(t:TypeId)(W:World)(e:Ending)(w':World):Prop:=e=.returned v/\bg x W w'/\w'.heap[x]? = some (.cells cs t)
def Dw(v:Value)(l:List (Nat × Array Value × TypeId))(W:World)(e:Ending)(w':World):Prop:=e=.returned v/\vQ (l.map (·.1)) W w'/\∀x∈l,w'.heap[x.1]? = some (.cells x.2.1 x.2.2)
def fA(W:e_)(b:Nat):Prop:=match W.oS with
 | []=>W.heap.size<=b
 | [x]=>b=x∨W.heap.size<=b
 |x::y::l=>b∈x::y::l∨W.heap.size<=b
def pj(x:Nat)(W:World):World := {W with heap:=W.heap.setIfInBounds x (.deferred none)}
def tz:List Nat->World->World
 | [],W=>W
 |x::l,W=>pj x (tz l W)
def e_.seen(W:e_):World:=tz W.oS W.toWorld
theorem dT.os{W:e_}{w':World}(h:dT W w'):w'.os=W.os:=by
 unfold dT at h;split at h<;>exact h.os
theorem dT.tape{W:e_}{w':World}(h:dT W w'):w'.tape=W.tape:=by
 unfold dT at h;split at h<;>exact h.tape
theorem dT.output{W:e_}{w':World}(h:dT W w'):w'.output=W.output:=by
 unfold dT at h;split at h<;>exact h.output
theorem dT.size{W:e_}{w':World}(h:dT W w'):W.heap.size<=w'.heap.size:=by
 unfold dT at h;split at h<;>exact h.size
theorem dT.block{W:e_}{w':World}(h:dT W w')(k:Nat)(hk:k<W.heap.size)(hl:k ∉ W.oS):w'.heap[k]? = W.heap[k]? := by
 unfold dT at h;split at h
 ·exact h.block k hk
 ·rename_i x hx;exact h.block k hk λe=>hl (by rw [hx,e];exact List.mem_singleton.2 rfl)
 ·rename_i x y l hx;exact h.block k hk (by rw [hx]at hl;exact hl)
theorem dT.mk{W:e_}{w':World}(h1:w'.os=W.os)(h2:w'.tape=W.tape)(h3:w'.output=W.output)(h4:W.heap.size<=w'.heap.size)(h5:∀k,k<W.heap.size->k ∉ W.oS->w'.heap[k]? = W.heap[k]?):dT W w':=by
 unfold dT;split
 ·rename_i hx;exact⟨h1,h2,h3,h4,λk hk=>h5 k hk (by rw [hx];simp)⟩
 ·rename_i x hx;exact⟨h1,h2,h3,h4,λk hk hn=>h5 k hk (by rw [hx];simpa using hn)⟩
 ·rename_i x y l hx;exact⟨h1,h2,h3,h4,λk hk hn=>h5 k hk (by rw [hx];exact hn)⟩
theorem dT.trans{W:e_}{w w':World}(h:dT W w)(hb:Below w.heap.size w w'):dT W w' :=
 dT.mk (hb.os.trans h.os) (hb.tape.trans h.tape) (hb.output.trans h.output) (Nat.le_trans h.size hb.size) λk hk hl=>(hb.block k (Nat.lt_of_lt_of_le hk h.size)).trans (h.block k hk hl)
theorem dT.drew{W:e_}{w:World}(h:dT W w):dT W w.drew:=dT.mk h.os h.tape h.output h.size h.block
theorem dT.refl(W:e_):dT W W.toWorld:=dT.mk rfl rfl rfl (Nat.le_refl _) λ_ _ _=>rfl
theorem fA.out{W:e_}{b:Nat}(h:fA W b):b∈W.oS∨W.heap.size<=b:=by
 unfold fA at h;split at h
 ·exact .inr h
 ·rename_i x hx;rcases h with h|h
  ·exact .inl (by rw [hx,h];exact List.mem_singleton.2 rfl)
  ·exact .inr h
 ·rename_i x y l hx;rw [hx];exact h
theorem fA.mk{W:e_}{b:Nat}(h:b∈W.oS∨W.heap.size<=b):fA W b:=by
 unfold fA;split
 ·rename_i hx;rcases h with h|h
  ·rw [hx]at h;cases h
  ·exact h
 ·rename_i x hx;rcases h with h|h
  ·rw [hx]at h;exact .inl (by simpa using h)
  ·exact .inr h
 ·rename_i x y l hx;rw [hx]at h;exact h
theorem SJ{x:Nat}{W:World}{a:Addr}{v:Value}(h:(pj x W).cell? a=some v):a.block≠x/\W.cell? a=some v:=by
 have hx:a.block≠x:=by
  intro e;have hb:=World.block_lt_of_cell? _ _ h;unfold World.cell? pj at h;subst e;simp only [pj,Array.size_setIfInBounds]at hb;simp [Array.getElem?_setIfInBounds,hb]at h
 refine⟨hx, ?_⟩;rw [<-h];unfold World.cell? pj;rw [Array.getElem?_setIfInBounds_ne (by omega)]
theorem Ou{W:World}{a:Addr}{v:Value}:∀{xs:List Nat},(tz xs W).cell? a=some v->a.block ∉ xs/\W.cell? a=some v
  | [],h=>⟨List.not_mem_nil,h⟩
  |x::l,h=>by
    obtain⟨h1,h2⟩:=SJ (show (pj x (tz l W)).cell? a=some v from h);obtain⟨h3,h4⟩:=Ou h2;exact⟨λhm=>(List.mem_cons.1 hm).elim h1 h3,h4⟩
theorem dT.cell{W:e_}{w:World}(h:dT W w){a:Addr}{v:Value}(hc:W.seen.cell? a=some v):w.cell? a=some v:=by
 obtain⟨hb,hc⟩:=Ou hc;rw [<-hc];unfold World.cell?;rw [h.block a.block (World.block_lt_of_cell? _ _ hc) hb]
inductive Vl where
 |i (n:Int)
 |b (b:Bool)
 |v (v:Value)
 |s (l:List UInt8)
 |l (xs:List Value)
def vl(o:bq)(ρ:Env):At->Vl
  | .int _ e=>.i (e.den ρ)
  | .bool e=>.b (e.den ρ)
  | .str l=>.s l
  | .sv i=>.s (ρ.s i)
  | .own k=>match aM o k with
    |some (ce,_,_)=>.l (av ρ b0 ce)
    |none=>.l []
  |a=>.v (a.den ρ b0)
def uo:List At->(Env->Prop)->Env->Prop
 | [],k,ρ=>k ρ
 | .int _ (.var n)::l,k,ρ=>∃x:Int,uo l k (ρ.gX n x)
 | .bool (.var n)::l,k,ρ=>∃x:Bool,uo l k (ρ.mP n x)
 | .val n::l,k,ρ=>∃x:OV,uo l k (ρ.oP n x)
 | .sv n::l,k,ρ=>∃x:List UInt8,uo l k (ρ.qH n x)
 | .gV q p _ (.var n) (.var m)::l,k,ρ=>∃(x:Bool) (y:Nat × Nat) (a b:Int),uo l k ((((ρ.mP q x).rR p y).gX n a).gX m b)
 |_,_,_=>False
def nY(o:bq):List At->(Env->Prop)->Env->Prop
  | [],k,ρ=>k ρ
  | .int _ (.var n)::l,k,ρ=>∀x:Int,nY o l k (ρ.gX n x)
  | .bool (.var n)::l,k,ρ=>∀x:Bool,nY o l k (ρ.mP n x)
  | .val n::l,k,ρ=>∀x:OV,nY o l k (ρ.oP n x)
  | .sv n::l,k,ρ=>∀x:List UInt8,nY o l k (ρ.qH n x)
  | .gV q p _ (.var n) (.var m)::l,k,ρ=>∀(x:Bool) (y:Nat × Nat) (a b:Int),nY o l k ((((ρ.mP q x).rR p y).gX n a).gX m b)
  | .own j::l,k,ρ=>match aM o j with
    |some ([.var n],_,_)=>∀x:List OV,nY o l k (ρ.lh n x)
    |_=>False
  |_,_,_=>False
def hZ(own:Nat->Prop)(b code n base:Nat)(xs:List Value)(sz:Nat)(t:TypeId)(w:World):Prop :=
 xs.length=n*sz/\0<sz/\((code<=1/\n=0) ∨
  (2<=code/\base=0/\own b/\n<=code-1/\code-1<=maxLen/\∃cur,w.heap[b]? = some (.cells cur t (0,0))/\cur.size=(code-1)*sz/\cur.toList.take (n*sz)=xs))
def vR(es:Array MapEntry):List Value:=es.toList.flatMap λe=>e.key.cells.toList++e.val.cells.toList
def eo(c:Nat)(v:Value):Prop:=if c % 2=1 then ∃cs,v=.agg cs/\cs.size=c / 2 else v.oneCell'=true/\c=2
def zT(ob:Option Obj)(n:Nat)(xs:List Value)(t:Nat):Prop:=match t with
 |0=>n=xs.length/\∃C ty mk,ob=some (.cells C ty mk)/\C.toList.take xs.length=xs
 |t+1=>∃es clock,ob=some (.map es clock)/\vR es=xs/\∀e∈es.toList,eo ((t+1) / 1048576) e.key/\eo ((t+1) % 1048576) e.val
def bY(own:Nat->Prop)(b code n base:Nat)(xs:List Value)(sz:Nat)(t:TypeId)(w:World):Prop :=
 hZ own b code n base xs sz t w∨(sz=0/\own b/\2<=code/\zT (w.heap[b]?) n xs t)
theorem bY.fh{own:Nat->Prop}{b code n base:Nat}{xs:List Value}{sz:Nat}{t:TypeId}{w:World}(h:bY own b code n base xs sz t w)(hz:0<sz):hZ own b code n base xs sz t w:=by
 rcases h with h|⟨h,_⟩
 ·exact h
 ·omega
theorem bY.imp{own Dx:Nat->Prop}{b code n base:Nat}{xs:List Value}{sz:Nat}{t:TypeId}{w:World}(h:bY own b code n base xs sz t w)(f:2<=code->own b->Dx b):bY Dx b code n base xs sz t w:=by
 rcases h with ⟨a1,a2,a3⟩|⟨a1,a2,a3,a4⟩
 ·refine .inl ⟨a1,a2, ?_⟩;rcases a3 with a3|⟨b1,b2,b3,b4⟩
  ·exact .inl a3
  ·exact .inr ⟨b1,b2,f b1 b3,b4⟩
 ·exact .inr ⟨a1,f a3 a2,a3,a4⟩
theorem bY.heap{own:Nat->Prop}{b code n base:Nat}{xs:List Value}{sz:Nat}{t:TypeId}{w w':World}(h:bY own b code n base xs sz t w)(hh:2<=code->w'.heap[b]? = w.heap[b]?):bY own b code n base xs sz t w':=by
 rcases h with ⟨a1,a2,a3⟩|⟨a1,a2,a3,a4⟩
 ·refine .inl ⟨a1,a2, ?_⟩;rcases a3 with a3|⟨b1,b2,b3,b4,b5,cur,b6,b7,b8⟩
  ·exact .inl a3
  ·exact .inr ⟨b1,b2,b3,b4,b5,cur,by rw [hh b1,b6],b7,b8⟩
 ·exact .inr ⟨a1,a2,a3,by rw [hh a3];exact a4⟩
theorem bY.own{own:Nat->Prop}{b code n base:Nat}{xs:List Value}{sz:Nat}{t:TypeId}{w:World}(h:bY own b code n base xs sz t w)(hc:2<=code):own b:=by
 rcases h with ⟨a1,a2,a3⟩|⟨a1,a2,a3,a4⟩
 ·rcases a3 with a3|⟨b1,b2,b3,b4⟩
  ·omega
  ·exact b3
 ·exact a2
def Datum:Obj->Prop
 | .loop _=>False
 | .deferred _=>False
 |_=>True
theorem bY.datum{own:Nat->Prop}{b code n base:Nat}{xs:List Value}{sz:Nat}{t:TypeId}{w:World}(h:bY own b code n base xs sz t w)(hc:2<=code):∃o,w.heap[b]? = some o/\Datum o:=by
 rcases h with ⟨a1,a2,a3⟩|⟨a1,a2,a3,a4⟩
 ·rcases a3 with a3|⟨b1,b2,b3,b4,b5,cur,b6,b7,b8⟩
  ·omega
  ·exact⟨_,b6,trivial⟩
 ·cases t with
  |zero=>obtain⟨_,C,ty,mk,h,_⟩:=a4;exact⟨_,h,trivial⟩
  |succ t=>obtain⟨es,cl,h,_⟩:=a4;exact⟨_,h,trivial⟩
def A'(v:Value)(b code n base:Nat)(xs:List Value)(sz:Nat)(t:TypeId)(W:World)(e:Ending)(w':World):Prop :=
 e=.returned v/\(code<=1->Below W.heap.size W w')/\(2<=code->bg b W w')/\bY (λ_=>True) b code n base xs sz t w'
abbrev tA(lo b code n base:Nat)(xs:List Value)(sz:Nat)(t:TypeId)(w:World):Prop:=bY (λb=>lo<=b) b code n base xs sz t w
def vS(W:e_)(ρ:Env)(β:Nat->Nat):bq->World->Prop
 | [],_=>True
 | (k,ce,sz,t)::r,w=>bY (fA W) (β k) (β (k+1)) (β (k+2)) (β (k+3)) (av ρ β ce) sz t w/\vS W ρ β r w
def nZ(W:e_)(ρ:Env)(β:Nat->Nat):Mem->bq->World->Prop
 | [],o,w=>vS W ρ β o w
 | (k,cs,t)::r,o,w=>(fA W (β k)/\w.heap[β k]? = some (.cells (cs.map (At.den ρ β)).toArray t))/\nZ W ρ β r o w
def vT(W:World)(v:Value)(sz:Nat)(xs:List Value):Prop :=
 (v=.slice none 0 0/\xs=[])∨(∃a,v=.slice (some a) 0 0/\xs=[])∨∃b o len cap,v=.slice (some ⟨b,o,none⟩) len cap/\xs.length=len*sz/\∀j u,xs[j]? = some u->W.cell? ⟨b,o+j,none⟩=some u
def CD(b:UInt8):Value := .int .u8 b.toNat
def LP.den(ρ:Env):LP->List Value
 | .set ce ix sz off l=>(av ρ b0 ce).take ((ix.den ρ).toNat*sz+off)++l.map (At.den ρ b0)++(av ρ b0 ce).drop ((ix.den ρ).toNat*sz+off+l.length)
 | .qz i=>(ρ.s i).map CD
 | .rep n l=>times (l.map (At.den ρ b0)) (n.den ρ).toNat
def fB:SV->Bool
 | .cv c=>c.flat
 | .dt l=>l.all CV.flat
 |_=>true
def qX(m:Mem):Nat->List TypeId->Option (List (List At))
  |_,[]=>some []
  |k,t::r=>match getM m k,qX m (k+1) r with
    |some (cs,t'),some l=>if t'=t then some (cs::l)else none
    |_,_=>none
def At.ke(n:Nat):At->Bool
 | .loc k _=>decide (k<n)
 | .fn _ aI=>aI.all λx=>decide (x.1<n)
 |a=>a.flat
def ep(xs:List Nat):Nat->Nat:=λk=>xs.getD k 0
def yi(v:Value)(l:List (Nat × Array Value × TypeId))(W:World):Ending->World->Prop:=match l with
 | [x]=>f_ v x.1 x.2.1 x.2.2 W
 |l=>Dw v l W
def me(l:List Nat)(C:Prop):Prop:=match l with
 | []=>C
 | [_]=>C
 |x::y::l=>(x::y::l).Nodup->C
def jU(v:Value)(xs:List Nat)(W:World)(e:Ending)(w':World):Prop:=e=.panicked [{v:=v,recovered:=false}]/\vQ xs W w'
theorem me.out{l:List Nat}{C:Prop}(h:me l C)(hn:l.Nodup):C:=by
 unfold me at h;split at h
 ·exact h
 ·exact h
 ·exact h hn
theorem yi.out{v:Value}{l:List (Nat × Array Value × TypeId)}{W:World}{e:Ending}{w':World}(h:yi v l W e w'):Dw v l W e w':=by
 unfold yi at h;split at h
 ·obtain⟨h1,h2,h3⟩:=h;refine⟨h1,⟨h2.os,h2.tape,h2.output,h2.size,λk hk hn=>h2.block k hk λe=>hn (by simp [e])⟩,λy hy => ?_⟩;simp only [List.mem_singleton]at hy;subst hy;exact h3
 ·exact h
def H_(bk ck:Nat)(xs:List Value)(sz:Nat)(t:TypeId)(W:World)(e:Ending)(w':World):Prop :=
  ∃b code n base,e=.returned (dC b code n base)/\bY (λ_=>True) b code n base xs sz t w'/\(w'.os=W.os/\w'.tape=W.tape/\w'.output=W.output/\W.heap.size<=w'.heap.size) /\
    (∀x,x<W.heap.size->(2<=ck->x≠bk)->w'.heap[x]? = W.heap[x]?)/\(2<=code->W.heap.size<=b∨(2<=ck/\b=bk))
def PA(P:Program)(W:e_)(Q:Value->Prop)(QM QP:World->Value->Prop):b_ (Env->Prop) where
  fail _:=λ_=>False
  fin v m o:=λρ=>match fB v with
    |true=>Q (v.den ρ b0)
    |false=>∀(β:Nat->Nat) (w':World),dT W w'->nZ W ρ β m o w'->QM w' (v.den ρ β)
  int n p k:=λρ=>∀x:Int,x=p.den ρ->k (ρ.gX n x)
  A2 e k:=λρ=>e.prop ρ/\k ρ
  ite e t f:=λρ=>(e.prop ρ->t ρ)/\(¬e.prop ρ->f ρ)
  call f args m o fr r k:=λρ=>uo fr (λah=>(match args.all fB with
    |true=>∀w':World,dT W w'->Calls P f (args.map (SV.den ρ b0)).toArray w' (aR (r.den ah b0) w')
    |false=>∀(β:Nat->Nat) (w':World),dT W w'->nZ W ρ β m o w'->Calls P f (args.map (SV.den ρ β)).toArray w' (aR (r.den ah b0) w'))/\k ah) ρ
  o8 f args fr r k:=λρ=>uo fr (λah=>(args.all fB=true/\∀w':World,(callFunc f (args.map (SV.den ρ b0)).toArray).run P w'=.ok (.value (r.den ah b0)) w')/\k ah) ρ
  load a p ix sz off k:=λρ=>uo [a] (λah=>W.seen.cell? ⟨(ρ.p p).1,(ρ.p p).2+(ix.den ρ).toNat*sz+off,none⟩=some (a.den ah b0)/\k ah) ρ
  loop oi i fo fr body:=λρ=>∃(Inv:List Vl->Prop) (μ:List Vl->Nat),Inv (i.map (vl oi ρ)) /\
    nY fo fr (λah=>Inv (fr.map (vl fo ah))->body (λoy ys U=>Inv (ys.map (vl oy U))/\μ (ys.map (vl oy U))<μ (fr.map (vl fo ah))) ah) ρ
  rd a ce ix sz off k:=λρ=>uo [a] (λah=>(av ρ b0 ce)[(ix.den ρ).toNat*sz+off]? = some (a.den ah b0)/\k ah) ρ
  uh n lp k:=λρ=>∀L:List OV,L.map (·.1)=lp.den ρ->k (ρ.lh n L)
  Gf n x sz k:=λρ=>∃L:List OV,vT W.seen (x.den ρ b0) sz (L.map (·.1))/\k (ρ.lh n L)
  Dm v m o ts:=λρ=>match qX m 0 ts with
    |some l=>(match fB v && l.all (λcs=>cs.all (At.ke ts.length))with
      |true=>Q (.agg (v.den ρ b0::l.map λcs=>.agg (cs.map (At.den ρ (ep W.oS))).toArray).toArray)
      |false=>False)
    |none=>False
  HV v o sz t:=λρ=>match aM o 0 with
    |some (ce,uZ,t')=>(match fB v && gZ ce && decide (uZ=sz/\t'=t)with
      |true=>Q (.agg #[v.den ρ b0,.agg (av ρ b0 ce).toArray])
      |false=>False)
    |none=>False
  zN f args m o k n sz t fr r K:=λρ=>∃L:List OV,uo fr (λah=>(∀(β:Nat->Nat) (w':World),dT W w'->nZ W ρ β m o w'->Calls P f (args.map (SV.den ρ β)).toArray w' (A' (r.den ah b0) (β k) (β (k+1)) (β (k+2)) (β (k+3)) (L.map (·.1)) sz t w'))/\K ah) (ρ.lh n L)
  ai g cs ty k:=λρ=>(∃Dy mk,W.seen.heap[g]? = some (.cells (cs.map (At.den ρ b0)).toArray Dy mk))/\k ρ
  j8 n t v k:=λρ=>∀x:OV,x.1=.iface t (v.den ρ b0)->k (ρ.oP n x)
  alt p q:=λρ=>p ρ∨q ρ
  zO f args m o ks fr t v n k:=λρ=>uo fr (λah=>(∀(β:Nat->Nat) (w':World),dT W w'->nZ W ρ β m o w'->me (ks.map β) (Calls P f (args.map (SV.den ρ β)).toArray w' (jU (.iface t (v.den ah b0)) (ks.map β) w')))/\∀x:OV,x.1=.iface t (v.den ah b0)->k (ah.oP n x)) ρ
  qP f args m o k ce sz t K:=λρ=>(∀(β:Nat->Nat) (w':World),dT W w'->nZ W ρ β m o w'->Calls P f (args.map (SV.den ρ β)).toArray w' (H_ (β k) (β (k+1)) (av ρ β ce) sz t w'))/\K ρ
  Dn n ce kc ks ne k:=λρ=>vz ks (ks.length+ne) (av ρ b0 ce)=true/\∀x:Int,x=nH ks.length (ks.length+ne) (kc.map (At.den ρ b0)) (av ρ b0 ce)->k (ρ.gX n x)
  mark _ _ _ _ k:=k
  x_ i:=λρ=>∀w':World,dT W w'->QP w' (ρ.v i).1
  str n p k:=λρ=>p.ok ρ/\∀s:List UInt8,s=p.den ρ->k (ρ.qH n s)
  zM f args m o js fr r k:=λρ=>uo fr (λah=>(∀(β:Nat->Nat) (w':World),dT W w'->nZ W ρ β m o w'->me (js.map λx=>β x.1) (Calls P f (args.map (SV.den ρ β)).toArray w' (yi (r.den ah b0) (js.map λx=>(β x.1,(x.2.1.map (At.den ah β)).toArray,x.2.2)) w')))/\k ah) ρ
theorem zU(c:aw)(ρ:Env)(x:Int):Env.aE c ρ (ρ.gX c.ni x) :=
 ⟨λj hj=>if_neg (Nat.ne_of_lt hj),λ_ _=>rfl,λ_ _=>rfl,λ_ _=>rfl,λ_ _=>rfl,λ_ _=>rfl⟩
theorem Ov(c:aw)(ρ:Env)(x:Bool):Env.aE c ρ (ρ.mP c.nb x) :=
 ⟨λ_ _=>rfl,λj hj=>if_neg (Nat.ne_of_lt hj),λ_ _=>rfl,λ_ _=>rfl,λ_ _=>rfl,λ_ _=>rfl⟩
theorem Dz(c:aw)(ρ:Env)(x:OV):Env.aE c ρ (ρ.oP c.nv x) :=
 ⟨λ_ _=>rfl,λ_ _=>rfl,λj hj=>if_neg (Nat.ne_of_lt hj),λ_ _=>rfl,λ_ _=>rfl,λ_ _=>rfl⟩
theorem DA(c:aw)(ρ:Env)(x:List UInt8):Env.aE c ρ (ρ.qH c.ns x) :=
 ⟨λ_ _=>rfl,λ_ _=>rfl,λ_ _=>rfl,λ_ _=>rfl,λj hj=>if_neg (Nat.ne_of_lt hj),λ_ _=>rfl⟩
theorem tB(c:aw)(ρ:Env)(x:List OV):Env.aE c ρ (ρ.lh c.nl x) :=
 ⟨λ_ _=>rfl,λ_ _=>rfl,λ_ _=>rfl,λ_ _=>rfl,λ_ _=>rfl,λj hj=>if_neg (Nat.ne_of_lt hj)⟩
theorem Ow(c:aw)(ρ:Env)(x:Bool)(y:Nat × Nat)(a b:Int):Env.aE c ρ ((((ρ.mP c.nb x).rR c.np y).gX c.ni a).gX (c.ni+1) b) :=
 ⟨λj hj=>by
  show (if j=c.ni+1 then b else if j=c.ni then a else ρ.i j)=ρ.i j;rw [if_neg (by omega),if_neg (by omega)],λj hj=>if_neg (Nat.ne_of_lt hj),λ_ _=>rfl,λj hj=>if_neg (Nat.ne_of_lt hj),λ_ _=>rfl,λ_ _=>rfl⟩
theorem zq(c:aw)(k:CK):c.le (bd c k):=by
 cases k<;>constructor<;>simp [bd]
theorem xF:∀(ks:List CK) (c:aw),c.le (aX c ks)
 | [],c=>aw.le_refl c
 |k::l,c=>aw.le_trans (zq c k) (xF l _)
theorem Gl(c:aw)(k:CK):(bz c k).wf (bd c k)=true:=by
 cases k<;>simp [bz,bd,At.wf,IE.wf,BE.wf]
theorem Ba:∀(ks:List CK) (c:aw),(ax c ks).all (At.wf (aX c ks))=true
  | [],c=>rfl
  |k::l,c=>by
    simp only [ax,aX,List.all_cons,Bool.and_eq_true];exact⟨At.aT (xF l _) (Gl c k),Ba l _⟩
theorem Gm(c:aw)(k:CK)(h:k.plain=true):(bz c k).flat=true:=by cases k<;>first|rfl|cases h
theorem DB:∀(ks:List CK) (c:aw),ks.all CK.plain=true->(ax c ks).all At.flat=true
  | [],c,_=>rfl
  |k::l,c,h=>by
    simp only [List.all_cons,Bool.and_eq_true]at h;simp only [ax,List.all_cons,Gm c k h.1,DB l _ h.2,Bool.and_self]
theorem u7:∀(ks:List CK) (c:aw) {k:Env->Prop} {ρ:Env},uo (ax c ks) k ρ->∃ah,Env.aE c ρ ah/\k ah
  | [],c,k,ρ,h=>⟨ρ,Env.aq _ _,h⟩
  | .int kd::l,c,k,ρ,h=>by
    obtain⟨x,h⟩:=h;obtain⟨ah,h1,h2⟩:=u7 l _ h;exact⟨ah,Env.aj (zq c (.int kd)) (zU c ρ x) h1,h2⟩
  | .bool::l,c,k,ρ,h=>by
    obtain⟨x,h⟩:=h;obtain⟨ah,h1,h2⟩:=u7 l _ h;exact⟨ah,Env.aj (zq c .bool) (Ov c ρ x) h1,h2⟩
  | .uY::l,c,k,ρ,h=>by
    obtain⟨x,h⟩:=h;obtain⟨ah,h1,h2⟩:=u7 l _ h;exact⟨ah,Env.aj (zq c .uY) (Dz c ρ x) h1,h2⟩
  | .str::l,c,k,ρ,h=>by
    obtain⟨x,h⟩:=h;obtain⟨ah,h1,h2⟩:=u7 l _ h;exact⟨ah,Env.aj (zq c .str) (DA c ρ x) h1,h2⟩
  | .sl sz::l,c,k,ρ,h=>by
    obtain⟨x,y,a,b,h⟩:=h;obtain⟨ah,h1,h2⟩:=u7 l _ h;exact⟨ah,Env.aj (zq c (.sl sz)) (Ow c ρ x y a b) h1,h2⟩
  | .own sz t::l,c,k,ρ,h=>h.elim
def dh(c:aw)(ρ:Env)(K:SV->aw->Env->Prop)(V:SV->Env->Prop):Prop :=
 ∃sv c' ah,K sv c' ah/\c.le c'/\Env.aE c ρ ah/\∀U,Env.aE c' ah U->V sv U
theorem dh.pure{c:aw}{ρ:Env}{K:SV->aw->Env->Prop}{V:SV->Env->Prop}{sv:SV}(h:K sv c ρ)(hv:∀U,Env.aE c ρ U->V sv U):dh c ρ K V :=
 ⟨sv,c,ρ,h,aw.le_refl _,Env.aq _ _,hv⟩
theorem dh.mono{c:aw}{ρ:Env}{K:SV->aw->Env->Prop}{V V':SV->Env->Prop}(h:dh c ρ K V)(hv:∀sv U,Env.aE c ρ U->V sv U->V' sv U):dh c ρ K V':=by
 obtain⟨sv,c',ah,h1,h2,h3,h4⟩:=h;exact⟨sv,c',ah,h1,h2,h3,λU h5=>hv sv U (Env.aj h2 h3 h5) (h4 U h5)⟩
variable {P:Program} {W:e_} {Q:Value->Prop} {QM QP:World->Value->Prop}
theorem zx{c:aw}{k:IntKind}{p:IP}{K:SV->aw->Env->Prop}{ρ:Env}(h:iA (PA P W Q QM QP) c k p K ρ) :
    dh c ρ K λsv U=>∀β,sv.den U β=.int k (p.den U)/\sv ≠ .any:=by
  unfold iA at h;cases hl:p.lits with
  |true =>
    rw [hl]at h;simp only [Oh]at h;exact dh.pure h λU _ β=>⟨by simp only [SV.den,CV.den,At.den,IE.den];rw [IP.qK hl],by simp⟩
  |false =>
    rw [hl]at h;simp only at h;split at h
    · rename_i hw;have h1:=h (p.den ρ) rfl;have hle:c.le {c with ni:=c.ni+1}:=zq c (.int k);refine⟨_,_,_,h1,hle,zU c ρ _,λU hl β=>⟨?_,by simp⟩⟩
      have e1:U.i c.ni=p.den ρ:=by
        rw [hl.i c.ni (Nat.lt_succ_self _)];exact if_pos rfl
      simp only [SV.den,CV.den,At.den,IE.den,e1];rw [IP.ae (Env.aj hle (zU c ρ _) hl) hw]
    · exact h.elim
theorem DC{c:aw}{p:SP}{K:SV->aw->Env->Prop}{ρ:Env}(h:nI (PA P W Q QM QP) c p K ρ) :
  dh c ρ K λsv U=>p.ok U/\sv ≠ .any/\∀β,sv.den U β=.string ⟨(p.den U).toArray⟩:=by
 unfold nI at h;split at h
 ·rename_i hl;rw [Gi]at h
  exact dh.pure h λU _=>⟨(SP.qN (ah:=U) hl.1 hl.2).2,by simp,λβ=>by
   simp only [SV.den,CV.den,At.den];rw [(SP.qN (ρ:=Env.zero) (ah:=U) hl.1 hl.2).1]⟩
 split at h
 ·rename_i hw;obtain⟨h0,h1⟩:=h;have h1:=h1 (p.den ρ) rfl;have hle:c.le {c with ns:=c.ns+1}:=zq c .str;refine⟨_,_,_,h1,hle,DA c ρ _,λU hl => ?_⟩
  have e1:U.s c.ns=p.den ρ:=by
   rw [hl.s c.ns (Nat.lt_succ_self _)];exact if_pos rfl
  have hk:=SP.aE (Env.aj hle (DA c ρ _) hl) hw;refine⟨hk.2 h0,by simp,λβ => ?_⟩;simp only [SV.den,CV.den,At.den,e1];rw [hk.1]
 ·exact h.elim
theorem oT(ρ:Env)(n:Int):(IE.lit n).den ρ=n:=rfl
theorem yj{ρ:Env}{d:BE}{t f:Env->Prop}(h:(d.prop ρ->t ρ)/\(¬d.prop ρ->f ρ)):(d.den ρ=true/\t ρ)∨(d.den ρ=false/\f ρ):=by
 by_cases hd:d.den ρ=true
 ·exact .inl ⟨hd,h.1 ((BE.ed ρ d).2 hd)⟩
 ·exact .inr ⟨by simpa using hd,h.2 λhp=>hd ((BE.ed ρ d).1 hp)⟩
theorem zb{e:BE}{r:Env->Prop}{ρ:Env}(h:bH (PA P W Q QM QP) e r ρ):e.prop ρ/\r ρ:=by
  unfold bH at h;have hs:=BE.fY ρ e;generalize e.lb=d at h hs;have key:d.prop ρ/\r ρ->e.prop ρ/\r ρ:=λhh=>⟨(BE.ed ρ e).2 (hs▸(BE.ed ρ _).1 hh.1),hh.2⟩;cases d with
  |lit b=>cases b with
    |true=>exact key ⟨rfl,h⟩
    |false=>exact key h
  |_=>exact key h
theorem zw{e:BE}{t f:Unit->Env->Prop}{ρ:Env}(h:gC (PA P W Q QM QP) e t f ρ):(e.den ρ=true/\t () ρ)∨(e.den ρ=false/\f () ρ):=by
  unfold gC at h;split at h
  · exact .inl ⟨rfl,h⟩
  · exact .inr ⟨rfl,h⟩
  rw [<-BE.fY ρ e];generalize e.lb=d at h;cases d with
  |lit b=>cases b with
    |true=>exact .inl ⟨rfl,h⟩
    |false=>exact .inr ⟨rfl,h⟩
  |not d =>
    rcases yj h with ⟨h1,h2⟩|⟨h1,h2⟩
    · exact .inr ⟨by simp only [BE.den,h1,Bool.not_true],h2⟩
    · exact .inl ⟨by simp only [BE.den,h1,Bool.not_false],h2⟩
  |cmp op a b =>
    cases op
    case neq =>
      rcases yj (d := .cmp .eql a b) h with ⟨h1,h2⟩|⟨h1,h2⟩
      · exact .inr ⟨by simp only [BE.den,iN]at h1 ⊢;simp [bne,h1],h2⟩
      · exact .inl ⟨by simp only [BE.den,iN]at h1 ⊢;simp [bne,h1],h2⟩
    all_goals exact yj h
  |_=>exact yj h
theorem CF{e:IE}{n:Nat}{K:Nat->Env->Prop}{ρ:Env}(h0:0<=e.den ρ)(h1:e.den ρ < n) :
    ∀(j:Nat),j<=n->((n-j:Nat):Int)<=e.den ρ->jB (PA P W Q QM QP) e n j K ρ->∃m:Nat,m<n/\e.den ρ=m/\K m ρ
  |0,_,_,h=>h.elim
  |1,hj,hl,h=>⟨n-1,by omega,by omega,h⟩
  |j+2,hj,hl,h=>by
    rcases zw h with ⟨hd,h⟩|⟨hd,h⟩
    · simp only [BE.den,iN,oT,beq_iff_eq]at hd;exact⟨n-(j+2),by omega,hd,h⟩
    · simp only [BE.den,iN,oT,beq_eq_false_iff_ne,ne_eq]at hd;exact CF h0 h1 (j+1) (by omega) (by omega) h
theorem H'(op:BinOp)(t:TypeId)(k:IntKind)(a b:Int)(w:World)(h:kz op=true):(binOp op t (.int k a) (.int k b)).run P w=.ok (.int k (lZ op k a b)) w:=by
 cases op<;>first | (simp [kz]at h;done) | (simp [binOp,Op.intArith,Op.intBits,lZ,bits])
theorem Ia(op:BinOp)(t:TypeId)(k:IntKind)(a b:Int)(w:World)(h:op=.quo∨op=.rem)(hb:b≠0):(binOp op t (.int k a) (.int k b)).run P w=.ok (.int k (lZ op k a b)) w:=by
 rcases h with rfl|rfl<;>simp [binOp,Op.intDiv,lZ,hb]
theorem Ib(op:BinOp)(t:TypeId)(k:IntKind)(a b:Int)(w:World)(h:pb op=true):(binOp op t (.int k a) (.int k b)).run P w=.ok (.bool (iN op a b)) w:=by
 cases op<;>first | (simp [pb]at h;done) | (simp [binOp,Op.intCmp,iN])
theorem Ox(t:TypeId)(k k':IntKind)(a b:Int)(w:World)(hb:0<=b):(binOp .shl t (.int k a) (.int k' b)).run P w=.ok (.int k (lZ .shl k a b)) w:=by
 have:¬b<0:=by omega
 simp [binOp,Op.shift,lZ,this]
theorem Oy(t:TypeId)(k k':IntKind)(a b:Int)(w:World)(hb:0<=b):(binOp .shr t (.int k a) (.int k' b)).run P w=.ok (.int k (lZ .shr k a b)) w:=by
 have:¬b<0:=by omega
 simp [binOp,Op.shift,lZ,this]
theorem Ic(k:IntKind)(a n:Int)(h0:0<=n)(h1:n.toNat<k.bits):lZ .shl k a n=k.wrap (a*((2 ^ n.toNat:Nat):Int)):=by
 simp only [lZ];rw [show Nat.min n.toNat k.bits=n.toNat from Nat.min_eq_left (by omega)]
 norm_cast
theorem Ie(k:IntKind)(a n:Int)(h0:0<=n)(h1:n.toNat<k.bits):lZ .shr k a n=a / ((2 ^ n.toNat:Nat):Int):=by
 simp only [lZ];rw [show Nat.min n.toNat k.bits=n.toNat from Nat.min_eq_left (by omega)];rw [show ((2:Int) ^ n.toNat)=((2 ^ n.toNat:Nat):Int) by norm_cast];exact Int.fdiv_eq_ediv_of_nonneg _ (Int.natCast_nonneg _)
theorem SK(op:BinOp)(t:TypeId)(x y:Operand)(k k':IntKind)(a b:Int)(w:World):(eqGuard op t x y (.int k a) (.int k' b)).run P w=.ok () w:=by
 cases op<;>simp [eqGuard]
theorem Oz(op:BinOp)(t:TypeId)(x y:Operand)(a b:Bool)(w:World):(eqGuard op t x y (.bool a) (.bool b)).run P w=.ok () w:=by
 cases op<;>simp [eqGuard]
def oU(P:Program)(op:BinOp)(t:TypeId)(x y:SV)(sv:SV)(ρ:Env):Prop :=
 sv ≠ .any/\∀(β:Nat->Nat) (w:World) (xo yo:Operand),((do eqGuard op t xo yo (x.den ρ β) (y.den ρ β);binOp op t (x.den ρ β) (y.den ρ β)):Sem Value).run P w=.ok (sv.den ρ β) w
theorem oU.ints{op:BinOp}{t:TypeId}{k k':IntKind}{a b:IE}{sv:SV}{ρ:Env}(h0:sv ≠ .any)
  (h:∀(β:Nat->Nat) (w:World),(binOp op t (.int k (a.den ρ)) (.int k' (b.den ρ))).run P w=.ok (sv.den ρ β) w):oU P op t (.cv (.one (.int k a))) (.cv (.one (.int k' b))) sv ρ:=by
 refine⟨h0,λβ w xo yo => ?_⟩;simp only [SV.den,CV.den,At.den,Sem.run_bind,SK,Result.andThen_ok];exact h β w
end Vc
set_option linter.unusedVariables false
namespace Vc
open Go Go.RowKit
variable {P:Program}
theorem yk{k:CK}{r:List CK}{a b:List At}{e:BE}(h:bj (k::r) a b=some e) :
    ∃a0 x b0 y e1 e2,a=a0::x/\b=b0::y/\gh k a0 b0=some e1/\bj r x y=some e2/\e=.and e1 e2:=by
  cases a with
  |nil=>simp [bj]at h
  |cons a0 x =>
    cases b with
    |nil=>simp [bj]at h
    |cons b0 y =>
      simp only [bj]at h;split at h
      · rename_i e1 e2 h1 h2;simp only [Option.some.injEq]at h;exact⟨a0,x,b0,y,e1,e2,rfl,rfl,h1,h2,h.symm⟩
      · cases h
theorem Ig(ρ:Env):∀ (k1 k2:List CK) {a b:List At} {e:BE},bj (k1++k2) a b=some e ->
    ∃e1 e2,bj k1 (a.take k1.length) (b.take k1.length)=some e1/\bj k2 (a.drop k1.length) (b.drop k1.length)=some e2/\e.den ρ=(e1.den ρ && e2.den ρ)
  | [],k2,a,b,e,h=>⟨.lit true,e,by simp [bj],by simpa using h,by simp [BE.den]⟩
  |c::k1,k2,a,b,e,h=>by
    obtain⟨a0,x,b0,y,e1,e2,rfl,rfl,h1,h2,rfl⟩:=yk h;obtain⟨f1,f2,q1,q2,q3⟩:=Ig ρ k1 k2 h2;exact⟨.and e1 f1,f2,by simp [bj,h1,q1],by simpa using q2,by simp only [BE.den,q3,Bool.and_assoc]⟩
def lf(P:Program)(t:TypeId)(ρ:Env)(β:Nat->Nat)(x:Value)(xs:List At):Prop :=
 match P.underlying t with
 |some (.struct _)|some (.array _ _)=>x=.agg (xs.map (At.den ρ β)).toArray
 |_=>∃a,xs=[a]/\x=a.den ρ β
theorem u9{t:TypeId}{g:Bool}{n:Nat}(h:aP P t=some (g,n)) :
  ∃d i,P.underlying t=some d/\P.info? t=some i/\n=i.size/\g=(match d with | .struct _ | .array _ _=>true|_=>false):=by
 unfold aP at h;split at h
 ·rename_i d i h1 h2;simp only [Option.some.injEq,Prod.mk.injEq]at h;exact⟨d,i,h1,h2,h.2.symm,h.1.symm⟩
 ·cases h
theorem Gn{t:TypeId}{g:Bool}{n:Nat}(h:aP P t=some (g,n))(w:World):(isAgg t).run P w=.ok g w:=by
 obtain⟨d,i,h1,h2,rfl,rfl⟩:=u9 h;unfold isAgg;simp only [Sem.run_bind,run_underlying h1,Result.andThen_ok];cases d<;>rfl
theorem qY{t:TypeId}{g:Bool}{n:Nat}(h:aP P t=some (g,n))(w:World):(Go.sizeOf t).run P w=.ok n w:=by
 obtain⟨d,i,h1,h2,rfl,rfl⟩:=u9 h;simp [Go.sizeOf,typeInfo,h2]
theorem SL(xs:List Value)(off n:Nat):(xs.toArray.extract off (off+n))=((xs.drop off).take n).toArray:=by
 apply Array.ext';rw [Array.toList_extract];simp [List.extract]
theorem Ih{t:TypeId}{g:Bool}{n:Nat}(h:aP P t=some (g,n))(hg:g=true)(xs:List Value)(off:Nat)(w:World) :
  (part t xs.toArray off).run P w=.ok (.agg ((xs.drop off).take n).toArray) w:=by
 subst hg;simp only [part,Sem.run_bind,Gn h,Result.andThen_ok,if_true,qY h,Sem.run_pure,SL]
theorem OA{t:TypeId}{g:Bool}{n:Nat}(h:aP P t=some (g,n))(hg:g=false)(xs:List Value)(off:Nat)(v:Value)(hv:xs[off]? = some v)(w:World) :
  (part t xs.toArray off).run P w=.ok v w:=by
 subst hg;simp [part,Gn h,hv]
theorem CG(ρ:Env):∀{ks:List CK} {a b:List At} {e:BE},bj ks a b=some e->a.length=ks.length/\b.length=ks.length
  | [],a,b,e,h=>by
    cases a with
    |nil=>cases b with
      |nil=>exact⟨rfl,rfl⟩
      |cons _ _=>simp [bj]at h
    |cons _ _=>simp [bj]at h
  |c::ks,a,b,e,h=>by
    obtain⟨a0,x,b0,y,e1,e2,rfl,rfl,h1,h2,rfl⟩:=yk h
    have:=CG ρ h2
    simp [this]
theorem CH{t:TypeId}{g:Bool}{n:Nat}(h:aP P t=some (g,n)){ρ:Env}{β:Nat->Nat}(xs:List At)(off:Nat)(hs:g=false->n=1)(hl:((xs.drop off).take n).length=n)(w:World) :
    ∃v,(part t (xs.map (At.den ρ β)).toArray off).run P w=.ok v w/\lf P t ρ β v ((xs.drop off).take n):=by
  obtain⟨d,i,h1,h2,rfl,rfl⟩:=u9 h;cases d
  case struct fs =>
    exact⟨_,Ih h rfl _ off w,by simp [lf,h1,List.map_take,List.map_drop]⟩
  case array m e =>
    exact⟨_,Ih h rfl _ off w,by simp [lf,h1,List.map_take,List.map_drop]⟩
  all_goals
    rw [hs rfl]at hl ⊢;cases hx:(xs.drop off).take 1 with
    |nil=>rw [hx]at hl;simp at hl
    |cons a r =>
      have hr:r=[]:=by rw [hx]at hl;simpa using hl
      subst hr
      have ha:xs[off]? = some a:=by
        have h3:((xs.drop off).take 1)[0]? = some a:=by rw [hx];rfl
        rw [List.getElem?_take_of_lt (by omega),List.getElem?_drop]at h3;simpa using h3
      exact⟨a.den ρ β,OA h rfl _ off _ (by simp [ha]) w,by simp [lf,h1]⟩
def Bb(P:Program)(d:Nat)(t:TypeId)(ks:List CK):Prop :=
 ∀(ρ:Env) (β:Nat->Nat) (xs ys:List At) (e:BE) (x y:Value) (w:World),bj ks xs ys=some e->lf P t ρ β x xs->lf P t ρ β y ys->(Op.equalIn d t x y).run P w=.ok (e.den ρ) w
theorem OB{d:Nat}{f:TypeId->Option (List CK)}(IH:∀ t ks,f t=some ks->Bb P d t ks/\(∀ g n,aP P t=some (g,n)->g=false->ks.length=1))(ρ:Env)(β:Nat->Nat)(xs ys:List At)(w:World) :
    ∀(fs:List Field) (off:Nat) (ks:List CK) (e:BE),uj P f off fs=some ks->bj ks (xs.drop off) (ys.drop off)=some e ->
      (Op.eqFields d (xs.map (At.den ρ β)).toArray (ys.map (At.den ρ β)).toArray fs).run P w=.ok (e.den ρ) w
  | [],off,ks,e,h,he=>by
    simp only [uj,Option.some.injEq]at h;subst h
    have:=CG ρ he
    have h1:xs.drop off=[]:=List.eq_nil_of_length_eq_zero (by simpa using this.1);have h2:ys.drop off=[]:=List.eq_nil_of_length_eq_zero (by simpa using this.2);rw [h1,h2]at he;simp only [bj,Option.some.injEq]at he;subst he;simp [Op.eqFields,BE.den]
  |fd::r,off,ks,e,h,he=>by
    simp only [uj]at h;split at h
    · cases h
    · rename_i hn;simp only [not_or,Decidable.not_not]at hn;obtain⟨hn,ho⟩:=hn;split at h
      · rename_i k1 g n h1 h2;split at h
        · rename_i hl;simp only [Option.map_eq_some_iff]at h;obtain⟨k2,h3,rfl⟩:=h;obtain⟨e1,e2,q1,q2,q3⟩:=Ig ρ k1 k2 he;obtain⟨Gp,sc⟩:=IH _ _ h1;have n7:=CG ρ q1;subst hl;obtain⟨v,p1,v1⟩:=CH (ρ:=ρ) (β:=β) h2 xs off (λhg=>sc _ _ h2 hg) n7.1 w;obtain⟨u,p2,u1⟩:=CH (ρ:=ρ) (β:=β) h2 ys off (λhg=>sc _ _ h2 hg) n7.2 w;have r1:=Gp ρ β _ _ e1 v u w q1 v1 u1;have r2:=OB IH ρ β xs ys w r (off+k1.length) k2 e2 h3 (by rw [List.drop_drop]at q2;rw [List.drop_drop]at q2;exact q2);subst ho;simp only [Op.eqFields,hn,ne_eq,not_false_eq_true,if_true,Sem.run_bind,p1,p2,r1,Result.andThen_ok,q3];cases e1.den ρ
          · simp
          · simpa using r2
        · cases h
      · cases h
theorem OC{d:Nat}{t:TypeId}{k1:List CK}{g:Bool}(Gp:Bb P d t k1)(hz:aP P t=some (g,k1.length))(sc:g=false->k1.length=1)(ρ:Env)(β:Nat->Nat)(xs ys:List At)(w:World) :
    ∀(m i:Nat) (e:BE),bj (times k1 m) (xs.drop (i*k1.length)) (ys.drop (i*k1.length))=some e ->
      (Op.eqItems d t k1.length (xs.map (At.den ρ β)).toArray (ys.map (At.den ρ β)).toArray (List.range' i m)).run P w=.ok (e.den ρ) w
  |0,i,e,he=>by
    have:=CG ρ he
    have h1:xs.drop (i*k1.length)=[]:=List.eq_nil_of_length_eq_zero (by simpa [times]using this.1);have h2:ys.drop (i*k1.length)=[]:=List.eq_nil_of_length_eq_zero (by simpa [times]using this.2);rw [h1,h2]at he;simp only [times,bj,Option.some.injEq]at he;subst he;simp [Op.eqItems,BE.den]
  |m+1,i,e,he=>by
    obtain⟨e1,e2,q1,q2,q3⟩:=Ig ρ k1 (times k1 m) he;have n7:=CG ρ q1;obtain⟨v,p1,v1⟩:=CH (ρ:=ρ) (β:=β) hz xs (i*k1.length) sc n7.1 w;obtain⟨u,p2,u1⟩:=CH (ρ:=ρ) (β:=β) hz ys (i*k1.length) sc n7.2 w;have r1:=Gp ρ β _ _ e1 v u w q1 v1 u1;have r2:=OC Gp hz sc ρ β xs ys w m (i+1) e2 (by rw [List.drop_drop,List.drop_drop]at q2;rw [Nat.add_mul,Nat.one_mul];exact q2);rw [List.range'_succ];simp only [Op.eqItems,Sem.run_bind,p1,p2,r1,Result.andThen_ok,q3];cases e1.den ρ
    · simp
    · simpa using r2
theorem SM(bs:ByteArray)(i:Nat)(r:List UInt8):ByteArray.toList.loop bs i r=r.reverse++bs.data.toList.drop i:=by
  fun_induction ByteArray.toList.loop bs i r with
  |case1 i r h ih =>
    rw [ih];have h':i<bs.data.size:=h
    have h2:bs.data.toList.drop i=bs.get! i::bs.data.toList.drop (i+1):=by
      rw [List.drop_eq_getElem_cons (by simpa using h')];congr 1
      cases bs with|mk d =>
        show d.toList[i]=d[i]!;rw [getElem!_pos d i h'];simp
    rw [h2];simp
  |case2 i r h =>
    have:bs.data.toList.drop i=[]:=List.drop_eq_nil_of_le (by have:¬i<bs.data.size:=h;simpa using Nat.le_of_not_lt this)
    simp [this]
theorem OD(l:List UInt8):(⟨l.toArray⟩:ByteArray).toList=l:=by
 unfold ByteArray.toList;rw [SM];simp
theorem xG{a:At}{s:SE}(h:strOf a=some s)(ρ:Env)(β:Nat->Nat):a.den ρ β=.string ⟨(s.den ρ).toArray⟩:=by
 cases a<;>simp only [strOf,Option.some.injEq,reduceCtorEq]at h<;>subst h<;>rfl
theorem DD(a b:List UInt8):((⟨a.toArray⟩:ByteArray)=⟨b.toArray⟩)↔a=b:=by
 simp
theorem Gq:∀(n:Nat) (t:TypeId) (ks:List CK),kU P n t=some ks->∀g m,aP P t=some (g,m)->g=false->ks.length=1
  |0,_,_,h=>by cases h
  |n+1,t,ks,h=>by
    intro g m hz hg;obtain⟨d,i,h1,h2,rfl,rfl⟩:=u9 hz;simp only [kU,h1]at h;cases d<;>simp only [reduceCtorEq,Option.some.injEq]at h hg
    all_goals (subst h;rfl)
theorem DE(d:Nat):∀(n:Nat) (t:TypeId) (ks:List CK),kU P n t=some ks->Bb P (d+n) t ks
  |0,_,_,h=>by cases h
  |n+1,t,ks,h=>by
    intro ρ β xs ys e x y w he hx hy;simp only [kU]at h;cases hu:P.underlying t with
    |none=>simp [hu]at h
    |some dd =>
      simp only [hu]at h;simp only [lf,hu]at hx hy;cases dd<;>simp only [reduceCtorEq,Option.some.injEq]at h
      case int k =>
        subst h;obtain⟨a,rfl,rfl⟩:=hx;obtain⟨b,rfl,rfl⟩:=hy;obtain⟨a0,x,b1,y,e1,e2,p1,p2,h1,h2,rfl⟩:=yk he;cases p1;cases p2;simp only [bj,Option.some.injEq]at h2;subst h2;simp only [gh]at h1;split at h1
        · split at h1
          · rename_i hk;simp only [Option.some.injEq]at h1;subst h1;obtain⟨rfl,rfl⟩:=hk;simp only [At.den,BE.den,iN,Bool.and_true];exact run_equalIn_int w (d+n) t _ _ _ _ hu
          · cases h1
        · cases h1
      case bool =>
        subst h;obtain⟨a,rfl,rfl⟩:=hx;obtain⟨b,rfl,rfl⟩:=hy;obtain⟨a0,x,b1,y,e1,e2,p1,p2,h1,h2,rfl⟩:=yk he;cases p1;cases p2;simp only [bj,Option.some.injEq]at h2;subst h2;simp only [gh]at h1;split at h1
        · simp only [Option.some.injEq]at h1;subst h1;simp only [At.den,BE.den,Bool.and_true];exact run_equalIn_bool w (d+n) t _ _ hu
        · cases h1
      case string =>
        subst h;obtain⟨a,rfl,rfl⟩:=hx;obtain⟨b,rfl,rfl⟩:=hy;obtain⟨a0,x,b1,y,e1,e2,p1,p2,h1,h2,rfl⟩:=yk he;cases p1;cases p2;simp only [bj,Option.some.injEq]at h2;subst h2;simp only [gh]at h1;split at h1
        · rename_i p q hp hq;simp only [Option.some.injEq]at h1;subst h1;rw [xG hp,xG hq];simp only [BE.den,Bool.and_true];rw [show d+(n+1)=(d+n)+1 from rfl,run_equalIn_string w (d+n) t _ _ hu];congr 1;by_cases hc:p.den ρ=q.den ρ
          · simp [hc]
          · have:¬((⟨(p.den ρ).toArray⟩:ByteArray)=⟨(q.den ρ).toArray⟩):=λhe=>hc ((DD _ _).1 he)
            simp [hc,this]
        · cases h1
      case struct fs =>
        subst hx hy;split at h
        · cases h
        · rename_i hp;have Gr:P.fieldsOf t=fs:=by simp [Program.fieldsOf,hu]
          have:=OB (λt ks h=>⟨DE d n t ks h,Gq n t ks h⟩) ρ β xs ys w fs.toList 0 ks e h (by simpa using he)
          rw [show d+(n+1)=(d+n)+1 from rfl,run_equalIn_struct w (d+n) t _ _ (by rw [Gr];exact hu) (by simpa using hp),Gr];exact this
      case array m el =>
        subst hx hy;split at h
        · rename_i k1 g s h1 h2;split at h
          · rename_i hs;subst hs;simp only [Option.some.injEq]at h;subst h;obtain⟨d',i',_,hi,lJ,_⟩:=u9 h2
            have:=OC (DE d n el k1 h1) h2 (λhg=>Gq n el k1 h1 _ _ h2 hg) ρ β xs ys w m 0 e (by simpa using he)
            rw [show d+(n+1)=(d+n)+1 from rfl,run_equalIn_array w (d+n) _ _ hu hi,List.range_eq_range'];rw [show P.cellsOf el=k1.length by simp [Program.cellsOf,hi,lJ]];exact this
          · cases h
        · cases h
theorem Ii{t:TypeId}{ks:List CK}{xs ys:List At}{e:BE}(hk:kU P 30 t=some ks)(he:bj ks xs ys=some e)(ha:∃g n,aP P t=some (g,n)/\g=true)(ρ:Env)(β:Nat->Nat)(w:World) :
  (Op.equalIn 10000 t (.agg (xs.map (At.den ρ β)).toArray) (.agg (ys.map (At.den ρ β)).toArray)).run P w=.ok (e.den ρ) w:=by
 obtain⟨g,n,hz,rfl⟩:=ha;obtain⟨d,i,h1,h2,rfl,hg⟩:=u9 hz;refine DE 9970 30 t ks hk ρ β xs ys e _ _ w he ?_ ?_
 ·cases d<;>simp only [reduceCtorEq]at hg<;>simp [lf,h1]
 ·cases d<;>simp only [reduceCtorEq]at hg<;>simp [lf,h1]
end Vc
set_option linter.unusedVariables false
namespace Vc
open Go Go.RowKit
variable {P:Program} {W:e_} {Q:Value->Prop} {QM QP:World->Value->Prop}
theorem OE(op:BinOp)(t:TypeId)(x y:Operand)(a b:Array Value)(w:World)(h:P.eqGuardType P.depth t=false):(eqGuard op t x y (.agg a) (.agg b)).run P w=.ok () w :=
 run_eqGuard_agg w op t x y a b h
theorem Ij(t:TypeId)(a b:Bool)(w:World)(h:P.underlying t=some .bool):(binOp .eql t (.bool a) (.bool b)).run P w=.ok (.bool (a == b)) w:=by
 simp only [binOp];simp [run_equal_bool w t a b h]
theorem Ik(t:TypeId)(a b:Bool)(w:World)(h:P.underlying t=some .bool):(binOp .neq t (.bool a) (.bool b)).run P w=.ok (.bool (!(a == b))) w:=by
 simp only [binOp];simp [run_equal_bool w t a b h]
theorem xH(e:BE)(ρ:Env)(β:Nat->Nat):(SV.cv (.one (.bool e.lb))).den ρ β=.bool (e.den ρ):=by
 simp only [SV.den,CV.den,At.den,BE.fY]
theorem OF(p q:List UInt8):(p == q)=decide (p=q):=by
 by_cases hc:p=q
 ·subst hc;simp
 ·rw [decide_eq_false hc];exact beq_eq_false_iff_ne.2 hc
theorem Il(op:BinOp)(t:TypeId)(x y:Operand)(a b:ByteArray)(w:World):(eqGuard op t x y (.string a) (.string b)).run P w=.ok () w:=by
 cases op<;>simp [eqGuard]
def DF:Value->Bool
 | .pointer _ | .slice _ _ _ | .nilFunc | .func _ _ _=>true
 |_=>false
theorem OG{p:At}(h:ee p≠3)(ρ:Env)(β:Nat->Nat):DF (p.den ρ β)=true:=by
 cases p<;>simp [ee]at h<;>simp only [At.den]<;>first|rfl | (split<;>rfl)
theorem OH(op:BinOp)(t:TypeId)(x y:Operand)(a b:Value)(h:DF a=true)(w:World):(eqGuard op t x y a b).run P w=.ok () w:=by
 cases a<;>simp [DF]at h<;>cases op<;>simp [eqGuard]
theorem Im{a:Value}(b:Value)(h:DF a=true)(t:TypeId):(binOp .eql t a b=do pure (.bool (<-Op.equal t a b)))/\(binOp .neq t a b=do pure (.bool (!(<-Op.equal t a b)))):=by
 cases a<;>simp [DF]at h<;>exact⟨rfl,rfl⟩
theorem OI(op:BinOp)(t:TypeId)(x y:Operand)(p q:At)(h:ee p≠3)(ρ:Env)(β:Nat->Nat)(w:World):(eqGuard op t x y (p.den ρ β) (q.den ρ β)).run P w=.ok () w :=
 OH op t x y _ _ (OG h ρ β) w
theorem Io(d:Nat){t e:TypeId}(a:Option Addr)(w:World)(h:P.underlying t=some (.pointer e)):(Op.equalIn (d+1) t (.pointer none) (.pointer a)).run P w=.ok a.isNone w:=by
 cases a<;>simp [Op.equalIn,run_underlying h]
theorem Ip(d:Nat){t e:TypeId}(a:Option Addr)(w:World)(h:P.underlying t=some (.pointer e)):(Op.equalIn (d+1) t (.pointer a) (.pointer none)).run P w=.ok a.isNone w:=by
 cases a<;>simp [Op.equalIn,run_underlying h]
theorem Iq(d:Nat){t e:TypeId}(b o o':Nat)(w:World)(h:P.underlying t=some (.pointer e)){i:TypeInfo}(hi:P.info? e=some i)(hs:i.size≠0) :
  (Op.equalIn (d+1) t (.pointer (some ⟨b,o,none⟩)) (.pointer (some ⟨b,o',none⟩))).run P w=.ok (decide (o=o')) w:=by
 have hz:(Go.sizeOf e).run P w=.ok i.size w:=by simp [Go.sizeOf,typeInfo,hi]
 by_cases ho:o=o'<;>simp [Op.equalIn,run_underlying h,hz,hs,sameAddr,ho]
theorem OJ(d:Nat){t e:TypeId}(a:Option Addr)(n c:Nat)(w:World)(h:P.underlying t=some (.slice e)):(Op.equalIn (d+1) t (.slice none 0 0) (.slice a n c)).run P w=.ok a.isNone w:=by
 cases a<;>simp [Op.equalIn,run_underlying h]
theorem Ir(d:Nat){t e:TypeId}(a:Option Addr)(n c:Nat)(w:World)(h:P.underlying t=some (.slice e)):(Op.equalIn (d+1) t (.slice a n c) (.slice none 0 0)).run P w=.ok a.isNone w:=by
 cases a<;>simp [Op.equalIn,run_underlying h]
theorem Is(d:Nat){t:TypeId}{a b c}(w:World)(h:P.underlying t=some (.func a b c)):(Op.equalIn (d+1) t .nilFunc .nilFunc).run P w=.ok true w:=by
 simp [Op.equalIn,run_underlying h]
theorem It(d:Nat){t:TypeId}{a b c}(x y z)(w:World)(h:P.underlying t=some (.func a b c)):(Op.equalIn (d+1) t .nilFunc (.func x y z)).run P w=.ok false w:=by
 simp [Op.equalIn,run_underlying h]
theorem Iu(d:Nat){t:TypeId}{a b c}(x y z)(w:World)(h:P.underlying t=some (.func a b c)):(Op.equalIn (d+1) t (.func x y z) .nilFunc).run P w=.ok false w:=by
 simp [Op.equalIn,run_underlying h]
theorem OK{t:TypeId}{x y:At}{e:BE}(h:pc P t x y=some e)(ρ:Env)(β:Nat->Nat)(w:World):(Op.equal t (x.den ρ β) (y.den ρ β)).run P w=.ok (e.den ρ) w:=by
 unfold Op.equal Op.maxDepth;generalize hd:10000=d;obtain⟨d,rfl⟩:∃d',d=d'+1:=⟨9999,hd.symm⟩;clear hd;unfold pc at h;split at h
 ·rename_i el hu;split at h
  ·rename_i hk;split at h
   ·rename_i b hb;simp only [Option.some.injEq]at h;subst h;cases x<;>simp [ee]at hk<;>cases y<;>simp [ee]at hk<;>simp [pD,uk]at hb<;>subst hb<;>first|exact Io d _ w hu|exact Ip d _ w hu
   ·split at h
    ·rename_i k o k' o';split at h
     ·rename_i g n hn;split at h
      ·rename_i hc;simp only [Option.some.injEq]at h;subst h;obtain⟨rfl,eS⟩:=hc;unfold aP at hn;split at hn
       ·rename_i d0 i hd hi;simp only [Option.some.injEq,Prod.mk.injEq]at hn;obtain⟨_,rfl⟩:=hn;exact Iq d _ _ _ w hu hi eS
       ·cases hn
      ·cases h
     ·cases h
    ·cases h
  ·cases h
 ·rename_i el hu;split at h
  ·rename_i hk;cases x<;>simp [ee]at hk<;>cases y<;>simp [ee]at hk<;>simp [pD,uk]at h<;>subst h<;>simp only [At.den,BE.den]
   all_goals first|exact OJ d _ _ _ w hu|exact Ir d _ _ _ w hu | (split<;>rename_i hq<;>simp only [hq]<;>first|exact OJ d _ _ _ w hu|exact Ir d _ _ _ w hu)
  ·cases h
 ·rename_i hu;split at h
  ·rename_i hk;cases x<;>simp [ee]at hk<;>cases y<;>simp [ee]at hk<;>simp [pD,uk]at h<;>subst h<;>first|exact Is d w hu|exact It d _ _ _ w hu|exact Iu d _ _ _ w hu
  ·cases h
 ·cases h
theorem OL{x:At}(y:At)(h:ee x≠3)(t:TypeId)(ρ:Env)(β:Nat->Nat):(binOp .eql t (x.den ρ β) (y.den ρ β)=do pure (.bool (<-Op.equal t (x.den ρ β) (y.den ρ β))))/\(binOp .neq t (x.den ρ β) (y.den ρ β)=do pure (.bool (!(<-Op.equal t (x.den ρ β) (y.den ρ β))))) :=
 Im _ (OG h ρ β) t
theorem SN{t:TypeId}{x y:At}{e:BE}(h:pc P t x y=some e):ee x≠3:=by
 unfold pc at h;split at h
 ·split at h
  ·rename_i hk;omega
  ·cases h
 ·split at h
  ·rename_i hk;omega
  ·cases h
 ·split at h
  ·rename_i hk;omega
  ·cases h
 ·cases h
theorem Iv{t:TypeId}{a b:List UInt8}{w:World}(h:a.length+b.length<=9223372036854775807):(binOp .add t (.string ⟨a.toArray⟩) (.string ⟨b.toArray⟩)).run P w=.ok (.string ⟨(a++b).toArray⟩) w:=by
 have e:(⟨a.toArray⟩++⟨b.toArray⟩:ByteArray)=⟨(a++b).toArray⟩:=by
  apply ByteArray.ext;simp
 have hs:¬((((⟨a.toArray⟩:ByteArray).size+(⟨b.toArray⟩:ByteArray).size:Nat):Int) > IntKind.i64.max):=by
  show ¬(((a.toArray.size+b.toArray.size:Nat):Int) > 9223372036854775807);simp only [List.size_toArray];omega
 simp only [binOp,Op.stringOp];rw [if_neg hs,e];rfl
theorem SO{c:aw}{op:BinOp}{t:TypeId}{x y:SV}{K:SV->aw->Env->Prop}{ρ:Env}(hx:x.wf c=true)(hy:y.wf c=true)
  (h:mH (PA P W Q QM QP) P c op t x y K ρ):dh c ρ K (oU P op t x y):=by
 unfold mH at h;split at h
 ·rename_i k a k' b;have wa:a.wf c=true:=hx;have wb:b.wf c=true:=hy;split at h
  ·rename_i ho;subst ho;split at h
   ·rename_i n;split at h
    ·rename_i hn;refine (zx h).mono λsv U _ hv=>oU.ints (hv b0).2 λβ w => ?_;rw [(hv β).1,oT,Ox t k k' _ _ w hn.1,Ic k _ n hn.1 hn.2];rfl
    ·exact h.elim
   ·obtain⟨h1,h2⟩:=zb h;refine (zx h2).mono λsv U hl hv=>oU.ints (hv b0).2 λβ w => ?_;have h3:0<=b.den U:=by rw [IE.ae hl wb];exact h1
    rw [(hv β).1,Ox t k k' _ _ w h3];rfl
  ·split at h
   ·rename_i ho;subst ho;split at h
    ·rename_i n;split at h
     ·rename_i hn;refine (zx h).mono λsv U _ hv=>oU.ints (hv b0).2 λβ w => ?_;rw [(hv β).1,oT,Oy t k k' _ _ w hn.1,Ie k _ n hn.1 hn.2];rfl
     ·exact h.elim
    ·obtain⟨h1,h2⟩:=zb h;refine (zx h2).mono λsv U hl hv=>oU.ints (hv b0).2 λβ w => ?_;have h3:0<=b.den U:=by rw [IE.ae hl wb];exact h1
     rw [(hv β).1,Oy t k k' _ _ w h3];rfl
   ·split at h
    ·rename_i hk;subst hk;split at h
     ·rename_i ha;refine (zx h).mono λsv U hl hv=>oU.ints (hv b0).2 λβ w => ?_;rw [(hv β).1,H' op t k _ _ w ha];rfl
     ·split at h
      ·rename_i hq;obtain⟨h1,h2⟩:=zb h;refine (zx h2).mono λsv U hl hv=>oU.ints (hv b0).2 λβ w => ?_;have h3:b.den U≠0:=by rw [IE.ae hl wb];exact h1
       rw [(hv β).1,Ia op t k _ _ w hq h3];rfl
      ·split at h
       ·rename_i hc;refine dh.pure h λU hl=>oU.ints (by simp) λβ w => ?_;rw [xH,Ib op t k _ _ w hc];rfl
       ·exact h.elim
    ·exact h.elim
 ·rename_i a b;generalize hu:P.underlying t=u at h;split at h
  ·split at h
   ·rename_i ho;subst ho;refine dh.pure h λU hl=>⟨by simp,λβ w xo yo => ?_⟩;rw [xH];simp only [SV.den,CV.den,At.den,Sem.run_bind,Oz,Result.andThen_ok,Ij t _ _ w hu,BE.den]
   ·split at h
    ·rename_i ho;subst ho;refine dh.pure h λU hl=>⟨by simp,λβ w xo yo => ?_⟩;rw [xH];simp only [SV.den,CV.den,At.den,Sem.run_bind,Oz,Result.andThen_ok,Ik t _ _ w hu,BE.den]
    ·exact h.elim
  ·exact h.elim
 ·rename_i a b;generalize hk:kU P 30 t=u1 at h;generalize hz:aP P t=u2 at h;split at h
  ·rename_i ks n;generalize he:bj ks a b=u3 at h;split at h
   ·rename_i e;split at h
    ·exact h.elim
    ·rename_i hg;have fM:P.eqGuardType P.depth t=false:=by simpa using hg
     have key:=λU β w=>Ii hk he ⟨true,n,hz,rfl⟩ U β w;split at h
     ·rename_i ho;subst ho;refine dh.pure h λU hl=>⟨by simp,λβ w xo yo => ?_⟩;rw [xH];simp only [SV.den,CV.den,Sem.run_bind,OE _ _ _ _ _ _ _ fM,Result.andThen_ok,run_eql_struct,key]
     ·split at h
      ·rename_i ho;subst ho;refine dh.pure h λU hl=>⟨by simp,λβ w xo yo => ?_⟩;rw [xH];simp only [SV.den,CV.den,Sem.run_bind,OE _ _ _ _ _ _ _ fM,Result.andThen_ok,run_neq_struct,key,BE.den]
      ·exact h.elim
   ·exact h.elim
  ·exact h.elim
 ·rename_i x y _ _;generalize hu:P.underlying t=u at h;generalize zV:strOf x=sx at h;generalize Gs:strOf y=sy at h;split at h
  ·rename_i a b;have dx:=λU β=>xG zV U β;have dy:=λU β=>xG Gs U β;split at h
   ·rename_i ho;subst ho;refine dh.pure h λU hl=>⟨by simp,λβ w xo yo => ?_⟩;rw [xH];simp only [SV.den,CV.den,dx,dy,Sem.run_bind,Il,Result.andThen_ok,BE.den];simp only [binOp,Op.stringOp,OD,Sem.run_pure];rw [OF]
   ·split at h
    ·rename_i ho;subst ho;refine dh.pure h λU hl=>⟨by simp,λβ w xo yo => ?_⟩;rw [xH];simp only [SV.den,CV.den,dx,dy,Sem.run_bind,Il,Result.andThen_ok,BE.den];simp only [binOp,Op.stringOp,OD,Sem.run_pure];rw [OF]
    ·split at h
     ·rename_i ho;subst ho;refine (DC h).mono λsv U hl hv=>⟨hv.2.1,λβ w xo yo => ?_⟩;rw [hv.2.2 β];have hk:=hv.1;simp only [SP.ok]at hk;simp only [SV.den,CV.den,dx,dy,Sem.run_bind,Il,Result.andThen_ok,SP.den];exact Iv hk
     ·exact h.elim
  ·generalize hn:pc P t x y=en at h;split at h
   ·rename_i e;have hk:=SN hn;split at h
    ·rename_i ho;subst ho;refine dh.pure h λU hl=>⟨by simp,λβ w xo yo => ?_⟩;rw [xH];simp only [SV.den,CV.den,Sem.run_bind,OI _ _ _ _ _ _ hk,Result.andThen_ok,(OL y hk t U β).1,OK hn,Sem.run_pure]
    ·split at h
     ·rename_i ho;subst ho;refine dh.pure h λU hl=>⟨by simp,λβ w xo yo => ?_⟩;rw [xH];simp only [SV.den,CV.den,Sem.run_bind,OI _ _ _ _ _ _ hk,Result.andThen_ok,(OL y hk t U β).2,OK hn,Sem.run_pure,BE.den]
     ·exact h.elim
   ·exact h.elim
 ·exact h.elim
theorem SQ{c:aw}{op:UnOp}{x:SV}{K:SV->aw->Env->Prop}{ρ:Env}(h:vA (PA P W Q QM QP) c op x K ρ) :
  dh c ρ K λsv U=>sv ≠ .any/\x ≠ .any/\∀β w,(Op.unary op (x.den U β)).run P w=.ok (sv.den U β) w:=by
 unfold vA at h;split at h
 ·exact (zx h).mono λsv U _ hv=>⟨(hv b0).2,by simp,λβ w=>by rw [(hv β).1];simp [SV.den,CV.den,At.den,Op.unary,Op.intArith,IP.den]⟩
 ·exact (zx h).mono λsv U _ hv=>⟨(hv b0).2,by simp,λβ w=>by rw [(hv β).1];simp [SV.den,CV.den,At.den,Op.unary,Op.intBits,IP.den,bits]⟩
 ·exact dh.pure h λU _=>⟨by simp,by simp,λβ w=>by rw [xH];simp [SV.den,CV.den,At.den,Op.unary,BE.den]⟩
 ·exact h.elim
theorem SR{c:aw}{s d:TypeId}{x:SV}{K:SV->aw->Env->Prop}{ρ:Env}(h:rX (PA P W Q QM QP) P c s d x K ρ) :
  dh c ρ K λsv U=>sv ≠ .any/\x ≠ .any/\∀β w,(convert s d (x.den U β)).run P w=.ok (sv.den U β) w:=by
 unfold rX at h;generalize h1:P.underlying s=u1 at h;generalize h2:P.underlying d=u2 at h;split at h
 ·rename_i ds k k0 a;refine (zx h).mono λsv U _ hv=>⟨(hv b0).2,by simp,λβ w => ?_⟩;rw [(hv β).1];simp only [SV.den,CV.den,At.den,convert,Sem.run_bind,run_underlying h1,run_underlying h2,Result.andThen_ok];cases ds<;>simp [Conv.intToInt,IP.den]
 ·exact h.elim
theorem OM{t:TypeId}{cs:List At}{off:Nat}{v:CV}(h:partOf P t cs off=some v)(ρ:Env)(β:Nat->Nat)(w:World) :
  (part t (cs.map (At.den ρ β)).toArray off).run P w=.ok (v.den ρ β) w:=by
 unfold partOf at h;split at h
 ·rename_i n hz;split at h
  ·simp only [Option.some.injEq]at h;subst h;rw [Ih hz rfl];simp [CV.den,List.map_take,List.map_drop]
  ·cases h
 ·rename_i n hz;simp only [Option.map_eq_some_iff]at h;obtain⟨a,ha,rfl⟩:=h;exact OA hz rfl _ off (a.den ρ β) (by simp [ha]) w
 ·cases h
theorem SS{c:aw}{t:TypeId}{x:SV}{f:Nat}{K:SV->aw->Env->Prop}{ρ:Env}(h:lx (PA P W Q QM QP) P c t x f K ρ) :
  dh c ρ K λsv U=>sv ≠ .any/\x ≠ .any/\∀β w,(Instr.field t (x.den U β) f).run P w=.ok (sv.den U β) w:=by
 unfold lx at h;generalize h1:P.underlying t=u1 at h;split at h
 ·rename_i fs cs;generalize h2:fs[f]? = u2 at h;split at h
  ·rename_i fd;generalize h3:partOf P fd.type cs fd.offset=u3 at h;split at h
   ·rename_i v;refine dh.pure h λU _=>⟨by simp,by simp,λβ w => ?_⟩;simp [SV.den,CV.den,Instr.field,run_underlying h1,h2,asAgg,OM h3]
   ·exact h.elim
  ·exact h.elim
 ·exact h.elim
theorem SU{c:aw}{s:TypeId}{x:SV}{f:Nat}{K:SV->aw->Env->Prop}{ρ:Env}(h:gm (PA P W Q QM QP) P c s x f K ρ) :
  dh c ρ K λsv U=>sv ≠ .any/\x ≠ .any/\∀β w,(Instr.fieldAt s (x.den U β) f).run P w=.ok (sv.den U β) w:=by
 unfold gm at h;generalize h1:P.underlying s=u1 at h;split at h
 ·rename_i fs;generalize h2:fs[f]? = u2 at h;split at h
  ·rename_i fd;generalize h3:aP P fd.type=u3 at h;split at h
   ·rename_i g n;split at h
    ·exact h.elim
    ·rename_i hn
     have key:∀(b o:Nat) (w:World),(fieldPlace ⟨b,o,none⟩ fd).run P w=.ok ⟨b,o+fd.offset,none⟩ w:=by
      intro b o w;simp only [fieldPlace,Sem.run_bind,qY h3,Result.andThen_ok,hn,if_false,Sem.run_pure,Addr.add];split
      ·rename_i h0;simp [h0]
      ·rfl
     split at h
     ·refine dh.pure h λU _=>⟨by simp,by simp,λβ w => ?_⟩;simp [SV.den,CV.den,At.den,Instr.fieldAt,run_underlying h1,h2,Instr.sureAddr,key]
     ·refine dh.pure h λU _=>⟨by simp,by simp,λβ w => ?_⟩;simp [SV.den,CV.den,At.den,Instr.fieldAt,run_underlying h1,h2,Instr.sureAddr,key,Nat.add_assoc]
     ·refine dh.pure h λU _=>⟨by simp,by simp,λβ w => ?_⟩;simp [SV.den,CV.den,At.den,Instr.fieldAt,run_underlying h1,h2,Instr.sureAddr,key,Nat.add_assoc]
     ·exact h.elim
   ·exact h.elim
  ·exact h.elim
 ·exact h.elim
end Vc
set_option linter.unusedVariables false
namespace Vc
open Go Go.RowKit
variable {P:Program} {W:e_} {Q:Value->Prop} {QM QP:World->Value->Prop}
theorem vU(b o m:Nat):(⟨b,o,none⟩:Addr).add m=⟨b,o+m,none⟩:=by
 unfold Addr.add;split<;>simp_all
theorem CI{t el:TypeId}{n:Nat}{g:Bool}{s:Nat}(h1:P.underlying t=some (.array n el))(hz:aP P el=some (g,s))(b o:Nat)(k:IntKind)(i:Int)(h0:0<=i)(hn:i<n)(w:World) :
  (Instr.indexAt t (ptr b o) (.int k i)).run P w=.ok (ptr b (o+i.toNat*s)) w:=by
 simp [Instr.indexAt,asIntOf,run_underlying h1,Instr.sureAddr,ptr,h0,hn,qY hz,vU]
theorem Bc{t el:TypeId}{n m:Nat}{g:Bool}{s:Nat}(h1:P.underlying t=some (.slice el))(hz:aP P el=some (g,s))(b o:Nat)(k:IntKind)(i:Int)(h0:0<=i)(hn:i<n)(w:World) :
  (Instr.indexAt t (.slice (some ⟨b,o,none⟩) n m) (.int k i)).run P w=.ok (ptr b (o+i.toNat*s)) w:=by
 simp [Instr.indexAt,asIntOf,run_underlying h1,ptr,h0,hn,qY hz,vU]
theorem DG{c:aw}{p:IP}{K:IE->aw->Env->Prop}{ρ:Env}(h:rW (PA P W Q QM QP) c p K ρ) :
  ∃e c' ah,K e c' ah/\c.le c'/\c'.nk=c.nk/\Env.aE c ρ ah/\e.wf c'=true/\∀U,Env.aE c' ah U->e.den U=p.den U:=by
 unfold rW at h;split at h
 ·rename_i hl;rw [Oh]at h;exact⟨_,c,ρ,h,aw.le_refl _,rfl,Env.aq _ _,rfl,λU _=>(IP.qK (ρ:=Env.zero) (ah:=U) hl)⟩
 ·split at h
  ·rename_i hw;have h1:=h (p.den ρ) rfl;have hle:c.le {c with ni:=c.ni+1}:=aw.tf c 1;refine⟨_,_,_,h1,hle,rfl,zU c ρ _,by simp [IE.wf],λU hl => ?_⟩
   have e1:U.i c.ni=p.den ρ:=by
    rw [hl.i c.ni (Nat.lt_succ_self _)];exact if_pos rfl
   simp only [IE.den,e1];rw [IP.ae (Env.aj hle (zU c ρ _) hl) hw]
  ·exact h.elim
theorem Gt{c:aw}{op:IE->IE->IP}{a b:IE}{K:IE->aw->Env->Prop}{ρ:Env}(h:qQ (PA P W Q QM QP) c op a b K ρ) :
  ∃e c' ah,K e c' ah/\c.le c'/\c'.nk=c.nk/\Env.aE c ρ ah/\e.wf c'=true/\∀U,Env.aE c' ah U->e.den U=(op a b).den U:=DG h
inductive qB where
 |fix (cs:List At) (t:TypeId)
 |row (ce:CE) (sz:Nat) (t:TypeId)
def aK(m:Mem)(o:bq)(k:Nat):Option qB :=
  match getM m k with
  |some (cs,t)=>some (.fix cs t)
  |none=>match aM o k with
    |some (ce,sz,t)=>some (.row ce sz t)
    |none=>none
def Holds(W:e_)(ρ:Env)(β:Nat->Nat)(k:Nat):qB->World->Prop
 | .fix cs t,w=>fA W (β k)/\w.heap[β k]? = some (.cells (cs.map (At.den ρ β)).toArray t)
 | .row ce sz t,w=>bY (fA W) (β k) (β (k+1)) (β (k+2)) (β (k+3)) (av ρ β ce) sz t w
def gF(W:e_)(m:Mem)(o:bq)(l:List Nat)(ρ:Env)(β:Nat->Nat)(w:World):Prop :=
 ∀k∈l,∀e,aK m o k=some e->Holds W ρ β k e w
theorem pk{m:Mem}{o:bq}{k:Nat}{cs:List At}{t:TypeId}(h:getM m k=some (cs,t)):aK m o k=some (.fix cs t):=by
 simp [aK,h]
theorem lK{m:Mem}{o:bq}{k:Nat}{ce:CE}{sz:Nat}{t:TypeId}(hm:getM m k=none)(h:aM o k=some (ce,sz,t)):aK m o k=some (.row ce sz t):=by
 simp [aK,hm,h]
def lM(m:Mem)(o:bq):Prop:=∀k x,aM o k=some x->getM m k=none
theorem Iw{lo:Nat->Prop}{b code n base:Nat}{xs:List Value}{sz:Nat}{t:TypeId}{w:World}(h:hZ lo b code n base xs sz t w):xs.length / sz=n:=by
 rw [h.1];exact Nat.mul_div_cancel _ h.2.1
theorem ON{lo:Nat->Prop}{b code n base:Nat}{xs:List Value}{sz:Nat}{t:TypeId}{w:World}(h:hZ lo b code n base xs sz t w)(hn:0<n) :
  2<=code/\base=0/\∃cur,w.heap[b]? = some (.cells cur t (0,0))/\cur.toList.take (n*sz)=xs:=by
 rcases h.2.2 with ⟨_,h0⟩|⟨h1,h2,_,_,_,cur,h3,_,h4⟩
 ·omega
 ·exact⟨h1,h2,cur,h3,h4⟩
theorem Ix(ρ:Env)(β:Nat->Nat)(ce:CE)(sz:Nat):(IP.rS (nD ce) (kS ce) sz).den ρ=(((av ρ β ce).length / sz:Nat):Int):=by
 rw [HT];rfl
theorem zW{c:aw}{ce:CE}{sz:Nat}{K:IE->aw->Env->Prop}{ρ:Env}(h:iP (PA P W Q QM QP) c ce sz K ρ) :
  ∃e c' ah,K e c' ah/\c.le c'/\c'.nk=c.nk/\Env.aE c ρ ah/\e.wf c'=true/\∀U β,Env.aE c' ah U->e.den U=(((av U β ce).length / sz:Nat):Int):=by
 obtain⟨e,c',ah,h1,h2,h3,h4,h5,h6⟩:=DG h;exact⟨e,c',ah,h1,h2,h3,h4,h5,λU β hl=>by rw [h6 U hl,Ix U β]⟩
theorem SW{c:aw}{t:TypeId}{x i:SV}{K:SV->aw->Env->Prop}{ρ:Env}{m:Mem}{o:bq}(gR:lM m o)(hx:x.wf c=true)(hi:i.wf c=true)(h:gp (PA P W Q QM QP) P o c t x i K ρ) :
  dh c ρ K λsv U=>sv ≠ .any/\(x ≠ .any/\i ≠ .any)/\∀β w,gF W m o (aF (aV x)) U β w->(Instr.indexAt t (x.den U β) (i.den U β)).run P w=.ok (sv.den U β) w:=by
 unfold gp at h;split at h
 ·rename_i ki e;have we:e.wf c=true:=hi;generalize h1:P.underlying t=u1 at h;split at h
  ·rename_i el k;generalize hz:aP P el=u2 at h;generalize jV:aM o k=u3 at h;split at h
   ·rename_i g s ce sz ty;split at h
    ·rename_i hs;obtain⟨rfl,zX⟩:=hs;obtain⟨n,c1,a8,r1,r2,r3,r4,r5,r6⟩:=zW h;obtain⟨q1,ha⟩:=zb r1;obtain⟨q2,hk⟩:=zb ha;refine⟨_,c1,a8,hk,r2,r4,λU hl=>⟨by simp,by simp,λβ w eK => ?_⟩⟩;have ja:=Env.aj r2 r4 hl;have br:=(eK k (by simp [aV,CV.cells,aF]) _ (lK (gR k _ jV) jV)).fh zX;have e1:0<=e.den U:=by rw [IE.ae hl (IE.aT r2 we)];exact q1
     have e2:e.den U<n.den U:=by rw [IE.ae hl (IE.aT r2 we),IE.ae hl r5];exact q2
     have e3:=r6 U β hl;rw [Iw br]at e3;obtain⟨p1,p2,_⟩:=ON br (by omega)
     have:=Bc (P:=P) (n:=β (k+2)) (m:=β (k+1)-1) h1 hz (β k) 0 ki (e.den U) e1 (by omega) w
     have e4:¬β (k+1)=0:=by omega
     simpa [SV.den,CV.den,At.den,dC,e4,p2,ptr]using this
    ·exact h.elim
   ·exact h.elim
  ·rename_i el k;generalize hz:aP P el=u2 at h;generalize jV:aM o k=u3 at h;split at h
   ·rename_i g s ce sz ty;split at h
    ·rename_i hs;obtain⟨rfl,rfl,rfl⟩:=hs;obtain⟨n,c1,a8,r1,r2,r3,r4,r5,r6⟩:=zW h;obtain⟨q1,ha⟩:=zb r1;obtain⟨q2,hk⟩:=zb ha;refine⟨_,c1,a8,hk,r2,r4,λU hl=>⟨by simp,by simp,λβ w eK => ?_⟩⟩;have ja:=Env.aj r2 r4 hl;have br:=eK k (by simp [aV,CV.cells,aF]) _ (lK (gR k _ jV) jV);rcases br with br|⟨_,_,_,ho⟩
     ·exact absurd br.2.1 (by omega)
     have e1:0<=e.den U:=by rw [IE.ae hl (IE.aT r2 we)];exact q1
     have e2:e.den U<n.den U:=by rw [IE.ae hl (IE.aT r2 we),IE.ae hl r5];exact q2
     have e3:=r6 U β hl;rw [Nat.div_one,<-ho.1]at e3
     have:=Bc (P:=P) (n:=β (k+2)) (m:=β (k+1)-2) h1 hz (β k) 0 ki (e.den U) e1 (by omega) w
     simpa [SV.den,CV.den,At.den,ptr]using this
    ·exact h.elim
   ·exact h.elim
  ·rename_i el q p sz len cap;have wx:(decide (q<c.nb) && decide (p<c.np) && len.wf c && cap.wf c)=true:=hx;simp only [Bool.and_eq_true,decide_eq_true_eq]at wx;generalize hz:aP P el=u2 at h;split at h
   ·rename_i g s;split at h
    ·rename_i hs;subst hs;obtain⟨q0,h⟩:=zb h;obtain⟨q1,ha⟩:=zb h;clear h;obtain⟨q2,h⟩:=zb ha;clear ha;refine dh.pure h λU hl=>⟨by simp,by simp,λβ w eK => ?_⟩;have p0:¬U.b q=true:=by rw [hl.b q wx.1.1.1];exact q0
     have p1:0<=e.den U:=by rw [IE.ae hl we];exact q1
     have p2:e.den U<len.den U:=by rw [IE.ae hl we,IE.ae hl wx.1.2];exact q2
     have:=Bc (P:=P) (n:=(len.den U).toNat) (m:=(cap.den U).toNat) h1 hz (U.p p).1 (U.p p).2 ki (e.den U) p1 (by omega) w
     have q0:¬((len.den U).toNat=0/\(cap.den U).toNat=0):=by omega
     simpa [SV.den,CV.den,At.den,ptr,p0,HO q0]using this
    ·exact h.elim
   ·exact h.elim
  ·rename_i n el k ix sz off;generalize hz:aP P el=u2 at h;split at h
   ·rename_i g s;split at h
    ·rename_i j;split at h
     ·rename_i hj;refine dh.pure h λU _=>⟨by simp,by simp,λβ w eK => ?_⟩
      have:=CI h1 hz (β k) ((ix.den U).toNat*sz+off) ki j hj.1 (by have:=hj.1;have:=hj.2;omega) w
      simpa [SV.den,CV.den,At.den,ptr,oT,Nat.add_assoc]using this
     ·exact h.elim
    ·obtain⟨q1,h⟩:=zb h;obtain⟨q2,h⟩:=zb h;obtain⟨m',hm,he,h⟩:=CF q1 q2 n (Nat.le_refl _) (by rw [Nat.sub_self];exact q1) h;refine dh.pure h λU hl=>⟨by simp,by simp,λβ w eK => ?_⟩;have eP:e.den U=(m':Int):=by rw [IE.ae hl we];exact he
     have:=CI h1 hz (β k) ((ix.den U).toNat*sz+off) ki (e.den U) (by rw [eP];omega) (by rw [eP];omega) w
     rw [eP]at this;simp only [SV.den,CV.den,At.den,eP];simpa [ptr,Nat.add_assoc]using this
   ·exact h.elim
  ·rename_i n el k off;generalize hz:aP P el=u2 at h;split at h
   ·rename_i g s;split at h
    ·rename_i j;split at h
     ·rename_i hj;refine dh.pure h λU _=>⟨by simp,by simp,λβ w eK => ?_⟩;exact CI h1 hz _ _ _ _ hj.1 (by have:=hj.1;have:=hj.2;omega) w
     ·exact h.elim
    ·obtain⟨q1,h⟩:=zb h;obtain⟨q2,h⟩:=zb h;obtain⟨m,hm,he,h⟩:=CF q1 q2 n (Nat.le_refl _) (by rw [Nat.sub_self];exact q1) h;refine dh.pure h λU hl=>⟨by simp,by simp,λβ w eK => ?_⟩;have eP:e.den U=(m:Int):=by rw [IE.ae hl we];exact he
     have:=CI h1 hz (β k) off ki (e.den U) (by rw [eP];omega) (by rw [eP];omega) w
     rw [eP]at this;simp only [SV.den,CV.den,At.den,eP];simpa [ptr]using this
   ·exact h.elim
  ·rename_i n el p ix sz off;generalize hz:aP P el=u2 at h;split at h
   ·rename_i g s;split at h
    ·rename_i j;split at h
     ·rename_i hj;refine dh.pure h λU _=>⟨by simp,by simp,λβ w eK => ?_⟩
      have:=CI h1 hz (U.p p).1 ((U.p p).2+(ix.den U).toNat*sz+off) ki j hj.1 (by have:=hj.1;have:=hj.2;omega) w
      simpa [SV.den,CV.den,At.den,ptr,oT,Nat.add_assoc]using this
     ·exact h.elim
    ·obtain⟨q1,h⟩:=zb h;obtain⟨q2,h⟩:=zb h;obtain⟨m,hm,he,h⟩:=CF q1 q2 n (Nat.le_refl _) (by rw [Nat.sub_self];exact q1) h;refine dh.pure h λU hl=>⟨by simp,by simp,λβ w eK => ?_⟩;have eP:e.den U=(m:Int):=by rw [IE.ae hl we];exact he
     have:=CI h1 hz (U.p p).1 ((U.p p).2+(ix.den U).toNat*sz+off) ki (e.den U) (by rw [eP];omega) (by rw [eP];omega) w
     rw [eP]at this;simp only [SV.den,CV.den,At.den,eP];simpa [ptr,Nat.add_assoc]using this
   ·exact h.elim
  ·rename_i el k off len cap;generalize hz:aP P el=u2 at h;split at h
   ·rename_i g s;split at h
    ·rename_i j;split at h
     ·rename_i hj;refine dh.pure h λU _=>⟨by simp,by simp,λβ w eK => ?_⟩;exact Bc h1 hz _ _ _ _ hj.1 (by have:=hj.1;have:=hj.2;omega) w
     ·exact h.elim
    ·obtain⟨q1,h⟩:=zb h;obtain⟨q2,h⟩:=zb h;obtain⟨m,hm,he,h⟩:=CF q1 q2 len (Nat.le_refl _) (by rw [Nat.sub_self];exact q1) h;refine dh.pure h λU hl=>⟨by simp,by simp,λβ w eK => ?_⟩;have eP:e.den U=(m:Int):=by rw [IE.ae hl we];exact he
     have:=Bc (m:=cap) h1 hz (β k) off ki (e.den U) (by rw [eP];omega) (n:=len) (by rw [eP];omega) w
     rw [eP]at this;simp only [SV.den,CV.den,At.den,eP];simpa [ptr]using this
   ·exact h.elim
  ·rename_i el p ix sz len cap;have wx:((decide (p<c.np) && ix.wf c && len.wf c && cap.wf c))=true:=hx;simp only [Bool.and_eq_true]at wx;generalize hz:aP P el=u2 at h;split at h
   ·rename_i g s;split at h
    ·rename_i hs;subst hs;obtain⟨q1,ha⟩:=zb h;clear h;obtain⟨q2,h⟩:=zb ha;clear ha;have tr:∀{U},Env.aE c ρ U->0<=e.den U/\e.den U<len.den U:=λhl=>⟨by rw [IE.ae hl we];exact q1,by rw [IE.ae hl we,IE.ae hl wx.1.2];exact q2⟩;split at h
     ·rename_i Gu;subst Gu;refine dh.pure h λU hl=>⟨by simp,by simp,λβ w eK => ?_⟩;obtain⟨p1,p2⟩:=tr hl
      have:=Bc (n:=(len.den U).toNat) (m:=(cap.den U).toNat) h1 hz (U.p p).1 ((U.p p).2+(IE.den U (.lit 0)).toNat*s) ki (e.den U) p1 (by omega) w
      simpa [SV.den,CV.den,At.den,ptr,oT]using this
     ·obtain⟨q3,h⟩:=zb h;obtain⟨e',c',ah,r1,r2,r3,r4,r5,r6⟩:=Gt h;refine⟨_,c',ah,r1,r2,r4,λU hl=>⟨by simp,by simp,λβ w eK => ?_⟩⟩;have ja:=Env.aj r2 r4 hl;obtain⟨p1,p2⟩:=tr ja;have p3:0<=ix.den U:=by rw [IE.ae ja wx.1.1.2];exact q3
      have:=Bc (n:=(len.den U).toNat) (m:=(cap.den U).toNat) h1 hz (U.p p).1 ((U.p p).2+(ix.den U).toNat*s) ki (e.den U) p1 (by omega) w
      have e1:(e'.den U).toNat=(ix.den U).toNat+(e.den U).toNat:=by
       rw [r6 U hl];simp only [IP.den];omega
      simpa [SV.den,CV.den,At.den,ptr,oT,e1,Nat.add_mul,Nat.add_assoc]using this
    ·exact h.elim
   ·exact h.elim
  ·exact h.elim
 ·exact h.elim
theorem OO{t el:TypeId}{n:Nat}{g:Bool}{s:Nat}(h1:P.underlying t=some (.array n el))(hz:aP P el=some (g,s))(cs:List At)(k:IntKind)(i:Int)(h0:0<=i)(hn:i<n){v:CV}
  (hv:partOf P el cs (i.toNat*s)=some v) (ρ:Env) (β:Nat->Nat) (w:World) :
  (Instr.index t (.agg (cs.map (At.den ρ β)).toArray) (.int k i)).run P w=.ok (v.den ρ β) w:=by
 have:=OM hv ρ β w
 simp [Instr.index,asIntOf,run_underlying h1,h0,hn,qY hz];simpa using this
theorem SX(l:List UInt8)(i:Nat)(h:i<l.length):(⟨l.toArray⟩:ByteArray)[i]? = some (l.getD i 0):=by
 have hs:i<(⟨l.toArray⟩:ByteArray).size:=by show i<l.toArray.size;simpa using h
 rw [getElem?_pos _ i hs];congr 1;show l.toArray[i]=_;simp [List.getD,h]
theorem SY{c:aw}{t:TypeId}{x i:SV}{K:SV->aw->Env->Prop}{ρ:Env}(hx:x.wf c=true)(hi:i.wf c=true)(h:ly (PA P W Q QM QP) P c t x i K ρ) :
  dh c ρ K λsv U=>sv ≠ .any/\(x ≠ .any/\i ≠ .any)/\∀β w,(Instr.index t (x.den U β) (i.den U β)).run P w=.ok (sv.den U β) w:=by
 unfold ly at h;split at h
 ·rename_i ki e;have we:e.wf c=true:=hi;generalize h1:P.underlying t=u1 at h;split at h
  ·rename_i n el cs;generalize hz:aP P el=u2 at h;split at h
   ·rename_i g s;split at h
    ·rename_i j;split at h
     ·rename_i hj;generalize hp:partOf P el cs (j.toNat*s)=u3 at h;split at h
      ·rename_i v;refine dh.pure h λU _=>⟨by simp,by simp,λβ w => ?_⟩;exact OO h1 hz cs ki j hj.1 (by have:=hj.1;have:=hj.2;omega) hp U β w
      ·exact h.elim
     ·exact h.elim
    ·obtain⟨q1,h⟩:=zb h;obtain⟨q2,h⟩:=zb h;obtain⟨m,hm,he,h⟩:=CF q1 q2 n (Nat.le_refl _) (by rw [Nat.sub_self];exact q1) h;generalize hp:partOf P el cs (m*s)=u3 at h;split at h
     ·rename_i v;refine dh.pure h λU hl=>⟨by simp,by simp,λβ w => ?_⟩;have eP:e.den U=(m:Int):=by rw [IE.ae hl we];exact he
      have:=OO h1 hz cs ki (e.den U) (by rw [eP];omega) (by rw [eP];omega) (v:=v) (by rw [eP];simpa using hp) U β w
      exact this
     ·exact h.elim
   ·exact h.elim
  ·rename_i x;generalize hs:strOf x=u2 at h;split at h
   ·rename_i s;have wx:x.wf c=true:=hx
    have ws:s.wf c=true:=by
     cases x<;>simp only [strOf,Option.some.injEq,reduceCtorEq]at hs<;>subst hs<;>exact wx
    obtain⟨n,c1,a8,r1,r2,r3,r4,r5,r6⟩:=DG h;obtain⟨q1,ha⟩:=zb r1;obtain⟨q2,hb⟩:=zb ha;obtain⟨sv,c2,aB,k1,k2,k3,k4⟩:=zx hb;refine⟨sv,c2,aB,k1,aw.le_trans r2 k2,Env.aj r2 r4 k3,λU hl => ?_⟩;have su:=Env.aj k2 k3 hl;have ja:=Env.aj r2 r4 su;obtain⟨v1,v2⟩:=k4 U hl b0;refine⟨v2,by simp,λβ w => ?_⟩;have e1:0<=e.den U:=by rw [IE.ae su (IE.aT r2 we)];exact q1
    have e2:e.den U<((s.den U).length:Int):=by
     have:=r6 U su
     simp only [IP.den]at this;rw [<-this,IE.ae su (IE.aT r2 we),IE.ae su r5];exact q2
    have v3:=(k4 U hl β).1;rw [v3];simp only [SV.den,CV.den];rw [xG hs U β];simp only [At.den,IP.den];have hb:(e.den U).toNat<(s.den U).length:=by omega
    have mf:=SX (s.den U) (e.den U).toNat hb;simp [Instr.index,asIntOf,run_underlying h1,e1,mf]
   ·exact h.elim
  ·exact h.elim
 ·exact h.elim
theorem OP:∀ (v:List Value) (k off:Nat) (cs:List Value),off + k + v.length<=cs.length ->
    (v.zipIdx k).foldl (λ(a:Array Value) (x:Value × Nat)=>a.setIfInBounds (off+x.2) x.1) cs.toArray=(cs.take (off+k)++v++cs.drop (off+k+v.length)).toArray
  | [],k,off,cs,h=>by simp
  |x::v,k,off,cs,h=>by
    simp only [List.zipIdx_cons,List.foldl_cons];have hs:cs.toArray.setIfInBounds (off+k) x=(cs.set (off+k) x).toArray:=by simp
    rw [hs,OP v (k+1) off (cs.set (off+k) x) (by simp at h ⊢;omega)];congr 1
    have:=list_seg_step cs (off+k) x v (by simp at h ⊢;omega)
    simpa [Nat.add_assoc]using this
theorem OQ{α β:Type}(f:α->β)(l:List α)(v:List α)(a b:Nat):(l.take a++v++l.drop b).map f=(l.map f).take a++v.map f++(l.map f).drop b:=by
 simp [List.map_take,List.map_drop]
theorem CV.bB(ρ:Env)(β:Nat->Nat)(v:CV):(v.den ρ β).cells=(v.cells.map (At.den ρ β)).toArray:=by
  cases v with
  |agg l=>rfl
  |one a =>
    have h1:=At.iz ρ β a;simp only [CV.den,CV.cells,List.map_cons,List.map_nil];cases hd:a.den ρ β<;>first|rfl | (rw [hd]at h1;simp [Value.oneCell']at h1)
theorem Gv{place:Nat->Option (Nat × Nat)}(ρ:Env)(β:Nat->Nat):∀ (parts:List (Nat × SV)) (cells:List At) {cs:List At},dc place cells parts=some cs ->
    Instr.fill place (cells.map (At.den ρ β)).toArray (parts.map λp=>(p.1,p.2.den ρ β))=some (cs.map (At.den ρ β)).toArray
  | [],cells,cs,h=>by simp only [dc,Option.some.injEq]at h;subst h;rfl
  | (i,.any)::r,_,_,h=>by simp [dc]at h
  | (i,.eH)::r,_,_,h=>by simp [dc]at h
  | (i,.dt l)::r,_,_,h=>by simp [dc]at h
  | (i,.cv v)::r,cells,cs,h=>by
    simp only [dc]at h;cases hp:place i with
    |none=>simp [hp]at h
    |some q =>
      obtain⟨off,size⟩:=q;simp only [hp]at h;split at h
      · rename_i hs;obtain⟨h1,h2⟩:=hs;have ih:=Gv ρ β r _ h;have hlen:(v.den ρ β).cells.size=size:=by rw [CV.bB];simpa using h1
        simp only [List.map_cons,Instr.fill,hp,SV.den];rw [if_neg (by rw [hlen];simp;omega)];rw [CV.bB,<-Array.foldl_toList,Array.toList_zipIdx]
        have:=OP (v.cells.map (At.den ρ β)) 0 off (cells.map (At.den ρ β)) (by simp;omega)
        simp only [Nat.add_zero,List.length_map,h1]at this;rw [<-OQ]at this;simp only []at this ⊢;rw [this];exact ih
      · cases h
theorem ym{t:TypeId}{z:CV}(h:de P t=some z)(ρ:Env)(β:Nat->Nat)(w:World)(c:aw):(zeroValue t).run P w=.ok (z.den ρ β) w/\z.wf c=true:=by
  unfold de at h;cases hi:P.info? t with
  |none=>simp [hi]at h
  |some i =>
    simp only [hi]at h;cases hz:i.zero with
    |none=>simp [hz]at h
    |some v =>
      simp only [hz]at h;have h2:=SV.db v c ρ β;generalize hs:SV.ofValue v=sv at h h2;cases sv with
      |cv x =>
        simp only [Option.some.injEq]at h;subst h;refine⟨?_,h2.1⟩;have h3:=h2.2 (by simp);simp only [SV.den]at h3;simp [zeroValue,typeInfo,hi,hz,h3]
      |_=>simp at h
theorem OR:∀(fs:List Field) {pl:List (Nat × Nat)} (w:World),ei P fs=some pl->(fs.mapM (λf=>do pure (f.offset,<-Go.sizeOf f.type):Field->Sem (Nat × Nat))).run P w=.ok pl w
  | [],pl,w,h=>by simp only [ei,Option.some.injEq]at h;subst h;simp
  |f::l,pl,w,h=>by
    simp only [ei]at h;split at h
    · rename_i g n r h1 h2;simp only [Option.some.injEq]at h;subst h
      have:=OR l w h2
      simp only [List.mapM_cons,Sem.run_bind,qY h1,Result.andThen_ok,Sem.run_pure,this]
    · cases h
theorem SZ{c:aw}{t:TypeId}{parts:List (Nat × SV)}{K:SV->aw->Env->Prop}{ρ:Env}(h:lz (PA P W Q QM QP) P c t parts K ρ) :
  dh c ρ K λsv U=>sv ≠ .any/\∀β w,(Instr.build t (parts.map λp=>(p.1,p.2.den U β)).toArray).run P w=.ok (sv.den U β) w:=by
 unfold lz at h;generalize h1:P.underlying t=u1 at h;generalize h2:de P t=u2 at h;split at h
 ·rename_i fs z;generalize h3:ei P fs.toList=u3 at h;split at h
  ·rename_i pl;generalize h4:dc (λx=>pl[x]?) z.cells parts=u4 at h;split at h
   ·rename_i cs;refine dh.pure h λU _=>⟨by simp,λβ w => ?_⟩;have q1:=(ym h2 U β w c).1;have q2:=OR fs.toList w h3;have q3:=Gv U β parts z.cells h4;simp only [Instr.build,Sem.run_bind,q1,Result.andThen_ok,run_underlying h1];rw [Array.mapM_eq_mapM_toList];simp only [Sem.run_map,q2,Result.andThen_ok,CV.bB];have e:(λ(x:Nat)=>(pl.toArray)[x]?)=λ(x:Nat)=>pl[x]? := by funext x;simp
    simp only [e,q3];rfl
   ·exact h.elim
  ·exact h.elim
 ·rename_i n el z;generalize h3:aP P el=u3 at h;split at h
  ·rename_i g s;generalize h4:dc (λi=>some (i*s,s)) z.cells parts=u4 at h;split at h
   ·rename_i cs;refine dh.pure h λU _=>⟨by simp,λβ w => ?_⟩;have q1:=(ym h2 U β w c).1;have q3:=Gv U β parts z.cells h4;simp only [Instr.build,Sem.run_bind,q1,Result.andThen_ok,run_underlying h1,qY h3,CV.bB,q3];rfl
   ·exact h.elim
  ·exact h.elim
 ·exact h.elim
end Vc
