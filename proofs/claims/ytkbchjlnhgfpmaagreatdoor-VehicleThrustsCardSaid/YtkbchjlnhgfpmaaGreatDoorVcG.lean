import Derived.Test.YtkbchjlnhgfpmaaGreatDoorVcC
import Derived.Laws.StructEq
import Derived.Laws.Entries
import Derived.DeepKeys
import Derived.Laws.CopyRow
import Derived.Laws.Cells
set_option linter.unusedVariables false
set_option linter.unusedSimpArgs false
namespace Vc
open Go Go.RowKit
def aI(v:Value)(W:World)(e:Ending)(w':World):Prop:=e=.returned v/\Below W.heap.size W w'
def b0:Nat->Nat:=λ_=>0
structure eJ extends World where
 pN:List Nat := []
structure yS(x:Nat)(W w':World):Prop where
 os:w'.os=W.os
 tape:w'.tape=W.tape
 output:w'.output=W.output
 size:W.heap.size<=w'.heap.size
 block:∀k,k<W.heap.size->k≠x->w'.heap[k]? = W.heap[k]?
structure wJ(xs:List Nat)(W w':World):Prop where
 os:w'.os=W.os
 tape:w'.tape=W.tape
 output:w'.output=W.output
 size:W.heap.size<=w'.heap.size
 block:∀k,k<W.heap.size->k ∉ xs->w'.heap[k]? = W.heap[k]?
def dT(W:eJ)(w':World):Prop:=match W.pN with
 | []=>Below W.heap.size W.toWorld w'
 | [x]=>yS x W.toWorld w'
 |x::y::l=>wJ (x::y::l) W.toWorld w'
def Wl(v:Value)(x:Nat)(cs:Array Value)(t:TypeId)(W:World)(e:Ending)(w':World):Prop:=e=.returned v/\yS x W w'/\w'.heap[x]? = some (.cells cs t)
def EO(v:Value)(l:List (Nat × Array Value × TypeId))(W:World)(e:Ending)(w':World):Prop:=e=.returned v/\wJ (l.map (·.1)) W w'/\∀x∈l,w'.heap[x.1]? = some (.cells x.2.1 x.2.2)
def fv(W:eJ)(b:Nat):Prop:=match W.pN with
 | []=>W.heap.size<=b
 | [x]=>b=x\/W.heap.size<=b
 |x::y::l=>b∈x::y::l\/W.heap.size<=b
def o4(x:Nat)(W:World):World := {W with heap:=W.heap.setIfInBounds x (.deferred none)}
def tU:List Nat->World->World
 | [],W=>W
 |x::l,W=>o4 x (tU l W)
def eJ.seen(W:eJ):World:=tU W.pN W.toWorld
theorem dT.os{W:eJ}{w':World}(h:dT W w'):w'.os=W.os:=by
 unfold dT at h;split at h<;>exact h.os
theorem dT.tape{W:eJ}{w':World}(h:dT W w'):w'.tape=W.tape:=by
 unfold dT at h;split at h<;>exact h.tape
theorem dT.output{W:eJ}{w':World}(h:dT W w'):w'.output=W.output:=by
 unfold dT at h;split at h<;>exact h.output
theorem dT.size{W:eJ}{w':World}(h:dT W w'):W.heap.size<=w'.heap.size:=by
 unfold dT at h;split at h<;>exact h.size
theorem dT.block{W:eJ}{w':World}(h:dT W w')(k:Nat)(hk:k<W.heap.size)(hl:k ∉ W.pN):w'.heap[k]? = W.heap[k]? := by
 unfold dT at h;split at h
 ·exact h.block k hk
 ·rename_i x hx;exact h.block k hk λe=>hl (by rw [hx,e];exact List.mem_singleton.2 rfl)
 ·rename_i x y l hx;exact h.block k hk (by rw [hx]at hl;exact hl)
theorem dT.mk{W:eJ}{w':World}(h1:w'.os=W.os)(h2:w'.tape=W.tape)(h3:w'.output=W.output)(h4:W.heap.size<=w'.heap.size)(h5:∀k,k<W.heap.size->k ∉ W.pN->w'.heap[k]? = W.heap[k]?):dT W w':=by
 unfold dT;split
 ·rename_i hx;exact⟨h1,h2,h3,h4,λk hk=>h5 k hk (by rw [hx];simp)⟩
 ·rename_i x hx;exact⟨h1,h2,h3,h4,λk hk hn=>h5 k hk (by rw [hx];simpa using hn)⟩
 ·rename_i x y l hx;exact⟨h1,h2,h3,h4,λk hk hn=>h5 k hk (by rw [hx];exact hn)⟩
theorem dT.trans{W:eJ}{w w':World}(h:dT W w)(hb:Below w.heap.size w w'):dT W w' :=
 dT.mk (hb.os.trans h.os) (hb.tape.trans h.tape) (hb.output.trans h.output) (Nat.le_trans h.size hb.size) λk hk hl=>(hb.block k (Nat.lt_of_lt_of_le hk h.size)).trans (h.block k hk hl)
theorem dT.drew{W:eJ}{w:World}(h:dT W w):dT W w.drew:=dT.mk h.os h.tape h.output h.size h.block
theorem dT.refl(W:eJ):dT W W.toWorld:=dT.mk rfl rfl rfl (Nat.le_refl _) λ_ _ _=>rfl
theorem fv.out{W:eJ}{b:Nat}(h:fv W b):b∈W.pN\/W.heap.size<=b:=by
 unfold fv at h;split at h
 ·exact .inr h
 ·rename_i x hx;rcases h with h|h
  ·exact .inl (by rw [hx,h];exact List.mem_singleton.2 rfl)
  ·exact .inr h
 ·rename_i x y l hx;rw [hx];exact h
theorem fv.mk{W:eJ}{b:Nat}(h:b∈W.pN\/W.heap.size<=b):fv W b:=by
 unfold fv;split
 ·rename_i hx;rcases h with h|h
  ·rw [hx]at h;cases h
  ·exact h
 ·rename_i x hx;rcases h with h|h
  ·rw [hx]at h;exact .inl (by simpa using h)
  ·exact .inr h
 ·rename_i x y l hx;rw [hx]at h;exact h
theorem KO{x:Nat}{W:World}{a:Addr}{v:Value}(h:(o4 x W).cell? a=some v):a.block≠x/\W.cell? a=some v:=by
 have hx:a.block≠x:=by
  intro e;have hb:=World.block_lt_of_cell? _ _ h;unfold World.cell? o4 at h;subst e;simp only [o4,Array.size_setIfInBounds]at hb;simp [Array.getElem?_setIfInBounds,hb]at h
 refine⟨hx, ?_⟩;rw [<-h];unfold World.cell? o4;rw [Array.getElem?_setIfInBounds_ne (by omega)]
theorem Sx{W:World}{a:Addr}{v:Value}:∀{xs:List Nat},(tU xs W).cell? a=some v->a.block ∉ xs/\W.cell? a=some v
  | [],h=>⟨List.not_mem_nil,h⟩
  |x::l,h=>by
    obtain⟨h1,h2⟩:=KO (show (o4 x (tU l W)).cell? a=some v from h);obtain⟨h3,h4⟩:=Sx h2;exact⟨λhm=>(List.mem_cons.1 hm).elim h1 h3,h4⟩
theorem dT.cell{W:eJ}{w:World}(h:dT W w){a:Addr}{v:Value}(hc:W.seen.cell? a=some v):w.cell? a=some v:=by
 obtain⟨hb,hc⟩:=Sx hc;rw [<-hc];unfold World.cell?;rw [h.block a.block (World.block_lt_of_cell? _ _ hc) hb]
inductive Vl where
 |i (n:Int)
 |b (b:Bool)
 |v (v:Value)
 |s (l:List UInt8)
 |l (xs:List Value)
def vl(o:bA)(U:Env):At->Vl
  | .int _ e=>.i (e.den U)
  | .bool e=>.b (e.den U)
  | .str l=>.s l
  | .sv i=>.s (U.s i)
  | .own k=>match aO o k with
    |some (ce,_,_)=>.l (aq U b0 ce)
    |none=>.l []
  |a=>.v (a.den U b0)
def uQ:List At->(Env->Prop)->Env->Prop
 | [],k,U=>k U
 | .int _ (.var n)::l,k,U=>∃x:Int,uQ l k (U.gF n x)
 | .bool (.var n)::l,k,U=>∃x:Bool,uQ l k (U.mu n x)
 | .val n::l,k,U=>∃x:OV,uQ l k (U.ov n x)
 | .sv n::l,k,U=>∃x:List UInt8,uQ l k (U.qN n x)
 | .dD q p _ (.var n) (.var m)::l,k,U=>∃(x:Bool) (y:Nat × Nat) (a b:Int),uQ l k ((((U.mu q x).sC p y).gF n a).gF m b)
 |_,_,_=>False
def nC(o:bA):List At->(Env->Prop)->Env->Prop
  | [],k,U=>k U
  | .int _ (.var n)::l,k,U=>∀x:Int,nC o l k (U.gF n x)
  | .bool (.var n)::l,k,U=>∀x:Bool,nC o l k (U.mu n x)
  | .val n::l,k,U=>∀x:OV,nC o l k (U.ov n x)
  | .sv n::l,k,U=>∀x:List UInt8,nC o l k (U.qN n x)
  | .dD q p _ (.var n) (.var m)::l,k,U=>∀(x:Bool) (y:Nat × Nat) (a b:Int),nC o l k ((((U.mu q x).sC p y).gF n a).gF m b)
  | .own j::l,k,U=>match aO o j with
    |some ([.var n],_,_)=>∀x:List OV,nC o l k (U.kP n x)
    |_=>False
  |_,_,_=>False
def gJ(own:Nat->Prop)(b code n base:Nat)(xs:List Value)(sz:Nat)(t:TypeId)(w:World):Prop :=
 xs.length=n*sz/\0<sz/\((code<=1/\n=0) \/
  (2<=code/\base=0/\own b/\n<=code-1/\code-1<=maxLen/\∃cur,w.heap[b]? = some (.cells cur t (0,0))/\cur.size=(code-1)*sz/\cur.toList.take (n*sz)=xs))
def wK(es:Array MapEntry):List Value:=es.toList.flatMap λe=>e.key.cells.toList++e.val.cells.toList
def dJ(c:Nat)(v:Value):Prop:=if c % 2=1 then ∃cs,v=.agg cs/\cs.size=c / 2 else v.oneCell'=true/\c=2
def AL(ob:Option Obj)(n:Nat)(xs:List Value)(t:Nat):Prop:=match t with
 |0=>n=xs.length/\∃C ty mk,ob=some (.cells C ty mk)/\C.toList.take xs.length=xs
 |t+1=>∃es clock,ob=some (.map es clock)/\wK es=xs/\∀e∈es.toList,dJ ((t+1) / 1048576) e.key/\dJ ((t+1) % 1048576) e.val
def bT(own:Nat->Prop)(b code n base:Nat)(xs:List Value)(sz:Nat)(t:TypeId)(w:World):Prop :=
 gJ own b code n base xs sz t w\/(sz=0/\own b/\2<=code/\AL (w.heap[b]?) n xs t)
theorem bT.fz{own:Nat->Prop}{b code n base:Nat}{xs:List Value}{sz:Nat}{t:TypeId}{w:World}(h:bT own b code n base xs sz t w)(hz:0<sz):gJ own b code n base xs sz t w:=by
 rcases h with h|⟨h,_⟩
 ·exact h
 ·omega
theorem bT.imp{own EP:Nat->Prop}{b code n base:Nat}{xs:List Value}{sz:Nat}{t:TypeId}{w:World}(h:bT own b code n base xs sz t w)(f:2<=code->own b->EP b):bT EP b code n base xs sz t w:=by
 rcases h with ⟨a1,a2,a3⟩|⟨a1,a2,a3,a4⟩
 ·refine .inl ⟨a1,a2, ?_⟩;rcases a3 with a3|⟨b1,b2,b3,b4⟩
  ·exact .inl a3
  ·exact .inr ⟨b1,b2,f b1 b3,b4⟩
 ·exact .inr ⟨a1,f a3 a2,a3,a4⟩
theorem bT.heap{own:Nat->Prop}{b code n base:Nat}{xs:List Value}{sz:Nat}{t:TypeId}{w w':World}(h:bT own b code n base xs sz t w)(hh:2<=code->w'.heap[b]? = w.heap[b]?):bT own b code n base xs sz t w':=by
 rcases h with ⟨a1,a2,a3⟩|⟨a1,a2,a3,a4⟩
 ·refine .inl ⟨a1,a2, ?_⟩;rcases a3 with a3|⟨b1,b2,b3,b4,b5,cur,b6,b7,b8⟩
  ·exact .inl a3
  ·exact .inr ⟨b1,b2,b3,b4,b5,cur,by rw [hh b1,b6],b7,b8⟩
 ·exact .inr ⟨a1,a2,a3,by rw [hh a3];exact a4⟩
theorem bT.own{own:Nat->Prop}{b code n base:Nat}{xs:List Value}{sz:Nat}{t:TypeId}{w:World}(h:bT own b code n base xs sz t w)(hc:2<=code):own b:=by
 rcases h with ⟨a1,a2,a3⟩|⟨a1,a2,a3,a4⟩
 ·rcases a3 with a3|⟨b1,b2,b3,b4⟩
  ·omega
  ·exact b3
 ·exact a2
def Datum:Obj->Prop
 | .loop _=>False
 | .deferred _=>False
 |_=>True
theorem bT.datum{own:Nat->Prop}{b code n base:Nat}{xs:List Value}{sz:Nat}{t:TypeId}{w:World}(h:bT own b code n base xs sz t w)(hc:2<=code):∃o,w.heap[b]? = some o/\Datum o:=by
 rcases h with ⟨a1,a2,a3⟩|⟨a1,a2,a3,a4⟩
 ·rcases a3 with a3|⟨b1,b2,b3,b4,b5,cur,b6,b7,b8⟩
  ·omega
  ·exact⟨_,b6,trivial⟩
 ·cases t with
  |zero=>obtain⟨_,C,ty,mk,h,_⟩:=a4;exact⟨_,h,trivial⟩
  |succ t=>obtain⟨es,cl,h,_⟩:=a4;exact⟨_,h,trivial⟩
def B6(v:Value)(b code n base:Nat)(xs:List Value)(sz:Nat)(t:TypeId)(W:World)(e:Ending)(w':World):Prop :=
 e=.returned v/\(code<=1->Below W.heap.size W w')/\(2<=code->yS b W w')/\bT (λ_=>True) b code n base xs sz t w'
abbrev ma(lo b code n base:Nat)(xs:List Value)(sz:Nat)(t:TypeId)(w:World):Prop:=bT (λb=>lo<=b) b code n base xs sz t w
def wL(W:eJ)(U:Env)(β:Nat->Nat):bA->World->Prop
 | [],_=>True
 | (k,ce,sz,t)::r,w=>bT (fv W) (β k) (β (k+1)) (β (k+2)) (β (k+3)) (aq U β ce) sz t w/\wL W U β r w
def nE(W:eJ)(U:Env)(β:Nat->Nat):Mem->bA->World->Prop
 | [],o,w=>wL W U β o w
 | (k,cs,t)::r,o,w=>(fv W (β k)/\w.heap[β k]? = some (.cells (cs.map (At.den U β)).toArray t))/\nE W U β r o w
def e_(W:World)(v:Value)(sz:Nat)(xs:List Value):Prop :=
 (v=.slice none 0 0/\xs=[])\/(∃a,v=.slice (some a) 0 0/\xs=[])\/∃b o len cap,v=.slice (some ⟨b,o,none⟩) len cap/\xs.length=len*sz/\∀j u,xs[j]? = some u->W.cell? ⟨b,o+j,none⟩=some u
def DK(b:UInt8):Value := .int .u8 b.toNat
def LP.den(U:Env):LP->List Value
 | .set ce ix sz off l=>(aq U b0 ce).take ((ix.den U).toNat*sz+off)++l.map (At.den U b0)++(aq U b0 ce).drop ((ix.den U).toNat*sz+off+l.length)
 | .qR i=>(U.s i).map DK
 | .rep n l=>times (l.map (At.den U b0)) (n.den U).toNat
def fa:SV->Bool
 | .cv c=>c.flat
 | .cS l=>l.all CV.flat
 |_=>true
def AM(m:Mem):Nat->List TypeId->Option (List (List At))
  |_,[]=>some []
  |k,t::r=>match getM m k,AM m (k+1) r with
    |some (cs,t'),some l=>if t'=t then some (cs::l)else none
    |_,_=>none
def At.B7(n:Nat):At->Bool
 | .loc k _=>decide (k<n)
 | .fn _ aK=>aK.all λx=>decide (x.1<n)
 |a=>a.flat
def AN(xs:List Nat):Nat->Nat:=λk=>xs.getD k 0
def yT(v:Value)(l:List (Nat × Array Value × TypeId))(W:World):Ending->World->Prop:=match l with
 | [x]=>Wl v x.1 x.2.1 x.2.2 W
 |l=>EO v l W
def lI(l:List Nat)(C:Prop):Prop:=match l with
 | []=>C
 | [_]=>C
 |x::y::l=>(x::y::l).Nodup->C
def KQ(v:Value)(xs:List Nat)(W:World)(e:Ending)(w':World):Prop:=e=.panicked [{v:=v,recovered:=false}]/\wJ xs W w'
theorem lI.out{l:List Nat}{C:Prop}(h:lI l C)(hn:l.Nodup):C:=by
 unfold lI at h;split at h
 ·exact h
 ·exact h
 ·exact h hn
theorem yT.out{v:Value}{l:List (Nat × Array Value × TypeId)}{W:World}{e:Ending}{w':World}(h:yT v l W e w'):EO v l W e w':=by
 unfold yT at h;split at h
 ·obtain⟨h1,h2,h3⟩:=h;refine⟨h1,⟨h2.os,h2.tape,h2.output,h2.size,λk hk hn=>h2.block k hk λe=>hn (by simp [e])⟩,λy hy => ?_⟩;simp only [List.mem_singleton]at hy;subst hy;exact h3
 ·exact h
def KS(bk ck:Nat)(xs:List Value)(sz:Nat)(t:TypeId)(W:World)(e:Ending)(w':World):Prop :=
  ∃b code n base,e=.returned (cG b code n base)/\bT (λ_=>True) b code n base xs sz t w'/\(w'.os=W.os/\w'.tape=W.tape/\w'.output=W.output/\W.heap.size<=w'.heap.size) /\
    (∀x,x<W.heap.size->(2<=ck->x≠bk)->w'.heap[x]? = W.heap[x]?)/\(2<=code->W.heap.size<=b\/(2<=ck/\b=bk))
def PA(P:Program)(W:eJ)(Q:Value->Prop)(QM QP:World->Value->Prop):bX (Env->Prop) where
  fail _:=λ_=>False
  fin v m o:=λU=>match fa v with
    |true=>Q (v.den U b0)
    |false=>∀(β:Nat->Nat) (w':World),dT W w'->nE W U β m o w'->QM w' (v.den U β)
  int n p k:=λU=>∀x:Int,x=p.den U->k (U.gF n x)
  sG e k:=λU=>e.prop U/\k U
  ite e t f:=λU=>(e.prop U->t U)/\(¬e.prop U->f U)
  call f args m o fr r k:=λU=>uQ fr (λag=>(match args.all fa with
    |true=>∀w':World,dT W w'->Calls P f (args.map (SV.den U b0)).toArray w' (aI (r.den ag b0) w')
    |false=>∀(β:Nat->Nat) (w':World),dT W w'->nE W U β m o w'->Calls P f (args.map (SV.den U β)).toArray w' (aI (r.den ag b0) w'))/\k ag) U
  oS f args fr r k:=λU=>uQ fr (λag=>(args.all fa=true/\∀w':World,(callFunc f (args.map (SV.den U b0)).toArray).run P w'=.ok (.value (r.den ag b0)) w')/\k ag) U
  load a p ix sz off k:=λU=>uQ [a] (λag=>W.seen.cell? ⟨(U.p p).1,(U.p p).2+(ix.den U).toNat*sz+off,none⟩=some (a.den ag b0)/\k ag) U
  loop oi i fo fr body:=λU=>∃(Inv:List Vl->Prop) (μ:List Vl->Nat),Inv (i.map (vl oi U)) /\
    nC fo fr (λag=>Inv (fr.map (vl fo ag))->body (λoy ys J=>Inv (ys.map (vl oy J))/\μ (ys.map (vl oy J))<μ (fr.map (vl fo ag))) ag) U
  rd a ce ix sz off k:=λU=>uQ [a] (λag=>(aq U b0 ce)[(ix.den U).toNat*sz+off]? = some (a.den ag b0)/\k ag) U
  uL n lp k:=λU=>∀L:List OV,L.map (·.1)=lp.den U->k (U.kP n L)
  It n x sz k:=λU=>∃L:List OV,e_ W.seen (x.den U b0) sz (L.map (·.1))/\k (U.kP n L)
  Kt v m o ts:=λU=>match AM m 0 ts with
    |some l=>(match fa v && l.all (λcs=>cs.all (At.B7 ts.length))with
      |true=>Q (.agg (v.den U b0::l.map λcs=>.agg (cs.map (At.den U (AN W.pN))).toArray).toArray)
      |false=>False)
    |none=>False
  Ku v o sz t:=λU=>match aO o 0 with
    |some (ce,vE,t')=>(match fa v && gG ce && decide (vE=sz/\t'=t)with
      |true=>Q (.agg #[v.den U b0,.agg (aq U b0 ce).toArray])
      |false=>False)
    |none=>False
  AF f args m o k n sz t fr r K:=λU=>∃L:List OV,uQ fr (λag=>(∀(β:Nat->Nat) (w':World),dT W w'->nE W U β m o w'->Calls P f (args.map (SV.den U β)).toArray w' (B6 (r.den ag b0) (β k) (β (k+1)) (β (k+2)) (β (k+3)) (L.map (·.1)) sz t w'))/\K ag) (U.kP n L)
  ai g cs ty k:=λU=>(∃ER mk,W.seen.heap[g]? = some (.cells (cs.map (At.den U b0)).toArray ER mk))/\k U
  jy n t v k:=λU=>∀x:OV,x.1=.iface t (v.den U b0)->k (U.ov n x)
  alt p q:=λU=>p U\/q U
  AG f args m o ks fr t v n k:=λU=>uQ fr (λag=>(∀(β:Nat->Nat) (w':World),dT W w'->nE W U β m o w'->lI (ks.map β) (Calls P f (args.map (SV.den U β)).toArray w' (KQ (.iface t (v.den ag b0)) (ks.map β) w')))/\∀x:OV,x.1=.iface t (v.den ag b0)->k (ag.ov n x)) U
  qV f args m o k ce sz t K:=λU=>(∀(β:Nat->Nat) (w':World),dT W w'->nE W U β m o w'->Calls P f (args.map (SV.den U β)).toArray w' (KS (β k) (β (k+1)) (aq U β ce) sz t w'))/\K U
  ED n ce kc ks ne k:=λU=>jC ks (ks.length+ne) (aq U b0 ce)=true/\∀x:Int,x=gh ks.length (ks.length+ne) (kc.map (At.den U b0)) (aq U b0 ce)->k (U.gF n x)
  mark _ _ _ _ k:=k
  BX i:=λU=>∀w':World,dT W w'->QP w' (U.v i).1
  str n p k:=λU=>p.ok U/\∀s:List UInt8,s=p.den U->k (U.qN n s)
  AE f args m o js fr r k:=λU=>uQ fr (λag=>(∀(β:Nat->Nat) (w':World),dT W w'->nE W U β m o w'->lI (js.map λx=>β x.1) (Calls P f (args.map (SV.den U β)).toArray w' (yT (r.den ag b0) (js.map λx=>(β x.1,(x.2.1.map (At.den ag β)).toArray,x.2.2)) w')))/\k ag) U
theorem AO(c:ar)(U:Env)(x:Int):Env.aC c U (U.gF c.ni x) :=
 ⟨λj hj=>if_neg (Nat.ne_of_lt hj),λ_ _=>rfl,λ_ _=>rfl,λ_ _=>rfl,λ_ _=>rfl,λ_ _=>rfl⟩
theorem Sy(c:ar)(U:Env)(x:Bool):Env.aC c U (U.mu c.nb x) :=
 ⟨λ_ _=>rfl,λj hj=>if_neg (Nat.ne_of_lt hj),λ_ _=>rfl,λ_ _=>rfl,λ_ _=>rfl,λ_ _=>rfl⟩
theorem ES(c:ar)(U:Env)(x:OV):Env.aC c U (U.ov c.nv x) :=
 ⟨λ_ _=>rfl,λ_ _=>rfl,λj hj=>if_neg (Nat.ne_of_lt hj),λ_ _=>rfl,λ_ _=>rfl,λ_ _=>rfl⟩
theorem ET(c:ar)(U:Env)(x:List UInt8):Env.aC c U (U.qN c.ns x) :=
 ⟨λ_ _=>rfl,λ_ _=>rfl,λ_ _=>rfl,λ_ _=>rfl,λj hj=>if_neg (Nat.ne_of_lt hj),λ_ _=>rfl⟩
theorem tV(c:ar)(U:Env)(x:List OV):Env.aC c U (U.kP c.nl x) :=
 ⟨λ_ _=>rfl,λ_ _=>rfl,λ_ _=>rfl,λ_ _=>rfl,λ_ _=>rfl,λj hj=>if_neg (Nat.ne_of_lt hj)⟩
theorem Sz(c:ar)(U:Env)(x:Bool)(y:Nat × Nat)(a b:Int):Env.aC c U ((((U.mu c.nb x).sC c.np y).gF c.ni a).gF (c.ni+1) b) :=
 ⟨λj hj=>by
  show (if j=c.ni+1 then b else if j=c.ni then a else U.i j)=U.i j;rw [if_neg (by omega),if_neg (by omega)],λj hj=>if_neg (Nat.ne_of_lt hj),λ_ _=>rfl,λj hj=>if_neg (Nat.ne_of_lt hj),λ_ _=>rfl,λ_ _=>rfl⟩
theorem zq(c:ar)(k:CK):c.le (bj c k):=by
 cases k<;>constructor<;>simp [bj]
theorem yi:∀(ks:List CK) (c:ar),c.le (aY c ks)
 | [],c=>ar.le_refl c
 |k::l,c=>ar.le_trans (zq c k) (yi l _)
theorem Iy(c:ar)(k:CK):(bF c k).wf (bj c k)=true:=by
 cases k<;>simp [bF,bj,At.wf,IE.wf,BE.wf]
theorem B8:∀(ks:List CK) (c:ar),(av c ks).all (At.wf (aY c ks))=true
  | [],c=>rfl
  |k::l,c=>by
    simp only [av,aY,List.all_cons,Bool.and_eq_true];exact⟨At.aU (yi l _) (Iy c k),B8 l _⟩
theorem Iz(c:ar)(k:CK)(h:k.plain=true):(bF c k).flat=true:=by cases k<;>first|rfl|cases h
theorem EU:∀(ks:List CK) (c:ar),ks.all CK.plain=true->(av c ks).all At.flat=true
  | [],c,_=>rfl
  |k::l,c,h=>by
    simp only [List.all_cons,Bool.and_eq_true]at h;simp only [av,List.all_cons,Iz c k h.1,EU l _ h.2,Bool.and_self]
theorem vF:∀(ks:List CK) (c:ar) {k:Env->Prop} {U:Env},uQ (av c ks) k U->∃ag,Env.aC c U ag/\k ag
  | [],c,k,U,h=>⟨U,Env.ao _ _,h⟩
  | .int kd::l,c,k,U,h=>by
    obtain⟨x,h⟩:=h;obtain⟨ag,h1,h2⟩:=vF l _ h;exact⟨ag,Env.aj (zq c (.int kd)) (AO c U x) h1,h2⟩
  | .bool::l,c,k,U,h=>by
    obtain⟨x,h⟩:=h;obtain⟨ag,h1,h2⟩:=vF l _ h;exact⟨ag,Env.aj (zq c .bool) (Sy c U x) h1,h2⟩
  | .vD::l,c,k,U,h=>by
    obtain⟨x,h⟩:=h;obtain⟨ag,h1,h2⟩:=vF l _ h;exact⟨ag,Env.aj (zq c .vD) (ES c U x) h1,h2⟩
  | .str::l,c,k,U,h=>by
    obtain⟨x,h⟩:=h;obtain⟨ag,h1,h2⟩:=vF l _ h;exact⟨ag,Env.aj (zq c .str) (ET c U x) h1,h2⟩
  | .sl sz::l,c,k,U,h=>by
    obtain⟨x,y,a,b,h⟩:=h;obtain⟨ag,h1,h2⟩:=vF l _ h;exact⟨ag,Env.aj (zq c (.sl sz)) (Sz c U x y a b) h1,h2⟩
  | .own sz t::l,c,k,U,h=>h.elim
def cP(c:ar)(U:Env)(K:SV->ar->Env->Prop)(V:SV->Env->Prop):Prop :=
 ∃sv c' ag,K sv c' ag/\c.le c'/\Env.aC c U ag/\∀J,Env.aC c' ag J->V sv J
theorem cP.pure{c:ar}{U:Env}{K:SV->ar->Env->Prop}{V:SV->Env->Prop}{sv:SV}(h:K sv c U)(hv:∀J,Env.aC c U J->V sv J):cP c U K V :=
 ⟨sv,c,U,h,ar.le_refl _,Env.ao _ _,hv⟩
theorem cP.mono{c:ar}{U:Env}{K:SV->ar->Env->Prop}{V V':SV->Env->Prop}(h:cP c U K V)(hv:∀sv J,Env.aC c U J->V sv J->V' sv J):cP c U K V':=by
 obtain⟨sv,c',ag,h1,h2,h3,h4⟩:=h;exact⟨sv,c',ag,h1,h2,h3,λJ h5=>hv sv J (Env.aj h2 h3 h5) (h4 J h5)⟩
variable {P:Program} {W:eJ} {Q:Value->Prop} {QM QP:World->Value->Prop}
theorem zw{c:ar}{k:IntKind}{p:IP}{K:SV->ar->Env->Prop}{U:Env}(h:hU (PA P W Q QM QP) c k p K U) :
    cP c U K λsv J=>∀β,sv.den J β=.int k (p.den J)/\sv ≠ .any:=by
  unfold hU at h;cases hl:p.lits with
  |true =>
    rw [hl]at h;simp only [Sq]at h;exact cP.pure h λJ _ β=>⟨by simp only [SV.den,CV.den,At.den,IE.den];rw [IP.qQ hl],by simp⟩
  |false =>
    rw [hl]at h;simp only at h;split at h
    · rename_i hw;have h1:=h (p.den U) rfl;have hle:c.le {c with ni:=c.ni+1}:=zq c (.int k);refine⟨_,_,_,h1,hle,AO c U _,λJ hl β=>⟨?_,by simp⟩⟩
      have e1:J.i c.ni=p.den U:=by
        rw [hl.i c.ni (Nat.lt_succ_self _)];exact if_pos rfl
      simp only [SV.den,CV.den,At.den,IE.den,e1];rw [IP.aa (Env.aj hle (AO c U _) hl) hw]
    · exact h.elim
theorem EV{c:ar}{p:SP}{K:SV->ar->Env->Prop}{U:Env}(h:na (PA P W Q QM QP) c p K U) :
  cP c U K λsv J=>p.ok J/\sv ≠ .any/\∀β,sv.den J β=.string ⟨(p.den J).toArray⟩:=by
 unfold na at h;split at h
 ·rename_i hl;rw [Iw]at h
  exact cP.pure h λJ _=>⟨(SP.qT (ag:=J) hl.1 hl.2).2,by simp,λβ=>by
   simp only [SV.den,CV.den,At.den];rw [(SP.qT (U:=Env.zero) (ag:=J) hl.1 hl.2).1]⟩
 split at h
 ·rename_i hw;obtain⟨h0,h1⟩:=h;have h1:=h1 (p.den U) rfl;have hle:c.le {c with ns:=c.ns+1}:=zq c .str;refine⟨_,_,_,h1,hle,ET c U _,λJ hl => ?_⟩
  have e1:J.s c.ns=p.den U:=by
   rw [hl.s c.ns (Nat.lt_succ_self _)];exact if_pos rfl
  have hk:=SP.aC (Env.aj hle (ET c U _) hl) hw;refine⟨hk.2 h0,by simp,λβ => ?_⟩;simp only [SV.den,CV.den,At.den,e1];rw [hk.1]
 ·exact h.elim
theorem oA(U:Env)(n:Int):(IE.lit n).den U=n:=rfl
theorem yU{U:Env}{d:BE}{t f:Env->Prop}(h:(d.prop U->t U)/\(¬d.prop U->f U)):(d.den U=true/\t U)\/(d.den U=false/\f U):=by
 by_cases hd:d.den U=true
 ·exact .inl ⟨hd,h.1 ((BE.dF U d).2 hd)⟩
 ·exact .inr ⟨by simpa using hd,h.2 λhp=>hd ((BE.dF U d).1 hp)⟩
theorem za{e:BE}{r:Env->Prop}{U:Env}(h:bJ (PA P W Q QM QP) e r U):e.prop U/\r U:=by
  unfold bJ at h;have hs:=BE.fF U e;generalize e.kL=d at h hs;have key:d.prop U/\r U->e.prop U/\r U:=λhh=>⟨(BE.dF U e).2 (hs▸(BE.dF U _).1 hh.1),hh.2⟩;cases d with
  |lit b=>cases b with
    |true=>exact key ⟨rfl,h⟩
    |false=>exact key h
  |_=>exact key h
theorem zt{e:BE}{t f:Unit->Env->Prop}{U:Env}(h:fR (PA P W Q QM QP) e t f U):(e.den U=true/\t () U)\/(e.den U=false/\f () U):=by
  unfold fR at h;split at h
  · exact .inl ⟨rfl,h⟩
  · exact .inr ⟨rfl,h⟩
  rw [<-BE.fF U e];generalize e.kL=d at h;cases d with
  |lit b=>cases b with
    |true=>exact .inl ⟨rfl,h⟩
    |false=>exact .inr ⟨rfl,h⟩
  |not d =>
    rcases yU h with ⟨h1,h2⟩|⟨h1,h2⟩
    · exact .inr ⟨by simp only [BE.den,h1,Bool.not_true],h2⟩
    · exact .inl ⟨by simp only [BE.den,h1,Bool.not_false],h2⟩
  |cmp op a b =>
    cases op
    case neq =>
      rcases yU (d := .cmp .eql a b) h with ⟨h1,h2⟩|⟨h1,h2⟩
      · exact .inr ⟨by simp only [BE.den,iz]at h1 ⊢;simp [bne,h1],h2⟩
      · exact .inl ⟨by simp only [BE.den,iz]at h1 ⊢;simp [bne,h1],h2⟩
    all_goals exact yU h
  |_=>exact yU h
theorem DL{e:IE}{n:Nat}{K:Nat->Env->Prop}{U:Env}(h0:0<=e.den U)(h1:e.den U < n) :
    ∀(j:Nat),j<=n->((n-j:Nat):Int)<=e.den U->iY (PA P W Q QM QP) e n j K U->∃m:Nat,m<n/\e.den U=m/\K m U
  |0,_,_,h=>h.elim
  |1,hj,hl,h=>⟨n-1,by omega,by omega,h⟩
  |j+2,hj,hl,h=>by
    rcases zt h with ⟨hd,h⟩|⟨hd,h⟩
    · simp only [BE.den,iz,oA,beq_iff_eq]at hd;exact⟨n-(j+2),by omega,hd,h⟩
    · simp only [BE.den,iz,oA,beq_eq_false_iff_ne,ne_eq]at hd;exact DL h0 h1 (j+1) (by omega) (by omega) h
theorem KT(op:BinOp)(t:TypeId)(k:IntKind)(a b:Int)(w:World)(h:jO op=true):(binOp op t (.int k a) (.int k b)).run P w=.ok (.int k (lC op k a b)) w:=by
 cases op<;>first | (simp [jO]at h;done) | (simp [binOp,Op.intArith,Op.intBits,lC,bits])
theorem KU(op:BinOp)(t:TypeId)(k:IntKind)(a b:Int)(w:World)(h:op=.quo\/op=.rem)(hb:b≠0):(binOp op t (.int k a) (.int k b)).run P w=.ok (.int k (lC op k a b)) w:=by
 rcases h with rfl|rfl<;>simp [binOp,Op.intDiv,lC,hb]
theorem KV(op:BinOp)(t:TypeId)(k:IntKind)(a b:Int)(w:World)(h:oW op=true):(binOp op t (.int k a) (.int k b)).run P w=.ok (.bool (iz op a b)) w:=by
 cases op<;>first | (simp [oW]at h;done) | (simp [binOp,Op.intCmp,iz])
theorem SA(t:TypeId)(k k':IntKind)(a b:Int)(w:World)(hb:0<=b):(binOp .shl t (.int k a) (.int k' b)).run P w=.ok (.int k (lC .shl k a b)) w:=by
 have:¬b<0:=by omega
 simp [binOp,Op.shift,lC,this]
theorem SB(t:TypeId)(k k':IntKind)(a b:Int)(w:World)(hb:0<=b):(binOp .shr t (.int k a) (.int k' b)).run P w=.ok (.int k (lC .shr k a b)) w:=by
 have:¬b<0:=by omega
 simp [binOp,Op.shift,lC,this]
theorem KW(k:IntKind)(a n:Int)(h0:0<=n)(h1:n.toNat<k.bits):lC .shl k a n=k.wrap (a*((2 ^ n.toNat:Nat):Int)):=by
 simp only [lC];rw [show Nat.min n.toNat k.bits=n.toNat from Nat.min_eq_left (by omega)]
 norm_cast
theorem KX(k:IntKind)(a n:Int)(h0:0<=n)(h1:n.toNat<k.bits):lC .shr k a n=a / ((2 ^ n.toNat:Nat):Int):=by
 simp only [lC];rw [show Nat.min n.toNat k.bits=n.toNat from Nat.min_eq_left (by omega)];rw [show ((2:Int) ^ n.toNat)=((2 ^ n.toNat:Nat):Int) by norm_cast];exact Int.fdiv_eq_ediv_of_nonneg _ (Int.natCast_nonneg _)
theorem Wm(op:BinOp)(t:TypeId)(x y:Operand)(k k':IntKind)(a b:Int)(w:World):(eqGuard op t x y (.int k a) (.int k' b)).run P w=.ok () w:=by
 cases op<;>simp [eqGuard]
theorem SC(op:BinOp)(t:TypeId)(x y:Operand)(a b:Bool)(w:World):(eqGuard op t x y (.bool a) (.bool b)).run P w=.ok () w:=by
 cases op<;>simp [eqGuard]
def oB(P:Program)(op:BinOp)(t:TypeId)(x y:SV)(sv:SV)(U:Env):Prop :=
 sv ≠ .any/\∀(β:Nat->Nat) (w:World) (xo yo:Operand),((do eqGuard op t xo yo (x.den U β) (y.den U β);binOp op t (x.den U β) (y.den U β)):Sem Value).run P w=.ok (sv.den U β) w
theorem oB.ints{op:BinOp}{t:TypeId}{k k':IntKind}{a b:IE}{sv:SV}{U:Env}(h0:sv ≠ .any)
  (h:∀(β:Nat->Nat) (w:World),(binOp op t (.int k (a.den U)) (.int k' (b.den U))).run P w=.ok (sv.den U β) w):oB P op t (.cv (.one (.int k a))) (.cv (.one (.int k' b))) sv U:=by
 refine⟨h0,λβ w xo yo => ?_⟩;simp only [SV.den,CV.den,At.den,Sem.run_bind,Wm,Result.andThen_ok];exact h β w
end Vc
set_option linter.unusedVariables false
namespace Vc
open Go Go.RowKit
variable {P:Program}
theorem yV{k:CK}{r:List CK}{a b:List At}{e:BE}(h:bo (k::r) a b=some e) :
    ∃a0 x b0 y e1 e2,a=a0::x/\b=b0::y/\fI k a0 b0=some e1/\bo r x y=some e2/\e=.and e1 e2:=by
  cases a with
  |nil=>simp [bo]at h
  |cons a0 x =>
    cases b with
    |nil=>simp [bo]at h
    |cons b0 y =>
      simp only [bo]at h;split at h
      · rename_i e1 e2 h1 h2;simp only [Option.some.injEq]at h;exact⟨a0,x,b0,y,e1,e2,rfl,rfl,h1,h2,h.symm⟩
      · cases h
theorem KY(U:Env):∀ (k1 k2:List CK) {a b:List At} {e:BE},bo (k1++k2) a b=some e ->
    ∃e1 e2,bo k1 (a.take k1.length) (b.take k1.length)=some e1/\bo k2 (a.drop k1.length) (b.drop k1.length)=some e2/\e.den U=(e1.den U && e2.den U)
  | [],k2,a,b,e,h=>⟨.lit true,e,by simp [bo],by simpa using h,by simp [BE.den]⟩
  |c::k1,k2,a,b,e,h=>by
    obtain⟨a0,x,b0,y,e1,e2,rfl,rfl,h1,h2,rfl⟩:=yV h;obtain⟨f1,f2,q1,q2,q3⟩:=KY U k1 k2 h2;exact⟨.and e1 f1,f2,by simp [bo,h1,q1],by simpa using q2,by simp only [BE.den,q3,Bool.and_assoc]⟩
def la(P:Program)(t:TypeId)(U:Env)(β:Nat->Nat)(x:Value)(xs:List At):Prop :=
 match P.underlying t with
 |some (.struct _)|some (.array _ _)=>x=.agg (xs.map (At.den U β)).toArray
 |_=>∃a,xs=[a]/\x=a.den U β
theorem wM{t:TypeId}{g:Bool}{n:Nat}(h:aQ P t=some (g,n)) :
  ∃d i,P.underlying t=some d/\P.info? t=some i/\n=i.size/\g=(match d with | .struct _ | .array _ _=>true|_=>false):=by
 unfold aQ at h;split at h
 ·rename_i d i h1 h2;simp only [Option.some.injEq,Prod.mk.injEq]at h;exact⟨d,i,h1,h2,h.2.symm,h.1.symm⟩
 ·cases h
theorem IA{t:TypeId}{g:Bool}{n:Nat}(h:aQ P t=some (g,n))(w:World):(isAgg t).run P w=.ok g w:=by
 obtain⟨d,i,h1,h2,rfl,rfl⟩:=wM h;unfold isAgg;simp only [Sem.run_bind,run_underlying h1,Result.andThen_ok];cases d<;>rfl
theorem ri{t:TypeId}{g:Bool}{n:Nat}(h:aQ P t=some (g,n))(w:World):(Go.sizeOf t).run P w=.ok n w:=by
 obtain⟨d,i,h1,h2,rfl,rfl⟩:=wM h;simp [Go.sizeOf,typeInfo,h2]
theorem Wn(xs:List Value)(off n:Nat):(xs.toArray.extract off (off+n))=((xs.drop off).take n).toArray:=by
 apply Array.ext';rw [Array.toList_extract];simp [List.extract]
theorem KZ{t:TypeId}{g:Bool}{n:Nat}(h:aQ P t=some (g,n))(hg:g=true)(xs:List Value)(off:Nat)(w:World) :
  (part t xs.toArray off).run P w=.ok (.agg ((xs.drop off).take n).toArray) w:=by
 subst hg;simp only [part,Sem.run_bind,IA h,Result.andThen_ok,if_true,ri h,Sem.run_pure,Wn]
theorem SD{t:TypeId}{g:Bool}{n:Nat}(h:aQ P t=some (g,n))(hg:g=false)(xs:List Value)(off:Nat)(v:Value)(hv:xs[off]? = some v)(w:World) :
  (part t xs.toArray off).run P w=.ok v w:=by
 subst hg;simp [part,IA h,hv]
theorem DM(U:Env):∀{ks:List CK} {a b:List At} {e:BE},bo ks a b=some e->a.length=ks.length/\b.length=ks.length
  | [],a,b,e,h=>by
    cases a with
    |nil=>cases b with
      |nil=>exact⟨rfl,rfl⟩
      |cons _ _=>simp [bo]at h
    |cons _ _=>simp [bo]at h
  |c::ks,a,b,e,h=>by
    obtain⟨a0,x,b0,y,e1,e2,rfl,rfl,h1,h2,rfl⟩:=yV h
    have:=DM U h2
    simp [this]
theorem DN{t:TypeId}{g:Bool}{n:Nat}(h:aQ P t=some (g,n)){U:Env}{β:Nat->Nat}(xs:List At)(off:Nat)(hs:g=false->n=1)(hl:((xs.drop off).take n).length=n)(w:World) :
    ∃v,(part t (xs.map (At.den U β)).toArray off).run P w=.ok v w/\la P t U β v ((xs.drop off).take n):=by
  obtain⟨d,i,h1,h2,rfl,rfl⟩:=wM h;cases d
  case struct fs =>
    exact⟨_,KZ h rfl _ off w,by simp [la,h1,List.map_take,List.map_drop]⟩
  case array m e =>
    exact⟨_,KZ h rfl _ off w,by simp [la,h1,List.map_take,List.map_drop]⟩
  all_goals
    rw [hs rfl]at hl ⊢;cases hx:(xs.drop off).take 1 with
    |nil=>rw [hx]at hl;simp at hl
    |cons a r =>
      have hr:r=[]:=by rw [hx]at hl;simpa using hl
      subst hr
      have ha:xs[off]? = some a:=by
        have h3:((xs.drop off).take 1)[0]? = some a:=by rw [hx];rfl
        rw [List.getElem?_take_of_lt (by omega),List.getElem?_drop]at h3;simpa using h3
      exact⟨a.den U β,SD h rfl _ off _ (by simp [ha]) w,by simp [la,h1]⟩
def B9(P:Program)(d:Nat)(t:TypeId)(ks:List CK):Prop :=
 ∀(U:Env) (β:Nat->Nat) (xs ys:List At) (e:BE) (x y:Value) (w:World),bo ks xs ys=some e->la P t U β x xs->la P t U β y ys->(Op.equalIn d t x y).run P w=.ok (e.den U) w
theorem SF{d:Nat}{f:TypeId->Option (List CK)}(IH:∀ t ks,f t=some ks->B9 P d t ks/\(∀ g n,aQ P t=some (g,n)->g=false->ks.length=1))(U:Env)(β:Nat->Nat)(xs ys:List At)(w:World) :
    ∀(fs:List Field) (off:Nat) (ks:List CK) (e:BE),uN P f off fs=some ks->bo ks (xs.drop off) (ys.drop off)=some e ->
      (Op.eqFields d (xs.map (At.den U β)).toArray (ys.map (At.den U β)).toArray fs).run P w=.ok (e.den U) w
  | [],off,ks,e,h,he=>by
    simp only [uN,Option.some.injEq]at h;subst h
    have:=DM U he
    have h1:xs.drop off=[]:=List.eq_nil_of_length_eq_zero (by simpa using this.1);have h2:ys.drop off=[]:=List.eq_nil_of_length_eq_zero (by simpa using this.2);rw [h1,h2]at he;simp only [bo,Option.some.injEq]at he;subst he;simp [Op.eqFields,BE.den]
  |fd::r,off,ks,e,h,he=>by
    simp only [uN]at h;split at h
    · cases h
    · rename_i hn;simp only [not_or,Decidable.not_not]at hn;obtain⟨hn,ho⟩:=hn;split at h
      · rename_i k1 g n h1 h2;split at h
        · rename_i hl;simp only [Option.map_eq_some_iff]at h;obtain⟨k2,h3,rfl⟩:=h;obtain⟨e1,e2,q1,q2,q3⟩:=KY U k1 k2 he;obtain⟨IB,sc⟩:=IH _ _ h1;have mC:=DM U q1;subst hl;obtain⟨v,p1,v1⟩:=DN (U:=U) (β:=β) h2 xs off (λhg=>sc _ _ h2 hg) mC.1 w;obtain⟨u,p2,u1⟩:=DN (U:=U) (β:=β) h2 ys off (λhg=>sc _ _ h2 hg) mC.2 w;have r1:=IB U β _ _ e1 v u w q1 v1 u1;have r2:=SF IH U β xs ys w r (off+k1.length) k2 e2 h3 (by rw [List.drop_drop]at q2;rw [List.drop_drop]at q2;exact q2);subst ho;simp only [Op.eqFields,hn,ne_eq,not_false_eq_true,if_true,Sem.run_bind,p1,p2,r1,Result.andThen_ok,q3];cases e1.den U
          · simp
          · simpa using r2
        · cases h
      · cases h
theorem SG{d:Nat}{t:TypeId}{k1:List CK}{g:Bool}(IB:B9 P d t k1)(hz:aQ P t=some (g,k1.length))(sc:g=false->k1.length=1)(U:Env)(β:Nat->Nat)(xs ys:List At)(w:World) :
    ∀(m i:Nat) (e:BE),bo (times k1 m) (xs.drop (i*k1.length)) (ys.drop (i*k1.length))=some e ->
      (Op.eqItems d t k1.length (xs.map (At.den U β)).toArray (ys.map (At.den U β)).toArray (List.range' i m)).run P w=.ok (e.den U) w
  |0,i,e,he=>by
    have:=DM U he
    have h1:xs.drop (i*k1.length)=[]:=List.eq_nil_of_length_eq_zero (by simpa [times]using this.1);have h2:ys.drop (i*k1.length)=[]:=List.eq_nil_of_length_eq_zero (by simpa [times]using this.2);rw [h1,h2]at he;simp only [times,bo,Option.some.injEq]at he;subst he;simp [Op.eqItems,BE.den]
  |m+1,i,e,he=>by
    obtain⟨e1,e2,q1,q2,q3⟩:=KY U k1 (times k1 m) he;have mC:=DM U q1;obtain⟨v,p1,v1⟩:=DN (U:=U) (β:=β) hz xs (i*k1.length) sc mC.1 w;obtain⟨u,p2,u1⟩:=DN (U:=U) (β:=β) hz ys (i*k1.length) sc mC.2 w;have r1:=IB U β _ _ e1 v u w q1 v1 u1;have r2:=SG IB hz sc U β xs ys w m (i+1) e2 (by rw [List.drop_drop,List.drop_drop]at q2;rw [Nat.add_mul,Nat.one_mul];exact q2);rw [List.range'_succ];simp only [Op.eqItems,Sem.run_bind,p1,p2,r1,Result.andThen_ok,q3];cases e1.den U
    · simp
    · simpa using r2
theorem Wo(bs:ByteArray)(i:Nat)(r:List UInt8):ByteArray.toList.loop bs i r=r.reverse++bs.data.toList.drop i:=by
  fun_induction ByteArray.toList.loop bs i r with
  |case1 i r h ih =>
    rw [ih];have h':i<bs.data.size:=h
    have h2:bs.data.toList.drop i=bs.get! i::bs.data.toList.drop (i+1):=by
      rw [List.drop_eq_getElem_cons (by simpa using h')];congr 1
      cases bs with|mk d =>
        show d.toList[i]=d[i]!;rw [getElem!_pos d i h'];simp
    rw [h2];simp
  |case2 i r h =>
    have:bs.data.toList.drop i=[]:=List.drop_eq_nil_of_le (by have:¬i<bs.data.size:=h;simpa using Nat.le_of_not_lt this)
    simp [this]
theorem SH(l:List UInt8):(⟨l.toArray⟩:ByteArray).toList=l:=by
 unfold ByteArray.toList;rw [Wo];simp
theorem yj{a:At}{s:SE}(h:strOf a=some s)(U:Env)(β:Nat->Nat):a.den U β=.string ⟨(s.den U).toArray⟩:=by
 cases a<;>simp only [strOf,Option.some.injEq,reduceCtorEq]at h<;>subst h<;>rfl
theorem EW(a b:List UInt8):((⟨a.toArray⟩:ByteArray)=⟨b.toArray⟩)↔a=b:=by
 simp
theorem IC:∀(n:Nat) (t:TypeId) (ks:List CK),kB P n t=some ks->∀g m,aQ P t=some (g,m)->g=false->ks.length=1
  |0,_,_,h=>by cases h
  |n+1,t,ks,h=>by
    intro g m hz hg;obtain⟨d,i,h1,h2,rfl,rfl⟩:=wM hz;simp only [kB,h1]at h;cases d<;>simp only [reduceCtorEq,Option.some.injEq]at h hg
    all_goals (subst h;rfl)
theorem EX(d:Nat):∀(n:Nat) (t:TypeId) (ks:List CK),kB P n t=some ks->B9 P (d+n) t ks
  |0,_,_,h=>by cases h
  |n+1,t,ks,h=>by
    intro U β xs ys e x y w he hx hy;simp only [kB]at h;cases hu:P.underlying t with
    |none=>simp [hu]at h
    |some dd =>
      simp only [hu]at h;simp only [la,hu]at hx hy;cases dd<;>simp only [reduceCtorEq,Option.some.injEq]at h
      case int k =>
        subst h;obtain⟨a,rfl,rfl⟩:=hx;obtain⟨b,rfl,rfl⟩:=hy;obtain⟨a0,x,b1,y,e1,e2,p1,p2,h1,h2,rfl⟩:=yV he;cases p1;cases p2;simp only [bo,Option.some.injEq]at h2;subst h2;simp only [fI]at h1;split at h1
        · split at h1
          · rename_i hk;simp only [Option.some.injEq]at h1;subst h1;obtain⟨rfl,rfl⟩:=hk;simp only [At.den,BE.den,iz,Bool.and_true];exact run_equalIn_int w (d+n) t _ _ _ _ hu
          · cases h1
        · cases h1
      case bool =>
        subst h;obtain⟨a,rfl,rfl⟩:=hx;obtain⟨b,rfl,rfl⟩:=hy;obtain⟨a0,x,b1,y,e1,e2,p1,p2,h1,h2,rfl⟩:=yV he;cases p1;cases p2;simp only [bo,Option.some.injEq]at h2;subst h2;simp only [fI]at h1;split at h1
        · simp only [Option.some.injEq]at h1;subst h1;simp only [At.den,BE.den,Bool.and_true];exact run_equalIn_bool w (d+n) t _ _ hu
        · cases h1
      case string =>
        subst h;obtain⟨a,rfl,rfl⟩:=hx;obtain⟨b,rfl,rfl⟩:=hy;obtain⟨a0,x,b1,y,e1,e2,p1,p2,h1,h2,rfl⟩:=yV he;cases p1;cases p2;simp only [bo,Option.some.injEq]at h2;subst h2;simp only [fI]at h1;split at h1
        · rename_i p q hp hq;simp only [Option.some.injEq]at h1;subst h1;rw [yj hp,yj hq];simp only [BE.den,Bool.and_true];rw [show d+(n+1)=(d+n)+1 from rfl,run_equalIn_string w (d+n) t _ _ hu];congr 1;by_cases hc:p.den U=q.den U
          · simp [hc]
          · have:¬((⟨(p.den U).toArray⟩:ByteArray)=⟨(q.den U).toArray⟩):=λhe=>hc ((EW _ _).1 he)
            simp [hc,this]
        · cases h1
      case struct fs =>
        subst hx hy;split at h
        · cases h
        · rename_i hp;have DO:P.fieldsOf t=fs:=by simp [Program.fieldsOf,hu]
          have:=SF (λt ks h=>⟨EX d n t ks h,IC n t ks h⟩) U β xs ys w fs.toList 0 ks e h (by simpa using he)
          rw [show d+(n+1)=(d+n)+1 from rfl,run_equalIn_struct w (d+n) t _ _ (by rw [DO];exact hu) (by simpa using hp),DO];exact this
      case array m el =>
        subst hx hy;split at h
        · rename_i k1 g s h1 h2;split at h
          · rename_i hs;subst hs;simp only [Option.some.injEq]at h;subst h;obtain⟨d',i',_,hi,i_,_⟩:=wM h2
            have:=SG (EX d n el k1 h1) h2 (λhg=>IC n el k1 h1 _ _ h2 hg) U β xs ys w m 0 e (by simpa using he)
            rw [show d+(n+1)=(d+n)+1 from rfl,run_equalIn_array w (d+n) _ _ hu hi,List.range_eq_range'];rw [show P.cellsOf el=k1.length by simp [Program.cellsOf,hi,i_]];exact this
          · cases h
        · cases h
theorem K0{t:TypeId}{ks:List CK}{xs ys:List At}{e:BE}(hk:kB P 30 t=some ks)(he:bo ks xs ys=some e)(ha:∃g n,aQ P t=some (g,n)/\g=true)(U:Env)(β:Nat->Nat)(w:World) :
  (Op.equalIn 10000 t (.agg (xs.map (At.den U β)).toArray) (.agg (ys.map (At.den U β)).toArray)).run P w=.ok (e.den U) w:=by
 obtain⟨g,n,hz,rfl⟩:=ha;obtain⟨d,i,h1,h2,rfl,hg⟩:=wM hz;refine EX 9970 30 t ks hk U β xs ys e _ _ w he ?_ ?_
 ·cases d<;>simp only [reduceCtorEq]at hg<;>simp [la,h1]
 ·cases d<;>simp only [reduceCtorEq]at hg<;>simp [la,h1]
end Vc
set_option linter.unusedVariables false
namespace Vc
open Go Go.RowKit
variable {P:Program} {W:eJ} {Q:Value->Prop} {QM QP:World->Value->Prop}
theorem SI(op:BinOp)(t:TypeId)(x y:Operand)(a b:Array Value)(w:World)(h:P.eqGuardType P.depth t=false):(eqGuard op t x y (.agg a) (.agg b)).run P w=.ok () w :=
 run_eqGuard_agg w op t x y a b h
theorem K1(t:TypeId)(a b:Bool)(w:World)(h:P.underlying t=some .bool):(binOp .eql t (.bool a) (.bool b)).run P w=.ok (.bool (a == b)) w:=by
 simp only [binOp];simp [run_equal_bool w t a b h]
theorem K3(t:TypeId)(a b:Bool)(w:World)(h:P.underlying t=some .bool):(binOp .neq t (.bool a) (.bool b)).run P w=.ok (.bool (!(a == b))) w:=by
 simp only [binOp];simp [run_equal_bool w t a b h]
theorem yk(e:BE)(U:Env)(β:Nat->Nat):(SV.cv (.one (.bool e.kL))).den U β=.bool (e.den U):=by
 simp only [SV.den,CV.den,At.den,BE.fF]
theorem SJ(p q:List UInt8):(p == q)=decide (p=q):=by
 by_cases hc:p=q
 ·subst hc;simp
 ·rw [decide_eq_false hc];exact beq_eq_false_iff_ne.2 hc
theorem K4(op:BinOp)(t:TypeId)(x y:Operand)(a b:ByteArray)(w:World):(eqGuard op t x y (.string a) (.string b)).run P w=.ok () w:=by
 cases op<;>simp [eqGuard]
def EY:Value->Bool
 | .pointer _ | .slice _ _ _ | .nilFunc | .func _ _ _=>true
 |_=>false
theorem EZ{p:At}(h:dG p≠3)(U:Env)(β:Nat->Nat):EY (p.den U β)=true:=by
 cases p<;>simp [dG]at h<;>simp only [At.den]<;>first|rfl | (split<;>rfl)
theorem SK(op:BinOp)(t:TypeId)(x y:Operand)(a b:Value)(h:EY a=true)(w:World):(eqGuard op t x y a b).run P w=.ok () w:=by
 cases a<;>simp [EY]at h<;>cases op<;>simp [eqGuard]
theorem K5{a:Value}(b:Value)(h:EY a=true)(t:TypeId):(binOp .eql t a b=do pure (.bool (<-Op.equal t a b)))/\(binOp .neq t a b=do pure (.bool (!(<-Op.equal t a b)))):=by
 cases a<;>simp [EY]at h<;>exact⟨rfl,rfl⟩
theorem SL(op:BinOp)(t:TypeId)(x y:Operand)(p q:At)(h:dG p≠3)(U:Env)(β:Nat->Nat)(w:World):(eqGuard op t x y (p.den U β) (q.den U β)).run P w=.ok () w :=
 SK op t x y _ _ (EZ h U β) w
theorem K6(d:Nat){t e:TypeId}(a:Option Addr)(w:World)(h:P.underlying t=some (.pointer e)):(Op.equalIn (d+1) t (.pointer none) (.pointer a)).run P w=.ok a.isNone w:=by
 cases a<;>simp [Op.equalIn,run_underlying h]
theorem K7(d:Nat){t e:TypeId}(a:Option Addr)(w:World)(h:P.underlying t=some (.pointer e)):(Op.equalIn (d+1) t (.pointer a) (.pointer none)).run P w=.ok a.isNone w:=by
 cases a<;>simp [Op.equalIn,run_underlying h]
theorem K8(d:Nat){t e:TypeId}(b o o':Nat)(w:World)(h:P.underlying t=some (.pointer e)){i:TypeInfo}(hi:P.info? e=some i)(hs:i.size≠0) :
  (Op.equalIn (d+1) t (.pointer (some ⟨b,o,none⟩)) (.pointer (some ⟨b,o',none⟩))).run P w=.ok (decide (o=o')) w:=by
 have hz:(Go.sizeOf e).run P w=.ok i.size w:=by simp [Go.sizeOf,typeInfo,hi]
 by_cases ho:o=o'<;>simp [Op.equalIn,run_underlying h,hz,hs,sameAddr,ho]
theorem E0(d:Nat){t e:TypeId}(a:Option Addr)(n c:Nat)(w:World)(h:P.underlying t=some (.slice e)):(Op.equalIn (d+1) t (.slice none 0 0) (.slice a n c)).run P w=.ok a.isNone w:=by
 cases a<;>simp [Op.equalIn,run_underlying h]
theorem K9(d:Nat){t e:TypeId}(a:Option Addr)(n c:Nat)(w:World)(h:P.underlying t=some (.slice e)):(Op.equalIn (d+1) t (.slice a n c) (.slice none 0 0)).run P w=.ok a.isNone w:=by
 cases a<;>simp [Op.equalIn,run_underlying h]
theorem K_(d:Nat){t:TypeId}{a b c}(w:World)(h:P.underlying t=some (.func a b c)):(Op.equalIn (d+1) t .nilFunc .nilFunc).run P w=.ok true w:=by
 simp [Op.equalIn,run_underlying h]
theorem La(d:Nat){t:TypeId}{a b c}(x y z)(w:World)(h:P.underlying t=some (.func a b c)):(Op.equalIn (d+1) t .nilFunc (.func x y z)).run P w=.ok false w:=by
 simp [Op.equalIn,run_underlying h]
theorem Lb(d:Nat){t:TypeId}{a b c}(x y z)(w:World)(h:P.underlying t=some (.func a b c)):(Op.equalIn (d+1) t (.func x y z) .nilFunc).run P w=.ok false w:=by
 simp [Op.equalIn,run_underlying h]
theorem SM{t:TypeId}{x y:At}{e:BE}(h:oX P t x y=some e)(U:Env)(β:Nat->Nat)(w:World):(Op.equal t (x.den U β) (y.den U β)).run P w=.ok (e.den U) w:=by
 unfold Op.equal Op.maxDepth;generalize hd:10000=d;obtain⟨d,rfl⟩:∃d',d=d'+1:=⟨9999,hd.symm⟩;clear hd;unfold oX at h;split at h
 ·rename_i el hu;split at h
  ·rename_i hk;split at h
   ·rename_i b hb;simp only [Option.some.injEq]at h;subst h;cases x<;>simp [dG]at hk<;>cases y<;>simp [dG]at hk<;>simp [pA,uO]at hb<;>subst hb<;>first|exact K6 d _ w hu|exact K7 d _ w hu
   ·split at h
    ·rename_i k o k' o';split at h
     ·rename_i g n hn;split at h
      ·rename_i hc;simp only [Option.some.injEq]at h;subst h;obtain⟨rfl,jV⟩:=hc;unfold aQ at hn;split at hn
       ·rename_i d0 i hd hi;simp only [Option.some.injEq,Prod.mk.injEq]at hn;obtain⟨_,rfl⟩:=hn;exact K8 d _ _ _ w hu hi jV
       ·cases hn
      ·cases h
     ·cases h
    ·cases h
  ·cases h
 ·rename_i el hu;split at h
  ·rename_i hk;cases x<;>simp [dG]at hk<;>cases y<;>simp [dG]at hk<;>simp [pA,uO]at h<;>subst h<;>simp only [At.den,BE.den]
   all_goals first|exact E0 d _ _ _ w hu|exact K9 d _ _ _ w hu | (split<;>rename_i hq<;>simp only [hq]<;>first|exact E0 d _ _ _ w hu|exact K9 d _ _ _ w hu)
  ·cases h
 ·rename_i hu;split at h
  ·rename_i hk;cases x<;>simp [dG]at hk<;>cases y<;>simp [dG]at hk<;>simp [pA,uO]at h<;>subst h<;>first|exact K_ d w hu|exact La d _ _ _ w hu|exact Lb d _ _ _ w hu
  ·cases h
 ·cases h
theorem SN{x:At}(y:At)(h:dG x≠3)(t:TypeId)(U:Env)(β:Nat->Nat):(binOp .eql t (x.den U β) (y.den U β)=do pure (.bool (<-Op.equal t (x.den U β) (y.den U β))))/\(binOp .neq t (x.den U β) (y.den U β)=do pure (.bool (!(<-Op.equal t (x.den U β) (y.den U β))))) :=
 K5 _ (EZ h U β) t
theorem Lc{t:TypeId}{x y:At}{e:BE}(h:oX P t x y=some e):dG x≠3:=by
 unfold oX at h;split at h
 ·split at h
  ·rename_i hk;omega
  ·cases h
 ·split at h
  ·rename_i hk;omega
  ·cases h
 ·split at h
  ·rename_i hk;omega
  ·cases h
 ·cases h
theorem Ld{t:TypeId}{a b:List UInt8}{w:World}(h:a.length+b.length<=9223372036854775807):(binOp .add t (.string ⟨a.toArray⟩) (.string ⟨b.toArray⟩)).run P w=.ok (.string ⟨(a++b).toArray⟩) w:=by
 have e:(⟨a.toArray⟩++⟨b.toArray⟩:ByteArray)=⟨(a++b).toArray⟩:=by
  apply ByteArray.ext;simp
 have hs:¬((((⟨a.toArray⟩:ByteArray).size+(⟨b.toArray⟩:ByteArray).size:Nat):Int) > IntKind.i64.max):=by
  show ¬(((a.toArray.size+b.toArray.size:Nat):Int) > 9223372036854775807);simp only [List.size_toArray];omega
 simp only [binOp,Op.stringOp];rw [if_neg hs,e];rfl
theorem Wp{c:ar}{op:BinOp}{t:TypeId}{x y:SV}{K:SV->ar->Env->Prop}{U:Env}(hx:x.wf c=true)(hy:y.wf c=true)
  (h:l_ (PA P W Q QM QP) P c op t x y K U):cP c U K (oB P op t x y):=by
 unfold l_ at h;split at h
 ·rename_i k a k' b;have wa:a.wf c=true:=hx;have wb:b.wf c=true:=hy;split at h
  ·rename_i ho;subst ho;split at h
   ·rename_i n;split at h
    ·rename_i hn;refine (zw h).mono λsv J _ hv=>oB.ints (hv b0).2 λβ w => ?_;rw [(hv β).1,oA,SA t k k' _ _ w hn.1,KW k _ n hn.1 hn.2];rfl
    ·exact h.elim
   ·obtain⟨h1,h2⟩:=za h;refine (zw h2).mono λsv J hl hv=>oB.ints (hv b0).2 λβ w => ?_;have h3:0<=b.den J:=by rw [IE.aa hl wb];exact h1
    rw [(hv β).1,SA t k k' _ _ w h3];rfl
  ·split at h
   ·rename_i ho;subst ho;split at h
    ·rename_i n;split at h
     ·rename_i hn;refine (zw h).mono λsv J _ hv=>oB.ints (hv b0).2 λβ w => ?_;rw [(hv β).1,oA,SB t k k' _ _ w hn.1,KX k _ n hn.1 hn.2];rfl
     ·exact h.elim
    ·obtain⟨h1,h2⟩:=za h;refine (zw h2).mono λsv J hl hv=>oB.ints (hv b0).2 λβ w => ?_;have h3:0<=b.den J:=by rw [IE.aa hl wb];exact h1
     rw [(hv β).1,SB t k k' _ _ w h3];rfl
   ·split at h
    ·rename_i hk;subst hk;split at h
     ·rename_i ha;refine (zw h).mono λsv J hl hv=>oB.ints (hv b0).2 λβ w => ?_;rw [(hv β).1,KT op t k _ _ w ha];rfl
     ·split at h
      ·rename_i hq;obtain⟨h1,h2⟩:=za h;refine (zw h2).mono λsv J hl hv=>oB.ints (hv b0).2 λβ w => ?_;have h3:b.den J≠0:=by rw [IE.aa hl wb];exact h1
       rw [(hv β).1,KU op t k _ _ w hq h3];rfl
      ·split at h
       ·rename_i hc;refine cP.pure h λJ hl=>oB.ints (by simp) λβ w => ?_;rw [yk,KV op t k _ _ w hc];rfl
       ·exact h.elim
    ·exact h.elim
 ·rename_i a b;generalize hu:P.underlying t=u at h;split at h
  ·split at h
   ·rename_i ho;subst ho;refine cP.pure h λJ hl=>⟨by simp,λβ w xo yo => ?_⟩;rw [yk];simp only [SV.den,CV.den,At.den,Sem.run_bind,SC,Result.andThen_ok,K1 t _ _ w hu,BE.den]
   ·split at h
    ·rename_i ho;subst ho;refine cP.pure h λJ hl=>⟨by simp,λβ w xo yo => ?_⟩;rw [yk];simp only [SV.den,CV.den,At.den,Sem.run_bind,SC,Result.andThen_ok,K3 t _ _ w hu,BE.den]
    ·exact h.elim
  ·exact h.elim
 ·rename_i a b;generalize hk:kB P 30 t=u1 at h;generalize hz:aQ P t=u2 at h;split at h
  ·rename_i ks n;generalize he:bo ks a b=u3 at h;split at h
   ·rename_i e;split at h
    ·exact h.elim
    ·rename_i hg;have fx:P.eqGuardType P.depth t=false:=by simpa using hg
     have key:=λJ β w=>K0 hk he ⟨true,n,hz,rfl⟩ J β w;split at h
     ·rename_i ho;subst ho;refine cP.pure h λJ hl=>⟨by simp,λβ w xo yo => ?_⟩;rw [yk];simp only [SV.den,CV.den,Sem.run_bind,SI _ _ _ _ _ _ _ fx,Result.andThen_ok,run_eql_struct,key]
     ·split at h
      ·rename_i ho;subst ho;refine cP.pure h λJ hl=>⟨by simp,λβ w xo yo => ?_⟩;rw [yk];simp only [SV.den,CV.den,Sem.run_bind,SI _ _ _ _ _ _ _ fx,Result.andThen_ok,run_neq_struct,key,BE.den]
      ·exact h.elim
   ·exact h.elim
  ·exact h.elim
 ·rename_i x y _ _;generalize hu:P.underlying t=u at h;generalize AP:strOf x=sx at h;generalize ID:strOf y=sy at h;split at h
  ·rename_i a b;have dx:=λJ β=>yj AP J β;have dy:=λJ β=>yj ID J β;split at h
   ·rename_i ho;subst ho;refine cP.pure h λJ hl=>⟨by simp,λβ w xo yo => ?_⟩;rw [yk];simp only [SV.den,CV.den,dx,dy,Sem.run_bind,K4,Result.andThen_ok,BE.den];simp only [binOp,Op.stringOp,SH,Sem.run_pure];rw [SJ]
   ·split at h
    ·rename_i ho;subst ho;refine cP.pure h λJ hl=>⟨by simp,λβ w xo yo => ?_⟩;rw [yk];simp only [SV.den,CV.den,dx,dy,Sem.run_bind,K4,Result.andThen_ok,BE.den];simp only [binOp,Op.stringOp,SH,Sem.run_pure];rw [SJ]
    ·split at h
     ·rename_i ho;subst ho;refine (EV h).mono λsv J hl hv=>⟨hv.2.1,λβ w xo yo => ?_⟩;rw [hv.2.2 β];have hk:=hv.1;simp only [SP.ok]at hk;simp only [SV.den,CV.den,dx,dy,Sem.run_bind,K4,Result.andThen_ok,SP.den];exact Ld hk
     ·exact h.elim
  ·generalize hn:oX P t x y=en at h;split at h
   ·rename_i e;have hk:=Lc hn;split at h
    ·rename_i ho;subst ho;refine cP.pure h λJ hl=>⟨by simp,λβ w xo yo => ?_⟩;rw [yk];simp only [SV.den,CV.den,Sem.run_bind,SL _ _ _ _ _ _ hk,Result.andThen_ok,(SN y hk t J β).1,SM hn,Sem.run_pure]
    ·split at h
     ·rename_i ho;subst ho;refine cP.pure h λJ hl=>⟨by simp,λβ w xo yo => ?_⟩;rw [yk];simp only [SV.den,CV.den,Sem.run_bind,SL _ _ _ _ _ _ hk,Result.andThen_ok,(SN y hk t J β).2,SM hn,Sem.run_pure,BE.den]
     ·exact h.elim
   ·exact h.elim
 ·exact h.elim
theorem Le{c:ar}{op:UnOp}{x:SV}{K:SV->ar->Env->Prop}{U:Env}(h:wg (PA P W Q QM QP) c op x K U) :
  cP c U K λsv J=>sv ≠ .any/\x ≠ .any/\∀β w,(Op.unary op (x.den J β)).run P w=.ok (sv.den J β) w:=by
 unfold wg at h;split at h
 ·exact (zw h).mono λsv J _ hv=>⟨(hv b0).2,by simp,λβ w=>by rw [(hv β).1];simp [SV.den,CV.den,At.den,Op.unary,Op.intArith,IP.den]⟩
 ·exact (zw h).mono λsv J _ hv=>⟨(hv b0).2,by simp,λβ w=>by rw [(hv β).1];simp [SV.den,CV.den,At.den,Op.unary,Op.intBits,IP.den,bits]⟩
 ·exact cP.pure h λJ _=>⟨by simp,by simp,λβ w=>by rw [yk];simp [SV.den,CV.den,At.den,Op.unary,BE.den]⟩
 ·exact h.elim
theorem Wq{c:ar}{s d:TypeId}{x:SV}{K:SV->ar->Env->Prop}{U:Env}(h:sI (PA P W Q QM QP) P c s d x K U) :
  cP c U K λsv J=>sv ≠ .any/\x ≠ .any/\∀β w,(convert s d (x.den J β)).run P w=.ok (sv.den J β) w:=by
 unfold sI at h;generalize h1:P.underlying s=u1 at h;generalize h2:P.underlying d=u2 at h;split at h
 ·rename_i ds k k0 a;refine (zw h).mono λsv J _ hv=>⟨(hv b0).2,by simp,λβ w => ?_⟩;rw [(hv β).1];simp only [SV.den,CV.den,At.den,convert,Sem.run_bind,run_underlying h1,run_underlying h2,Result.andThen_ok];cases ds<;>simp [Conv.intToInt,IP.den]
 ·exact h.elim
theorem SO{t:TypeId}{cs:List At}{off:Nat}{v:CV}(h:partOf P t cs off=some v)(U:Env)(β:Nat->Nat)(w:World) :
  (part t (cs.map (At.den U β)).toArray off).run P w=.ok (v.den U β) w:=by
 unfold partOf at h;split at h
 ·rename_i n hz;split at h
  ·simp only [Option.some.injEq]at h;subst h;rw [KZ hz rfl];simp [CV.den,List.map_take,List.map_drop]
  ·cases h
 ·rename_i n hz;simp only [Option.map_eq_some_iff]at h;obtain⟨a,ha,rfl⟩:=h;exact SD hz rfl _ off (a.den U β) (by simp [ha]) w
 ·cases h
theorem Wr{c:ar}{t:TypeId}{x:SV}{f:Nat}{K:SV->ar->Env->Prop}{U:Env}(h:kU (PA P W Q QM QP) P c t x f K U) :
  cP c U K λsv J=>sv ≠ .any/\x ≠ .any/\∀β w,(Instr.field t (x.den J β) f).run P w=.ok (sv.den J β) w:=by
 unfold kU at h;generalize h1:P.underlying t=u1 at h;split at h
 ·rename_i fs cs;generalize h2:fs[f]? = u2 at h;split at h
  ·rename_i fd;generalize h3:partOf P fd.type cs fd.offset=u3 at h;split at h
   ·rename_i v;refine cP.pure h λJ _=>⟨by simp,by simp,λβ w => ?_⟩;simp [SV.den,CV.den,Instr.field,run_underlying h1,h2,asAgg,SO h3]
   ·exact h.elim
  ·exact h.elim
 ·exact h.elim
theorem Ws{c:ar}{s:TypeId}{x:SV}{f:Nat}{K:SV->ar->Env->Prop}{U:Env}(h:fK (PA P W Q QM QP) P c s x f K U) :
  cP c U K λsv J=>sv ≠ .any/\x ≠ .any/\∀β w,(Instr.fieldAt s (x.den J β) f).run P w=.ok (sv.den J β) w:=by
 unfold fK at h;generalize h1:P.underlying s=u1 at h;split at h
 ·rename_i fs;generalize h2:fs[f]? = u2 at h;split at h
  ·rename_i fd;generalize h3:aQ P fd.type=u3 at h;split at h
   ·rename_i g n;split at h
    ·exact h.elim
    ·rename_i hn
     have key:∀(b o:Nat) (w:World),(fieldPlace ⟨b,o,none⟩ fd).run P w=.ok ⟨b,o+fd.offset,none⟩ w:=by
      intro b o w;simp only [fieldPlace,Sem.run_bind,ri h3,Result.andThen_ok,hn,if_false,Sem.run_pure,Addr.add];split
      ·rename_i h0;simp [h0]
      ·rfl
     split at h
     ·refine cP.pure h λJ _=>⟨by simp,by simp,λβ w => ?_⟩;simp [SV.den,CV.den,At.den,Instr.fieldAt,run_underlying h1,h2,Instr.sureAddr,key]
     ·refine cP.pure h λJ _=>⟨by simp,by simp,λβ w => ?_⟩;simp [SV.den,CV.den,At.den,Instr.fieldAt,run_underlying h1,h2,Instr.sureAddr,key,Nat.add_assoc]
     ·refine cP.pure h λJ _=>⟨by simp,by simp,λβ w => ?_⟩;simp [SV.den,CV.den,At.den,Instr.fieldAt,run_underlying h1,h2,Instr.sureAddr,key,Nat.add_assoc]
     ·exact h.elim
   ·exact h.elim
  ·exact h.elim
 ·exact h.elim
end Vc
set_option linter.unusedVariables false
namespace Vc
open Go Go.RowKit
variable {P:Program} {W:eJ} {Q:Value->Prop} {QM QP:World->Value->Prop}
theorem uR(b o m:Nat):(⟨b,o,none⟩:Addr).add m=⟨b,o+m,none⟩:=by
 unfold Addr.add;split<;>simp_all
theorem DP{t el:TypeId}{n:Nat}{g:Bool}{s:Nat}(h1:P.underlying t=some (.array n el))(hz:aQ P el=some (g,s))(b o:Nat)(k:IntKind)(i:Int)(h0:0<=i)(hn:i<n)(w:World) :
  (Instr.indexAt t (ptr b o) (.int k i)).run P w=.ok (ptr b (o+i.toNat*s)) w:=by
 simp [Instr.indexAt,asIntOf,run_underlying h1,Instr.sureAddr,ptr,h0,hn,ri hz,uR]
theorem B_{t el:TypeId}{n m:Nat}{g:Bool}{s:Nat}(h1:P.underlying t=some (.slice el))(hz:aQ P el=some (g,s))(b o:Nat)(k:IntKind)(i:Int)(h0:0<=i)(hn:i<n)(w:World) :
  (Instr.indexAt t (.slice (some ⟨b,o,none⟩) n m) (.int k i)).run P w=.ok (ptr b (o+i.toNat*s)) w:=by
 simp [Instr.indexAt,asIntOf,run_underlying h1,ptr,h0,hn,ri hz,uR]
theorem E3{c:ar}{p:IP}{K:IE->ar->Env->Prop}{U:Env}(h:sH (PA P W Q QM QP) c p K U) :
  ∃e c' ag,K e c' ag/\c.le c'/\c'.nk=c.nk/\Env.aC c U ag/\e.wf c'=true/\∀J,Env.aC c' ag J->e.den J=p.den J:=by
 unfold sH at h;split at h
 ·rename_i hl;rw [Sq]at h;exact⟨_,c,U,h,ar.le_refl _,rfl,Env.ao _ _,rfl,λJ _=>(IP.qQ (U:=Env.zero) (ag:=J) hl)⟩
 ·split at h
  ·rename_i hw;have h1:=h (p.den U) rfl;have hle:c.le {c with ni:=c.ni+1}:=ar.tH c 1;refine⟨_,_,_,h1,hle,rfl,AO c U _,by simp [IE.wf],λJ hl => ?_⟩
   have e1:J.i c.ni=p.den U:=by
    rw [hl.i c.ni (Nat.lt_succ_self _)];exact if_pos rfl
   simp only [IE.den,e1];rw [IP.aa (Env.aj hle (AO c U _) hl) hw]
  ·exact h.elim
theorem IF{c:ar}{op:IE->IE->IP}{a b:IE}{K:IE->ar->Env->Prop}{U:Env}(h:qW (PA P W Q QM QP) c op a b K U) :
  ∃e c' ag,K e c' ag/\c.le c'/\c'.nk=c.nk/\Env.aC c U ag/\e.wf c'=true/\∀J,Env.aC c' ag J->e.den J=(op a b).den J:=E3 h
inductive qB where
 |fix (cs:List At) (t:TypeId)
 |row (ce:CE) (sz:Nat) (t:TypeId)
def aM(m:Mem)(o:bA)(k:Nat):Option qB :=
  match getM m k with
  |some (cs,t)=>some (.fix cs t)
  |none=>match aO o k with
    |some (ce,sz,t)=>some (.row ce sz t)
    |none=>none
def Holds(W:eJ)(U:Env)(β:Nat->Nat)(k:Nat):qB->World->Prop
 | .fix cs t,w=>fv W (β k)/\w.heap[β k]? = some (.cells (cs.map (At.den U β)).toArray t)
 | .row ce sz t,w=>bT (fv W) (β k) (β (k+1)) (β (k+2)) (β (k+3)) (aq U β ce) sz t w
def fV(W:eJ)(m:Mem)(o:bA)(l:List Nat)(U:Env)(β:Nat->Nat)(w:World):Prop :=
 ∀k∈l,∀e,aM m o k=some e->Holds W U β k e w
theorem o5{m:Mem}{o:bA}{k:Nat}{cs:List At}{t:TypeId}(h:getM m k=some (cs,t)):aM m o k=some (.fix cs t):=by
 simp [aM,h]
theorem lb{m:Mem}{o:bA}{k:Nat}{ce:CE}{sz:Nat}{t:TypeId}(hm:getM m k=none)(h:aO o k=some (ce,sz,t)):aM m o k=some (.row ce sz t):=by
 simp [aM,hm,h]
def lf(m:Mem)(o:bA):Prop:=∀k x,aO o k=some x->getM m k=none
theorem Lf{lo:Nat->Prop}{b code n base:Nat}{xs:List Value}{sz:Nat}{t:TypeId}{w:World}(h:gJ lo b code n base xs sz t w):xs.length / sz=n:=by
 rw [h.1];exact Nat.mul_div_cancel _ h.2.1
theorem SQ{lo:Nat->Prop}{b code n base:Nat}{xs:List Value}{sz:Nat}{t:TypeId}{w:World}(h:gJ lo b code n base xs sz t w)(hn:0<n) :
  2<=code/\base=0/\∃cur,w.heap[b]? = some (.cells cur t (0,0))/\cur.toList.take (n*sz)=xs:=by
 rcases h.2.2 with ⟨_,h0⟩|⟨h1,h2,_,_,_,cur,h3,_,h4⟩
 ·omega
 ·exact⟨h1,h2,cur,h3,h4⟩
theorem Lg(U:Env)(β:Nat->Nat)(ce:CE)(sz:Nat):(IP.sD (m9 ce) (kz ce) sz).den U=(((aq U β ce).length / sz:Nat):Int):=by
 rw [Kr];rfl
theorem AQ{c:ar}{ce:CE}{sz:Nat}{K:IE->ar->Env->Prop}{U:Env}(h:iB (PA P W Q QM QP) c ce sz K U) :
  ∃e c' ag,K e c' ag/\c.le c'/\c'.nk=c.nk/\Env.aC c U ag/\e.wf c'=true/\∀J β,Env.aC c' ag J->e.den J=(((aq J β ce).length / sz:Nat):Int):=by
 obtain⟨e,c',ag,h1,h2,h3,h4,h5,h6⟩:=E3 h;exact⟨e,c',ag,h1,h2,h3,h4,h5,λJ β hl=>by rw [h6 J hl,Lg J β]⟩
theorem Wu{c:ar}{t:TypeId}{x i:SV}{K:SV->ar->Env->Prop}{U:Env}{m:Mem}{o:bA}(lg:lf m o)(hx:x.wf c=true)(hi:i.wf c=true)(h:fL (PA P W Q QM QP) P o c t x i K U) :
  cP c U K λsv J=>sv ≠ .any/\(x ≠ .any/\i ≠ .any)/\∀β w,fV W m o (aE (aV x)) J β w->(Instr.indexAt t (x.den J β) (i.den J β)).run P w=.ok (sv.den J β) w:=by
 unfold fL at h;split at h
 ·rename_i ki e;have we:e.wf c=true:=hi;generalize h1:P.underlying t=u1 at h;split at h
  ·rename_i el k;generalize hz:aQ P el=u2 at h;generalize jr:aO o k=u3 at h;split at h
   ·rename_i g s ce sz ty;split at h
    ·rename_i hs;obtain⟨rfl,vG⟩:=hs;obtain⟨n,c1,a_,r1,r2,r3,r4,r5,r6⟩:=AQ h;obtain⟨q1,ha⟩:=za r1;obtain⟨q2,hk⟩:=za ha;refine⟨_,c1,a_,hk,r2,r4,λJ hl=>⟨by simp,by simp,λβ w d_ => ?_⟩⟩;have gx:=Env.aj r2 r4 hl;have bD:=(d_ k (by simp [aV,CV.cells,aE]) _ (lb (lg k _ jr) jr)).fz vG;have e1:0<=e.den J:=by rw [IE.aa hl (IE.aU r2 we)];exact q1
     have e2:e.den J<n.den J:=by rw [IE.aa hl (IE.aU r2 we),IE.aa hl r5];exact q2
     have e3:=r6 J β hl;rw [Lf bD]at e3;obtain⟨p1,p2,_⟩:=SQ bD (by omega)
     have:=B_ (P:=P) (n:=β (k+2)) (m:=β (k+1)-1) h1 hz (β k) 0 ki (e.den J) e1 (by omega) w
     have e4:¬β (k+1)=0:=by omega
     simpa [SV.den,CV.den,At.den,cG,e4,p2,ptr]using this
    ·exact h.elim
   ·exact h.elim
  ·rename_i el k;generalize hz:aQ P el=u2 at h;generalize jr:aO o k=u3 at h;split at h
   ·rename_i g s ce sz ty;split at h
    ·rename_i hs;obtain⟨rfl,rfl,rfl⟩:=hs;obtain⟨n,c1,a_,r1,r2,r3,r4,r5,r6⟩:=AQ h;obtain⟨q1,ha⟩:=za r1;obtain⟨q2,hk⟩:=za ha;refine⟨_,c1,a_,hk,r2,r4,λJ hl=>⟨by simp,by simp,λβ w d_ => ?_⟩⟩;have gx:=Env.aj r2 r4 hl;have bD:=d_ k (by simp [aV,CV.cells,aE]) _ (lb (lg k _ jr) jr);rcases bD with bD|⟨_,_,_,ho⟩
     ·exact absurd bD.2.1 (by omega)
     have e1:0<=e.den J:=by rw [IE.aa hl (IE.aU r2 we)];exact q1
     have e2:e.den J<n.den J:=by rw [IE.aa hl (IE.aU r2 we),IE.aa hl r5];exact q2
     have e3:=r6 J β hl;rw [Nat.div_one,<-ho.1]at e3
     have:=B_ (P:=P) (n:=β (k+2)) (m:=β (k+1)-2) h1 hz (β k) 0 ki (e.den J) e1 (by omega) w
     simpa [SV.den,CV.den,At.den,ptr]using this
    ·exact h.elim
   ·exact h.elim
  ·rename_i el q p sz len cap;have wx:(decide (q<c.nb) && decide (p<c.np) && len.wf c && cap.wf c)=true:=hx;simp only [Bool.and_eq_true,decide_eq_true_eq]at wx;generalize hz:aQ P el=u2 at h;split at h
   ·rename_i g s;split at h
    ·rename_i hs;subst hs;obtain⟨q0,h⟩:=za h;obtain⟨q1,ha⟩:=za h;clear h;obtain⟨q2,h⟩:=za ha;clear ha;refine cP.pure h λJ hl=>⟨by simp,by simp,λβ w d_ => ?_⟩;have p0:¬J.b q=true:=by rw [hl.b q wx.1.1.1];exact q0
     have p1:0<=e.den J:=by rw [IE.aa hl we];exact q1
     have p2:e.den J<len.den J:=by rw [IE.aa hl we,IE.aa hl wx.1.2];exact q2
     have:=B_ (P:=P) (n:=(len.den J).toNat) (m:=(cap.den J).toNat) h1 hz (J.p p).1 (J.p p).2 ki (e.den J) p1 (by omega) w
     have q0:¬((len.den J).toNat=0/\(cap.den J).toNat=0):=by omega
     simpa [SV.den,CV.den,At.den,ptr,p0,Kk q0]using this
    ·exact h.elim
   ·exact h.elim
  ·rename_i n el k ix sz off;generalize hz:aQ P el=u2 at h;split at h
   ·rename_i g s;split at h
    ·rename_i j;split at h
     ·rename_i hj;refine cP.pure h λJ _=>⟨by simp,by simp,λβ w d_ => ?_⟩
      have:=DP h1 hz (β k) ((ix.den J).toNat*sz+off) ki j hj.1 (by have:=hj.1;have:=hj.2;omega) w
      simpa [SV.den,CV.den,At.den,ptr,oA,Nat.add_assoc]using this
     ·exact h.elim
    ·obtain⟨q1,h⟩:=za h;obtain⟨q2,h⟩:=za h;obtain⟨m',hm,he,h⟩:=DL q1 q2 n (Nat.le_refl _) (by rw [Nat.sub_self];exact q1) h;refine cP.pure h λJ hl=>⟨by simp,by simp,λβ w d_ => ?_⟩;have kM:e.den J=(m':Int):=by rw [IE.aa hl we];exact he
     have:=DP h1 hz (β k) ((ix.den J).toNat*sz+off) ki (e.den J) (by rw [kM];omega) (by rw [kM];omega) w
     rw [kM]at this;simp only [SV.den,CV.den,At.den,kM];simpa [ptr,Nat.add_assoc]using this
   ·exact h.elim
  ·rename_i n el k off;generalize hz:aQ P el=u2 at h;split at h
   ·rename_i g s;split at h
    ·rename_i j;split at h
     ·rename_i hj;refine cP.pure h λJ _=>⟨by simp,by simp,λβ w d_ => ?_⟩;exact DP h1 hz _ _ _ _ hj.1 (by have:=hj.1;have:=hj.2;omega) w
     ·exact h.elim
    ·obtain⟨q1,h⟩:=za h;obtain⟨q2,h⟩:=za h;obtain⟨m,hm,he,h⟩:=DL q1 q2 n (Nat.le_refl _) (by rw [Nat.sub_self];exact q1) h;refine cP.pure h λJ hl=>⟨by simp,by simp,λβ w d_ => ?_⟩;have kM:e.den J=(m:Int):=by rw [IE.aa hl we];exact he
     have:=DP h1 hz (β k) off ki (e.den J) (by rw [kM];omega) (by rw [kM];omega) w
     rw [kM]at this;simp only [SV.den,CV.den,At.den,kM];simpa [ptr]using this
   ·exact h.elim
  ·rename_i n el p ix sz off;generalize hz:aQ P el=u2 at h;split at h
   ·rename_i g s;split at h
    ·rename_i j;split at h
     ·rename_i hj;refine cP.pure h λJ _=>⟨by simp,by simp,λβ w d_ => ?_⟩
      have:=DP h1 hz (J.p p).1 ((J.p p).2+(ix.den J).toNat*sz+off) ki j hj.1 (by have:=hj.1;have:=hj.2;omega) w
      simpa [SV.den,CV.den,At.den,ptr,oA,Nat.add_assoc]using this
     ·exact h.elim
    ·obtain⟨q1,h⟩:=za h;obtain⟨q2,h⟩:=za h;obtain⟨m,hm,he,h⟩:=DL q1 q2 n (Nat.le_refl _) (by rw [Nat.sub_self];exact q1) h;refine cP.pure h λJ hl=>⟨by simp,by simp,λβ w d_ => ?_⟩;have kM:e.den J=(m:Int):=by rw [IE.aa hl we];exact he
     have:=DP h1 hz (J.p p).1 ((J.p p).2+(ix.den J).toNat*sz+off) ki (e.den J) (by rw [kM];omega) (by rw [kM];omega) w
     rw [kM]at this;simp only [SV.den,CV.den,At.den,kM];simpa [ptr,Nat.add_assoc]using this
   ·exact h.elim
  ·rename_i el k off len cap;generalize hz:aQ P el=u2 at h;split at h
   ·rename_i g s;split at h
    ·rename_i j;split at h
     ·rename_i hj;refine cP.pure h λJ _=>⟨by simp,by simp,λβ w d_ => ?_⟩;exact B_ h1 hz _ _ _ _ hj.1 (by have:=hj.1;have:=hj.2;omega) w
     ·exact h.elim
    ·obtain⟨q1,h⟩:=za h;obtain⟨q2,h⟩:=za h;obtain⟨m,hm,he,h⟩:=DL q1 q2 len (Nat.le_refl _) (by rw [Nat.sub_self];exact q1) h;refine cP.pure h λJ hl=>⟨by simp,by simp,λβ w d_ => ?_⟩;have kM:e.den J=(m:Int):=by rw [IE.aa hl we];exact he
     have:=B_ (m:=cap) h1 hz (β k) off ki (e.den J) (by rw [kM];omega) (n:=len) (by rw [kM];omega) w
     rw [kM]at this;simp only [SV.den,CV.den,At.den,kM];simpa [ptr]using this
   ·exact h.elim
  ·rename_i el p ix sz len cap;have wx:((decide (p<c.np) && ix.wf c && len.wf c && cap.wf c))=true:=hx;simp only [Bool.and_eq_true]at wx;generalize hz:aQ P el=u2 at h;split at h
   ·rename_i g s;split at h
    ·rename_i hs;subst hs;obtain⟨q1,ha⟩:=za h;clear h;obtain⟨q2,h⟩:=za ha;clear ha;have tr:∀{J},Env.aC c U J->0<=e.den J/\e.den J<len.den J:=λhl=>⟨by rw [IE.aa hl we];exact q1,by rw [IE.aa hl we,IE.aa hl wx.1.2];exact q2⟩;split at h
     ·rename_i IG;subst IG;refine cP.pure h λJ hl=>⟨by simp,by simp,λβ w d_ => ?_⟩;obtain⟨p1,p2⟩:=tr hl
      have:=B_ (n:=(len.den J).toNat) (m:=(cap.den J).toNat) h1 hz (J.p p).1 ((J.p p).2+(IE.den J (.lit 0)).toNat*s) ki (e.den J) p1 (by omega) w
      simpa [SV.den,CV.den,At.den,ptr,oA]using this
     ·obtain⟨q3,h⟩:=za h;obtain⟨e',c',ag,r1,r2,r3,r4,r5,r6⟩:=IF h;refine⟨_,c',ag,r1,r2,r4,λJ hl=>⟨by simp,by simp,λβ w d_ => ?_⟩⟩;have gx:=Env.aj r2 r4 hl;obtain⟨p1,p2⟩:=tr gx;have p3:0<=ix.den J:=by rw [IE.aa gx wx.1.1.2];exact q3
      have:=B_ (n:=(len.den J).toNat) (m:=(cap.den J).toNat) h1 hz (J.p p).1 ((J.p p).2+(ix.den J).toNat*s) ki (e.den J) p1 (by omega) w
      have e1:(e'.den J).toNat=(ix.den J).toNat+(e.den J).toNat:=by
       rw [r6 J hl];simp only [IP.den];omega
      simpa [SV.den,CV.den,At.den,ptr,oA,e1,Nat.add_mul,Nat.add_assoc]using this
    ·exact h.elim
   ·exact h.elim
  ·exact h.elim
 ·exact h.elim
theorem SR{t el:TypeId}{n:Nat}{g:Bool}{s:Nat}(h1:P.underlying t=some (.array n el))(hz:aQ P el=some (g,s))(cs:List At)(k:IntKind)(i:Int)(h0:0<=i)(hn:i<n){v:CV}
  (hv:partOf P el cs (i.toNat*s)=some v) (U:Env) (β:Nat->Nat) (w:World) :
  (Instr.index t (.agg (cs.map (At.den U β)).toArray) (.int k i)).run P w=.ok (v.den U β) w:=by
 have:=SO hv U β w
 simp [Instr.index,asIntOf,run_underlying h1,h0,hn,ri hz];simpa using this
theorem Lh(l:List UInt8)(i:Nat)(h:i<l.length):(⟨l.toArray⟩:ByteArray)[i]? = some (l.getD i 0):=by
 have hs:i<(⟨l.toArray⟩:ByteArray).size:=by show i<l.toArray.size;simpa using h
 rw [getElem?_pos _ i hs];congr 1;show l.toArray[i]=_;simp [List.getD,h]
theorem Wv{c:ar}{t:TypeId}{x i:SV}{K:SV->ar->Env->Prop}{U:Env}(hx:x.wf c=true)(hi:i.wf c=true)(h:kV (PA P W Q QM QP) P c t x i K U) :
  cP c U K λsv J=>sv ≠ .any/\(x ≠ .any/\i ≠ .any)/\∀β w,(Instr.index t (x.den J β) (i.den J β)).run P w=.ok (sv.den J β) w:=by
 unfold kV at h;split at h
 ·rename_i ki e;have we:e.wf c=true:=hi;generalize h1:P.underlying t=u1 at h;split at h
  ·rename_i n el cs;generalize hz:aQ P el=u2 at h;split at h
   ·rename_i g s;split at h
    ·rename_i j;split at h
     ·rename_i hj;generalize hp:partOf P el cs (j.toNat*s)=u3 at h;split at h
      ·rename_i v;refine cP.pure h λJ _=>⟨by simp,by simp,λβ w => ?_⟩;exact SR h1 hz cs ki j hj.1 (by have:=hj.1;have:=hj.2;omega) hp J β w
      ·exact h.elim
     ·exact h.elim
    ·obtain⟨q1,h⟩:=za h;obtain⟨q2,h⟩:=za h;obtain⟨m,hm,he,h⟩:=DL q1 q2 n (Nat.le_refl _) (by rw [Nat.sub_self];exact q1) h;generalize hp:partOf P el cs (m*s)=u3 at h;split at h
     ·rename_i v;refine cP.pure h λJ hl=>⟨by simp,by simp,λβ w => ?_⟩;have kM:e.den J=(m:Int):=by rw [IE.aa hl we];exact he
      have:=SR h1 hz cs ki (e.den J) (by rw [kM];omega) (by rw [kM];omega) (v:=v) (by rw [kM];simpa using hp) J β w
      exact this
     ·exact h.elim
   ·exact h.elim
  ·rename_i x;generalize hs:strOf x=u2 at h;split at h
   ·rename_i s;have wx:x.wf c=true:=hx
    have ws:s.wf c=true:=by
     cases x<;>simp only [strOf,Option.some.injEq,reduceCtorEq]at hs<;>subst hs<;>exact wx
    obtain⟨n,c1,a_,r1,r2,r3,r4,r5,r6⟩:=E3 h;obtain⟨q1,ha⟩:=za r1;obtain⟨q2,hb⟩:=za ha;obtain⟨sv,c2,aB,k1,k2,k3,k4⟩:=zw hb;refine⟨sv,c2,aB,k1,ar.le_trans r2 k2,Env.aj r2 r4 k3,λJ hl => ?_⟩;have oC:=Env.aj k2 k3 hl;have gx:=Env.aj r2 r4 oC;obtain⟨v1,v2⟩:=k4 J hl b0;refine⟨v2,by simp,λβ w => ?_⟩;have e1:0<=e.den J:=by rw [IE.aa oC (IE.aU r2 we)];exact q1
    have e2:e.den J<((s.den J).length:Int):=by
     have:=r6 J oC
     simp only [IP.den]at this;rw [<-this,IE.aa oC (IE.aU r2 we),IE.aa oC r5];exact q2
    have v3:=(k4 J hl β).1;rw [v3];simp only [SV.den,CV.den];rw [yj hs J β];simp only [At.den,IP.den];have hb:(e.den J).toNat<(s.den J).length:=by omega
    have lJ:=Lh (s.den J) (e.den J).toNat hb;simp [Instr.index,asIntOf,run_underlying h1,e1,lJ]
   ·exact h.elim
  ·exact h.elim
 ·exact h.elim
theorem SS:∀ (v:List Value) (k off:Nat) (cs:List Value),off + k + v.length<=cs.length ->
    (v.zipIdx k).foldl (λ(a:Array Value) (x:Value × Nat)=>a.setIfInBounds (off+x.2) x.1) cs.toArray=(cs.take (off+k)++v++cs.drop (off+k+v.length)).toArray
  | [],k,off,cs,h=>by simp
  |x::v,k,off,cs,h=>by
    simp only [List.zipIdx_cons,List.foldl_cons];have hs:cs.toArray.setIfInBounds (off+k) x=(cs.set (off+k) x).toArray:=by simp
    rw [hs,SS v (k+1) off (cs.set (off+k) x) (by simp at h ⊢;omega)];congr 1
    have:=list_seg_step cs (off+k) x v (by simp at h ⊢;omega)
    simpa [Nat.add_assoc]using this
theorem SU{α β:Type}(f:α->β)(l:List α)(v:List α)(a b:Nat):(l.take a++v++l.drop b).map f=(l.map f).take a++v.map f++(l.map f).drop b:=by
 simp [List.map_take,List.map_drop]
theorem CV.bG(U:Env)(β:Nat->Nat)(v:CV):(v.den U β).cells=(v.cells.map (At.den U β)).toArray:=by
  cases v with
  |agg l=>rfl
  |one a =>
    have h1:=At.hJ U β a;simp only [CV.den,CV.cells,List.map_cons,List.map_nil];cases hd:a.den U β<;>first|rfl | (rw [hd]at h1;simp [Value.oneCell']at h1)
theorem II{place:Nat->Option (Nat × Nat)}(U:Env)(β:Nat->Nat):∀ (parts:List (Nat × SV)) (cells:List At) {cs:List At},cN place cells parts=some cs ->
    Instr.fill place (cells.map (At.den U β)).toArray (parts.map λp=>(p.1,p.2.den U β))=some (cs.map (At.den U β)).toArray
  | [],cells,cs,h=>by simp only [cN,Option.some.injEq]at h;subst h;rfl
  | (i,.any)::r,_,_,h=>by simp [cN]at h
  | (i,.dX)::r,_,_,h=>by simp [cN]at h
  | (i,.cS l)::r,_,_,h=>by simp [cN]at h
  | (i,.cv v)::r,cells,cs,h=>by
    simp only [cN]at h;cases hp:place i with
    |none=>simp [hp]at h
    |some q =>
      obtain⟨off,size⟩:=q;simp only [hp]at h;split at h
      · rename_i hs;obtain⟨h1,h2⟩:=hs;have ih:=II U β r _ h;have hlen:(v.den U β).cells.size=size:=by rw [CV.bG];simpa using h1
        simp only [List.map_cons,Instr.fill,hp,SV.den];rw [if_neg (by rw [hlen];simp;omega)];rw [CV.bG,<-Array.foldl_toList,Array.toList_zipIdx]
        have:=SS (v.cells.map (At.den U β)) 0 off (cells.map (At.den U β)) (by simp;omega)
        simp only [Nat.add_zero,List.length_map,h1]at this;rw [<-SU]at this;simp only []at this ⊢;rw [this];exact ih
      · cases h
theorem AR{t:TypeId}{z:CV}(h:c_ P t=some z)(U:Env)(β:Nat->Nat)(w:World)(c:ar):(zeroValue t).run P w=.ok (z.den U β) w/\z.wf c=true:=by
  unfold c_ at h;cases hi:P.info? t with
  |none=>simp [hi]at h
  |some i =>
    simp only [hi]at h;cases hz:i.zero with
    |none=>simp [hz]at h
    |some v =>
      simp only [hz]at h;have h2:=SV.cM v c U β;generalize hs:SV.ofValue v=sv at h h2;cases sv with
      |cv x =>
        simp only [Option.some.injEq]at h;subst h;refine⟨?_,h2.1⟩;have h3:=h2.2 (by simp);simp only [SV.den]at h3;simp [zeroValue,typeInfo,hi,hz,h3]
      |_=>simp at h
theorem SW:∀(fs:List Field) {pl:List (Nat × Nat)} (w:World),dH P fs=some pl->(fs.mapM (λf=>do pure (f.offset,<-Go.sizeOf f.type):Field->Sem (Nat × Nat))).run P w=.ok pl w
  | [],pl,w,h=>by simp only [dH,Option.some.injEq]at h;subst h;simp
  |f::l,pl,w,h=>by
    simp only [dH]at h;split at h
    · rename_i g n r h1 h2;simp only [Option.some.injEq]at h;subst h
      have:=SW l w h2
      simp only [List.mapM_cons,Sem.run_bind,ri h1,Result.andThen_ok,Sem.run_pure,this]
    · cases h
theorem Ww{c:ar}{t:TypeId}{parts:List (Nat × SV)}{K:SV->ar->Env->Prop}{U:Env}(h:kW (PA P W Q QM QP) P c t parts K U) :
  cP c U K λsv J=>sv ≠ .any/\∀β w,(Instr.build t (parts.map λp=>(p.1,p.2.den J β)).toArray).run P w=.ok (sv.den J β) w:=by
 unfold kW at h;generalize h1:P.underlying t=u1 at h;generalize h2:c_ P t=u2 at h;split at h
 ·rename_i fs z;generalize h3:dH P fs.toList=u3 at h;split at h
  ·rename_i pl;generalize h4:cN (λx=>pl[x]?) z.cells parts=u4 at h;split at h
   ·rename_i cs;refine cP.pure h λJ _=>⟨by simp,λβ w => ?_⟩;have q1:=(AR h2 J β w c).1;have q2:=SW fs.toList w h3;have q3:=II J β parts z.cells h4;simp only [Instr.build,Sem.run_bind,q1,Result.andThen_ok,run_underlying h1];rw [Array.mapM_eq_mapM_toList];simp only [Sem.run_map,q2,Result.andThen_ok,CV.bG];have e:(λ(x:Nat)=>(pl.toArray)[x]?)=λ(x:Nat)=>pl[x]? := by funext x;simp
    simp only [e,q3];rfl
   ·exact h.elim
  ·exact h.elim
 ·rename_i n el z;generalize h3:aQ P el=u3 at h;split at h
  ·rename_i g s;generalize h4:cN (λi=>some (i*s,s)) z.cells parts=u4 at h;split at h
   ·rename_i cs;refine cP.pure h λJ _=>⟨by simp,λβ w => ?_⟩;have q1:=(AR h2 J β w c).1;have q3:=II J β parts z.cells h4;simp only [Instr.build,Sem.run_bind,q1,Result.andThen_ok,run_underlying h1,ri h3,CV.bG,q3];rfl
   ·exact h.elim
  ·exact h.elim
 ·exact h.elim
end Vc
