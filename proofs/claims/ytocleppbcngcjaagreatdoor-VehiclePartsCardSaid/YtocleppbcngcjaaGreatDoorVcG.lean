import Derived.Test.YtocleppbcngcjaaGreatDoorVcC
import Derived.Laws.StructEq
import Derived.Laws.Entries
import Derived.DeepKeys
import Derived.Laws.CopyRow
import Derived.Laws.Cells
set_option linter.unusedVariables false
set_option linter.unusedSimpArgs false
namespace Vc
open Go Go.RowKit
def Ret(v:Value)(W:World)(e:Ending)(w':World):Prop:=e=.returned v/\Below W.heap.size W w'
def b0:Nat->Nat:=λ_=>0
structure dR extends World where
 oN:List Nat := []
structure xO(x:Nat)(W w':World):Prop where
 os:w'.os=W.os
 tape:w'.tape=W.tape
 output:w'.output=W.output
 size:W.heap.size<=w'.heap.size
 block:∀k,k<W.heap.size->k≠x->w'.heap[k]? = W.heap[k]?
structure vx(xs:List Nat)(W w':World):Prop where
 os:w'.os=W.os
 tape:w'.tape=W.tape
 output:w'.output=W.output
 size:W.heap.size<=w'.heap.size
 block:∀k,k<W.heap.size->k ∉ xs->w'.heap[k]? = W.heap[k]?
def dz(W:dR)(w':World):Prop:=match W.oN with
 | []=>Below W.heap.size W.toWorld w'
 | [x]=>xO x W.toWorld w'
 |x::y::l=>vx (x::y::l) W.toWorld w'
def Uf(v:Value)(x:Nat)(cs:Array Value)(t:TypeId)(W:World)(e:Ending)(w':World):Prop:=e=.returned v/\xO x W w'/\w'.heap[x]? = some (.cells cs t)
def DN(v:Value)(l:List (Nat × Array Value × TypeId))(W:World)(e:Ending)(w':World):Prop:=e=.returned v/\vx (l.map (·.1)) W w'/\∀x∈l,w'.heap[x.1]? = some (.cells x.2.1 x.2.2)
def ek(W:dR)(b:Nat):Prop:=match W.oN with
 | []=>W.heap.size<=b
 | [x]=>b=x∨W.heap.size<=b
 |x::y::l=>b∈x::y::l∨W.heap.size<=b
def n9(x:Nat)(W:World):World := {W with heap:=W.heap.setIfInBounds x (.deferred none)}
def sL:List Nat->World->World
 | [],W=>W
 |x::l,W=>n9 x (sL l W)
def dR.seen(W:dR):World:=sL W.oN W.toWorld
theorem dz.os{W:dR}{w':World}(h:dz W w'):w'.os=W.os:=by
 unfold dz at h;split at h<;>exact h.os
theorem dz.tape{W:dR}{w':World}(h:dz W w'):w'.tape=W.tape:=by
 unfold dz at h;split at h<;>exact h.tape
theorem dz.output{W:dR}{w':World}(h:dz W w'):w'.output=W.output:=by
 unfold dz at h;split at h<;>exact h.output
theorem dz.size{W:dR}{w':World}(h:dz W w'):W.heap.size<=w'.heap.size:=by
 unfold dz at h;split at h<;>exact h.size
theorem dz.block{W:dR}{w':World}(h:dz W w')(k:Nat)(hk:k<W.heap.size)(hl:k ∉ W.oN):w'.heap[k]? = W.heap[k]? := by
 unfold dz at h;split at h
 ·exact h.block k hk
 ·rename_i x hx;exact h.block k hk λe=>hl (by rw [hx,e];exact List.mem_singleton.2 rfl)
 ·rename_i x y l hx;exact h.block k hk (by rw [hx]at hl;exact hl)
theorem dz.mk{W:dR}{w':World}(h1:w'.os=W.os)(h2:w'.tape=W.tape)(h3:w'.output=W.output)(h4:W.heap.size<=w'.heap.size)(h5:∀k,k<W.heap.size->k ∉ W.oN->w'.heap[k]? = W.heap[k]?):dz W w':=by
 unfold dz;split
 ·rename_i hx;exact⟨h1,h2,h3,h4,λk hk=>h5 k hk (by rw [hx];simp)⟩
 ·rename_i x hx;exact⟨h1,h2,h3,h4,λk hk hn=>h5 k hk (by rw [hx];simpa using hn)⟩
 ·rename_i x y l hx;exact⟨h1,h2,h3,h4,λk hk hn=>h5 k hk (by rw [hx];exact hn)⟩
theorem dz.trans{W:dR}{w w':World}(h:dz W w)(hb:Below w.heap.size w w'):dz W w' :=
 dz.mk (hb.os.trans h.os) (hb.tape.trans h.tape) (hb.output.trans h.output) (Nat.le_trans h.size hb.size) λk hk hl=>(hb.block k (Nat.lt_of_lt_of_le hk h.size)).trans (h.block k hk hl)
theorem dz.drew{W:dR}{w:World}(h:dz W w):dz W w.drew:=dz.mk h.os h.tape h.output h.size h.block
theorem dz.refl(W:dR):dz W W.toWorld:=dz.mk rfl rfl rfl (Nat.le_refl _) λ_ _ _=>rfl
theorem ek.out{W:dR}{b:Nat}(h:ek W b):b∈W.oN∨W.heap.size<=b:=by
 unfold ek at h;split at h
 ·exact .inr h
 ·rename_i x hx;rcases h with h|h
  ·exact .inl (by rw [hx,h];exact List.mem_singleton.2 rfl)
  ·exact .inr h
 ·rename_i x y l hx;rw [hx];exact h
theorem ek.mk{W:dR}{b:Nat}(h:b∈W.oN∨W.heap.size<=b):ek W b:=by
 unfold ek;split
 ·rename_i hx;rcases h with h|h
  ·rw [hx]at h;cases h
  ·exact h
 ·rename_i x hx;rcases h with h|h
  ·rw [hx]at h;exact .inl (by simpa using h)
  ·exact .inr h
 ·rename_i x y l hx;rw [hx]at h;exact h
theorem Ug{x:Nat}{W:World}{a:Addr}{v:Value}(h:(n9 x W).cell? a=some v):a.block≠x/\W.cell? a=some v:=by
 have hx:a.block≠x:=by
  intro e;have hb:=World.block_lt_of_cell? _ _ h;unfold World.cell? n9 at h;subst e;simp only [n9,Array.size_setIfInBounds]at hb;simp [Array.getElem?_setIfInBounds,hb]at h
 refine⟨hx, ?_⟩;rw [<-h];unfold World.cell? n9;rw [Array.getElem?_setIfInBounds_ne (by omega)]
theorem PH{W:World}{a:Addr}{v:Value}:∀{xs:List Nat},(sL xs W).cell? a=some v->a.block ∉ xs/\W.cell? a=some v
  | [],h=>⟨List.not_mem_nil,h⟩
  |x::l,h=>by
    obtain⟨h1,h2⟩:=Ug (show (n9 x (sL l W)).cell? a=some v from h);obtain⟨h3,h4⟩:=PH h2;exact⟨λhm=>(List.mem_cons.1 hm).elim h1 h3,h4⟩
theorem dz.cell{W:dR}{w:World}(h:dz W w){a:Addr}{v:Value}(hc:W.seen.cell? a=some v):w.cell? a=some v:=by
 obtain⟨hb,hc⟩:=PH hc;rw [<-hc];unfold World.cell?;rw [h.block a.block (World.block_lt_of_cell? _ _ hc) hb]
inductive Vl where
 |i (n:Int)
 |b (b:Bool)
 |v (v:Value)
 |s (l:List UInt8)
 |l (xs:List Value)
def vl(o:ba)(U:Env):At->Vl
  | .int _ e=>.i (e.den U)
  | .bool e=>.b (e.den U)
  | .str l=>.s l
  | .sv i=>.s (U.s i)
  | .own k=>match aG o k with
    |some (ce,_,_)=>.l (aq U b0 ce)
    |none=>.l []
  |a=>.v (a.den U b0)
def tP:List At->(Env->Prop)->Env->Prop
 | [],k,U=>k U
 | .int _ (.var n)::l,k,U=>∃x:Int,tP l k (U.fQ n x)
 | .bool (.var n)::l,k,U=>∃x:Bool,tP l k (U.lC n x)
 | .val n::l,k,U=>∃x:OV,tP l k (U.ny n x)
 | .sv n::l,k,U=>∃x:List UInt8,tP l k (U.pU n x)
 | .fG q p _ (.var n) (.var m)::l,k,U=>∃(x:Bool) (y:Nat × Nat) (a b:Int),tP l k ((((U.lC q x).rl p y).fQ n a).fQ m b)
 |_,_,_=>False
def mE(o:ba):List At->(Env->Prop)->Env->Prop
  | [],k,U=>k U
  | .int _ (.var n)::l,k,U=>∀x:Int,mE o l k (U.fQ n x)
  | .bool (.var n)::l,k,U=>∀x:Bool,mE o l k (U.lC n x)
  | .val n::l,k,U=>∀x:OV,mE o l k (U.ny n x)
  | .sv n::l,k,U=>∀x:List UInt8,mE o l k (U.pU n x)
  | .fG q p _ (.var n) (.var m)::l,k,U=>∀(x:Bool) (y:Nat × Nat) (a b:Int),mE o l k ((((U.lC q x).rl p y).fQ n a).fQ m b)
  | .own j::l,k,U=>match aG o j with
    |some ([.var n],_,_)=>∀x:List OV,mE o l k (U.jU n x)
    |_=>False
  |_,_,_=>False
def fV(own:Nat->Prop)(b code n base:Nat)(xs:List Value)(sz:Nat)(t:TypeId)(w:World):Prop :=
 xs.length=n*sz/\0<sz/\((code<=1/\n=0) ∨
  (2<=code/\base=0/\own b/\n<=code-1/\code-1<=maxLen/\∃cur,w.heap[b]? = some (.cells cur t (0,0))/\cur.size=(code-1)*sz/\cur.toList.take (n*sz)=xs))
def vy(es:Array MapEntry):List Value:=es.toList.flatMap λe=>e.key.cells.toList++e.val.cells.toList
def dj(c:Nat)(v:Value):Prop:=if c % 2=1 then ∃cs,v=.agg cs/\cs.size=c / 2 else v.oneCell'=true/\c=2
def y9(ob:Option Obj)(n:Nat)(xs:List Value)(t:Nat):Prop:=match t with
 |0=>n=xs.length/\∃C ty mk,ob=some (.cells C ty mk)/\C.toList.take xs.length=xs
 |t+1=>∃es clock,ob=some (.map es clock)/\vy es=xs/\∀e∈es.toList,dj ((t+1) / 1048576) e.key/\dj ((t+1) % 1048576) e.val
def bH(own:Nat->Prop)(b code n base:Nat)(xs:List Value)(sz:Nat)(t:TypeId)(w:World):Prop :=
 fV own b code n base xs sz t w∨(sz=0/\own b/\2<=code/\y9 (w.heap[b]?) n xs t)
theorem bH.eI{own:Nat->Prop}{b code n base:Nat}{xs:List Value}{sz:Nat}{t:TypeId}{w:World}(h:bH own b code n base xs sz t w)(hz:0<sz):fV own b code n base xs sz t w:=by
 rcases h with h|⟨h,_⟩
 ·exact h
 ·omega
theorem bH.imp{own DO:Nat->Prop}{b code n base:Nat}{xs:List Value}{sz:Nat}{t:TypeId}{w:World}(h:bH own b code n base xs sz t w)(f:2<=code->own b->DO b):bH DO b code n base xs sz t w:=by
 rcases h with ⟨a1,a2,a3⟩|⟨a1,a2,a3,a4⟩
 ·refine .inl ⟨a1,a2, ?_⟩;rcases a3 with a3|⟨b1,b2,b3,b4⟩
  ·exact .inl a3
  ·exact .inr ⟨b1,b2,f b1 b3,b4⟩
 ·exact .inr ⟨a1,f a3 a2,a3,a4⟩
theorem bH.heap{own:Nat->Prop}{b code n base:Nat}{xs:List Value}{sz:Nat}{t:TypeId}{w w':World}(h:bH own b code n base xs sz t w)(hh:2<=code->w'.heap[b]? = w.heap[b]?):bH own b code n base xs sz t w':=by
 rcases h with ⟨a1,a2,a3⟩|⟨a1,a2,a3,a4⟩
 ·refine .inl ⟨a1,a2, ?_⟩;rcases a3 with a3|⟨b1,b2,b3,b4,b5,cur,b6,b7,b8⟩
  ·exact .inl a3
  ·exact .inr ⟨b1,b2,b3,b4,b5,cur,by rw [hh b1,b6],b7,b8⟩
 ·exact .inr ⟨a1,a2,a3,by rw [hh a3];exact a4⟩
theorem bH.own{own:Nat->Prop}{b code n base:Nat}{xs:List Value}{sz:Nat}{t:TypeId}{w:World}(h:bH own b code n base xs sz t w)(hc:2<=code):own b:=by
 rcases h with ⟨a1,a2,a3⟩|⟨a1,a2,a3,a4⟩
 ·rcases a3 with a3|⟨b1,b2,b3,b4⟩
  ·omega
  ·exact b3
 ·exact a2
def Datum:Obj->Prop
 | .loop _=>False
 | .deferred _=>False
 |_=>True
theorem bH.datum{own:Nat->Prop}{b code n base:Nat}{xs:List Value}{sz:Nat}{t:TypeId}{w:World}(h:bH own b code n base xs sz t w)(hc:2<=code):∃o,w.heap[b]? = some o/\Datum o:=by
 rcases h with ⟨a1,a2,a3⟩|⟨a1,a2,a3,a4⟩
 ·rcases a3 with a3|⟨b1,b2,b3,b4,b5,cur,b6,b7,b8⟩
  ·omega
  ·exact⟨_,b6,trivial⟩
 ·cases t with
  |zero=>obtain⟨_,C,ty,mk,h,_⟩:=a4;exact⟨_,h,trivial⟩
  |succ t=>obtain⟨es,cl,h,_⟩:=a4;exact⟨_,h,trivial⟩
def AQ(v:Value)(b code n base:Nat)(xs:List Value)(sz:Nat)(t:TypeId)(W:World)(e:Ending)(w':World):Prop :=
 e=.returned v/\(code<=1->Below W.heap.size W w')/\(2<=code->xO b W w')/\bH (λ_=>True) b code n base xs sz t w'
abbrev sN(lo b code n base:Nat)(xs:List Value)(sz:Nat)(t:TypeId)(w:World):Prop:=bH (λb=>lo<=b) b code n base xs sz t w
def vz(W:dR)(U:Env)(β:Nat->Nat):ba->World->Prop
 | [],_=>True
 | (k,ce,sz,t)::r,w=>bH (ek W) (β k) (β (k+1)) (β (k+2)) (β (k+3)) (aq U β ce) sz t w/\vz W U β r w
def mF(W:dR)(U:Env)(β:Nat->Nat):Mem->ba->World->Prop
 | [],o,w=>vz W U β o w
 | (k,cs,t)::r,o,w=>(ek W (β k)/\w.heap[β k]? = some (.cells (cs.map (At.den U β)).toArray t))/\mF W U β r o w
def dI(W:World)(v:Value)(sz:Nat)(xs:List Value):Prop :=
 (v=.slice none 0 0/\xs=[])∨(∃a,v=.slice (some a) 0 0/\xs=[])∨∃b o len cap,v=.slice (some ⟨b,o,none⟩) len cap/\xs.length=len*sz/\∀j u,xs[j]? = some u->W.cell? ⟨b,o+j,none⟩=some u
def CB(b:UInt8):Value := .int .u8 b.toNat
def LP.den(U:Env):LP->List Value
 | .set ce ix sz off l=>(aq U b0 ce).take ((ix.den U).toNat*sz+off)++l.map (At.den U b0)++(aq U b0 ce).drop ((ix.den U).toNat*sz+off+l.length)
 | .pY i=>(U.s i).map CB
 | .rep n l=>times (l.map (At.den U b0)) (n.den U).toNat
def eo:SV->Bool
 | .cv c=>c.flat
 | .cE l=>l.all CV.flat
 |_=>true
def y_(m:Mem):Nat->List TypeId->Option (List (List At))
  |_,[]=>some []
  |k,t::r=>match getM m k,y_ m (k+1) r with
    |some (cs,t'),some l=>if t'=t then some (cs::l)else none
    |_,_=>none
def At.AR(n:Nat):At->Bool
 | .loc k _=>decide (k<n)
 | .fn _ aB=>aB.all λx=>decide (x.1<n)
 |a=>a.flat
def zA(xs:List Nat):Nat->Nat:=λk=>xs.getD k 0
def xP(v:Value)(l:List (Nat × Array Value × TypeId))(W:World):Ending->World->Prop:=match l with
 | [x]=>Uf v x.1 x.2.1 x.2.2 W
 |l=>DN v l W
def kR(l:List Nat)(C:Prop):Prop:=match l with
 | []=>C
 | [_]=>C
 |x::y::l=>(x::y::l).Nodup->C
def IL(v:Value)(xs:List Nat)(W:World)(e:Ending)(w':World):Prop:=e=.panicked [{v:=v,recovered:=false}]/\vx xs W w'
theorem kR.out{l:List Nat}{C:Prop}(h:kR l C)(hn:l.Nodup):C:=by
 unfold kR at h;split at h
 ·exact h
 ·exact h
 ·exact h hn
theorem xP.out{v:Value}{l:List (Nat × Array Value × TypeId)}{W:World}{e:Ending}{w':World}(h:xP v l W e w'):DN v l W e w':=by
 unfold xP at h;split at h
 ·obtain⟨h1,h2,h3⟩:=h;refine⟨h1,⟨h2.os,h2.tape,h2.output,h2.size,λk hk hn=>h2.block k hk λe=>hn (by simp [e])⟩,λy hy => ?_⟩;simp only [List.mem_singleton]at hy;subst hy;exact h3
 ·exact h
def IM(bk ck:Nat)(xs:List Value)(sz:Nat)(t:TypeId)(W:World)(e:Ending)(w':World):Prop :=
  ∃b code n base,e=.returned (cG b code n base)/\bH (λ_=>True) b code n base xs sz t w'/\(w'.os=W.os/\w'.tape=W.tape/\w'.output=W.output/\W.heap.size<=w'.heap.size) /\
    (∀x,x<W.heap.size->(2<=ck->x≠bk)->w'.heap[x]? = W.heap[x]?)/\(2<=code->W.heap.size<=b∨(2<=ck/\b=bk))
def PA(P:Program)(W:dR)(Q:Value->Prop)(QM QP:World->Value->Prop):bI (Env->Prop) where
  fail _:=λ_=>False
  fin v m o:=λU=>match eo v with
    |true=>Q (v.den U b0)
    |false=>∀(β:Nat->Nat) (w':World),dz W w'->mF W U β m o w'->QM w' (v.den U β)
  int n p k:=λU=>∀x:Int,x=p.den U->k (U.fQ n x)
  AG e k:=λU=>e.prop U/\k U
  ite e t f:=λU=>(e.prop U->t U)/\(¬e.prop U->f U)
  call f args m o fr r k:=λU=>tP fr (λaf=>(match args.all eo with
    |true=>∀w':World,dz W w'->Calls P f (args.map (SV.den U b0)).toArray w' (Ret (r.den af b0) w')
    |false=>∀(β:Nat->Nat) (w':World),dz W w'->mF W U β m o w'->Calls P f (args.map (SV.den U β)).toArray w' (Ret (r.den af b0) w'))/\k af) U
  nQ f args fr r k:=λU=>tP fr (λaf=>(args.all eo=true/\∀w':World,(callFunc f (args.map (SV.den U b0)).toArray).run P w'=.ok (.value (r.den af b0)) w')/\k af) U
  load a p ix sz off k:=λU=>tP [a] (λaf=>W.seen.cell? ⟨(U.p p).1,(U.p p).2+(ix.den U).toNat*sz+off,none⟩=some (a.den af b0)/\k af) U
  loop oi i fo fr body:=λU=>∃(Inv:List Vl->Prop) (μ:List Vl->Nat),Inv (i.map (vl oi U)) /\
    mE fo fr (λaf=>Inv (fr.map (vl fo af))->body (λoy ys J=>Inv (ys.map (vl oy J))/\μ (ys.map (vl oy J))<μ (fr.map (vl fo af))) af) U
  rd a ce ix sz off k:=λU=>tP [a] (λaf=>(aq U b0 ce)[(ix.den U).toNat*sz+off]? = some (a.den af b0)/\k af) U
  tK n lp k:=λU=>∀L:List OV,L.map (·.1)=lp.den U->k (U.jU n L)
  GJ n x sz k:=λU=>∃L:List OV,dI W.seen (x.den U b0) sz (L.map (·.1))/\k (U.jU n L)
  Iu v m o ts:=λU=>match y_ m 0 ts with
    |some l=>(match eo v && l.all (λcs=>cs.all (At.AR ts.length))with
      |true=>Q (.agg (v.den U b0::l.map λcs=>.agg (cs.map (At.den U (zA W.oN))).toArray).toArray)
      |false=>False)
    |none=>False
  Iv v o sz t:=λU=>match aG o 0 with
    |some (ce,uB,t')=>(match eo v && fR ce && decide (uB=sz/\t'=t)with
      |true=>Q (.agg #[v.den U b0,.agg (aq U b0 ce).toArray])
      |false=>False)
    |none=>False
  yW f args m o k n sz t fr r K:=λU=>∃L:List OV,tP fr (λaf=>(∀(β:Nat->Nat) (w':World),dz W w'->mF W U β m o w'->Calls P f (args.map (SV.den U β)).toArray w' (AQ (r.den af b0) (β k) (β (k+1)) (β (k+2)) (β (k+3)) (L.map (·.1)) sz t w'))/\K af) (U.jU n L)
  ag g cs ty k:=λU=>(∃DP mk,W.seen.heap[g]? = some (.cells (cs.map (At.den U b0)).toArray DP mk))/\k U
  iO n t v k:=λU=>∀x:OV,x.1=.iface t (v.den U b0)->k (U.ny n x)
  alt p q:=λU=>p U∨q U
  yX f args m o ks fr t v n k:=λU=>tP fr (λaf=>(∀(β:Nat->Nat) (w':World),dz W w'->mF W U β m o w'->kR (ks.map β) (Calls P f (args.map (SV.den U β)).toArray w' (IL (.iface t (v.den af b0)) (ks.map β) w')))/\∀x:OV,x.1=.iface t (v.den af b0)->k (af.ny n x)) U
  nR f args m o k ce sz t K:=λU=>(∀(β:Nat->Nat) (w':World),dz W w'->mF W U β m o w'->Calls P f (args.map (SV.den U β)).toArray w' (IM (β k) (β (k+1)) (aq U β ce) sz t w'))/\K U
  DF n ce kc ks ne k:=λU=>iS ks (ks.length+ne) (aq U b0 ce)=true/\∀x:Int,x=fC ks.length (ks.length+ne) (kc.map (At.den U b0)) (aq U b0 ce)->k (U.fQ n x)
  mark _ _ _ _ k:=k
  AH i:=λU=>∀w':World,dz W w'->QP w' (U.v i).1
  str n p k:=λU=>p.ok U/\∀s:List UInt8,s=p.den U->k (U.pU n s)
  yV f args m o js fr r k:=λU=>tP fr (λaf=>(∀(β:Nat->Nat) (w':World),dz W w'->mF W U β m o w'->kR (js.map λx=>β x.1) (Calls P f (args.map (SV.den U β)).toArray w' (xP (r.den af b0) (js.map λx=>(β x.1,(x.2.1.map (At.den af β)).toArray,x.2.2)) w')))/\k af) U
theorem zB(c:ar)(U:Env)(x:Int):Env.ay c U (U.fQ c.ni x) :=
 ⟨λj hj=>if_neg (Nat.ne_of_lt hj),λ_ _=>rfl,λ_ _=>rfl,λ_ _=>rfl,λ_ _=>rfl,λ_ _=>rfl⟩
theorem PI(c:ar)(U:Env)(x:Bool):Env.ay c U (U.lC c.nb x) :=
 ⟨λ_ _=>rfl,λj hj=>if_neg (Nat.ne_of_lt hj),λ_ _=>rfl,λ_ _=>rfl,λ_ _=>rfl,λ_ _=>rfl⟩
theorem DQ(c:ar)(U:Env)(x:OV):Env.ay c U (U.ny c.nv x) :=
 ⟨λ_ _=>rfl,λ_ _=>rfl,λj hj=>if_neg (Nat.ne_of_lt hj),λ_ _=>rfl,λ_ _=>rfl,λ_ _=>rfl⟩
theorem DR(c:ar)(U:Env)(x:List UInt8):Env.ay c U (U.pU c.ns x) :=
 ⟨λ_ _=>rfl,λ_ _=>rfl,λ_ _=>rfl,λ_ _=>rfl,λj hj=>if_neg (Nat.ne_of_lt hj),λ_ _=>rfl⟩
theorem sP(c:ar)(U:Env)(x:List OV):Env.ay c U (U.jU c.nl x) :=
 ⟨λ_ _=>rfl,λ_ _=>rfl,λ_ _=>rfl,λ_ _=>rfl,λ_ _=>rfl,λj hj=>if_neg (Nat.ne_of_lt hj)⟩
theorem PJ(c:ar)(U:Env)(x:Bool)(y:Nat × Nat)(a b:Int):Env.ay c U ((((U.lC c.nb x).rl c.np y).fQ c.ni a).fQ (c.ni+1) b) :=
 ⟨λj hj=>by
  show (if j=c.ni+1 then b else if j=c.ni then a else U.i j)=U.i j;rw [if_neg (by omega),if_neg (by omega)],λj hj=>if_neg (Nat.ne_of_lt hj),λ_ _=>rfl,λj hj=>if_neg (Nat.ne_of_lt hj),λ_ _=>rfl,λ_ _=>rfl⟩
theorem zr(c:ar)(k:CK):c.le (aV c k):=by
 cases k<;>constructor<;>simp [aV]
theorem xk:∀(ks:List CK) (c:ar),c.le (aP c ks)
 | [],c=>ar.le_refl c
 |k::l,c=>ar.le_trans (zr c k) (xk l _)
theorem GO(c:ar)(k:CK):(bo c k).wf (aV c k)=true:=by
 cases k<;>simp [bo,aV,At.wf,IE.wf,BE.wf]
theorem AS:∀(ks:List CK) (c:ar),(au c ks).all (At.wf (aP c ks))=true
  | [],c=>rfl
  |k::l,c=>by
    simp only [au,aP,List.all_cons,Bool.and_eq_true];exact⟨At.aL (xk l _) (GO c k),AS l _⟩
theorem GP(c:ar)(k:CK)(h:k.plain=true):(bo c k).flat=true:=by cases k<;>first|rfl|cases h
theorem DT:∀(ks:List CK) (c:ar),ks.all CK.plain=true->(au c ks).all At.flat=true
  | [],c,_=>rfl
  |k::l,c,h=>by
    simp only [List.all_cons,Bool.and_eq_true]at h;simp only [au,List.all_cons,GP c k h.1,DT l _ h.2,Bool.and_self]
theorem uC:∀(ks:List CK) (c:ar) {k:Env->Prop} {U:Env},tP (au c ks) k U->∃af,Env.ay c U af/\k af
  | [],c,k,U,h=>⟨U,Env.an _ _,h⟩
  | .int kd::l,c,k,U,h=>by
    obtain⟨x,h⟩:=h;obtain⟨af,h1,h2⟩:=uC l _ h;exact⟨af,Env.ah (zr c (.int kd)) (zB c U x) h1,h2⟩
  | .bool::l,c,k,U,h=>by
    obtain⟨x,h⟩:=h;obtain⟨af,h1,h2⟩:=uC l _ h;exact⟨af,Env.ah (zr c .bool) (PI c U x) h1,h2⟩
  | .uA::l,c,k,U,h=>by
    obtain⟨x,h⟩:=h;obtain⟨af,h1,h2⟩:=uC l _ h;exact⟨af,Env.ah (zr c .uA) (DQ c U x) h1,h2⟩
  | .str::l,c,k,U,h=>by
    obtain⟨x,h⟩:=h;obtain⟨af,h1,h2⟩:=uC l _ h;exact⟨af,Env.ah (zr c .str) (DR c U x) h1,h2⟩
  | .sl sz::l,c,k,U,h=>by
    obtain⟨x,y,a,b,h⟩:=h;obtain⟨af,h1,h2⟩:=uC l _ h;exact⟨af,Env.ah (zr c (.sl sz)) (PJ c U x y a b) h1,h2⟩
  | .own sz t::l,c,k,U,h=>h.elim
def cy(c:ar)(U:Env)(K:SV->ar->Env->Prop)(V:SV->Env->Prop):Prop :=
 ∃sv c' af,K sv c' af/\c.le c'/\Env.ay c U af/\∀J,Env.ay c' af J->V sv J
theorem cy.pure{c:ar}{U:Env}{K:SV->ar->Env->Prop}{V:SV->Env->Prop}{sv:SV}(h:K sv c U)(hv:∀J,Env.ay c U J->V sv J):cy c U K V :=
 ⟨sv,c,U,h,ar.le_refl _,Env.an _ _,hv⟩
theorem cy.mono{c:ar}{U:Env}{K:SV->ar->Env->Prop}{V V':SV->Env->Prop}(h:cy c U K V)(hv:∀sv J,Env.ay c U J->V sv J->V' sv J):cy c U K V':=by
 obtain⟨sv,c',af,h1,h2,h3,h4⟩:=h;exact⟨sv,c',af,h1,h2,h3,λJ h5=>hv sv J (Env.ah h2 h3 h5) (h4 J h5)⟩
variable {P:Program} {W:dR} {Q:Value->Prop} {QM QP:World->Value->Prop}
theorem zx{c:ar}{k:IntKind}{p:IP}{K:SV->ar->Env->Prop}{U:Env}(h:gq (PA P W Q QM QP) c k p K U) :
    cy c U K λsv J=>∀β,sv.den J β=.int k (p.den J)/\sv ≠ .any:=by
  unfold gq at h;cases hl:p.lits with
  |true =>
    rw [hl]at h;simp only [Px]at h;exact cy.pure h λJ _ β=>⟨by simp only [SV.den,CV.den,At.den,IE.den];rw [IP.pX hl],by simp⟩
  |false =>
    rw [hl]at h;simp only at h;split at h
    · rename_i hw;have h1:=h (p.den U) rfl;have hle:c.le {c with ni:=c.ni+1}:=zr c (.int k);refine⟨_,_,_,h1,hle,zB c U _,λJ hl β=>⟨?_,by simp⟩⟩
      have e1:J.i c.ni=p.den U:=by
        rw [hl.i c.ni (Nat.lt_succ_self _)];exact if_pos rfl
      simp only [SV.den,CV.den,At.den,IE.den,e1];rw [IP.aa (Env.ah hle (zB c U _) hl) hw]
    · exact h.elim
theorem DU{c:ar}{p:SP}{K:SV->ar->Env->Prop}{U:Env}(h:mj (PA P W Q QM QP) c p K U) :
  cy c U K λsv J=>p.ok J/\sv ≠ .any/\∀β,sv.den J β=.string ⟨(p.den J).toArray⟩:=by
 unfold mj at h;split at h
 ·rename_i hl;rw [GM]at h
  exact cy.pure h λJ _=>⟨(SP.p8 (af:=J) hl.1 hl.2).2,by simp,λβ=>by
   simp only [SV.den,CV.den,At.den];rw [(SP.p8 (U:=Env.zero) (af:=J) hl.1 hl.2).1]⟩
 split at h
 ·rename_i hw;obtain⟨h0,h1⟩:=h;have h1:=h1 (p.den U) rfl;have hle:c.le {c with ns:=c.ns+1}:=zr c .str;refine⟨_,_,_,h1,hle,DR c U _,λJ hl => ?_⟩
  have e1:J.s c.ns=p.den U:=by
   rw [hl.s c.ns (Nat.lt_succ_self _)];exact if_pos rfl
  have hk:=SP.ay (Env.ah hle (DR c U _) hl) hw;refine⟨hk.2 h0,by simp,λβ => ?_⟩;simp only [SV.den,CV.den,At.den,e1];rw [hk.1]
 ·exact h.elim
theorem nA(U:Env)(n:Int):(IE.lit n).den U=n:=rfl
theorem xQ{U:Env}{d:BE}{t f:Env->Prop}(h:(d.prop U->t U)/\(¬d.prop U->f U)):(d.den U=true/\t U)∨(d.den U=false/\f U):=by
 by_cases hd:d.den U=true
 ·exact .inl ⟨hd,h.1 ((BE.cZ U d).2 hd)⟩
 ·exact .inr ⟨by simpa using hd,h.2 λhp=>hd ((BE.cZ U d).1 hp)⟩
theorem za{e:BE}{r:Env->Prop}{U:Env}(h:bA (PA P W Q QM QP) e r U):e.prop U/\r U:=by
  unfold bA at h;have hs:=BE.eP U e;generalize e.jP=d at h hs;have key:d.prop U/\r U->e.prop U/\r U:=λhh=>⟨(BE.cZ U e).2 (hs▸(BE.cZ U _).1 hh.1),hh.2⟩;cases d with
  |lit b=>cases b with
    |true=>exact key ⟨rfl,h⟩
    |false=>exact key h
  |_=>exact key h
theorem zw{e:BE}{t f:Unit->Env->Prop}{U:Env}(h:ff (PA P W Q QM QP) e t f U):(e.den U=true/\t () U)∨(e.den U=false/\f () U):=by
  unfold ff at h;split at h
  · exact .inl ⟨rfl,h⟩
  · exact .inr ⟨rfl,h⟩
  rw [<-BE.eP U e];generalize e.jP=d at h;cases d with
  |lit b=>cases b with
    |true=>exact .inl ⟨rfl,h⟩
    |false=>exact .inr ⟨rfl,h⟩
  |not d =>
    rcases xQ h with ⟨h1,h2⟩|⟨h1,h2⟩
    · exact .inr ⟨by simp only [BE.den,h1,Bool.not_true],h2⟩
    · exact .inl ⟨by simp only [BE.den,h1,Bool.not_false],h2⟩
  |cmp op a b =>
    cases op
    case neq =>
      rcases xQ (d := .cmp .eql a b) h with ⟨h1,h2⟩|⟨h1,h2⟩
      · exact .inr ⟨by simp only [BE.den,gD]at h1 ⊢;simp [bne,h1],h2⟩
      · exact .inl ⟨by simp only [BE.den,gD]at h1 ⊢;simp [bne,h1],h2⟩
    all_goals exact xQ h
  |_=>exact xQ h
theorem CC{e:IE}{n:Nat}{K:Nat->Env->Prop}{U:Env}(h0:0<=e.den U)(h1:e.den U < n) :
    ∀(j:Nat),j<=n->((n-j:Nat):Int)<=e.den U->hJ (PA P W Q QM QP) e n j K U->∃m:Nat,m<n/\e.den U=m/\K m U
  |0,_,_,h=>h.elim
  |1,hj,hl,h=>⟨n-1,by omega,by omega,h⟩
  |j+2,hj,hl,h=>by
    rcases zw h with ⟨hd,h⟩|⟨hd,h⟩
    · simp only [BE.den,gD,nA,beq_iff_eq]at hd;exact⟨n-(j+2),by omega,hd,h⟩
    · simp only [BE.den,gD,nA,beq_eq_false_iff_ne,ne_eq]at hd;exact CC h0 h1 (j+1) (by omega) (by omega) h
theorem IN(op:BinOp)(t:TypeId)(k:IntKind)(a b:Int)(w:World)(h:jf op=true):(binOp op t (.int k a) (.int k b)).run P w=.ok (.int k (kL op k a b)) w:=by
 cases op<;>first | (simp [jf]at h;done) | (simp [binOp,Op.intArith,Op.intBits,kL,bits])
theorem IQ(op:BinOp)(t:TypeId)(k:IntKind)(a b:Int)(w:World)(h:op=.quo∨op=.rem)(hb:b≠0):(binOp op t (.int k a) (.int k b)).run P w=.ok (.int k (kL op k a b)) w:=by
 rcases h with rfl|rfl<;>simp [binOp,Op.intDiv,kL,hb]
theorem IS(op:BinOp)(t:TypeId)(k:IntKind)(a b:Int)(w:World)(h:nV op=true):(binOp op t (.int k a) (.int k b)).run P w=.ok (.bool (gD op a b)) w:=by
 cases op<;>first | (simp [nV]at h;done) | (simp [binOp,Op.intCmp,gD])
theorem PK(t:TypeId)(k k':IntKind)(a b:Int)(w:World)(hb:0<=b):(binOp .shl t (.int k a) (.int k' b)).run P w=.ok (.int k (kL .shl k a b)) w:=by
 have:¬b<0:=by omega
 simp [binOp,Op.shift,kL,this]
theorem PL(t:TypeId)(k k':IntKind)(a b:Int)(w:World)(hb:0<=b):(binOp .shr t (.int k a) (.int k' b)).run P w=.ok (.int k (kL .shr k a b)) w:=by
 have:¬b<0:=by omega
 simp [binOp,Op.shift,kL,this]
theorem IT(k:IntKind)(a n:Int)(h0:0<=n)(h1:n.toNat<k.bits):kL .shl k a n=k.wrap (a*((2 ^ n.toNat:Nat):Int)):=by
 simp only [kL];rw [show Nat.min n.toNat k.bits=n.toNat from Nat.min_eq_left (by omega)]
 norm_cast
theorem IU(k:IntKind)(a n:Int)(h0:0<=n)(h1:n.toNat<k.bits):kL .shr k a n=a / ((2 ^ n.toNat:Nat):Int):=by
 simp only [kL];rw [show Nat.min n.toNat k.bits=n.toNat from Nat.min_eq_left (by omega)];rw [show ((2:Int) ^ n.toNat)=((2 ^ n.toNat:Nat):Int) by norm_cast];exact Int.fdiv_eq_ediv_of_nonneg _ (Int.natCast_nonneg _)
theorem Uh(op:BinOp)(t:TypeId)(x y:Operand)(k k':IntKind)(a b:Int)(w:World):(eqGuard op t x y (.int k a) (.int k' b)).run P w=.ok () w:=by
 cases op<;>simp [eqGuard]
theorem PM(op:BinOp)(t:TypeId)(x y:Operand)(a b:Bool)(w:World):(eqGuard op t x y (.bool a) (.bool b)).run P w=.ok () w:=by
 cases op<;>simp [eqGuard]
def nB(P:Program)(op:BinOp)(t:TypeId)(x y:SV)(sv:SV)(U:Env):Prop :=
 sv ≠ .any/\∀(β:Nat->Nat) (w:World) (xo yo:Operand),((do eqGuard op t xo yo (x.den U β) (y.den U β);binOp op t (x.den U β) (y.den U β)):Sem Value).run P w=.ok (sv.den U β) w
theorem nB.ints{op:BinOp}{t:TypeId}{k k':IntKind}{a b:IE}{sv:SV}{U:Env}(h0:sv ≠ .any)
  (h:∀(β:Nat->Nat) (w:World),(binOp op t (.int k (a.den U)) (.int k' (b.den U))).run P w=.ok (sv.den U β) w):nB P op t (.cv (.one (.int k a))) (.cv (.one (.int k' b))) sv U:=by
 refine⟨h0,λβ w xo yo => ?_⟩;simp only [SV.den,CV.den,At.den,Sem.run_bind,Uh,Result.andThen_ok];exact h β w
end Vc
set_option linter.unusedVariables false
namespace Vc
open Go Go.RowKit
variable {P:Program}
theorem xR{k:CK}{r:List CK}{a b:List At}{e:BE}(h:aX (k::r) a b=some e) :
    ∃a0 x b0 y e1 e2,a=a0::x/\b=b0::y/\eT k a0 b0=some e1/\aX r x y=some e2/\e=.and e1 e2:=by
  cases a with
  |nil=>simp [aX]at h
  |cons a0 x =>
    cases b with
    |nil=>simp [aX]at h
    |cons b0 y =>
      simp only [aX]at h;split at h
      · rename_i e1 e2 h1 h2;simp only [Option.some.injEq]at h;exact⟨a0,x,b0,y,e1,e2,rfl,rfl,h1,h2,h.symm⟩
      · cases h
theorem IV(U:Env):∀ (k1 k2:List CK) {a b:List At} {e:BE},aX (k1++k2) a b=some e ->
    ∃e1 e2,aX k1 (a.take k1.length) (b.take k1.length)=some e1/\aX k2 (a.drop k1.length) (b.drop k1.length)=some e2/\e.den U=(e1.den U && e2.den U)
  | [],k2,a,b,e,h=>⟨.lit true,e,by simp [aX],by simpa using h,by simp [BE.den]⟩
  |c::k1,k2,a,b,e,h=>by
    obtain⟨a0,x,b0,y,e1,e2,rfl,rfl,h1,h2,rfl⟩:=xR h;obtain⟨f1,f2,q1,q2,q3⟩:=IV U k1 k2 h2;exact⟨.and e1 f1,f2,by simp [aX,h1,q1],by simpa using q2,by simp only [BE.den,q3,Bool.and_assoc]⟩
def jQ(P:Program)(t:TypeId)(U:Env)(β:Nat->Nat)(x:Value)(xs:List At):Prop :=
 match P.underlying t with
 |some (.struct _)|some (.array _ _)=>x=.agg (xs.map (At.den U β)).toArray
 |_=>∃a,xs=[a]/\x=a.den U β
theorem uD{t:TypeId}{g:Bool}{n:Nat}(h:aH P t=some (g,n)) :
  ∃d i,P.underlying t=some d/\P.info? t=some i/\n=i.size/\g=(match d with | .struct _ | .array _ _=>true|_=>false):=by
 unfold aH at h;split at h
 ·rename_i d i h1 h2;simp only [Option.some.injEq,Prod.mk.injEq]at h;exact⟨d,i,h1,h2,h.2.symm,h.1.symm⟩
 ·cases h
theorem GQ{t:TypeId}{g:Bool}{n:Nat}(h:aH P t=some (g,n))(w:World):(isAgg t).run P w=.ok g w:=by
 obtain⟨d,i,h1,h2,rfl,rfl⟩:=uD h;unfold isAgg;simp only [Sem.run_bind,run_underlying h1,Result.andThen_ok];cases d<;>rfl
theorem qm{t:TypeId}{g:Bool}{n:Nat}(h:aH P t=some (g,n))(w:World):(Go.sizeOf t).run P w=.ok n w:=by
 obtain⟨d,i,h1,h2,rfl,rfl⟩:=uD h;simp [Go.sizeOf,typeInfo,h2]
theorem Ui(xs:List Value)(off n:Nat):(xs.toArray.extract off (off+n))=((xs.drop off).take n).toArray:=by
 apply Array.ext';rw [Array.toList_extract];simp [List.extract]
theorem IW{t:TypeId}{g:Bool}{n:Nat}(h:aH P t=some (g,n))(hg:g=true)(xs:List Value)(off:Nat)(w:World) :
  (part t xs.toArray off).run P w=.ok (.agg ((xs.drop off).take n).toArray) w:=by
 subst hg;simp only [part,Sem.run_bind,GQ h,Result.andThen_ok,if_true,qm h,Sem.run_pure,Ui]
theorem PN{t:TypeId}{g:Bool}{n:Nat}(h:aH P t=some (g,n))(hg:g=false)(xs:List Value)(off:Nat)(v:Value)(hv:xs[off]? = some v)(w:World) :
  (part t xs.toArray off).run P w=.ok v w:=by
 subst hg;simp [part,GQ h,hv]
theorem CD(U:Env):∀{ks:List CK} {a b:List At} {e:BE},aX ks a b=some e->a.length=ks.length/\b.length=ks.length
  | [],a,b,e,h=>by
    cases a with
    |nil=>cases b with
      |nil=>exact⟨rfl,rfl⟩
      |cons _ _=>simp [aX]at h
    |cons _ _=>simp [aX]at h
  |c::ks,a,b,e,h=>by
    obtain⟨a0,x,b0,y,e1,e2,rfl,rfl,h1,h2,rfl⟩:=xR h
    have:=CD U h2
    simp [this]
theorem CF{t:TypeId}{g:Bool}{n:Nat}(h:aH P t=some (g,n)){U:Env}{β:Nat->Nat}(xs:List At)(off:Nat)(hs:g=false->n=1)(hl:((xs.drop off).take n).length=n)(w:World) :
    ∃v,(part t (xs.map (At.den U β)).toArray off).run P w=.ok v w/\jQ P t U β v ((xs.drop off).take n):=by
  obtain⟨d,i,h1,h2,rfl,rfl⟩:=uD h;cases d
  case struct fs =>
    exact⟨_,IW h rfl _ off w,by simp [jQ,h1,List.map_take,List.map_drop]⟩
  case array m e =>
    exact⟨_,IW h rfl _ off w,by simp [jQ,h1,List.map_take,List.map_drop]⟩
  all_goals
    rw [hs rfl]at hl ⊢;cases hx:(xs.drop off).take 1 with
    |nil=>rw [hx]at hl;simp at hl
    |cons a r =>
      have hr:r=[]:=by rw [hx]at hl;simpa using hl
      subst hr
      have ha:xs[off]? = some a:=by
        have h3:((xs.drop off).take 1)[0]? = some a:=by rw [hx];rfl
        rw [List.getElem?_take_of_lt (by omega),List.getElem?_drop]at h3;simpa using h3
      exact⟨a.den U β,PN h rfl _ off _ (by simp [ha]) w,by simp [jQ,h1]⟩
def AT(P:Program)(d:Nat)(t:TypeId)(ks:List CK):Prop :=
 ∀(U:Env) (β:Nat->Nat) (xs ys:List At) (e:BE) (x y:Value) (w:World),aX ks xs ys=some e->jQ P t U β x xs->jQ P t U β y ys->(Op.equalIn d t x y).run P w=.ok (e.den U) w
theorem PO{d:Nat}{f:TypeId->Option (List CK)}(IH:∀ t ks,f t=some ks->AT P d t ks/\(∀ g n,aH P t=some (g,n)->g=false->ks.length=1))(U:Env)(β:Nat->Nat)(xs ys:List At)(w:World) :
    ∀(fs:List Field) (off:Nat) (ks:List CK) (e:BE),tM P f off fs=some ks->aX ks (xs.drop off) (ys.drop off)=some e ->
      (Op.eqFields d (xs.map (At.den U β)).toArray (ys.map (At.den U β)).toArray fs).run P w=.ok (e.den U) w
  | [],off,ks,e,h,he=>by
    simp only [tM,Option.some.injEq]at h;subst h
    have:=CD U he
    have h1:xs.drop off=[]:=List.eq_nil_of_length_eq_zero (by simpa using this.1);have h2:ys.drop off=[]:=List.eq_nil_of_length_eq_zero (by simpa using this.2);rw [h1,h2]at he;simp only [aX,Option.some.injEq]at he;subst he;simp [Op.eqFields,BE.den]
  |fd::r,off,ks,e,h,he=>by
    simp only [tM]at h;split at h
    · cases h
    · rename_i hn;simp only [not_or,Decidable.not_not]at hn;obtain⟨hn,ho⟩:=hn;split at h
      · rename_i k1 g n h1 h2;split at h
        · rename_i hl;simp only [Option.map_eq_some_iff]at h;obtain⟨k2,h3,rfl⟩:=h;obtain⟨e1,e2,q1,q2,q3⟩:=IV U k1 k2 he;obtain⟨GR,sc⟩:=IH _ _ h1;have mG:=CD U q1;subst hl;obtain⟨v,p1,v1⟩:=CF (U:=U) (β:=β) h2 xs off (λhg=>sc _ _ h2 hg) mG.1 w;obtain⟨u,p2,u1⟩:=CF (U:=U) (β:=β) h2 ys off (λhg=>sc _ _ h2 hg) mG.2 w;have r1:=GR U β _ _ e1 v u w q1 v1 u1;have r2:=PO IH U β xs ys w r (off+k1.length) k2 e2 h3 (by rw [List.drop_drop]at q2;rw [List.drop_drop]at q2;exact q2);subst ho;simp only [Op.eqFields,hn,ne_eq,not_false_eq_true,if_true,Sem.run_bind,p1,p2,r1,Result.andThen_ok,q3];cases e1.den U
          · simp
          · simpa using r2
        · cases h
      · cases h
theorem PQ{d:Nat}{t:TypeId}{k1:List CK}{g:Bool}(GR:AT P d t k1)(hz:aH P t=some (g,k1.length))(sc:g=false->k1.length=1)(U:Env)(β:Nat->Nat)(xs ys:List At)(w:World) :
    ∀(m i:Nat) (e:BE),aX (times k1 m) (xs.drop (i*k1.length)) (ys.drop (i*k1.length))=some e ->
      (Op.eqItems d t k1.length (xs.map (At.den U β)).toArray (ys.map (At.den U β)).toArray (List.range' i m)).run P w=.ok (e.den U) w
  |0,i,e,he=>by
    have:=CD U he
    have h1:xs.drop (i*k1.length)=[]:=List.eq_nil_of_length_eq_zero (by simpa [times]using this.1);have h2:ys.drop (i*k1.length)=[]:=List.eq_nil_of_length_eq_zero (by simpa [times]using this.2);rw [h1,h2]at he;simp only [times,aX,Option.some.injEq]at he;subst he;simp [Op.eqItems,BE.den]
  |m+1,i,e,he=>by
    obtain⟨e1,e2,q1,q2,q3⟩:=IV U k1 (times k1 m) he;have mG:=CD U q1;obtain⟨v,p1,v1⟩:=CF (U:=U) (β:=β) hz xs (i*k1.length) sc mG.1 w;obtain⟨u,p2,u1⟩:=CF (U:=U) (β:=β) hz ys (i*k1.length) sc mG.2 w;have r1:=GR U β _ _ e1 v u w q1 v1 u1;have r2:=PQ GR hz sc U β xs ys w m (i+1) e2 (by rw [List.drop_drop,List.drop_drop]at q2;rw [Nat.add_mul,Nat.one_mul];exact q2);rw [List.range'_succ];simp only [Op.eqItems,Sem.run_bind,p1,p2,r1,Result.andThen_ok,q3];cases e1.den U
    · simp
    · simpa using r2
theorem Uj(bs:ByteArray)(i:Nat)(r:List UInt8):ByteArray.toList.loop bs i r=r.reverse++bs.data.toList.drop i:=by
  fun_induction ByteArray.toList.loop bs i r with
  |case1 i r h ih =>
    rw [ih];have h':i<bs.data.size:=h
    have h2:bs.data.toList.drop i=bs.get! i::bs.data.toList.drop (i+1):=by
      rw [List.drop_eq_getElem_cons (by simpa using h')];congr 1
      cases bs with|mk d =>
        show d.toList[i]=d[i]!;rw [getElem!_pos d i h'];simp
    rw [h2];simp
  |case2 i r h =>
    have:bs.data.toList.drop i=[]:=List.drop_eq_nil_of_le (by have:¬i<bs.data.size:=h;simpa using Nat.le_of_not_lt this)
    simp [this]
theorem PR(l:List UInt8):(⟨l.toArray⟩:ByteArray).toList=l:=by
 unfold ByteArray.toList;rw [Uj];simp
theorem xl{a:At}{s:SE}(h:strOf a=some s)(U:Env)(β:Nat->Nat):a.den U β=.string ⟨(s.den U).toArray⟩:=by
 cases a<;>simp only [strOf,Option.some.injEq,reduceCtorEq]at h<;>subst h<;>rfl
theorem DV(a b:List UInt8):((⟨a.toArray⟩:ByteArray)=⟨b.toArray⟩)↔a=b:=by
 simp
theorem GS:∀(n:Nat) (t:TypeId) (ks:List CK),jC P n t=some ks->∀g m,aH P t=some (g,m)->g=false->ks.length=1
  |0,_,_,h=>by cases h
  |n+1,t,ks,h=>by
    intro g m hz hg;obtain⟨d,i,h1,h2,rfl,rfl⟩:=uD hz;simp only [jC,h1]at h;cases d<;>simp only [reduceCtorEq,Option.some.injEq]at h hg
    all_goals (subst h;rfl)
theorem DW(d:Nat):∀(n:Nat) (t:TypeId) (ks:List CK),jC P n t=some ks->AT P (d+n) t ks
  |0,_,_,h=>by cases h
  |n+1,t,ks,h=>by
    intro U β xs ys e x y w he hx hy;simp only [jC]at h;cases hu:P.underlying t with
    |none=>simp [hu]at h
    |some dd =>
      simp only [hu]at h;simp only [jQ,hu]at hx hy;cases dd<;>simp only [reduceCtorEq,Option.some.injEq]at h
      case int k =>
        subst h;obtain⟨a,rfl,rfl⟩:=hx;obtain⟨b,rfl,rfl⟩:=hy;obtain⟨a0,x,b1,y,e1,e2,p1,p2,h1,h2,rfl⟩:=xR he;cases p1;cases p2;simp only [aX,Option.some.injEq]at h2;subst h2;simp only [eT]at h1;split at h1
        · split at h1
          · rename_i hk;simp only [Option.some.injEq]at h1;subst h1;obtain⟨rfl,rfl⟩:=hk;simp only [At.den,BE.den,gD,Bool.and_true];exact run_equalIn_int w (d+n) t _ _ _ _ hu
          · cases h1
        · cases h1
      case bool =>
        subst h;obtain⟨a,rfl,rfl⟩:=hx;obtain⟨b,rfl,rfl⟩:=hy;obtain⟨a0,x,b1,y,e1,e2,p1,p2,h1,h2,rfl⟩:=xR he;cases p1;cases p2;simp only [aX,Option.some.injEq]at h2;subst h2;simp only [eT]at h1;split at h1
        · simp only [Option.some.injEq]at h1;subst h1;simp only [At.den,BE.den,Bool.and_true];exact run_equalIn_bool w (d+n) t _ _ hu
        · cases h1
      case string =>
        subst h;obtain⟨a,rfl,rfl⟩:=hx;obtain⟨b,rfl,rfl⟩:=hy;obtain⟨a0,x,b1,y,e1,e2,p1,p2,h1,h2,rfl⟩:=xR he;cases p1;cases p2;simp only [aX,Option.some.injEq]at h2;subst h2;simp only [eT]at h1;split at h1
        · rename_i p q hp hq;simp only [Option.some.injEq]at h1;subst h1;rw [xl hp,xl hq];simp only [BE.den,Bool.and_true];rw [show d+(n+1)=(d+n)+1 from rfl,run_equalIn_string w (d+n) t _ _ hu];congr 1;by_cases hc:p.den U=q.den U
          · simp [hc]
          · have:¬((⟨(p.den U).toArray⟩:ByteArray)=⟨(q.den U).toArray⟩):=λhe=>hc ((DV _ _).1 he)
            simp [hc,this]
        · cases h1
      case struct fs =>
        subst hx hy;split at h
        · cases h
        · rename_i hp;have CG:P.fieldsOf t=fs:=by simp [Program.fieldsOf,hu]
          have:=PO (λt ks h=>⟨DW d n t ks h,GS n t ks h⟩) U β xs ys w fs.toList 0 ks e h (by simpa using he)
          rw [show d+(n+1)=(d+n)+1 from rfl,run_equalIn_struct w (d+n) t _ _ (by rw [CG];exact hu) (by simpa using hp),CG];exact this
      case array m el =>
        subst hx hy;split at h
        · rename_i k1 g s h1 h2;split at h
          · rename_i hs;subst hs;simp only [Option.some.injEq]at h;subst h;obtain⟨d',i',_,hi,fW,_⟩:=uD h2
            have:=PQ (DW d n el k1 h1) h2 (λhg=>GS n el k1 h1 _ _ h2 hg) U β xs ys w m 0 e (by simpa using he)
            rw [show d+(n+1)=(d+n)+1 from rfl,run_equalIn_array w (d+n) _ _ hu hi,List.range_eq_range'];rw [show P.cellsOf el=k1.length by simp [Program.cellsOf,hi,fW]];exact this
          · cases h
        · cases h
theorem IX{t:TypeId}{ks:List CK}{xs ys:List At}{e:BE}(hk:jC P 30 t=some ks)(he:aX ks xs ys=some e)(ha:∃g n,aH P t=some (g,n)/\g=true)(U:Env)(β:Nat->Nat)(w:World) :
  (Op.equalIn 10000 t (.agg (xs.map (At.den U β)).toArray) (.agg (ys.map (At.den U β)).toArray)).run P w=.ok (e.den U) w:=by
 obtain⟨g,n,hz,rfl⟩:=ha;obtain⟨d,i,h1,h2,rfl,hg⟩:=uD hz;refine DW 9970 30 t ks hk U β xs ys e _ _ w he ?_ ?_
 ·cases d<;>simp only [reduceCtorEq]at hg<;>simp [jQ,h1]
 ·cases d<;>simp only [reduceCtorEq]at hg<;>simp [jQ,h1]
end Vc
set_option linter.unusedVariables false
namespace Vc
open Go Go.RowKit
variable {P:Program} {W:dR} {Q:Value->Prop} {QM QP:World->Value->Prop}
theorem PS(op:BinOp)(t:TypeId)(x y:Operand)(a b:Array Value)(w:World)(h:P.eqGuardType P.depth t=false):(eqGuard op t x y (.agg a) (.agg b)).run P w=.ok () w :=
 run_eqGuard_agg w op t x y a b h
theorem IY(t:TypeId)(a b:Bool)(w:World)(h:P.underlying t=some .bool):(binOp .eql t (.bool a) (.bool b)).run P w=.ok (.bool (a == b)) w:=by
 simp only [binOp];simp [run_equal_bool w t a b h]
theorem IZ(t:TypeId)(a b:Bool)(w:World)(h:P.underlying t=some .bool):(binOp .neq t (.bool a) (.bool b)).run P w=.ok (.bool (!(a == b))) w:=by
 simp only [binOp];simp [run_equal_bool w t a b h]
theorem xm(e:BE)(U:Env)(β:Nat->Nat):(SV.cv (.one (.bool e.jP))).den U β=.bool (e.den U):=by
 simp only [SV.den,CV.den,At.den,BE.eP]
theorem PT(p q:List UInt8):(p == q)=decide (p=q):=by
 by_cases hc:p=q
 ·subst hc;simp
 ·rw [decide_eq_false hc];exact beq_eq_false_iff_ne.2 hc
theorem I0(op:BinOp)(t:TypeId)(x y:Operand)(a b:ByteArray)(w:World):(eqGuard op t x y (.string a) (.string b)).run P w=.ok () w:=by
 cases op<;>simp [eqGuard]
def DX:Value->Bool
 | .pointer _ | .slice _ _ _ | .nilFunc | .func _ _ _=>true
 |_=>false
theorem PU{p:At}(h:c_ p≠3)(U:Env)(β:Nat->Nat):DX (p.den U β)=true:=by
 cases p<;>simp [c_]at h<;>simp only [At.den]<;>first|rfl | (split<;>rfl)
theorem PV(op:BinOp)(t:TypeId)(x y:Operand)(a b:Value)(h:DX a=true)(w:World):(eqGuard op t x y a b).run P w=.ok () w:=by
 cases a<;>simp [DX]at h<;>cases op<;>simp [eqGuard]
theorem I1{a:Value}(b:Value)(h:DX a=true)(t:TypeId):(binOp .eql t a b=do pure (.bool (<-Op.equal t a b)))/\(binOp .neq t a b=do pure (.bool (!(<-Op.equal t a b)))):=by
 cases a<;>simp [DX]at h<;>exact⟨rfl,rfl⟩
theorem PW(op:BinOp)(t:TypeId)(x y:Operand)(p q:At)(h:c_ p≠3)(U:Env)(β:Nat->Nat)(w:World):(eqGuard op t x y (p.den U β) (q.den U β)).run P w=.ok () w :=
 PV op t x y _ _ (PU h U β) w
theorem I2(d:Nat){t e:TypeId}(a:Option Addr)(w:World)(h:P.underlying t=some (.pointer e)):(Op.equalIn (d+1) t (.pointer none) (.pointer a)).run P w=.ok a.isNone w:=by
 cases a<;>simp [Op.equalIn,run_underlying h]
theorem I3(d:Nat){t e:TypeId}(a:Option Addr)(w:World)(h:P.underlying t=some (.pointer e)):(Op.equalIn (d+1) t (.pointer a) (.pointer none)).run P w=.ok a.isNone w:=by
 cases a<;>simp [Op.equalIn,run_underlying h]
theorem I4(d:Nat){t e:TypeId}(b o o':Nat)(w:World)(h:P.underlying t=some (.pointer e)){i:TypeInfo}(hi:P.info? e=some i)(hs:i.size≠0) :
  (Op.equalIn (d+1) t (.pointer (some ⟨b,o,none⟩)) (.pointer (some ⟨b,o',none⟩))).run P w=.ok (decide (o=o')) w:=by
 have hz:(Go.sizeOf e).run P w=.ok i.size w:=by simp [Go.sizeOf,typeInfo,hi]
 by_cases ho:o=o'<;>simp [Op.equalIn,run_underlying h,hz,hs,sameAddr,ho]
theorem PX(d:Nat){t e:TypeId}(a:Option Addr)(n c:Nat)(w:World)(h:P.underlying t=some (.slice e)):(Op.equalIn (d+1) t (.slice none 0 0) (.slice a n c)).run P w=.ok a.isNone w:=by
 cases a<;>simp [Op.equalIn,run_underlying h]
theorem I5(d:Nat){t e:TypeId}(a:Option Addr)(n c:Nat)(w:World)(h:P.underlying t=some (.slice e)):(Op.equalIn (d+1) t (.slice a n c) (.slice none 0 0)).run P w=.ok a.isNone w:=by
 cases a<;>simp [Op.equalIn,run_underlying h]
theorem I6(d:Nat){t:TypeId}{a b c}(w:World)(h:P.underlying t=some (.func a b c)):(Op.equalIn (d+1) t .nilFunc .nilFunc).run P w=.ok true w:=by
 simp [Op.equalIn,run_underlying h]
theorem I7(d:Nat){t:TypeId}{a b c}(x y z)(w:World)(h:P.underlying t=some (.func a b c)):(Op.equalIn (d+1) t .nilFunc (.func x y z)).run P w=.ok false w:=by
 simp [Op.equalIn,run_underlying h]
theorem I8(d:Nat){t:TypeId}{a b c}(x y z)(w:World)(h:P.underlying t=some (.func a b c)):(Op.equalIn (d+1) t (.func x y z) .nilFunc).run P w=.ok false w:=by
 simp [Op.equalIn,run_underlying h]
theorem PY{t:TypeId}{x y:At}{e:BE}(h:nW P t x y=some e)(U:Env)(β:Nat->Nat)(w:World):(Op.equal t (x.den U β) (y.den U β)).run P w=.ok (e.den U) w:=by
 unfold Op.equal Op.maxDepth;generalize hd:10000=d;obtain⟨d,rfl⟩:∃d',d=d'+1:=⟨9999,hd.symm⟩;clear hd;unfold nW at h;split at h
 ·rename_i el hu;split at h
  ·rename_i hk;split at h
   ·rename_i b hb;simp only [Option.some.injEq]at h;subst h;cases x<;>simp [c_]at hk<;>cases y<;>simp [c_]at hk<;>simp [oA,tN]at hb<;>subst hb<;>first|exact I2 d _ w hu|exact I3 d _ w hu
   ·split at h
    ·rename_i k o k' o';split at h
     ·rename_i g n hn;split at h
      ·rename_i hc;simp only [Option.some.injEq]at h;subst h;obtain⟨rfl,iI⟩:=hc;unfold aH at hn;split at hn
       ·rename_i d0 i hd hi;simp only [Option.some.injEq,Prod.mk.injEq]at hn;obtain⟨_,rfl⟩:=hn;exact I4 d _ _ _ w hu hi iI
       ·cases hn
      ·cases h
     ·cases h
    ·cases h
  ·cases h
 ·rename_i el hu;split at h
  ·rename_i hk;cases x<;>simp [c_]at hk<;>cases y<;>simp [c_]at hk<;>simp [oA,tN]at h<;>subst h<;>simp only [At.den,BE.den]
   all_goals first|exact PX d _ _ _ w hu|exact I5 d _ _ _ w hu | (split<;>rename_i hq<;>simp only [hq]<;>first|exact PX d _ _ _ w hu|exact I5 d _ _ _ w hu)
  ·cases h
 ·rename_i hu;split at h
  ·rename_i hk;cases x<;>simp [c_]at hk<;>cases y<;>simp [c_]at hk<;>simp [oA,tN]at h<;>subst h<;>first|exact I6 d w hu|exact I7 d _ _ _ w hu|exact I8 d _ _ _ w hu
  ·cases h
 ·cases h
theorem PZ{x:At}(y:At)(h:c_ x≠3)(t:TypeId)(U:Env)(β:Nat->Nat):(binOp .eql t (x.den U β) (y.den U β)=do pure (.bool (<-Op.equal t (x.den U β) (y.den U β))))/\(binOp .neq t (x.den U β) (y.den U β)=do pure (.bool (!(<-Op.equal t (x.den U β) (y.den U β))))) :=
 I1 _ (PU h U β) t
theorem Uk{t:TypeId}{x y:At}{e:BE}(h:nW P t x y=some e):c_ x≠3:=by
 unfold nW at h;split at h
 ·split at h
  ·rename_i hk;omega
  ·cases h
 ·split at h
  ·rename_i hk;omega
  ·cases h
 ·split at h
  ·rename_i hk;omega
  ·cases h
 ·cases h
theorem I9{t:TypeId}{a b:List UInt8}{w:World}(h:a.length+b.length<=9223372036854775807):(binOp .add t (.string ⟨a.toArray⟩) (.string ⟨b.toArray⟩)).run P w=.ok (.string ⟨(a++b).toArray⟩) w:=by
 have e:(⟨a.toArray⟩++⟨b.toArray⟩:ByteArray)=⟨(a++b).toArray⟩:=by
  apply ByteArray.ext;simp
 have hs:¬((((⟨a.toArray⟩:ByteArray).size+(⟨b.toArray⟩:ByteArray).size:Nat):Int) > IntKind.i64.max):=by
  show ¬(((a.toArray.size+b.toArray.size:Nat):Int) > 9223372036854775807);simp only [List.size_toArray];omega
 simp only [binOp,Op.stringOp];rw [if_neg hs,e];rfl
theorem Um{c:ar}{op:BinOp}{t:TypeId}{x y:SV}{K:SV->ar->Env->Prop}{U:Env}(hx:x.wf c=true)(hy:y.wf c=true)
  (h:lg (PA P W Q QM QP) P c op t x y K U):cy c U K (nB P op t x y):=by
 unfold lg at h;split at h
 ·rename_i k a k' b;have wa:a.wf c=true:=hx;have wb:b.wf c=true:=hy;split at h
  ·rename_i ho;subst ho;split at h
   ·rename_i n;split at h
    ·rename_i hn;refine (zx h).mono λsv J _ hv=>nB.ints (hv b0).2 λβ w => ?_;rw [(hv β).1,nA,PK t k k' _ _ w hn.1,IT k _ n hn.1 hn.2];rfl
    ·exact h.elim
   ·obtain⟨h1,h2⟩:=za h;refine (zx h2).mono λsv J hl hv=>nB.ints (hv b0).2 λβ w => ?_;have h3:0<=b.den J:=by rw [IE.aa hl wb];exact h1
    rw [(hv β).1,PK t k k' _ _ w h3];rfl
  ·split at h
   ·rename_i ho;subst ho;split at h
    ·rename_i n;split at h
     ·rename_i hn;refine (zx h).mono λsv J _ hv=>nB.ints (hv b0).2 λβ w => ?_;rw [(hv β).1,nA,PL t k k' _ _ w hn.1,IU k _ n hn.1 hn.2];rfl
     ·exact h.elim
    ·obtain⟨h1,h2⟩:=za h;refine (zx h2).mono λsv J hl hv=>nB.ints (hv b0).2 λβ w => ?_;have h3:0<=b.den J:=by rw [IE.aa hl wb];exact h1
     rw [(hv β).1,PL t k k' _ _ w h3];rfl
   ·split at h
    ·rename_i hk;subst hk;split at h
     ·rename_i ha;refine (zx h).mono λsv J hl hv=>nB.ints (hv b0).2 λβ w => ?_;rw [(hv β).1,IN op t k _ _ w ha];rfl
     ·split at h
      ·rename_i hq;obtain⟨h1,h2⟩:=za h;refine (zx h2).mono λsv J hl hv=>nB.ints (hv b0).2 λβ w => ?_;have h3:b.den J≠0:=by rw [IE.aa hl wb];exact h1
       rw [(hv β).1,IQ op t k _ _ w hq h3];rfl
      ·split at h
       ·rename_i hc;refine cy.pure h λJ hl=>nB.ints (by simp) λβ w => ?_;rw [xm,IS op t k _ _ w hc];rfl
       ·exact h.elim
    ·exact h.elim
 ·rename_i a b;generalize hu:P.underlying t=u at h;split at h
  ·split at h
   ·rename_i ho;subst ho;refine cy.pure h λJ hl=>⟨by simp,λβ w xo yo => ?_⟩;rw [xm];simp only [SV.den,CV.den,At.den,Sem.run_bind,PM,Result.andThen_ok,IY t _ _ w hu,BE.den]
   ·split at h
    ·rename_i ho;subst ho;refine cy.pure h λJ hl=>⟨by simp,λβ w xo yo => ?_⟩;rw [xm];simp only [SV.den,CV.den,At.den,Sem.run_bind,PM,Result.andThen_ok,IZ t _ _ w hu,BE.den]
    ·exact h.elim
  ·exact h.elim
 ·rename_i a b;generalize hk:jC P 30 t=u1 at h;generalize hz:aH P t=u2 at h;split at h
  ·rename_i ks n;generalize he:aX ks a b=u3 at h;split at h
   ·rename_i e;split at h
    ·exact h.elim
    ·rename_i hg;have ep:P.eqGuardType P.depth t=false:=by simpa using hg
     have key:=λJ β w=>IX hk he ⟨true,n,hz,rfl⟩ J β w;split at h
     ·rename_i ho;subst ho;refine cy.pure h λJ hl=>⟨by simp,λβ w xo yo => ?_⟩;rw [xm];simp only [SV.den,CV.den,Sem.run_bind,PS _ _ _ _ _ _ _ ep,Result.andThen_ok,run_eql_struct,key]
     ·split at h
      ·rename_i ho;subst ho;refine cy.pure h λJ hl=>⟨by simp,λβ w xo yo => ?_⟩;rw [xm];simp only [SV.den,CV.den,Sem.run_bind,PS _ _ _ _ _ _ _ ep,Result.andThen_ok,run_neq_struct,key,BE.den]
      ·exact h.elim
   ·exact h.elim
  ·exact h.elim
 ·rename_i x y _ _;generalize hu:P.underlying t=u at h;generalize zC:strOf x=sx at h;generalize GU:strOf y=sy at h;split at h
  ·rename_i a b;have dx:=λJ β=>xl zC J β;have dy:=λJ β=>xl GU J β;split at h
   ·rename_i ho;subst ho;refine cy.pure h λJ hl=>⟨by simp,λβ w xo yo => ?_⟩;rw [xm];simp only [SV.den,CV.den,dx,dy,Sem.run_bind,I0,Result.andThen_ok,BE.den];simp only [binOp,Op.stringOp,PR,Sem.run_pure];rw [PT]
   ·split at h
    ·rename_i ho;subst ho;refine cy.pure h λJ hl=>⟨by simp,λβ w xo yo => ?_⟩;rw [xm];simp only [SV.den,CV.den,dx,dy,Sem.run_bind,I0,Result.andThen_ok,BE.den];simp only [binOp,Op.stringOp,PR,Sem.run_pure];rw [PT]
    ·split at h
     ·rename_i ho;subst ho;refine (DU h).mono λsv J hl hv=>⟨hv.2.1,λβ w xo yo => ?_⟩;rw [hv.2.2 β];have hk:=hv.1;simp only [SP.ok]at hk;simp only [SV.den,CV.den,dx,dy,Sem.run_bind,I0,Result.andThen_ok,SP.den];exact I9 hk
     ·exact h.elim
  ·generalize hn:nW P t x y=en at h;split at h
   ·rename_i e;have hk:=Uk hn;split at h
    ·rename_i ho;subst ho;refine cy.pure h λJ hl=>⟨by simp,λβ w xo yo => ?_⟩;rw [xm];simp only [SV.den,CV.den,Sem.run_bind,PW _ _ _ _ _ _ hk,Result.andThen_ok,(PZ y hk t J β).1,PY hn,Sem.run_pure]
    ·split at h
     ·rename_i ho;subst ho;refine cy.pure h λJ hl=>⟨by simp,λβ w xo yo => ?_⟩;rw [xm];simp only [SV.den,CV.den,Sem.run_bind,PW _ _ _ _ _ _ hk,Result.andThen_ok,(PZ y hk t J β).2,PY hn,Sem.run_pure,BE.den]
     ·exact h.elim
   ·exact h.elim
 ·exact h.elim
theorem Un{c:ar}{op:UnOp}{x:SV}{K:SV->ar->Env->Prop}{U:Env}(h:vb (PA P W Q QM QP) c op x K U) :
  cy c U K λsv J=>sv ≠ .any/\x ≠ .any/\∀β w,(Op.unary op (x.den J β)).run P w=.ok (sv.den J β) w:=by
 unfold vb at h;split at h
 ·exact (zx h).mono λsv J _ hv=>⟨(hv b0).2,by simp,λβ w=>by rw [(hv β).1];simp [SV.den,CV.den,At.den,Op.unary,Op.intArith,IP.den]⟩
 ·exact (zx h).mono λsv J _ hv=>⟨(hv b0).2,by simp,λβ w=>by rw [(hv β).1];simp [SV.den,CV.den,At.den,Op.unary,Op.intBits,IP.den,bits]⟩
 ·exact cy.pure h λJ _=>⟨by simp,by simp,λβ w=>by rw [xm];simp [SV.den,CV.den,At.den,Op.unary,BE.den]⟩
 ·exact h.elim
theorem Uo{c:ar}{s d:TypeId}{x:SV}{K:SV->ar->Env->Prop}{U:Env}(h:ru (PA P W Q QM QP) P c s d x K U) :
  cy c U K λsv J=>sv ≠ .any/\x ≠ .any/\∀β w,(convert s d (x.den J β)).run P w=.ok (sv.den J β) w:=by
 unfold ru at h;generalize h1:P.underlying s=u1 at h;generalize h2:P.underlying d=u2 at h;split at h
 ·rename_i ds k k0 a;refine (zx h).mono λsv J _ hv=>⟨(hv b0).2,by simp,λβ w => ?_⟩;rw [(hv β).1];simp only [SV.den,CV.den,At.den,convert,Sem.run_bind,run_underlying h1,run_underlying h2,Result.andThen_ok];cases ds<;>simp [Conv.intToInt,IP.den]
 ·exact h.elim
theorem P1{t:TypeId}{cs:List At}{off:Nat}{v:CV}(h:partOf P t cs off=some v)(U:Env)(β:Nat->Nat)(w:World) :
  (part t (cs.map (At.den U β)).toArray off).run P w=.ok (v.den U β) w:=by
 unfold partOf at h;split at h
 ·rename_i n hz;split at h
  ·simp only [Option.some.injEq]at h;subst h;rw [IW hz rfl];simp [CV.den,List.map_take,List.map_drop]
  ·cases h
 ·rename_i n hz;simp only [Option.map_eq_some_iff]at h;obtain⟨a,ha,rfl⟩:=h;exact PN hz rfl _ off (a.den U β) (by simp [ha]) w
 ·cases h
theorem Up{c:ar}{t:TypeId}{x:SV}{f:Nat}{K:SV->ar->Env->Prop}{U:Env}(h:j6 (PA P W Q QM QP) P c t x f K U) :
  cy c U K λsv J=>sv ≠ .any/\x ≠ .any/\∀β w,(Instr.field t (x.den J β) f).run P w=.ok (sv.den J β) w:=by
 unfold j6 at h;generalize h1:P.underlying t=u1 at h;split at h
 ·rename_i fs cs;generalize h2:fs[f]? = u2 at h;split at h
  ·rename_i fd;generalize h3:partOf P fd.type cs fd.offset=u3 at h;split at h
   ·rename_i v;refine cy.pure h λJ _=>⟨by simp,by simp,λβ w => ?_⟩;simp [SV.den,CV.den,Instr.field,run_underlying h1,h2,asAgg,P1 h3]
   ·exact h.elim
  ·exact h.elim
 ·exact h.elim
theorem Uq{c:ar}{s:TypeId}{x:SV}{f:Nat}{K:SV->ar->Env->Prop}{U:Env}(h:eW (PA P W Q QM QP) P c s x f K U) :
  cy c U K λsv J=>sv ≠ .any/\x ≠ .any/\∀β w,(Instr.fieldAt s (x.den J β) f).run P w=.ok (sv.den J β) w:=by
 unfold eW at h;generalize h1:P.underlying s=u1 at h;split at h
 ·rename_i fs;generalize h2:fs[f]? = u2 at h;split at h
  ·rename_i fd;generalize h3:aH P fd.type=u3 at h;split at h
   ·rename_i g n;split at h
    ·exact h.elim
    ·rename_i hn
     have key:∀(b o:Nat) (w:World),(fieldPlace ⟨b,o,none⟩ fd).run P w=.ok ⟨b,o+fd.offset,none⟩ w:=by
      intro b o w;simp only [fieldPlace,Sem.run_bind,qm h3,Result.andThen_ok,hn,if_false,Sem.run_pure,Addr.add];split
      ·rename_i h0;simp [h0]
      ·rfl
     split at h
     ·refine cy.pure h λJ _=>⟨by simp,by simp,λβ w => ?_⟩;simp [SV.den,CV.den,At.den,Instr.fieldAt,run_underlying h1,h2,Instr.sureAddr,key]
     ·refine cy.pure h λJ _=>⟨by simp,by simp,λβ w => ?_⟩;simp [SV.den,CV.den,At.den,Instr.fieldAt,run_underlying h1,h2,Instr.sureAddr,key,Nat.add_assoc]
     ·refine cy.pure h λJ _=>⟨by simp,by simp,λβ w => ?_⟩;simp [SV.den,CV.den,At.den,Instr.fieldAt,run_underlying h1,h2,Instr.sureAddr,key,Nat.add_assoc]
     ·exact h.elim
   ·exact h.elim
  ·exact h.elim
 ·exact h.elim
end Vc
set_option linter.unusedVariables false
namespace Vc
open Go Go.RowKit
variable {P:Program} {W:dR} {Q:Value->Prop} {QM QP:World->Value->Prop}
theorem tQ(b o m:Nat):(⟨b,o,none⟩:Addr).add m=⟨b,o+m,none⟩:=by
 unfold Addr.add;split<;>simp_all
theorem CH{t el:TypeId}{n:Nat}{g:Bool}{s:Nat}(h1:P.underlying t=some (.array n el))(hz:aH P el=some (g,s))(b o:Nat)(k:IntKind)(i:Int)(h0:0<=i)(hn:i<n)(w:World) :
  (Instr.indexAt t (ptr b o) (.int k i)).run P w=.ok (ptr b (o+i.toNat*s)) w:=by
 simp [Instr.indexAt,asIntOf,run_underlying h1,Instr.sureAddr,ptr,h0,hn,qm hz,tQ]
theorem AU{t el:TypeId}{n m:Nat}{g:Bool}{s:Nat}(h1:P.underlying t=some (.slice el))(hz:aH P el=some (g,s))(b o:Nat)(k:IntKind)(i:Int)(h0:0<=i)(hn:i<n)(w:World) :
  (Instr.indexAt t (.slice (some ⟨b,o,none⟩) n m) (.int k i)).run P w=.ok (ptr b (o+i.toNat*s)) w:=by
 simp [Instr.indexAt,asIntOf,run_underlying h1,ptr,h0,hn,qm hz,tQ]
theorem DY{c:ar}{p:IP}{K:IE->ar->Env->Prop}{U:Env}(h:rr (PA P W Q QM QP) c p K U) :
  ∃e c' af,K e c' af/\c.le c'/\c'.nk=c.nk/\Env.ay c U af/\e.wf c'=true/\∀J,Env.ay c' af J->e.den J=p.den J:=by
 unfold rr at h;split at h
 ·rename_i hl;rw [Px]at h;exact⟨_,c,U,h,ar.le_refl _,rfl,Env.an _ _,rfl,λJ _=>(IP.pX (U:=Env.zero) (af:=J) hl)⟩
 ·split at h
  ·rename_i hw;have h1:=h (p.den U) rfl;have hle:c.le {c with ni:=c.ni+1}:=ar.sq c 1;refine⟨_,_,_,h1,hle,rfl,zB c U _,by simp [IE.wf],λJ hl => ?_⟩
   have e1:J.i c.ni=p.den U:=by
    rw [hl.i c.ni (Nat.lt_succ_self _)];exact if_pos rfl
   simp only [IE.den,e1];rw [IP.aa (Env.ah hle (zB c U _) hl) hw]
  ·exact h.elim
theorem GV{c:ar}{op:IE->IE->IP}{a b:IE}{K:IE->ar->Env->Prop}{U:Env}(h:p_ (PA P W Q QM QP) c op a b K U) :
  ∃e c' af,K e c' af/\c.le c'/\c'.nk=c.nk/\Env.ay c U af/\e.wf c'=true/\∀J,Env.ay c' af J->e.den J=(op a b).den J:=DY h
inductive pI where
 |fix (cs:List At) (t:TypeId)
 |row (ce:CE) (sz:Nat) (t:TypeId)
def aE(m:Mem)(o:ba)(k:Nat):Option pI :=
  match getM m k with
  |some (cs,t)=>some (.fix cs t)
  |none=>match aG o k with
    |some (ce,sz,t)=>some (.row ce sz t)
    |none=>none
def Holds(W:dR)(U:Env)(β:Nat->Nat)(k:Nat):pI->World->Prop
 | .fix cs t,w=>ek W (β k)/\w.heap[β k]? = some (.cells (cs.map (At.den U β)).toArray t)
 | .row ce sz t,w=>bH (ek W) (β k) (β (k+1)) (β (k+2)) (β (k+3)) (aq U β ce) sz t w
def fk(W:dR)(m:Mem)(o:ba)(l:List Nat)(U:Env)(β:Nat->Nat)(w:World):Prop :=
 ∀k∈l,∀e,aE m o k=some e->Holds W U β k e w
theorem n_{m:Mem}{o:ba}{k:Nat}{cs:List At}{t:TypeId}(h:getM m k=some (cs,t)):aE m o k=some (.fix cs t):=by
 simp [aE,h]
theorem kt{m:Mem}{o:ba}{k:Nat}{ce:CE}{sz:Nat}{t:TypeId}(hm:getM m k=none)(h:aG o k=some (ce,sz,t)):aE m o k=some (.row ce sz t):=by
 simp [aE,hm,h]
def ku(m:Mem)(o:ba):Prop:=∀k x,aG o k=some x->getM m k=none
theorem I_{lo:Nat->Prop}{b code n base:Nat}{xs:List Value}{sz:Nat}{t:TypeId}{w:World}(h:fV lo b code n base xs sz t w):xs.length / sz=n:=by
 rw [h.1];exact Nat.mul_div_cancel _ h.2.1
theorem P2{lo:Nat->Prop}{b code n base:Nat}{xs:List Value}{sz:Nat}{t:TypeId}{w:World}(h:fV lo b code n base xs sz t w)(hn:0<n) :
  2<=code/\base=0/\∃cur,w.heap[b]? = some (.cells cur t (0,0))/\cur.toList.take (n*sz)=xs:=by
 rcases h.2.2 with ⟨_,h0⟩|⟨h1,h2,_,_,_,cur,h3,_,h4⟩
 ·omega
 ·exact⟨h1,h2,cur,h3,h4⟩
theorem I'(U:Env)(β:Nat->Nat)(ce:CE)(sz:Nat):(IP.rn (mg ce) (jB ce) sz).den U=(((aq U β ce).length / sz:Nat):Int):=by
 rw [Is];rfl
theorem zD{c:ar}{ce:CE}{sz:Nat}{K:IE->ar->Env->Prop}{U:Env}(h:gF (PA P W Q QM QP) c ce sz K U) :
  ∃e c' af,K e c' af/\c.le c'/\c'.nk=c.nk/\Env.ay c U af/\e.wf c'=true/\∀J β,Env.ay c' af J->e.den J=(((aq J β ce).length / sz:Nat):Int):=by
 obtain⟨e,c',af,h1,h2,h3,h4,h5,h6⟩:=DY h;exact⟨e,c',af,h1,h2,h3,h4,h5,λJ β hl=>by rw [h6 J hl,I' J β]⟩
theorem Ur{c:ar}{t:TypeId}{x i:SV}{K:SV->ar->Env->Prop}{U:Env}{m:Mem}{o:ba}(kx:ku m o)(hx:x.wf c=true)(hi:i.wf c=true)(h:eX (PA P W Q QM QP) P o c t x i K U) :
  cy c U K λsv J=>sv ≠ .any/\(x ≠ .any/\i ≠ .any)/\∀β w,fk W m o (az (aM x)) J β w->(Instr.indexAt t (x.den J β) (i.den J β)).run P w=.ok (sv.den J β) w:=by
 unfold eX at h;split at h
 ·rename_i ki e;have we:e.wf c=true:=hi;generalize h1:P.underlying t=u1 at h;split at h
  ·rename_i el k;generalize hz:aH P el=u2 at h;generalize iJ:aG o k=u3 at h;split at h
   ·rename_i g s ce sz ty;split at h
    ·rename_i hs;obtain⟨rfl,zE⟩:=hs;obtain⟨n,c1,aR,r1,r2,r3,r4,r5,r6⟩:=zD h;obtain⟨q1,ha⟩:=za r1;obtain⟨q2,hk⟩:=za ha;refine⟨_,c1,aR,hk,r2,r4,λJ hl=>⟨by simp,by simp,λβ w dC => ?_⟩⟩;have fI:=Env.ah r2 r4 hl;have bj:=(dC k (by simp [aM,CV.cells,az]) _ (kt (kx k _ iJ) iJ)).eI zE;have e1:0<=e.den J:=by rw [IE.aa hl (IE.aL r2 we)];exact q1
     have e2:e.den J<n.den J:=by rw [IE.aa hl (IE.aL r2 we),IE.aa hl r5];exact q2
     have e3:=r6 J β hl;rw [I_ bj]at e3;obtain⟨p1,p2,_⟩:=P2 bj (by omega)
     have:=AU (P:=P) (n:=β (k+2)) (m:=β (k+1)-1) h1 hz (β k) 0 ki (e.den J) e1 (by omega) w
     have e4:¬β (k+1)=0:=by omega
     simpa [SV.den,CV.den,At.den,cG,e4,p2,ptr]using this
    ·exact h.elim
   ·exact h.elim
  ·rename_i el k;generalize hz:aH P el=u2 at h;generalize iJ:aG o k=u3 at h;split at h
   ·rename_i g s ce sz ty;split at h
    ·rename_i hs;obtain⟨rfl,rfl,rfl⟩:=hs;obtain⟨n,c1,aR,r1,r2,r3,r4,r5,r6⟩:=zD h;obtain⟨q1,ha⟩:=za r1;obtain⟨q2,hk⟩:=za ha;refine⟨_,c1,aR,hk,r2,r4,λJ hl=>⟨by simp,by simp,λβ w dC => ?_⟩⟩;have fI:=Env.ah r2 r4 hl;have bj:=dC k (by simp [aM,CV.cells,az]) _ (kt (kx k _ iJ) iJ);rcases bj with bj|⟨_,_,_,ho⟩
     ·exact absurd bj.2.1 (by omega)
     have e1:0<=e.den J:=by rw [IE.aa hl (IE.aL r2 we)];exact q1
     have e2:e.den J<n.den J:=by rw [IE.aa hl (IE.aL r2 we),IE.aa hl r5];exact q2
     have e3:=r6 J β hl;rw [Nat.div_one,<-ho.1]at e3
     have:=AU (P:=P) (n:=β (k+2)) (m:=β (k+1)-2) h1 hz (β k) 0 ki (e.den J) e1 (by omega) w
     simpa [SV.den,CV.den,At.den,ptr]using this
    ·exact h.elim
   ·exact h.elim
  ·rename_i el q p sz len cap;have wx:(decide (q<c.nb) && decide (p<c.np) && len.wf c && cap.wf c)=true:=hx;simp only [Bool.and_eq_true,decide_eq_true_eq]at wx;generalize hz:aH P el=u2 at h;split at h
   ·rename_i g s;split at h
    ·rename_i hs;subst hs;obtain⟨q0,h⟩:=za h;obtain⟨q1,ha⟩:=za h;clear h;obtain⟨q2,h⟩:=za ha;clear ha;refine cy.pure h λJ hl=>⟨by simp,by simp,λβ w dC => ?_⟩;have p0:¬J.b q=true:=by rw [hl.b q wx.1.1.1];exact q0
     have p1:0<=e.den J:=by rw [IE.aa hl we];exact q1
     have p2:e.den J<len.den J:=by rw [IE.aa hl we,IE.aa hl wx.1.2];exact q2
     have:=AU (P:=P) (n:=(len.den J).toNat) (m:=(cap.den J).toNat) h1 hz (J.p p).1 (J.p p).2 ki (e.den J) p1 (by omega) w
     have q0:¬((len.den J).toNat=0/\(cap.den J).toNat=0):=by omega
     simpa [SV.den,CV.den,At.den,ptr,p0,DB q0]using this
    ·exact h.elim
   ·exact h.elim
  ·rename_i n el k ix sz off;generalize hz:aH P el=u2 at h;split at h
   ·rename_i g s;split at h
    ·rename_i j;split at h
     ·rename_i hj;refine cy.pure h λJ _=>⟨by simp,by simp,λβ w dC => ?_⟩
      have:=CH h1 hz (β k) ((ix.den J).toNat*sz+off) ki j hj.1 (by have:=hj.1;have:=hj.2;omega) w
      simpa [SV.den,CV.den,At.den,ptr,nA,Nat.add_assoc]using this
     ·exact h.elim
    ·obtain⟨q1,h⟩:=za h;obtain⟨q2,h⟩:=za h;obtain⟨m',hm,he,h⟩:=CC q1 q2 n (Nat.le_refl _) (by rw [Nat.sub_self];exact q1) h;refine cy.pure h λJ hl=>⟨by simp,by simp,λβ w dC => ?_⟩;have iU:e.den J=(m':Int):=by rw [IE.aa hl we];exact he
     have:=CH h1 hz (β k) ((ix.den J).toNat*sz+off) ki (e.den J) (by rw [iU];omega) (by rw [iU];omega) w
     rw [iU]at this;simp only [SV.den,CV.den,At.den,iU];simpa [ptr,Nat.add_assoc]using this
   ·exact h.elim
  ·rename_i n el k off;generalize hz:aH P el=u2 at h;split at h
   ·rename_i g s;split at h
    ·rename_i j;split at h
     ·rename_i hj;refine cy.pure h λJ _=>⟨by simp,by simp,λβ w dC => ?_⟩;exact CH h1 hz _ _ _ _ hj.1 (by have:=hj.1;have:=hj.2;omega) w
     ·exact h.elim
    ·obtain⟨q1,h⟩:=za h;obtain⟨q2,h⟩:=za h;obtain⟨m,hm,he,h⟩:=CC q1 q2 n (Nat.le_refl _) (by rw [Nat.sub_self];exact q1) h;refine cy.pure h λJ hl=>⟨by simp,by simp,λβ w dC => ?_⟩;have iU:e.den J=(m:Int):=by rw [IE.aa hl we];exact he
     have:=CH h1 hz (β k) off ki (e.den J) (by rw [iU];omega) (by rw [iU];omega) w
     rw [iU]at this;simp only [SV.den,CV.den,At.den,iU];simpa [ptr]using this
   ·exact h.elim
  ·rename_i n el p ix sz off;generalize hz:aH P el=u2 at h;split at h
   ·rename_i g s;split at h
    ·rename_i j;split at h
     ·rename_i hj;refine cy.pure h λJ _=>⟨by simp,by simp,λβ w dC => ?_⟩
      have:=CH h1 hz (J.p p).1 ((J.p p).2+(ix.den J).toNat*sz+off) ki j hj.1 (by have:=hj.1;have:=hj.2;omega) w
      simpa [SV.den,CV.den,At.den,ptr,nA,Nat.add_assoc]using this
     ·exact h.elim
    ·obtain⟨q1,h⟩:=za h;obtain⟨q2,h⟩:=za h;obtain⟨m,hm,he,h⟩:=CC q1 q2 n (Nat.le_refl _) (by rw [Nat.sub_self];exact q1) h;refine cy.pure h λJ hl=>⟨by simp,by simp,λβ w dC => ?_⟩;have iU:e.den J=(m:Int):=by rw [IE.aa hl we];exact he
     have:=CH h1 hz (J.p p).1 ((J.p p).2+(ix.den J).toNat*sz+off) ki (e.den J) (by rw [iU];omega) (by rw [iU];omega) w
     rw [iU]at this;simp only [SV.den,CV.den,At.den,iU];simpa [ptr,Nat.add_assoc]using this
   ·exact h.elim
  ·rename_i el k off len cap;generalize hz:aH P el=u2 at h;split at h
   ·rename_i g s;split at h
    ·rename_i j;split at h
     ·rename_i hj;refine cy.pure h λJ _=>⟨by simp,by simp,λβ w dC => ?_⟩;exact AU h1 hz _ _ _ _ hj.1 (by have:=hj.1;have:=hj.2;omega) w
     ·exact h.elim
    ·obtain⟨q1,h⟩:=za h;obtain⟨q2,h⟩:=za h;obtain⟨m,hm,he,h⟩:=CC q1 q2 len (Nat.le_refl _) (by rw [Nat.sub_self];exact q1) h;refine cy.pure h λJ hl=>⟨by simp,by simp,λβ w dC => ?_⟩;have iU:e.den J=(m:Int):=by rw [IE.aa hl we];exact he
     have:=AU (m:=cap) h1 hz (β k) off ki (e.den J) (by rw [iU];omega) (n:=len) (by rw [iU];omega) w
     rw [iU]at this;simp only [SV.den,CV.den,At.den,iU];simpa [ptr]using this
   ·exact h.elim
  ·rename_i el p ix sz len cap;have wx:((decide (p<c.np) && ix.wf c && len.wf c && cap.wf c))=true:=hx;simp only [Bool.and_eq_true]at wx;generalize hz:aH P el=u2 at h;split at h
   ·rename_i g s;split at h
    ·rename_i hs;subst hs;obtain⟨q1,ha⟩:=za h;clear h;obtain⟨q2,h⟩:=za ha;clear ha;have tr:∀{J},Env.ay c U J->0<=e.den J/\e.den J<len.den J:=λhl=>⟨by rw [IE.aa hl we];exact q1,by rw [IE.aa hl we,IE.aa hl wx.1.2];exact q2⟩;split at h
     ·rename_i GW;subst GW;refine cy.pure h λJ hl=>⟨by simp,by simp,λβ w dC => ?_⟩;obtain⟨p1,p2⟩:=tr hl
      have:=AU (n:=(len.den J).toNat) (m:=(cap.den J).toNat) h1 hz (J.p p).1 ((J.p p).2+(IE.den J (.lit 0)).toNat*s) ki (e.den J) p1 (by omega) w
      simpa [SV.den,CV.den,At.den,ptr,nA]using this
     ·obtain⟨q3,h⟩:=za h;obtain⟨e',c',af,r1,r2,r3,r4,r5,r6⟩:=GV h;refine⟨_,c',af,r1,r2,r4,λJ hl=>⟨by simp,by simp,λβ w dC => ?_⟩⟩;have fI:=Env.ah r2 r4 hl;obtain⟨p1,p2⟩:=tr fI;have p3:0<=ix.den J:=by rw [IE.aa fI wx.1.1.2];exact q3
      have:=AU (n:=(len.den J).toNat) (m:=(cap.den J).toNat) h1 hz (J.p p).1 ((J.p p).2+(ix.den J).toNat*s) ki (e.den J) p1 (by omega) w
      have e1:(e'.den J).toNat=(ix.den J).toNat+(e.den J).toNat:=by
       rw [r6 J hl];simp only [IP.den];omega
      simpa [SV.den,CV.den,At.den,ptr,nA,e1,Nat.add_mul,Nat.add_assoc]using this
    ·exact h.elim
   ·exact h.elim
  ·exact h.elim
 ·exact h.elim
theorem P3{t el:TypeId}{n:Nat}{g:Bool}{s:Nat}(h1:P.underlying t=some (.array n el))(hz:aH P el=some (g,s))(cs:List At)(k:IntKind)(i:Int)(h0:0<=i)(hn:i<n){v:CV}
  (hv:partOf P el cs (i.toNat*s)=some v) (U:Env) (β:Nat->Nat) (w:World) :
  (Instr.index t (.agg (cs.map (At.den U β)).toArray) (.int k i)).run P w=.ok (v.den U β) w:=by
 have:=P1 hv U β w
 simp [Instr.index,asIntOf,run_underlying h1,h0,hn,qm hz];simpa using this
theorem Us(l:List UInt8)(i:Nat)(h:i<l.length):(⟨l.toArray⟩:ByteArray)[i]? = some (l.getD i 0):=by
 have hs:i<(⟨l.toArray⟩:ByteArray).size:=by show i<l.toArray.size;simpa using h
 rw [getElem?_pos _ i hs];congr 1;show l.toArray[i]=_;simp [List.getD,h]
theorem Ut{c:ar}{t:TypeId}{x i:SV}{K:SV->ar->Env->Prop}{U:Env}(hx:x.wf c=true)(hi:i.wf c=true)(h:j7 (PA P W Q QM QP) P c t x i K U) :
  cy c U K λsv J=>sv ≠ .any/\(x ≠ .any/\i ≠ .any)/\∀β w,(Instr.index t (x.den J β) (i.den J β)).run P w=.ok (sv.den J β) w:=by
 unfold j7 at h;split at h
 ·rename_i ki e;have we:e.wf c=true:=hi;generalize h1:P.underlying t=u1 at h;split at h
  ·rename_i n el cs;generalize hz:aH P el=u2 at h;split at h
   ·rename_i g s;split at h
    ·rename_i j;split at h
     ·rename_i hj;generalize hp:partOf P el cs (j.toNat*s)=u3 at h;split at h
      ·rename_i v;refine cy.pure h λJ _=>⟨by simp,by simp,λβ w => ?_⟩;exact P3 h1 hz cs ki j hj.1 (by have:=hj.1;have:=hj.2;omega) hp J β w
      ·exact h.elim
     ·exact h.elim
    ·obtain⟨q1,h⟩:=za h;obtain⟨q2,h⟩:=za h;obtain⟨m,hm,he,h⟩:=CC q1 q2 n (Nat.le_refl _) (by rw [Nat.sub_self];exact q1) h;generalize hp:partOf P el cs (m*s)=u3 at h;split at h
     ·rename_i v;refine cy.pure h λJ hl=>⟨by simp,by simp,λβ w => ?_⟩;have iU:e.den J=(m:Int):=by rw [IE.aa hl we];exact he
      have:=P3 h1 hz cs ki (e.den J) (by rw [iU];omega) (by rw [iU];omega) (v:=v) (by rw [iU];simpa using hp) J β w
      exact this
     ·exact h.elim
   ·exact h.elim
  ·rename_i x;generalize hs:strOf x=u2 at h;split at h
   ·rename_i s;have wx:x.wf c=true:=hx
    have ws:s.wf c=true:=by
     cases x<;>simp only [strOf,Option.some.injEq,reduceCtorEq]at hs<;>subst hs<;>exact wx
    obtain⟨n,c1,aR,r1,r2,r3,r4,r5,r6⟩:=DY h;obtain⟨q1,ha⟩:=za r1;obtain⟨q2,hb⟩:=za ha;obtain⟨sv,c2,aw,k1,k2,k3,k4⟩:=zx hb;refine⟨sv,c2,aw,k1,ar.le_trans r2 k2,Env.ah r2 r4 k3,λJ hl => ?_⟩;have nC:=Env.ah k2 k3 hl;have fI:=Env.ah r2 r4 nC;obtain⟨v1,v2⟩:=k4 J hl b0;refine⟨v2,by simp,λβ w => ?_⟩;have e1:0<=e.den J:=by rw [IE.aa nC (IE.aL r2 we)];exact q1
    have e2:e.den J<((s.den J).length:Int):=by
     have:=r6 J nC
     simp only [IP.den]at this;rw [<-this,IE.aa nC (IE.aL r2 we),IE.aa nC r5];exact q2
    have v3:=(k4 J hl β).1;rw [v3];simp only [SV.den,CV.den];rw [xl hs J β];simp only [At.den,IP.den];have hb:(e.den J).toNat<(s.den J).length:=by omega
    have kS:=Us (s.den J) (e.den J).toNat hb;simp [Instr.index,asIntOf,run_underlying h1,e1,kS]
   ·exact h.elim
  ·exact h.elim
 ·exact h.elim
theorem P4:∀ (v:List Value) (k off:Nat) (cs:List Value),off + k + v.length<=cs.length ->
    (v.zipIdx k).foldl (λ(a:Array Value) (x:Value × Nat)=>a.setIfInBounds (off+x.2) x.1) cs.toArray=(cs.take (off+k)++v++cs.drop (off+k+v.length)).toArray
  | [],k,off,cs,h=>by simp
  |x::v,k,off,cs,h=>by
    simp only [List.zipIdx_cons,List.foldl_cons];have hs:cs.toArray.setIfInBounds (off+k) x=(cs.set (off+k) x).toArray:=by simp
    rw [hs,P4 v (k+1) off (cs.set (off+k) x) (by simp at h ⊢;omega)];congr 1
    have:=list_seg_step cs (off+k) x v (by simp at h ⊢;omega)
    simpa [Nat.add_assoc]using this
theorem P5{α β:Type}(f:α->β)(l:List α)(v:List α)(a b:Nat):(l.take a++v++l.drop b).map f=(l.map f).take a++v.map f++(l.map f).drop b:=by
 simp [List.map_take,List.map_drop]
theorem CV.bp(U:Env)(β:Nat->Nat)(v:CV):(v.den U β).cells=(v.cells.map (At.den U β)).toArray:=by
  cases v with
  |agg l=>rfl
  |one a =>
    have h1:=At.gp U β a;simp only [CV.den,CV.cells,List.map_cons,List.map_nil];cases hd:a.den U β<;>first|rfl | (rw [hd]at h1;simp [Value.oneCell']at h1)
theorem GX{place:Nat->Option (Nat × Nat)}(U:Env)(β:Nat->Nat):∀ (parts:List (Nat × SV)) (cells:List At) {cs:List At},cw place cells parts=some cs ->
    Instr.fill place (cells.map (At.den U β)).toArray (parts.map λp=>(p.1,p.2.den U β))=some (cs.map (At.den U β)).toArray
  | [],cells,cs,h=>by simp only [cw,Option.some.injEq]at h;subst h;rfl
  | (i,.any)::r,_,_,h=>by simp [cw]at h
  | (i,.dF)::r,_,_,h=>by simp [cw]at h
  | (i,.cE l)::r,_,_,h=>by simp [cw]at h
  | (i,.cv v)::r,cells,cs,h=>by
    simp only [cw]at h;cases hp:place i with
    |none=>simp [hp]at h
    |some q =>
      obtain⟨off,size⟩:=q;simp only [hp]at h;split at h
      · rename_i hs;obtain⟨h1,h2⟩:=hs;have ih:=GX U β r _ h;have hlen:(v.den U β).cells.size=size:=by rw [CV.bp];simpa using h1
        simp only [List.map_cons,Instr.fill,hp,SV.den];rw [if_neg (by rw [hlen];simp;omega)];rw [CV.bp,<-Array.foldl_toList,Array.toList_zipIdx]
        have:=P4 (v.cells.map (At.den U β)) 0 off (cells.map (At.den U β)) (by simp;omega)
        simp only [Nat.add_zero,List.length_map,h1]at this;rw [<-P5]at this;simp only []at this ⊢;rw [this];exact ih
      · cases h
theorem xS{t:TypeId}{z:CV}(h:cx P t=some z)(U:Env)(β:Nat->Nat)(w:World)(c:ar):(zeroValue t).run P w=.ok (z.den U β) w/\z.wf c=true:=by
  unfold cx at h;cases hi:P.info? t with
  |none=>simp [hi]at h
  |some i =>
    simp only [hi]at h;cases hz:i.zero with
    |none=>simp [hz]at h
    |some v =>
      simp only [hz]at h;have h2:=SV.cu v c U β;generalize hs:SV.ofValue v=sv at h h2;cases sv with
      |cv x =>
        simp only [Option.some.injEq]at h;subst h;refine⟨?_,h2.1⟩;have h3:=h2.2 (by simp);simp only [SV.den]at h3;simp [zeroValue,typeInfo,hi,hz,h3]
      |_=>simp at h
theorem P6:∀(fs:List Field) {pl:List (Nat × Nat)} (w:World),de P fs=some pl->(fs.mapM (λf=>do pure (f.offset,<-Go.sizeOf f.type):Field->Sem (Nat × Nat))).run P w=.ok pl w
  | [],pl,w,h=>by simp only [de,Option.some.injEq]at h;subst h;simp
  |f::l,pl,w,h=>by
    simp only [de]at h;split at h
    · rename_i g n r h1 h2;simp only [Option.some.injEq]at h;subst h
      have:=P6 l w h2
      simp only [List.mapM_cons,Sem.run_bind,qm h1,Result.andThen_ok,Sem.run_pure,this]
    · cases h
theorem Uu{c:ar}{t:TypeId}{parts:List (Nat × SV)}{K:SV->ar->Env->Prop}{U:Env}(h:j8 (PA P W Q QM QP) P c t parts K U) :
  cy c U K λsv J=>sv ≠ .any/\∀β w,(Instr.build t (parts.map λp=>(p.1,p.2.den J β)).toArray).run P w=.ok (sv.den J β) w:=by
 unfold j8 at h;generalize h1:P.underlying t=u1 at h;generalize h2:cx P t=u2 at h;split at h
 ·rename_i fs z;generalize h3:de P fs.toList=u3 at h;split at h
  ·rename_i pl;generalize h4:cw (λx=>pl[x]?) z.cells parts=u4 at h;split at h
   ·rename_i cs;refine cy.pure h λJ _=>⟨by simp,λβ w => ?_⟩;have q1:=(xS h2 J β w c).1;have q2:=P6 fs.toList w h3;have q3:=GX J β parts z.cells h4;simp only [Instr.build,Sem.run_bind,q1,Result.andThen_ok,run_underlying h1];rw [Array.mapM_eq_mapM_toList];simp only [Sem.run_map,q2,Result.andThen_ok,CV.bp];have e:(λ(x:Nat)=>(pl.toArray)[x]?)=λ(x:Nat)=>pl[x]? := by funext x;simp
    simp only [e,q3];rfl
   ·exact h.elim
  ·exact h.elim
 ·rename_i n el z;generalize h3:aH P el=u3 at h;split at h
  ·rename_i g s;generalize h4:cw (λi=>some (i*s,s)) z.cells parts=u4 at h;split at h
   ·rename_i cs;refine cy.pure h λJ _=>⟨by simp,λβ w => ?_⟩;have q1:=(xS h2 J β w c).1;have q3:=GX J β parts z.cells h4;simp only [Instr.build,Sem.run_bind,q1,Result.andThen_ok,run_underlying h1,qm h3,CV.bp,q3];rfl
   ·exact h.elim
  ·exact h.elim
 ·exact h.elim
end Vc
