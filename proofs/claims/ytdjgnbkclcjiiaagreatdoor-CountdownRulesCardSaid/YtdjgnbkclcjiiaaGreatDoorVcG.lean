import Derived.Test.YtdjgnbkclcjiiaaGreatDoorVcC
import Derived.Laws.StructEq
import Derived.Laws.Entries
import Derived.DeepKeys
import Derived.Laws.CopyRow
import Derived.Laws.Cells
set_option linter.unusedVariables false
set_option linter.unusedSimpArgs false
namespace Vc
open Go Go.RowKit
def Ret(v:Value)(W:World)(e:Ending)(w':World):Prop:=e=.returned v∧Below W.heap.size W w'
def b0:Nat→Nat:=fun _=>0
structure Wld extends World where
 lent:List Nat := []
structure BelX(x:Nat)(W w':World):Prop where
 os:w'.os=W.os
 tape:w'.tape=W.tape
 output:w'.output=W.output
 size:W.heap.size≤w'.heap.size
 block:∀ k,k < W.heap.size→k≠x→w'.heap[k]? = W.heap[k]?
structure BelL(xs:List Nat)(W w':World):Prop where
 os:w'.os=W.os
 tape:w'.tape=W.tape
 output:w'.output=W.output
 size:W.heap.size≤w'.heap.size
 block:∀ k,k < W.heap.size→k ∉ xs→w'.heap[k]? = W.heap[k]?
def Bel(W:Wld)(w':World):Prop:=match W.lent with
 | []=>Below W.heap.size W.toWorld w'
 | [x]=>BelX x W.toWorld w'
 | x::y::l=>BelL (x::y::l) W.toWorld w'
def Eff(v:Value)(x:Nat)(cs:Array Value)(t:TypeId)(W:World)(e:Ending)(w':World):Prop:=e=.returned v∧BelX x W w'∧w'.heap[x]? = some (.cells cs t)
def EffL(v:Value)(l:List (Nat × Array Value × TypeId))(W:World)(e:Ending)(w':World):Prop:=e=.returned v∧BelL (l.map (·.1)) W w'∧∀ x∈l,w'.heap[x.1]? = some (.cells x.2.1 x.2.2)
def OwnB(W:Wld)(b:Nat):Prop:=match W.lent with
 | []=>W.heap.size≤b
 | [x]=>b=x∨W.heap.size≤b
 | x::y::l=>b∈x::y::l∨W.heap.size≤b
def hideB(x:Nat)(W:World):World := {W with heap:=W.heap.setIfInBounds x (.deferred none)}
def hideL:List Nat→World→World
 | [],W=>W
 | x::l,W=>hideB x (hideL l W)
def Wld.seen(W:Wld):World:=hideL W.lent W.toWorld
theorem Bel.os{W:Wld}{w':World}(h:Bel W w'):w'.os=W.os:=by
 unfold Bel at h;split at h <;> exact h.os
theorem Bel.tape{W:Wld}{w':World}(h:Bel W w'):w'.tape=W.tape:=by
 unfold Bel at h;split at h <;> exact h.tape
theorem Bel.output{W:Wld}{w':World}(h:Bel W w'):w'.output=W.output:=by
 unfold Bel at h;split at h <;> exact h.output
theorem Bel.size{W:Wld}{w':World}(h:Bel W w'):W.heap.size≤w'.heap.size:=by
 unfold Bel at h;split at h <;> exact h.size
theorem Bel.block{W:Wld}{w':World}(h:Bel W w')(k:Nat)(hk:k < W.heap.size)(hl:k ∉ W.lent):w'.heap[k]? = W.heap[k]? := by
 unfold Bel at h;split at h
 ·exact h.block k hk
 ·rename_i x hx;exact h.block k hk fun e=>hl (by rw [hx,e];exact List.mem_singleton.2 rfl)
 ·rename_i x y l hx;exact h.block k hk (by rw [hx]at hl;exact hl)
theorem Bel.mk{W:Wld}{w':World}(h1:w'.os=W.os)(h2:w'.tape=W.tape)(h3:w'.output=W.output)(h4:W.heap.size≤w'.heap.size)(h5:∀ k,k < W.heap.size→k ∉ W.lent→w'.heap[k]? = W.heap[k]?):Bel W w':=by
 unfold Bel;split
 ·rename_i hx;exact⟨h1,h2,h3,h4,fun k hk=>h5 k hk (by rw [hx];simp)⟩
 ·rename_i x hx;exact⟨h1,h2,h3,h4,fun k hk hn=>h5 k hk (by rw [hx];simpa using hn)⟩
 ·rename_i x y l hx;exact⟨h1,h2,h3,h4,fun k hk hn=>h5 k hk (by rw [hx];exact hn)⟩
theorem Bel.trans{W:Wld}{w w':World}(h:Bel W w)(hb:Below w.heap.size w w'):Bel W w' :=
 Bel.mk (hb.os.trans h.os) (hb.tape.trans h.tape) (hb.output.trans h.output) (Nat.le_trans h.size hb.size) fun k hk hl=>(hb.block k (Nat.lt_of_lt_of_le hk h.size)).trans (h.block k hk hl)
theorem Bel.drew{W:Wld}{w:World}(h:Bel W w):Bel W w.drew:=Bel.mk h.os h.tape h.output h.size h.block
theorem Bel.refl(W:Wld):Bel W W.toWorld:=Bel.mk rfl rfl rfl (Nat.le_refl _) fun _ _ _=>rfl
theorem OwnB.out{W:Wld}{b:Nat}(h:OwnB W b):b∈W.lent∨W.heap.size≤b:=by
 unfold OwnB at h;split at h
 ·exact .inr h
 ·rename_i x hx;rcases h with h | h
  ·exact .inl (by rw [hx,h];exact List.mem_singleton.2 rfl)
  ·exact .inr h
 ·rename_i x y l hx;rw [hx];exact h
theorem OwnB.mk{W:Wld}{b:Nat}(h:b∈W.lent∨W.heap.size≤b):OwnB W b:=by
 unfold OwnB;split
 ·rename_i hx;rcases h with h | h
  ·rw [hx]at h;cases h
  ·exact h
 ·rename_i x hx;rcases h with h | h
  ·rw [hx]at h;exact .inl (by simpa using h)
  ·exact .inr h
 ·rename_i x y l hx;rw [hx]at h;exact h
theorem zhp{x:Nat}{W:World}{a:Addr}{v:Value}(h:(hideB x W).cell? a=some v):a.block≠x∧W.cell? a=some v:=by
 have hx:a.block≠x:=by
  intro e;have hb:=World.block_lt_of_cell? _ _ h;unfold World.cell? hideB at h;subst e;simp only [hideB,Array.size_setIfInBounds]at hb;simp [Array.getElem?_setIfInBounds,hb]at h
 refine⟨hx, ?_⟩;rw [← h];unfold World.cell? hideB;rw [Array.getElem?_setIfInBounds_ne (by omega)]
theorem zhn{W:World}{a:Addr}{v:Value}:∀ {xs:List Nat},(hideL xs W).cell? a=some v→a.block ∉ xs∧W.cell? a=some v
  | [],h=>⟨List.not_mem_nil,h⟩
  | x::l,h=>by
    obtain⟨h1,h2⟩:=zhp (show (hideB x (hideL l W)).cell? a=some v from h);obtain⟨h3,h4⟩:=zhn h2;exact⟨fun hm=>(List.mem_cons.1 hm).elim h1 h3,h4⟩
theorem Bel.cell{W:Wld}{w:World}(h:Bel W w){a:Addr}{v:Value}(hc:W.seen.cell? a=some v):w.cell? a=some v:=by
 obtain⟨hb,hc⟩:=zhn hc;rw [← hc];unfold World.cell?;rw [h.block a.block (World.block_lt_of_cell? _ _ hc) hb]
inductive Vl where
 | i (n:Int)
 | b (b:Bool)
 | v (v:Value)
 | s (l:List UInt8)
 | l (xs:List Value)
def vl(o:OMem)(ρ:Env):At→Vl
  | .int _ e=>.i (e.den ρ)
  | .bool e=>.b (e.den ρ)
  | .str l=>.s l
  | .sv i=>.s (ρ.s i)
  | .own k=>match getO o k with
    | some (ce,_,_)=>.l (ceDen ρ b0 ce)
    | none=>.l []
  | a=>.v (a.den ρ b0)
def exA:List At→(Env→Prop)→Env→Prop
 | [],k,ρ=>k ρ
 | .int _ (.var n)::l,k,ρ=>∃ x:Int,exA l k (ρ.setI n x)
 | .bool (.var n)::l,k,ρ=>∃ x:Bool,exA l k (ρ.setB n x)
 | .val n::l,k,ρ=>∃ x:OV,exA l k (ρ.setV n x)
 | .sv n::l,k,ρ=>∃ x:List UInt8,exA l k (ρ.setS n x)
 | .qsl q p _ (.var n) (.var m)::l,k,ρ=>∃ (x:Bool) (y:Nat × Nat) (a b:Int),exA l k ((((ρ.setB q x).setP p y).setI n a).setI m b)
 | _,_,_=>False
def allA(o:OMem):List At→(Env→Prop)→Env→Prop
  | [],k,ρ=>k ρ
  | .int _ (.var n)::l,k,ρ=>∀ x:Int,allA o l k (ρ.setI n x)
  | .bool (.var n)::l,k,ρ=>∀ x:Bool,allA o l k (ρ.setB n x)
  | .val n::l,k,ρ=>∀ x:OV,allA o l k (ρ.setV n x)
  | .sv n::l,k,ρ=>∀ x:List UInt8,allA o l k (ρ.setS n x)
  | .qsl q p _ (.var n) (.var m)::l,k,ρ=>∀ (x:Bool) (y:Nat × Nat) (a b:Int),allA o l k ((((ρ.setB q x).setP p y).setI n a).setI m b)
  | .own j::l,k,ρ=>match getO o j with
    | some ([.var n],_,_)=>∀ x:List OV,allA o l k (ρ.setL n x)
    | _=>False
  | _,_,_=>False
def RowOld(own:Nat→Prop)(b code n base:Nat)(xs:List Value)(sz:Nat)(t:TypeId)(w:World):Prop :=
 xs.length=n * sz∧0 < sz∧((code≤1∧n=0) ∨
  (2≤code∧base=0∧own b∧n≤code - 1∧code - 1≤maxLen∧∃ cur,w.heap[b]? = some (.cells cur t (0,0))∧cur.size=(code - 1) * sz∧cur.toList.take (n * sz)=xs))
def mapCells(es:Array MapEntry):List Value:=es.toList.flatMap fun e=>e.key.cells.toList++e.val.cells.toList
def shOk(c:Nat)(v:Value):Prop:=if c % 2=1 then ∃ cs,v=.agg cs∧cs.size=c / 2 else v.oneCell'=true∧c=2
def OthOk(ob:Option Obj)(n:Nat)(xs:List Value)(t:Nat):Prop:=match t with
 | 0=>n=xs.length∧∃ C ty mk,ob=some (.cells C ty mk)∧C.toList.take xs.length=xs
 | t + 1=>∃ es clock,ob=some (.map es clock)∧mapCells es=xs∧∀ e∈es.toList,shOk ((t + 1) / 1048576) e.key∧shOk ((t + 1) % 1048576) e.val
def RowOkP(own:Nat→Prop)(b code n base:Nat)(xs:List Value)(sz:Nat)(t:TypeId)(w:World):Prop :=
 RowOld own b code n base xs sz t w∨(sz=0∧own b∧2≤code∧OthOk (w.heap[b]?) n xs t)
theorem RowOkP.old{own:Nat→Prop}{b code n base:Nat}{xs:List Value}{sz:Nat}{t:TypeId}{w:World}(h:RowOkP own b code n base xs sz t w)(hz:0 < sz):RowOld own b code n base xs sz t w:=by
 rcases h with h | ⟨h,_⟩
 ·exact h
 ·omega
theorem RowOkP.imp{own own':Nat→Prop}{b code n base:Nat}{xs:List Value}{sz:Nat}{t:TypeId}{w:World}(h:RowOkP own b code n base xs sz t w)(f:2≤code→own b→own' b):RowOkP own' b code n base xs sz t w:=by
 rcases h with ⟨a1,a2,a3⟩ | ⟨a1,a2,a3,a4⟩
 ·refine .inl ⟨a1,a2, ?_⟩;rcases a3 with a3 | ⟨b1,b2,b3,b4⟩
  ·exact .inl a3
  ·exact .inr ⟨b1,b2,f b1 b3,b4⟩
 ·exact .inr ⟨a1,f a3 a2,a3,a4⟩
theorem RowOkP.heap{own:Nat→Prop}{b code n base:Nat}{xs:List Value}{sz:Nat}{t:TypeId}{w w':World}(h:RowOkP own b code n base xs sz t w)(hh:2≤code→w'.heap[b]? = w.heap[b]?):RowOkP own b code n base xs sz t w':=by
 rcases h with ⟨a1,a2,a3⟩ | ⟨a1,a2,a3,a4⟩
 ·refine .inl ⟨a1,a2, ?_⟩;rcases a3 with a3 | ⟨b1,b2,b3,b4,b5,cur,b6,b7,b8⟩
  ·exact .inl a3
  ·exact .inr ⟨b1,b2,b3,b4,b5,cur,by rw [hh b1,b6],b7,b8⟩
 ·exact .inr ⟨a1,a2,a3,by rw [hh a3];exact a4⟩
theorem RowOkP.own{own:Nat→Prop}{b code n base:Nat}{xs:List Value}{sz:Nat}{t:TypeId}{w:World}(h:RowOkP own b code n base xs sz t w)(hc:2≤code):own b:=by
 rcases h with ⟨a1,a2,a3⟩ | ⟨a1,a2,a3,a4⟩
 ·rcases a3 with a3 | ⟨b1,b2,b3,b4⟩
  ·omega
  ·exact b3
 ·exact a2
def Datum:Obj→Prop
 | .loop _=>False
 | .deferred _=>False
 | _=>True
theorem RowOkP.datum{own:Nat→Prop}{b code n base:Nat}{xs:List Value}{sz:Nat}{t:TypeId}{w:World}(h:RowOkP own b code n base xs sz t w)(hc:2≤code):∃ o,w.heap[b]? = some o∧Datum o:=by
 rcases h with ⟨a1,a2,a3⟩ | ⟨a1,a2,a3,a4⟩
 ·rcases a3 with a3 | ⟨b1,b2,b3,b4,b5,cur,b6,b7,b8⟩
  ·omega
  ·exact⟨_,b6,trivial⟩
 ·cases t with
  | zero=>obtain⟨_,C,ty,mk,h,_⟩:=a4;exact⟨_,h,trivial⟩
  | succ t=>obtain⟨es,cl,h,_⟩:=a4;exact⟨_,h,trivial⟩
def EffRow(v:Value)(b code n base:Nat)(xs:List Value)(sz:Nat)(t:TypeId)(W:World)(e:Ending)(w':World):Prop :=
 e=.returned v∧(code≤1→Below W.heap.size W w')∧(2≤code→BelX b W w')∧RowOkP (fun _=>True) b code n base xs sz t w'
abbrev RowOk(lo b code n base:Nat)(xs:List Value)(sz:Nat)(t:TypeId)(w:World):Prop:=RowOkP (fun b=>lo≤b) b code n base xs sz t w
def OwnH(W:Wld)(ρ:Env)(β:Nat→Nat):OMem→World→Prop
 | [],_=>True
 | (k,ce,sz,t)::r,w=>RowOkP (OwnB W) (β k) (β (k + 1)) (β (k + 2)) (β (k + 3)) (ceDen ρ β ce) sz t w∧OwnH W ρ β r w
def MemH(W:Wld)(ρ:Env)(β:Nat→Nat):Mem→OMem→World→Prop
 | [],o,w=>OwnH W ρ β o w
 | (k,cs,t)::r,o,w=>(OwnB W (β k)∧w.heap[β k]? = some (.cells (cs.map (At.den ρ β)).toArray t))∧MemH W ρ β r o w
def SlAt(W:World)(v:Value)(sz:Nat)(xs:List Value):Prop :=
 (v=.slice none 0 0∧xs=[])∨(∃ a,v=.slice (some a) 0 0∧xs=[])∨∃ b o len cap,v=.slice (some ⟨b,o,none⟩) len cap∧xs.length=len * sz∧∀ j u,xs[j]? = some u→W.cell? ⟨b,o + j,none⟩=some u
def u8V(b:UInt8):Value := .int .u8 b.toNat
def LP.den(ρ:Env):LP→List Value
 | .set ce ix sz off l=>(ceDen ρ b0 ce).take ((ix.den ρ).toNat * sz + off)++l.map (At.den ρ b0)++(ceDen ρ b0 ce).drop ((ix.den ρ).toNat * sz + off + l.length)
 | .bts i=>(ρ.s i).map u8V
 | .rep n l=>times (l.map (At.den ρ b0)) (n.den ρ).toNat
def svFlat:SV→Bool
 | .cv c=>c.flat
 | .tup l=>l.all CV.flat
 | _=>true
def getMs(m:Mem):Nat→List TypeId→Option (List (List At))
  | _,[]=>some []
  | k,t::r=>match getM m k,getMs m (k + 1) r with
    | some (cs,t'),some l=>if t'=t then some (cs::l)else none
    | _,_=>none
def At.lentOk(n:Nat):At→Bool
 | .loc k _=>decide (k < n)
 | .fn _ caps=>caps.all fun x=>decide (x.1 < n)
 | a=>a.flat
def lentB(xs:List Nat):Nat→Nat:=fun k=>xs.getD k 0
def effP(v:Value)(l:List (Nat × Array Value × TypeId))(W:World):Ending→World→Prop:=match l with
 | [x]=>Eff v x.1 x.2.1 x.2.2 W
 | l=>EffL v l W
def apartP(l:List Nat)(C:Prop):Prop:=match l with
 | []=>C
 | [_]=>C
 | x::y::l=>(x::y::l).Nodup→C
def PanL(v:Value)(xs:List Nat)(W:World)(e:Ending)(w':World):Prop:=e=.panicked [{v:=v,recovered:=false}]∧BelL xs W w'
theorem apartP.out{l:List Nat}{C:Prop}(h:apartP l C)(hn:l.Nodup):C:=by
 unfold apartP at h;split at h
 ·exact h
 ·exact h
 ·exact h hn
theorem effP.out{v:Value}{l:List (Nat × Array Value × TypeId)}{W:World}{e:Ending}{w':World}(h:effP v l W e w'):EffL v l W e w':=by
 unfold effP at h;split at h
 ·obtain⟨h1,h2,h3⟩:=h;refine⟨h1,⟨h2.os,h2.tape,h2.output,h2.size,fun k hk hn=>h2.block k hk fun e=>hn (by simp [e])⟩,fun y hy => ?_⟩;simp only [List.mem_singleton]at hy;subst hy;exact h3
 ·exact h
def Give(bk ck:Nat)(xs:List Value)(sz:Nat)(t:TypeId)(W:World)(e:Ending)(w':World):Prop :=
  ∃ b code n base,e=.returned (ownV b code n base)∧RowOkP (fun _=>True) b code n base xs sz t w'∧(w'.os=W.os∧w'.tape=W.tape∧w'.output=W.output∧W.heap.size≤w'.heap.size) ∧
    (∀ x,x < W.heap.size→(2≤ck→x≠bk)→w'.heap[x]? = W.heap[x]?)∧(2≤code→W.heap.size≤b∨(2≤ck∧b=bk))
def PA(P:Program)(W:Wld)(Q:Value→Prop)(QM QP:World→Value→Prop):Alg (Env→Prop) where
  fail _:=fun _=>False
  fin v m o:=fun ρ=>match svFlat v with
    | true=>Q (v.den ρ b0)
    | false=>∀ (β:Nat→Nat) (w':World),Bel W w'→MemH W ρ β m o w'→QM w' (v.den ρ β)
  int n p k:=fun ρ=>∀ x:Int,x=p.den ρ→k (ρ.setI n x)
  chk e k:=fun ρ=>e.prop ρ∧k ρ
  ite e t f:=fun ρ=>(e.prop ρ→t ρ)∧(¬ e.prop ρ→f ρ)
  call f args m o fr r k:=fun ρ=>exA fr (fun ρ'=>(match args.all svFlat with
    | true=>∀ w':World,Bel W w'→Calls P f (args.map (SV.den ρ b0)).toArray w' (Ret (r.den ρ' b0) w')
    | false=>∀ (β:Nat→Nat) (w':World),Bel W w'→MemH W ρ β m o w'→Calls P f (args.map (SV.den ρ β)).toArray w' (Ret (r.den ρ' b0) w'))∧k ρ') ρ
  xcall f args fr r k:=fun ρ=>exA fr (fun ρ'=>(args.all svFlat=true∧∀ w':World,(callFunc f (args.map (SV.den ρ b0)).toArray).run P w'=.ok (.value (r.den ρ' b0)) w')∧k ρ') ρ
  load a p ix sz off k:=fun ρ=>exA [a] (fun ρ'=>W.seen.cell? ⟨(ρ.p p).1,(ρ.p p).2 + (ix.den ρ).toNat * sz + off,none⟩=some (a.den ρ' b0)∧k ρ') ρ
  loop oi i fo fr body:=fun ρ=>∃ (Inv:List Vl→Prop) (μ:List Vl→Nat),Inv (i.map (vl oi ρ)) ∧
    allA fo fr (fun ρ'=>Inv (fr.map (vl fo ρ'))→body (fun oy ys ρ''=>Inv (ys.map (vl oy ρ''))∧μ (ys.map (vl oy ρ'')) < μ (fr.map (vl fo ρ'))) ρ') ρ
  rd a ce ix sz off k:=fun ρ=>exA [a] (fun ρ'=>(ceDen ρ b0 ce)[(ix.den ρ).toNat * sz + off]? = some (a.den ρ' b0)∧k ρ') ρ
  lst n lp k:=fun ρ=>∀ L:List OV,L.map (·.1)=lp.den ρ→k (ρ.setL n L)
  ecp n x sz k:=fun ρ=>∃ L:List OV,SlAt W.seen (x.den ρ b0) sz (L.map (·.1))∧k (ρ.setL n L)
  finL v m o ts:=fun ρ=>match getMs m 0 ts with
    | some l=>(match svFlat v && l.all (fun cs=>cs.all (At.lentOk ts.length))with
      | true=>Q (.agg (v.den ρ b0::l.map fun cs=>.agg (cs.map (At.den ρ (lentB W.lent))).toArray).toArray)
      | false=>False)
    | none=>False
  finR v o sz t:=fun ρ=>match getO o 0 with
    | some (ce,sz',t')=>(match svFlat v && ceFlat ce && decide (sz'=sz∧t'=t)with
      | true=>Q (.agg #[v.den ρ b0,.agg (ceDen ρ b0 ce).toArray])
      | false=>False)
    | none=>False
  rcall f args m o k n sz t fr r K:=fun ρ=>∃ L:List OV,exA fr (fun ρ'=>(∀ (β:Nat→Nat) (w':World),Bel W w'→MemH W ρ β m o w'→Calls P f (args.map (SV.den ρ β)).toArray w' (EffRow (r.den ρ' b0) (β k) (β (k + 1)) (β (k + 2)) (β (k + 3)) (L.map (·.1)) sz t w'))∧K ρ') (ρ.setL n L)
  glo g cs ty k:=fun ρ=>(∃ ty' mk,W.seen.heap[g]? = some (.cells (cs.map (At.den ρ b0)).toArray ty' mk))∧k ρ
  ifc n t v k:=fun ρ=>∀ x:OV,x.1=.iface t (v.den ρ b0)→k (ρ.setV n x)
  alt p q:=fun ρ=>p ρ∨q ρ
  pcall f args m o ks fr t v n k:=fun ρ=>exA fr (fun ρ'=>(∀ (β:Nat→Nat) (w':World),Bel W w'→MemH W ρ β m o w'→apartP (ks.map β) (Calls P f (args.map (SV.den ρ β)).toArray w' (PanL (.iface t (v.den ρ' b0)) (ks.map β) w')))∧∀ x:OV,x.1=.iface t (v.den ρ' b0)→k (ρ'.setV n x)) ρ
  gcall f args m o k ce sz t K:=fun ρ=>(∀ (β:Nat→Nat) (w':World),Bel W w'→MemH W ρ β m o w'→Calls P f (args.map (SV.den ρ β)).toArray w' (Give (β k) (β (k + 1)) (ceDen ρ β ce) sz t w'))∧K ρ
  mfnd n ce kc ks ne k:=fun ρ=>keysOk ks (ks.length + ne) (ceDen ρ b0 ce)=true∧∀ x:Int,x=mfind ks.length (ks.length + ne) (kc.map (At.den ρ b0)) (ceDen ρ b0 ce)→k (ρ.setI n x)
  mark _ _ _ _ k:=k
  finP i:=fun ρ=>∀ w':World,Bel W w'→QP w' (ρ.v i).1
  str n p k:=fun ρ=>p.ok ρ∧∀ s:List UInt8,s=p.den ρ→k (ρ.setS n s)
  ecall f args m o js fr r k:=fun ρ=>exA fr (fun ρ'=>(∀ (β:Nat→Nat) (w':World),Bel W w'→MemH W ρ β m o w'→apartP (js.map fun x=>β x.1) (Calls P f (args.map (SV.den ρ β)).toArray w' (effP (r.den ρ' b0) (js.map fun x=>(β x.1,(x.2.1.map (At.den ρ' β)).toArray,x.2.2)) w')))∧k ρ') ρ
theorem zsc(c:Ctr)(ρ:Env)(x:Int):Env.like c ρ (ρ.setI c.ni x) :=
 ⟨fun j hj=>if_neg (Nat.ne_of_lt hj),fun _ _=>rfl,fun _ _=>rfl,fun _ _=>rfl,fun _ _=>rfl,fun _ _=>rfl⟩
theorem zjp(c:Ctr)(ρ:Env)(x:Bool):Env.like c ρ (ρ.setB c.nb x) :=
 ⟨fun _ _=>rfl,fun j hj=>if_neg (Nat.ne_of_lt hj),fun _ _=>rfl,fun _ _=>rfl,fun _ _=>rfl,fun _ _=>rfl⟩
theorem zpf(c:Ctr)(ρ:Env)(x:OV):Env.like c ρ (ρ.setV c.nv x) :=
 ⟨fun _ _=>rfl,fun _ _=>rfl,fun j hj=>if_neg (Nat.ne_of_lt hj),fun _ _=>rfl,fun _ _=>rfl,fun _ _=>rfl⟩
theorem zqf(c:Ctr)(ρ:Env)(x:List UInt8):Env.like c ρ (ρ.setS c.ns x) :=
 ⟨fun _ _=>rfl,fun _ _=>rfl,fun _ _=>rfl,fun _ _=>rfl,fun j hj=>if_neg (Nat.ne_of_lt hj),fun _ _=>rfl⟩
theorem zia(c:Ctr)(ρ:Env)(x:List OV):Env.like c ρ (ρ.setL c.nl x) :=
 ⟨fun _ _=>rfl,fun _ _=>rfl,fun _ _=>rfl,fun _ _=>rfl,fun _ _=>rfl,fun j hj=>if_neg (Nat.ne_of_lt hj)⟩
theorem zkp(c:Ctr)(ρ:Env)(x:Bool)(y:Nat × Nat)(a b:Int):Env.like c ρ ((((ρ.setB c.nb x).setP c.np y).setI c.ni a).setI (c.ni + 1) b) :=
 ⟨fun j hj=>by
  show (if j=c.ni + 1 then b else if j=c.ni then a else ρ.i j)=ρ.i j;rw [if_neg (by omega),if_neg (by omega)],fun j hj=>if_neg (Nat.ne_of_lt hj),fun _ _=>rfl,fun j hj=>if_neg (Nat.ne_of_lt hj),fun _ _=>rfl,fun _ _=>rfl⟩
theorem zx(c:Ctr)(k:CK):c.le (freshC c k):=by
 cases k <;> constructor <;> simp [freshC]
theorem zeb:∀ (ks:List CK) (c:Ctr),c.le (freshLC c ks)
 | [],c=>Ctr.le_refl c
 | k::l,c=>Ctr.le_trans (zx c k) (zeb l _)
theorem zli(c:Ctr)(k:CK):(fresh1 c k).wf (freshC c k)=true:=by
 cases k <;> simp [fresh1,freshC,At.wf,IE.wf,BE.wf]
theorem zgd:∀ (ks:List CK) (c:Ctr),(freshL c ks).all (At.wf (freshLC c ks))=true
  | [],c=>rfl
  | k::l,c=>by
    simp only [freshL,freshLC,List.all_cons,Bool.and_eq_true];exact⟨At.wf_le (zeb l _) (zli c k),zgd l _⟩
theorem zve(c:Ctr)(k:CK)(h:k.plain=true):(fresh1 c k).flat=true:=by cases k <;> first | rfl | cases h
theorem zhd:∀ (ks:List CK) (c:Ctr),ks.all CK.plain=true→(freshL c ks).all At.flat=true
  | [],c,_=>rfl
  | k::l,c,h=>by
    simp only [List.all_cons,Bool.and_eq_true]at h;simp only [freshL,List.all_cons,zve c k h.1,zhd l _ h.2,Bool.and_self]
theorem zbb:∀ (ks:List CK) (c:Ctr) {k:Env→Prop} {ρ:Env},exA (freshL c ks) k ρ→∃ ρ',Env.like c ρ ρ'∧k ρ'
  | [],c,k,ρ,h=>⟨ρ,Env.like_refl _ _,h⟩
  | .int kd::l,c,k,ρ,h=>by
    obtain⟨x,h⟩:=h;obtain⟨ρ',h1,h2⟩:=zbb l _ h;exact⟨ρ',Env.like_trans (zx c (.int kd)) (zsc c ρ x) h1,h2⟩
  | .bool::l,c,k,ρ,h=>by
    obtain⟨x,h⟩:=h;obtain⟨ρ',h1,h2⟩:=zbb l _ h;exact⟨ρ',Env.like_trans (zx c .bool) (zjp c ρ x) h1,h2⟩
  | .oth::l,c,k,ρ,h=>by
    obtain⟨x,h⟩:=h;obtain⟨ρ',h1,h2⟩:=zbb l _ h;exact⟨ρ',Env.like_trans (zx c .oth) (zpf c ρ x) h1,h2⟩
  | .str::l,c,k,ρ,h=>by
    obtain⟨x,h⟩:=h;obtain⟨ρ',h1,h2⟩:=zbb l _ h;exact⟨ρ',Env.like_trans (zx c .str) (zqf c ρ x) h1,h2⟩
  | .sl sz::l,c,k,ρ,h=>by
    obtain⟨x,y,a,b,h⟩:=h;obtain⟨ρ',h1,h2⟩:=zbb l _ h;exact⟨ρ',Env.like_trans (zx c (.sl sz)) (zkp c ρ x y a b) h1,h2⟩
  | .own sz t::l,c,k,ρ,h=>h.elim
def Res(c:Ctr)(ρ:Env)(K:SV→Ctr→Env→Prop)(V:SV→Env→Prop):Prop :=
 ∃ sv c' ρ',K sv c' ρ'∧c.le c'∧Env.like c ρ ρ'∧∀ ρ'',Env.like c' ρ' ρ''→V sv ρ''
theorem Res.pure{c:Ctr}{ρ:Env}{K:SV→Ctr→Env→Prop}{V:SV→Env→Prop}{sv:SV}(h:K sv c ρ)(hv:∀ ρ'',Env.like c ρ ρ''→V sv ρ''):Res c ρ K V :=
 ⟨sv,c,ρ,h,Ctr.le_refl _,Env.like_refl _ _,hv⟩
theorem Res.mono{c:Ctr}{ρ:Env}{K:SV→Ctr→Env→Prop}{V V':SV→Env→Prop}(h:Res c ρ K V)(hv:∀ sv ρ'',Env.like c ρ ρ''→V sv ρ''→V' sv ρ''):Res c ρ K V':=by
 obtain⟨sv,c',ρ',h1,h2,h3,h4⟩:=h;exact⟨sv,c',ρ',h1,h2,h3,fun ρ'' h5=>hv sv ρ'' (Env.like_trans h2 h3 h5) (h4 ρ'' h5)⟩
variable {P:Program} {W:Wld} {Q:Value→Prop} {QM QP:World→Value→Prop}
theorem zba{c:Ctr}{k:IntKind}{p:IP}{K:SV→Ctr→Env→Prop}{ρ:Env}(h:doInt (PA P W Q QM QP) c k p K ρ) :
    Res c ρ K fun sv ρ''=>∀ β,sv.den ρ'' β=.int k (p.den ρ'')∧sv ≠ .any:=by
  unfold doInt at h;cases hl:p.lits with
  | true =>
    rw [hl]at h;simp only [zdl]at h;exact Res.pure h fun ρ'' _ β=>⟨by simp only [SV.den,CV.den,At.den,IE.den];rw [IP.den_lits hl],by simp⟩
  | false =>
    rw [hl]at h;simp only at h;split at h
    · rename_i hw;have h1:=h (p.den ρ) rfl;have hle:c.le {c with ni:=c.ni + 1}:=zx c (.int k);refine⟨_,_,_,h1,hle,zsc c ρ _,fun ρ'' hl β=>⟨?_,by simp⟩⟩
      have e1:ρ''.i c.ni=p.den ρ:=by
        rw [hl.i c.ni (Nat.lt_succ_self _)];exact if_pos rfl
      simp only [SV.den,CV.den,At.den,IE.den,e1];rw [IP.den_like (Env.like_trans hle (zsc c ρ _) hl) hw]
    · exact h.elim
theorem zid{c:Ctr}{p:SP}{K:SV→Ctr→Env→Prop}{ρ:Env}(h:doStr (PA P W Q QM QP) c p K ρ) :
  Res c ρ K fun sv ρ''=>p.ok ρ''∧sv ≠ .any∧∀ β,sv.den ρ'' β=.string ⟨(p.den ρ'').toArray⟩:=by
 unfold doStr at h;split at h
 ·rename_i hl;rw [zlg]at h
  exact Res.pure h fun ρ'' _=>⟨(SP.lits_den (ρ':=ρ'') hl.1 hl.2).2,by simp,fun β=>by
   simp only [SV.den,CV.den,At.den];rw [(SP.lits_den (ρ:=Env.zero) (ρ':=ρ'') hl.1 hl.2).1]⟩
 split at h
 ·rename_i hw;obtain⟨h0,h1⟩:=h;have h1:=h1 (p.den ρ) rfl;have hle:c.le {c with ns:=c.ns + 1}:=zx c .str;refine⟨_,_,_,h1,hle,zqf c ρ _,fun ρ'' hl => ?_⟩
  have e1:ρ''.s c.ns=p.den ρ:=by
   rw [hl.s c.ns (Nat.lt_succ_self _)];exact if_pos rfl
  have hk:=SP.like (Env.like_trans hle (zqf c ρ _) hl) hw;refine⟨hk.2 h0,by simp,fun β => ?_⟩;simp only [SV.den,CV.den,At.den,e1];rw [hk.1]
 ·exact h.elim
theorem zoa(ρ:Env)(n:Int):(IE.lit n).den ρ=n:=rfl
theorem iteB{ρ:Env}{d:BE}{t f:Env→Prop}(h:(d.prop ρ→t ρ)∧(¬ d.prop ρ→f ρ)):(d.den ρ=true∧t ρ)∨(d.den ρ=false∧f ρ):=by
 by_cases hd:d.den ρ=true
 ·exact .inl ⟨hd,h.1 ((BE.prop_iff ρ d).2 hd)⟩
 ·exact .inr ⟨by simpa using hd,h.2 fun hp=>hd ((BE.prop_iff ρ d).1 hp)⟩
theorem zb{e:BE}{r:Env→Prop}{ρ:Env}(h:doChk (PA P W Q QM QP) e r ρ):e.prop ρ∧r ρ:=by
  unfold doChk at h;have hs:=BE.den_sim ρ e;generalize e.sim=d at h hs;have key:d.prop ρ∧r ρ→e.prop ρ∧r ρ:=fun hh=>⟨(BE.prop_iff ρ e).2 (hs▸(BE.prop_iff ρ _).1 hh.1),hh.2⟩;cases d with
  | lit b=>cases b with
    | true=>exact key ⟨rfl,h⟩
    | false=>exact key h
  | _=>exact key h
theorem zaa{e:BE}{t f:Unit→Env→Prop}{ρ:Env}(h:doFork (PA P W Q QM QP) e t f ρ):(e.den ρ=true∧t () ρ)∨(e.den ρ=false∧f () ρ):=by
  unfold doFork at h;split at h
  · exact .inl ⟨rfl,h⟩
  · exact .inr ⟨rfl,h⟩
  rw [← BE.den_sim ρ e];generalize e.sim=d at h;cases d with
  | lit b=>cases b with
    | true=>exact .inl ⟨rfl,h⟩
    | false=>exact .inr ⟨rfl,h⟩
  | not d =>
    rcases iteB h with ⟨h1,h2⟩ | ⟨h1,h2⟩
    · exact .inr ⟨by simp only [BE.den,h1,Bool.not_true],h2⟩
    · exact .inl ⟨by simp only [BE.den,h1,Bool.not_false],h2⟩
  | cmp op a b =>
    cases op
    case neq =>
      rcases iteB (d := .cmp .eql a b) h with ⟨h1,h2⟩ | ⟨h1,h2⟩
      · exact .inr ⟨by simp only [BE.den,cmpB]at h1 ⊢;simp [bne,h1],h2⟩
      · exact .inl ⟨by simp only [BE.den,cmpB]at h1 ⊢;simp [bne,h1],h2⟩
    all_goals exact iteB h
  | _=>exact iteB h
theorem znb{e:IE}{n:Nat}{K:Nat→Env→Prop}{ρ:Env}(h0:0≤e.den ρ)(h1:e.den ρ < n) :
    ∀ (j:Nat),j≤n→((n - j:Nat):Int)≤e.den ρ→doCases (PA P W Q QM QP) e n j K ρ→∃ m:Nat,m < n∧e.den ρ=m∧K m ρ
  | 0,_,_,h=>h.elim
  | 1,hj,hl,h=>⟨n - 1,by omega,by omega,h⟩
  | j + 2,hj,hl,h=>by
    rcases zaa h with ⟨hd,h⟩ | ⟨hd,h⟩
    · simp only [BE.den,cmpB,zoa,beq_iff_eq]at hd;exact⟨n - (j + 2),by omega,hd,h⟩
    · simp only [BE.den,cmpB,zoa,beq_eq_false_iff_ne,ne_eq]at hd;exact znb h0 h1 (j + 1) (by omega) (by omega) h
theorem ziy(op:BinOp)(t:TypeId)(k:IntKind)(a b:Int)(w:World)(h:isArith op=true):(binOp op t (.int k a) (.int k b)).run P w=.ok (.int k (ibin op k a b)) w:=by
 cases op <;> first | (simp [isArith]at h;done) | (simp [binOp,Op.intArith,Op.intBits,ibin,bits])
theorem zjy(op:BinOp)(t:TypeId)(k:IntKind)(a b:Int)(w:World)(h:op=.quo∨op=.rem)(hb:b≠0):(binOp op t (.int k a) (.int k b)).run P w=.ok (.int k (ibin op k a b)) w:=by
 rcases h with rfl | rfl <;> simp [binOp,Op.intDiv,ibin,hb]
theorem zky(op:BinOp)(t:TypeId)(k:IntKind)(a b:Int)(w:World)(h:isCmp op=true):(binOp op t (.int k a) (.int k b)).run P w=.ok (.bool (cmpB op a b)) w:=by
 cases op <;> first | (simp [isCmp]at h;done) | (simp [binOp,Op.intCmp,cmpB])
theorem zzs(t:TypeId)(k k':IntKind)(a b:Int)(w:World)(hb:0≤b):(binOp .shl t (.int k a) (.int k' b)).run P w=.ok (.int k (ibin .shl k a b)) w:=by
 have:¬ b < 0:=by omega
 simp [binOp,Op.shift,ibin,this]
theorem zat(t:TypeId)(k k':IntKind)(a b:Int)(w:World)(hb:0≤b):(binOp .shr t (.int k a) (.int k' b)).run P w=.ok (.int k (ibin .shr k a b)) w:=by
 have:¬ b < 0:=by omega
 simp [binOp,Op.shift,ibin,this]
theorem ziba(k:IntKind)(a n:Int)(h0:0≤n)(h1:n.toNat < k.bits):ibin .shl k a n=k.wrap (a * ((2 ^ n.toNat:Nat):Int)):=by
 simp only [ibin];rw [show Nat.min n.toNat k.bits=n.toNat from Nat.min_eq_left (by omega)]
 norm_cast
theorem zjba(k:IntKind)(a n:Int)(h0:0≤n)(h1:n.toNat < k.bits):ibin .shr k a n=a / ((2 ^ n.toNat:Nat):Int):=by
 simp only [ibin];rw [show Nat.min n.toNat k.bits=n.toNat from Nat.min_eq_left (by omega)];rw [show ((2:Int) ^ n.toNat)=((2 ^ n.toNat:Nat):Int) by norm_cast];exact Int.fdiv_eq_ediv_of_nonneg _ (Int.natCast_nonneg _)
theorem zqr(op:BinOp)(t:TypeId)(x y:Operand)(k k':IntKind)(a b:Int)(w:World):(eqGuard op t x y (.int k a) (.int k' b)).run P w=.ok () w:=by
 cases op <;> simp [eqGuard]
theorem zgk(op:BinOp)(t:TypeId)(x y:Operand)(a b:Bool)(w:World):(eqGuard op t x y (.bool a) (.bool b)).run P w=.ok () w:=by
 cases op <;> simp [eqGuard]
def BinV(P:Program)(op:BinOp)(t:TypeId)(x y:SV)(sv:SV)(ρ:Env):Prop :=
 sv ≠ .any∧∀ (β:Nat→Nat) (w:World) (xo yo:Operand),((do eqGuard op t xo yo (x.den ρ β) (y.den ρ β);binOp op t (x.den ρ β) (y.den ρ β)):Sem Value).run P w=.ok (sv.den ρ β) w
theorem BinV.ints{op:BinOp}{t:TypeId}{k k':IntKind}{a b:IE}{sv:SV}{ρ:Env}(h0:sv ≠ .any)
  (h:∀ (β:Nat→Nat) (w:World),(binOp op t (.int k (a.den ρ)) (.int k' (b.den ρ))).run P w=.ok (sv.den ρ β) w):BinV P op t (.cv (.one (.int k a))) (.cv (.one (.int k' b))) sv ρ:=by
 refine⟨h0,fun β w xo yo => ?_⟩;simp only [SV.den,CV.den,At.den,Sem.run_bind,zqr,Result.andThen_ok];exact h β w
end Vc
set_option linter.unusedVariables false
namespace Vc
open Go Go.RowKit
variable {P:Program}
theorem zja{k:CK}{r:List CK}{a b:List At}{e:BE}(h:eqCells (k::r) a b=some e) :
    ∃ a0 x b0 y e1 e2,a=a0::x∧b=b0::y∧eqOne k a0 b0=some e1∧eqCells r x y=some e2∧e=.and e1 e2:=by
  cases a with
  | nil=>simp [eqCells]at h
  | cons a0 x =>
    cases b with
    | nil=>simp [eqCells]at h
    | cons b0 y =>
      simp only [eqCells]at h;split at h
      · rename_i e1 e2 h1 h2;simp only [Option.some.injEq]at h;exact⟨a0,x,b0,y,e1,e2,rfl,rfl,h1,h2,h.symm⟩
      · cases h
theorem zce(ρ:Env):∀ (k1 k2:List CK) {a b:List At} {e:BE},eqCells (k1++k2) a b=some e →
    ∃ e1 e2,eqCells k1 (a.take k1.length) (b.take k1.length)=some e1∧eqCells k2 (a.drop k1.length) (b.drop k1.length)=some e2∧e.den ρ=(e1.den ρ && e2.den ρ)
  | [],k2,a,b,e,h=>⟨.lit true,e,by simp [eqCells],by simpa using h,by simp [BE.den]⟩
  | c::k1,k2,a,b,e,h=>by
    obtain⟨a0,x,b0,y,e1,e2,rfl,rfl,h1,h2,rfl⟩:=zja h;obtain⟨f1,f2,q1,q2,q3⟩:=zce ρ k1 k2 h2;exact⟨.and e1 f1,f2,by simp [eqCells,h1,q1],by simpa using q2,by simp only [BE.den,q3,Bool.and_assoc]⟩
def VIs(P:Program)(t:TypeId)(ρ:Env)(β:Nat→Nat)(x:Value)(xs:List At):Prop :=
 match P.underlying t with
 | some (.struct _) | some (.array _ _)=>x=.agg (xs.map (At.den ρ β)).toArray
 | _=>∃ a,xs=[a]∧x=a.den ρ β
theorem zra{t:TypeId}{g:Bool}{n:Nat}(h:szAgg P t=some (g,n)) :
  ∃ d i,P.underlying t=some d∧P.info? t=some i∧n=i.size∧g=(match d with | .struct _ | .array _ _=>true | _=>false):=by
 unfold szAgg at h;split at h
 ·rename_i d i h1 h2;simp only [Option.some.injEq,Prod.mk.injEq]at h;exact⟨d,i,h1,h2,h.2.symm,h.1.symm⟩
 ·cases h
theorem zmi{t:TypeId}{g:Bool}{n:Nat}(h:szAgg P t=some (g,n))(w:World):(isAgg t).run P w=.ok g w:=by
 obtain⟨d,i,h1,h2,rfl,rfl⟩:=zra h;unfold isAgg;simp only [Sem.run_bind,run_underlying h1,Result.andThen_ok];cases d <;> rfl
theorem zka{t:TypeId}{g:Bool}{n:Nat}(h:szAgg P t=some (g,n))(w:World):(Go.sizeOf t).run P w=.ok n w:=by
 obtain⟨d,i,h1,h2,rfl,rfl⟩:=zra h;simp [Go.sizeOf,typeInfo,h2]
theorem zrr(xs:List Value)(off n:Nat):(xs.toArray.extract off (off + n))=((xs.drop off).take n).toArray:=by
 apply Array.ext';rw [Array.toList_extract];simp [List.extract]
theorem zhl{t:TypeId}{g:Bool}{n:Nat}(h:szAgg P t=some (g,n))(hg:g=true)(xs:List Value)(off:Nat)(w:World) :
  (part t xs.toArray off).run P w=.ok (.agg ((xs.drop off).take n).toArray) w:=by
 subst hg;simp only [part,Sem.run_bind,zmi h,Result.andThen_ok,if_true,zka h,Sem.run_pure,zrr]
theorem zlp{t:TypeId}{g:Bool}{n:Nat}(h:szAgg P t=some (g,n))(hg:g=false)(xs:List Value)(off:Nat)(v:Value)(hv:xs[off]? = some v)(w:World) :
  (part t xs.toArray off).run P w=.ok v w:=by
 subst hg;simp [part,zmi h,hv]
theorem zic(ρ:Env):∀ {ks:List CK} {a b:List At} {e:BE},eqCells ks a b=some e→a.length=ks.length∧b.length=ks.length
  | [],a,b,e,h=>by
    cases a with
    | nil=>cases b with
      | nil=>exact⟨rfl,rfl⟩
      | cons _ _=>simp [eqCells]at h
    | cons _ _=>simp [eqCells]at h
  | c::ks,a,b,e,h=>by
    obtain⟨a0,x,b0,y,e1,e2,rfl,rfl,h1,h2,rfl⟩:=zja h
    have:=zic ρ h2
    simp [this]
theorem zqj{t:TypeId}{g:Bool}{n:Nat}(h:szAgg P t=some (g,n)){ρ:Env}{β:Nat→Nat}(xs:List At)(off:Nat)(hs:g=false→n=1)(hl:((xs.drop off).take n).length=n)(w:World) :
    ∃ v,(part t (xs.map (At.den ρ β)).toArray off).run P w=.ok v w∧VIs P t ρ β v ((xs.drop off).take n):=by
  obtain⟨d,i,h1,h2,rfl,rfl⟩:=zra h;cases d
  case struct fs =>
    exact⟨_,zhl h rfl _ off w,by simp [VIs,h1,List.map_take,List.map_drop]⟩
  case array m e =>
    exact⟨_,zhl h rfl _ off w,by simp [VIs,h1,List.map_take,List.map_drop]⟩
  all_goals
    rw [hs rfl]at hl ⊢;cases hx:(xs.drop off).take 1 with
    | nil=>rw [hx]at hl;simp at hl
    | cons a r =>
      have hr:r=[]:=by rw [hx]at hl;simpa using hl
      subst hr
      have ha:xs[off]? = some a:=by
        have h3:((xs.drop off).take 1)[0]? = some a:=by rw [hx];rfl
        rw [List.getElem?_take_of_lt (by omega),List.getElem?_drop]at h3;simpa using h3
      exact⟨a.den ρ β,zlp h rfl _ off _ (by simp [ha]) w,by simp [VIs,h1]⟩
def EqOk(P:Program)(d:Nat)(t:TypeId)(ks:List CK):Prop :=
 ∀ (ρ:Env) (β:Nat→Nat) (xs ys:List At) (e:BE) (x y:Value) (w:World),eqCells ks xs ys=some e→VIs P t ρ β x xs→VIs P t ρ β y ys→(Op.equalIn d t x y).run P w=.ok (e.den ρ) w
theorem zil{d:Nat}{f:TypeId→Option (List CK)}(IH:∀ t ks,f t=some ks→EqOk P d t ks∧(∀ g n,szAgg P t=some (g,n)→g=false→ks.length=1))(ρ:Env)(β:Nat→Nat)(xs ys:List At)(w:World) :
    ∀ (fs:List Field) (off:Nat) (ks:List CK) (e:BE),eqFs P f off fs=some ks→eqCells ks (xs.drop off) (ys.drop off)=some e →
      (Op.eqFields d (xs.map (At.den ρ β)).toArray (ys.map (At.den ρ β)).toArray fs).run P w=.ok (e.den ρ) w
  | [],off,ks,e,h,he=>by
    simp only [eqFs,Option.some.injEq]at h;subst h
    have:=zic ρ he
    have h1:xs.drop off=[]:=List.eq_nil_of_length_eq_zero (by simpa using this.1);have h2:ys.drop off=[]:=List.eq_nil_of_length_eq_zero (by simpa using this.2);rw [h1,h2]at he;simp only [eqCells,Option.some.injEq]at he;subst he;simp [Op.eqFields,BE.den]
  | fd::r,off,ks,e,h,he=>by
    simp only [eqFs]at h;split at h
    · cases h
    · rename_i hn;simp only [not_or,Decidable.not_not]at hn;obtain⟨hn,ho⟩:=hn;split at h
      · rename_i k1 g n h1 h2;split at h
        · rename_i hl;simp only [Option.map_eq_some_iff]at h;obtain⟨k2,h3,rfl⟩:=h;obtain⟨e1,e2,q1,q2,q3⟩:=zce ρ k1 k2 he;obtain⟨ok1,sc⟩:=IH _ _ h1;have len1:=zic ρ q1;subst hl;obtain⟨v,p1,v1⟩:=zqj (ρ:=ρ) (β:=β) h2 xs off (fun hg=>sc _ _ h2 hg) len1.1 w;obtain⟨u,p2,u1⟩:=zqj (ρ:=ρ) (β:=β) h2 ys off (fun hg=>sc _ _ h2 hg) len1.2 w;have r1:=ok1 ρ β _ _ e1 v u w q1 v1 u1;have r2:=zil IH ρ β xs ys w r (off + k1.length) k2 e2 h3 (by rw [List.drop_drop]at q2;rw [List.drop_drop]at q2;exact q2);subst ho;simp only [Op.eqFields,hn,ne_eq,not_false_eq_true,if_true,Sem.run_bind,p1,p2,r1,Result.andThen_ok,q3];cases e1.den ρ
          · simp
          · simpa using r2
        · cases h
      · cases h
theorem zin{d:Nat}{t:TypeId}{k1:List CK}{g:Bool}(ok1:EqOk P d t k1)(hz:szAgg P t=some (g,k1.length))(sc:g=false→k1.length=1)(ρ:Env)(β:Nat→Nat)(xs ys:List At)(w:World) :
    ∀ (m i:Nat) (e:BE),eqCells (times k1 m) (xs.drop (i * k1.length)) (ys.drop (i * k1.length))=some e →
      (Op.eqItems d t k1.length (xs.map (At.den ρ β)).toArray (ys.map (At.den ρ β)).toArray (List.range' i m)).run P w=.ok (e.den ρ) w
  | 0,i,e,he=>by
    have:=zic ρ he
    have h1:xs.drop (i * k1.length)=[]:=List.eq_nil_of_length_eq_zero (by simpa [times]using this.1);have h2:ys.drop (i * k1.length)=[]:=List.eq_nil_of_length_eq_zero (by simpa [times]using this.2);rw [h1,h2]at he;simp only [times,eqCells,Option.some.injEq]at he;subst he;simp [Op.eqItems,BE.den]
  | m + 1,i,e,he=>by
    obtain⟨e1,e2,q1,q2,q3⟩:=zce ρ k1 (times k1 m) he;have len1:=zic ρ q1;obtain⟨v,p1,v1⟩:=zqj (ρ:=ρ) (β:=β) hz xs (i * k1.length) sc len1.1 w;obtain⟨u,p2,u1⟩:=zqj (ρ:=ρ) (β:=β) hz ys (i * k1.length) sc len1.2 w;have r1:=ok1 ρ β _ _ e1 v u w q1 v1 u1;have r2:=zin ok1 hz sc ρ β xs ys w m (i + 1) e2 (by rw [List.drop_drop,List.drop_drop]at q2;rw [Nat.add_mul,Nat.one_mul];exact q2);rw [List.range'_succ];simp only [Op.eqItems,Sem.run_bind,p1,p2,r1,Result.andThen_ok,q3];cases e1.den ρ
    · simp
    · simpa using r2
theorem zsr(bs:ByteArray)(i:Nat)(r:List UInt8):ByteArray.toList.loop bs i r=r.reverse++bs.data.toList.drop i:=by
  fun_induction ByteArray.toList.loop bs i r with
  | case1 i r h ih =>
    rw [ih];have h':i < bs.data.size:=h
    have h2:bs.data.toList.drop i=bs.get! i::bs.data.toList.drop (i + 1):=by
      rw [List.drop_eq_getElem_cons (by simpa using h')];congr 1
      cases bs with | mk d =>
        show d.toList[i]=d[i]!;rw [getElem!_pos d i h'];simp
    rw [h2];simp
  | case2 i r h =>
    have:bs.data.toList.drop i=[]:=List.drop_eq_nil_of_le (by have:¬ i < bs.data.size:=h;simpa using Nat.le_of_not_lt this)
    simp [this]
theorem zmp(l:List UInt8):(⟨l.toArray⟩:ByteArray).toList=l:=by
 unfold ByteArray.toList;rw [zsr];simp
theorem zpb{a:At}{s:SE}(h:strOf a=some s)(ρ:Env)(β:Nat→Nat):a.den ρ β=.string ⟨(s.den ρ).toArray⟩:=by
 cases a <;> simp only [strOf,Option.some.injEq,reduceCtorEq]at h <;> subst h <;> rfl
theorem str_eq(a b:List UInt8):((⟨a.toArray⟩:ByteArray)=⟨b.toArray⟩)↔a=b:=by
 simp
theorem zwe:∀ (n:Nat) (t:TypeId) (ks:List CK),eqTy P n t=some ks→∀ g m,szAgg P t=some (g,m)→g=false→ks.length=1
  | 0,_,_,h=>by cases h
  | n + 1,t,ks,h=>by
    intro g m hz hg;obtain⟨d,i,h1,h2,rfl,rfl⟩:=zra hz;simp only [eqTy,h1]at h;cases d <;> simp only [reduceCtorEq,Option.some.injEq]at h hg
    all_goals (subst h;rfl)
theorem zjl(d:Nat):∀ (n:Nat) (t:TypeId) (ks:List CK),eqTy P n t=some ks→EqOk P (d + n) t ks
  | 0,_,_,h=>by cases h
  | n + 1,t,ks,h=>by
    intro ρ β xs ys e x y w he hx hy;simp only [eqTy]at h;cases hu:P.underlying t with
    | none=>simp [hu]at h
    | some dd =>
      simp only [hu]at h;simp only [VIs,hu]at hx hy;cases dd <;> simp only [reduceCtorEq,Option.some.injEq]at h
      case int k =>
        subst h;obtain⟨a,rfl,rfl⟩:=hx;obtain⟨b,rfl,rfl⟩:=hy;obtain⟨a0,x,b1,y,e1,e2,p1,p2,h1,h2,rfl⟩:=zja he;cases p1;cases p2;simp only [eqCells,Option.some.injEq]at h2;subst h2;simp only [eqOne]at h1;split at h1
        · split at h1
          · rename_i hk;simp only [Option.some.injEq]at h1;subst h1;obtain⟨rfl,rfl⟩:=hk;simp only [At.den,BE.den,cmpB,Bool.and_true];exact run_equalIn_int w (d + n) t _ _ _ _ hu
          · cases h1
        · cases h1
      case bool =>
        subst h;obtain⟨a,rfl,rfl⟩:=hx;obtain⟨b,rfl,rfl⟩:=hy;obtain⟨a0,x,b1,y,e1,e2,p1,p2,h1,h2,rfl⟩:=zja he;cases p1;cases p2;simp only [eqCells,Option.some.injEq]at h2;subst h2;simp only [eqOne]at h1;split at h1
        · simp only [Option.some.injEq]at h1;subst h1;simp only [At.den,BE.den,Bool.and_true];exact run_equalIn_bool w (d + n) t _ _ hu
        · cases h1
      case string =>
        subst h;obtain⟨a,rfl,rfl⟩:=hx;obtain⟨b,rfl,rfl⟩:=hy;obtain⟨a0,x,b1,y,e1,e2,p1,p2,h1,h2,rfl⟩:=zja he;cases p1;cases p2;simp only [eqCells,Option.some.injEq]at h2;subst h2;simp only [eqOne]at h1;split at h1
        · rename_i p q hp hq;simp only [Option.some.injEq]at h1;subst h1;rw [zpb hp,zpb hq];simp only [BE.den,Bool.and_true];rw [show d + (n + 1)=(d + n) + 1 from rfl,run_equalIn_string w (d + n) t _ _ hu];congr 1;by_cases hc:p.den ρ=q.den ρ
          · simp [hc]
          · have:¬ ((⟨(p.den ρ).toArray⟩:ByteArray)=⟨(q.den ρ).toArray⟩):=fun he=>hc ((str_eq _ _).1 he)
            simp [hc,this]
        · cases h1
      case struct fs =>
        subst hx hy;split at h
        · cases h
        · rename_i hp;have hfs:P.fieldsOf t=fs:=by simp [Program.fieldsOf,hu]
          have:=zil (fun t ks h=>⟨zjl d n t ks h,zwe n t ks h⟩) ρ β xs ys w fs.toList 0 ks e h (by simpa using he)
          rw [show d + (n + 1)=(d + n) + 1 from rfl,run_equalIn_struct w (d + n) t _ _ (by rw [hfs];exact hu) (by simpa using hp),hfs];exact this
      case array m el =>
        subst hx hy;split at h
        · rename_i k1 g s h1 h2;split at h
          · rename_i hs;subst hs;simp only [Option.some.injEq]at h;subst h;obtain⟨d',i',_,hi,hsz,_⟩:=zra h2
            have:=zin (zjl d n el k1 h1) h2 (fun hg=>zwe n el k1 h1 _ _ h2 hg) ρ β xs ys w m 0 e (by simpa using he)
            rw [show d + (n + 1)=(d + n) + 1 from rfl,run_equalIn_array w (d + n) _ _ hu hi,List.range_eq_range'];rw [show P.cellsOf el=k1.length by simp [Program.cellsOf,hi,hsz]];exact this
          · cases h
        · cases h
theorem zzca{t:TypeId}{ks:List CK}{xs ys:List At}{e:BE}(hk:eqTy P 30 t=some ks)(he:eqCells ks xs ys=some e)(ha:∃ g n,szAgg P t=some (g,n)∧g=true)(ρ:Env)(β:Nat→Nat)(w:World) :
  (Op.equalIn 10000 t (.agg (xs.map (At.den ρ β)).toArray) (.agg (ys.map (At.den ρ β)).toArray)).run P w=.ok (e.den ρ) w:=by
 obtain⟨g,n,hz,rfl⟩:=ha;obtain⟨d,i,h1,h2,rfl,hg⟩:=zra hz;refine zjl 9970 30 t ks hk ρ β xs ys e _ _ w he ?_ ?_
 ·cases d <;> simp only [reduceCtorEq]at hg <;> simp [VIs,h1]
 ·cases d <;> simp only [reduceCtorEq]at hg <;> simp [VIs,h1]
end Vc
set_option linter.unusedVariables false
namespace Vc
open Go Go.RowKit
variable {P:Program} {W:Wld} {Q:Value→Prop} {QM QP:World→Value→Prop}
theorem zkl(op:BinOp)(t:TypeId)(x y:Operand)(a b:Array Value)(w:World)(h:P.eqGuardType P.depth t=false):(eqGuard op t x y (.agg a) (.agg b)).run P w=.ok () w :=
 run_eqGuard_agg w op t x y a b h
theorem zly(t:TypeId)(a b:Bool)(w:World)(h:P.underlying t=some .bool):(binOp .eql t (.bool a) (.bool b)).run P w=.ok (.bool (a == b)) w:=by
 simp only [binOp];simp [run_equal_bool w t a b h]
theorem zmy(t:TypeId)(a b:Bool)(w:World)(h:P.underlying t=some .bool):(binOp .neq t (.bool a) (.bool b)).run P w=.ok (.bool (!(a == b))) w:=by
 simp only [binOp];simp [run_equal_bool w t a b h]
theorem zqc(e:BE)(ρ:Env)(β:Nat→Nat):(SV.cv (.one (.bool e.sim))).den ρ β=.bool (e.den ρ):=by
 simp only [SV.den,CV.den,At.den,BE.den_sim]
theorem zbt(p q:List UInt8):(p == q)=decide (p=q):=by
 by_cases hc:p=q
 ·subst hc;simp
 ·rw [decide_eq_false hc];exact beq_eq_false_iff_ne.2 hc
theorem znh(op:BinOp)(t:TypeId)(x y:Operand)(a b:ByteArray)(w:World):(eqGuard op t x y (.string a) (.string b)).run P w=.ok () w:=by
 cases op <;> simp [eqGuard]
def nlV:Value→Bool
 | .pointer _ | .slice _ _ _ | .nilFunc | .func _ _ _=>true
 | _=>false
theorem zzv{p:At}(h:nlKind p≠3)(ρ:Env)(β:Nat→Nat):nlV (p.den ρ β)=true:=by
 cases p <;> simp [nlKind]at h <;> simp only [At.den] <;> first | rfl | (split <;> rfl)
theorem zll(op:BinOp)(t:TypeId)(x y:Operand)(a b:Value)(h:nlV a=true)(w:World):(eqGuard op t x y a b).run P w=.ok () w:=by
 cases a <;> simp [nlV]at h <;> cases op <;> simp [eqGuard]
theorem zml{a:Value}(b:Value)(h:nlV a=true)(t:TypeId):(binOp .eql t a b=do pure (.bool (← Op.equal t a b)))∧(binOp .neq t a b=do pure (.bool (!(← Op.equal t a b)))):=by
 cases a <;> simp [nlV]at h <;> exact⟨rfl,rfl⟩
theorem zjn(op:BinOp)(t:TypeId)(x y:Operand)(p q:At)(h:nlKind p≠3)(ρ:Env)(β:Nat→Nat)(w:World):(eqGuard op t x y (p.den ρ β) (q.den ρ β)).run P w=.ok () w :=
 zll op t x y _ _ (zzv h ρ β) w
theorem zkba(d:Nat){t e:TypeId}(a:Option Addr)(w:World)(h:P.underlying t=some (.pointer e)):(Op.equalIn (d + 1) t (.pointer none) (.pointer a)).run P w=.ok a.isNone w:=by
 cases a <;> simp [Op.equalIn,run_underlying h]
theorem zlba(d:Nat){t e:TypeId}(a:Option Addr)(w:World)(h:P.underlying t=some (.pointer e)):(Op.equalIn (d + 1) t (.pointer a) (.pointer none)).run P w=.ok a.isNone w:=by
 cases a <;> simp [Op.equalIn,run_underlying h]
theorem zmba(d:Nat){t e:TypeId}(b o o':Nat)(w:World)(h:P.underlying t=some (.pointer e)){i:TypeInfo}(hi:P.info? e=some i)(hs:i.size≠0) :
  (Op.equalIn (d + 1) t (.pointer (some ⟨b,o,none⟩)) (.pointer (some ⟨b,o',none⟩))).run P w=.ok (decide (o=o')) w:=by
 have hz:(Go.sizeOf e).run P w=.ok i.size w:=by simp [Go.sizeOf,typeInfo,hi]
 by_cases ho:o=o' <;> simp [Op.equalIn,run_underlying h,hz,hs,sameAddr,ho]
theorem zaw(d:Nat){t e:TypeId}(a:Option Addr)(n c:Nat)(w:World)(h:P.underlying t=some (.slice e)):(Op.equalIn (d + 1) t (.slice none 0 0) (.slice a n c)).run P w=.ok a.isNone w:=by
 cases a <;> simp [Op.equalIn,run_underlying h]
theorem ztr(d:Nat){t e:TypeId}(a:Option Addr)(n c:Nat)(w:World)(h:P.underlying t=some (.slice e)):(Op.equalIn (d + 1) t (.slice a n c) (.slice none 0 0)).run P w=.ok a.isNone w:=by
 cases a <;> simp [Op.equalIn,run_underlying h]
theorem znba(d:Nat){t:TypeId}{a b c}(w:World)(h:P.underlying t=some (.func a b c)):(Op.equalIn (d + 1) t .nilFunc .nilFunc).run P w=.ok true w:=by
 simp [Op.equalIn,run_underlying h]
theorem zoba(d:Nat){t:TypeId}{a b c}(x y z)(w:World)(h:P.underlying t=some (.func a b c)):(Op.equalIn (d + 1) t .nilFunc (.func x y z)).run P w=.ok false w:=by
 simp [Op.equalIn,run_underlying h]
theorem zpba(d:Nat){t:TypeId}{a b c}(x y z)(w:World)(h:P.underlying t=some (.func a b c)):(Op.equalIn (d + 1) t (.func x y z) .nilFunc).run P w=.ok false w:=by
 simp [Op.equalIn,run_underlying h]
theorem zhk{t:TypeId}{x y:At}{e:BE}(h:nilEq P t x y=some e)(ρ:Env)(β:Nat→Nat)(w:World):(Op.equal t (x.den ρ β) (y.den ρ β)).run P w=.ok (e.den ρ) w:=by
 unfold Op.equal Op.maxDepth;generalize hd:10000=d;obtain⟨d,rfl⟩:∃ d',d=d' + 1:=⟨9999,hd.symm⟩;clear hd;unfold nilEq at h;split at h
 ·rename_i el hu;split at h
  ·rename_i hk;split at h
   ·rename_i b hb;simp only [Option.some.injEq]at h;subst h;cases x <;> simp [nlKind]at hk <;> cases y <;> simp [nlKind]at hk <;> simp [nlOf,nlEq]at hb <;> subst hb <;> first | exact zkba d _ w hu | exact zlba d _ w hu
   ·split at h
    ·rename_i k o k' o';split at h
     ·rename_i g n hn;split at h
      ·rename_i hc;simp only [Option.some.injEq]at h;subst h;obtain⟨rfl,hc2⟩:=hc;unfold szAgg at hn;split at hn
       ·rename_i d0 i hd hi;simp only [Option.some.injEq,Prod.mk.injEq]at hn;obtain⟨_,rfl⟩:=hn;exact zmba d _ _ _ w hu hi hc2
       ·cases hn
      ·cases h
     ·cases h
    ·cases h
  ·cases h
 ·rename_i el hu;split at h
  ·rename_i hk;cases x <;> simp [nlKind]at hk <;> cases y <;> simp [nlKind]at hk <;> simp [nlOf,nlEq]at h <;> subst h <;> simp only [At.den,BE.den]
   all_goals first | exact zaw d _ _ _ w hu | exact ztr d _ _ _ w hu | (split <;> rename_i hq <;> simp only [hq] <;> first | exact zaw d _ _ _ w hu | exact ztr d _ _ _ w hu)
  ·cases h
 ·rename_i hu;split at h
  ·rename_i hk;cases x <;> simp [nlKind]at hk <;> cases y <;> simp [nlKind]at hk <;> simp [nlOf,nlEq]at h <;> subst h <;> first | exact znba d w hu | exact zoba d _ _ _ w hu | exact zpba d _ _ _ w hu
  ·cases h
 ·cases h
theorem zct{x:At}(y:At)(h:nlKind x≠3)(t:TypeId)(ρ:Env)(β:Nat→Nat):(binOp .eql t (x.den ρ β) (y.den ρ β)=do pure (.bool (← Op.equal t (x.den ρ β) (y.den ρ β))))∧(binOp .neq t (x.den ρ β) (y.den ρ β)=do pure (.bool (!(← Op.equal t (x.den ρ β) (y.den ρ β))))) :=
 zml _ (zzv h ρ β) t
theorem zyu{t:TypeId}{x y:At}{e:BE}(h:nilEq P t x y=some e):nlKind x≠3:=by
 unfold nilEq at h;split at h
 ·split at h
  ·rename_i hk;omega
  ·cases h
 ·split at h
  ·rename_i hk;omega
  ·cases h
 ·split at h
  ·rename_i hk;omega
  ·cases h
 ·cases h
theorem zqba{t:TypeId}{a b:List UInt8}{w:World}(h:a.length + b.length≤9223372036854775807):(binOp .add t (.string ⟨a.toArray⟩) (.string ⟨b.toArray⟩)).run P w=.ok (.string ⟨(a++b).toArray⟩) w:=by
 have e:(⟨a.toArray⟩++⟨b.toArray⟩:ByteArray)=⟨(a++b).toArray⟩:=by
  apply ByteArray.ext;simp
 have hs:¬ ((((⟨a.toArray⟩:ByteArray).size + (⟨b.toArray⟩:ByteArray).size:Nat):Int) > IntKind.i64.max):=by
  show ¬ (((a.toArray.size + b.toArray.size:Nat):Int) > 9223372036854775807);simp only [List.size_toArray];omega
 simp only [binOp,Op.stringOp];rw [if_neg hs,e];rfl
theorem zur{c:Ctr}{op:BinOp}{t:TypeId}{x y:SV}{K:SV→Ctr→Env→Prop}{ρ:Env}(hx:x.wf c=true)(hy:y.wf c=true)
  (h:doBin (PA P W Q QM QP) P c op t x y K ρ):Res c ρ K (BinV P op t x y):=by
 unfold doBin at h;split at h
 ·rename_i k a k' b;have wa:a.wf c=true:=hx;have wb:b.wf c=true:=hy;split at h
  ·rename_i ho;subst ho;split at h
   ·rename_i n;split at h
    ·rename_i hn;refine (zba h).mono fun sv ρ'' _ hv=>BinV.ints (hv b0).2 fun β w => ?_;rw [(hv β).1,zoa,zzs t k k' _ _ w hn.1,ziba k _ n hn.1 hn.2];rfl
    ·exact h.elim
   ·obtain⟨h1,h2⟩:=zb h;refine (zba h2).mono fun sv ρ'' hl hv=>BinV.ints (hv b0).2 fun β w => ?_;have h3:0≤b.den ρ'':=by rw [IE.den_like hl wb];exact h1
    rw [(hv β).1,zzs t k k' _ _ w h3];rfl
  ·split at h
   ·rename_i ho;subst ho;split at h
    ·rename_i n;split at h
     ·rename_i hn;refine (zba h).mono fun sv ρ'' _ hv=>BinV.ints (hv b0).2 fun β w => ?_;rw [(hv β).1,zoa,zat t k k' _ _ w hn.1,zjba k _ n hn.1 hn.2];rfl
     ·exact h.elim
    ·obtain⟨h1,h2⟩:=zb h;refine (zba h2).mono fun sv ρ'' hl hv=>BinV.ints (hv b0).2 fun β w => ?_;have h3:0≤b.den ρ'':=by rw [IE.den_like hl wb];exact h1
     rw [(hv β).1,zat t k k' _ _ w h3];rfl
   ·split at h
    ·rename_i hk;subst hk;split at h
     ·rename_i ha;refine (zba h).mono fun sv ρ'' hl hv=>BinV.ints (hv b0).2 fun β w => ?_;rw [(hv β).1,ziy op t k _ _ w ha];rfl
     ·split at h
      ·rename_i hq;obtain⟨h1,h2⟩:=zb h;refine (zba h2).mono fun sv ρ'' hl hv=>BinV.ints (hv b0).2 fun β w => ?_;have h3:b.den ρ''≠0:=by rw [IE.den_like hl wb];exact h1
       rw [(hv β).1,zjy op t k _ _ w hq h3];rfl
      ·split at h
       ·rename_i hc;refine Res.pure h fun ρ'' hl=>BinV.ints (by simp) fun β w => ?_;rw [zqc,zky op t k _ _ w hc];rfl
       ·exact h.elim
    ·exact h.elim
 ·rename_i a b;generalize hu:P.underlying t=u at h;split at h
  ·split at h
   ·rename_i ho;subst ho;refine Res.pure h fun ρ'' hl=>⟨by simp,fun β w xo yo => ?_⟩;rw [zqc];simp only [SV.den,CV.den,At.den,Sem.run_bind,zgk,Result.andThen_ok,zly t _ _ w hu,BE.den]
   ·split at h
    ·rename_i ho;subst ho;refine Res.pure h fun ρ'' hl=>⟨by simp,fun β w xo yo => ?_⟩;rw [zqc];simp only [SV.den,CV.den,At.den,Sem.run_bind,zgk,Result.andThen_ok,zmy t _ _ w hu,BE.den]
    ·exact h.elim
  ·exact h.elim
 ·rename_i a b;generalize hk:eqTy P 30 t=u1 at h;generalize hz:szAgg P t=u2 at h;split at h
  ·rename_i ks n;generalize he:eqCells ks a b=u3 at h;split at h
   ·rename_i e;split at h
    ·exact h.elim
    ·rename_i hg;have hg':P.eqGuardType P.depth t=false:=by simpa using hg
     have key:=fun ρ'' β w=>zzca hk he ⟨true,n,hz,rfl⟩ ρ'' β w;split at h
     ·rename_i ho;subst ho;refine Res.pure h fun ρ'' hl=>⟨by simp,fun β w xo yo => ?_⟩;rw [zqc];simp only [SV.den,CV.den,Sem.run_bind,zkl _ _ _ _ _ _ _ hg',Result.andThen_ok,run_eql_struct,key]
     ·split at h
      ·rename_i ho;subst ho;refine Res.pure h fun ρ'' hl=>⟨by simp,fun β w xo yo => ?_⟩;rw [zqc];simp only [SV.den,CV.den,Sem.run_bind,zkl _ _ _ _ _ _ _ hg',Result.andThen_ok,run_neq_struct,key,BE.den]
      ·exact h.elim
   ·exact h.elim
  ·exact h.elim
 ·rename_i x y _ _;generalize hu:P.underlying t=u at h;generalize hsx:strOf x=sx at h;generalize hsy:strOf y=sy at h;split at h
  ·rename_i a b;have dx:=fun ρ'' β=>zpb hsx ρ'' β;have dy:=fun ρ'' β=>zpb hsy ρ'' β;split at h
   ·rename_i ho;subst ho;refine Res.pure h fun ρ'' hl=>⟨by simp,fun β w xo yo => ?_⟩;rw [zqc];simp only [SV.den,CV.den,dx,dy,Sem.run_bind,znh,Result.andThen_ok,BE.den];simp only [binOp,Op.stringOp,zmp,Sem.run_pure];rw [zbt]
   ·split at h
    ·rename_i ho;subst ho;refine Res.pure h fun ρ'' hl=>⟨by simp,fun β w xo yo => ?_⟩;rw [zqc];simp only [SV.den,CV.den,dx,dy,Sem.run_bind,znh,Result.andThen_ok,BE.den];simp only [binOp,Op.stringOp,zmp,Sem.run_pure];rw [zbt]
    ·split at h
     ·rename_i ho;subst ho;refine (zid h).mono fun sv ρ'' hl hv=>⟨hv.2.1,fun β w xo yo => ?_⟩;rw [hv.2.2 β];have hk:=hv.1;simp only [SP.ok]at hk;simp only [SV.den,CV.den,dx,dy,Sem.run_bind,znh,Result.andThen_ok,SP.den];exact zqba hk
     ·exact h.elim
  ·generalize hn:nilEq P t x y=en at h;split at h
   ·rename_i e;have hk:=zyu hn;split at h
    ·rename_i ho;subst ho;refine Res.pure h fun ρ'' hl=>⟨by simp,fun β w xo yo => ?_⟩;rw [zqc];simp only [SV.den,CV.den,Sem.run_bind,zjn _ _ _ _ _ _ hk,Result.andThen_ok,(zct y hk t ρ'' β).1,zhk hn,Sem.run_pure]
    ·split at h
     ·rename_i ho;subst ho;refine Res.pure h fun ρ'' hl=>⟨by simp,fun β w xo yo => ?_⟩;rw [zqc];simp only [SV.den,CV.den,Sem.run_bind,zjn _ _ _ _ _ _ hk,Result.andThen_ok,(zct y hk t ρ'' β).2,zhk hn,Sem.run_pure,BE.den]
     ·exact h.elim
   ·exact h.elim
 ·exact h.elim
theorem zzu{c:Ctr}{op:UnOp}{x:SV}{K:SV→Ctr→Env→Prop}{ρ:Env}(h:doUn (PA P W Q QM QP) c op x K ρ) :
  Res c ρ K fun sv ρ''=>sv ≠ .any∧x ≠ .any∧∀ β w,(Op.unary op (x.den ρ'' β)).run P w=.ok (sv.den ρ'' β) w:=by
 unfold doUn at h;split at h
 ·exact (zba h).mono fun sv ρ'' _ hv=>⟨(hv b0).2,by simp,fun β w=>by rw [(hv β).1];simp [SV.den,CV.den,At.den,Op.unary,Op.intArith,IP.den]⟩
 ·exact (zba h).mono fun sv ρ'' _ hv=>⟨(hv b0).2,by simp,fun β w=>by rw [(hv β).1];simp [SV.den,CV.den,At.den,Op.unary,Op.intBits,IP.den,bits]⟩
 ·exact Res.pure h fun ρ'' _=>⟨by simp,by simp,fun β w=>by rw [zqc];simp [SV.den,CV.den,At.den,Op.unary,BE.den]⟩
 ·exact h.elim
theorem znp{c:Ctr}{s d:TypeId}{x:SV}{K:SV→Ctr→Env→Prop}{ρ:Env}(h:doConv (PA P W Q QM QP) P c s d x K ρ) :
  Res c ρ K fun sv ρ''=>sv ≠ .any∧x ≠ .any∧∀ β w,(convert s d (x.den ρ'' β)).run P w=.ok (sv.den ρ'' β) w:=by
 unfold doConv at h;generalize h1:P.underlying s=u1 at h;generalize h2:P.underlying d=u2 at h;split at h
 ·rename_i ds k k0 a;refine (zba h).mono fun sv ρ'' _ hv=>⟨(hv b0).2,by simp,fun β w => ?_⟩;rw [(hv β).1];simp only [SV.den,CV.den,At.den,convert,Sem.run_bind,run_underlying h1,run_underlying h2,Result.andThen_ok];cases ds <;> simp [Conv.intToInt,IP.den]
 ·exact h.elim
theorem znl{t:TypeId}{cs:List At}{off:Nat}{v:CV}(h:partOf P t cs off=some v)(ρ:Env)(β:Nat→Nat)(w:World) :
  (part t (cs.map (At.den ρ β)).toArray off).run P w=.ok (v.den ρ β) w:=by
 unfold partOf at h;split at h
 ·rename_i n hz;split at h
  ·simp only [Option.some.injEq]at h;subst h;rw [zhl hz rfl];simp [CV.den,List.map_take,List.map_drop]
  ·cases h
 ·rename_i n hz;simp only [Option.map_eq_some_iff]at h;obtain⟨a,ha,rfl⟩:=h;exact zlp hz rfl _ off (a.den ρ β) (by simp [ha]) w
 ·cases h
theorem zfo{c:Ctr}{t:TypeId}{x:SV}{f:Nat}{K:SV→Ctr→Env→Prop}{ρ:Env}(h:doField (PA P W Q QM QP) P c t x f K ρ) :
  Res c ρ K fun sv ρ''=>sv ≠ .any∧x ≠ .any∧∀ β w,(Instr.field t (x.den ρ'' β) f).run P w=.ok (sv.den ρ'' β) w:=by
 unfold doField at h;generalize h1:P.underlying t=u1 at h;split at h
 ·rename_i fs cs;generalize h2:fs[f]? = u2 at h;split at h
  ·rename_i fd;generalize h3:partOf P fd.type cs fd.offset=u3 at h;split at h
   ·rename_i v;refine Res.pure h fun ρ'' _=>⟨by simp,by simp,fun β w => ?_⟩;simp [SV.den,CV.den,Instr.field,run_underlying h1,h2,asAgg,znl h3]
   ·exact h.elim
  ·exact h.elim
 ·exact h.elim
theorem zrj{c:Ctr}{s:TypeId}{x:SV}{f:Nat}{K:SV→Ctr→Env→Prop}{ρ:Env}(h:doFieldAddr (PA P W Q QM QP) P c s x f K ρ) :
  Res c ρ K fun sv ρ''=>sv ≠ .any∧x ≠ .any∧∀ β w,(Instr.fieldAt s (x.den ρ'' β) f).run P w=.ok (sv.den ρ'' β) w:=by
 unfold doFieldAddr at h;generalize h1:P.underlying s=u1 at h;split at h
 ·rename_i fs;generalize h2:fs[f]? = u2 at h;split at h
  ·rename_i fd;generalize h3:szAgg P fd.type=u3 at h;split at h
   ·rename_i g n;split at h
    ·exact h.elim
    ·rename_i hn
     have key:∀ (b o:Nat) (w:World),(fieldPlace ⟨b,o,none⟩ fd).run P w=.ok ⟨b,o + fd.offset,none⟩ w:=by
      intro b o w;simp only [fieldPlace,Sem.run_bind,zka h3,Result.andThen_ok,hn,if_false,Sem.run_pure,Addr.add];split
      ·rename_i h0;simp [h0]
      ·rfl
     split at h
     ·refine Res.pure h fun ρ'' _=>⟨by simp,by simp,fun β w => ?_⟩;simp [SV.den,CV.den,At.den,Instr.fieldAt,run_underlying h1,h2,Instr.sureAddr,key]
     ·refine Res.pure h fun ρ'' _=>⟨by simp,by simp,fun β w => ?_⟩;simp [SV.den,CV.den,At.den,Instr.fieldAt,run_underlying h1,h2,Instr.sureAddr,key,Nat.add_assoc]
     ·refine Res.pure h fun ρ'' _=>⟨by simp,by simp,fun β w => ?_⟩;simp [SV.den,CV.den,At.den,Instr.fieldAt,run_underlying h1,h2,Instr.sureAddr,key,Nat.add_assoc]
     ·exact h.elim
   ·exact h.elim
  ·exact h.elim
 ·exact h.elim
end Vc
set_option linter.unusedVariables false
namespace Vc
open Go Go.RowKit
variable {P:Program} {W:Wld} {Q:Value→Prop} {QM QP:World→Value→Prop}
theorem zob(b o m:Nat):(⟨b,o,none⟩:Addr).add m=⟨b,o + m,none⟩:=by
 unfold Addr.add;split <;> simp_all
theorem zjc{t el:TypeId}{n:Nat}{g:Bool}{s:Nat}(h1:P.underlying t=some (.array n el))(hz:szAgg P el=some (g,s))(b o:Nat)(k:IntKind)(i:Int)(h0:0≤i)(hn:i < n)(w:World) :
  (Instr.indexAt t (ptr b o) (.int k i)).run P w=.ok (ptr b (o + i.toNat * s)) w:=by
 simp [Instr.indexAt,asIntOf,run_underlying h1,Instr.sureAddr,ptr,h0,hn,zka hz,zob]
theorem zkc{t el:TypeId}{n m:Nat}{g:Bool}{s:Nat}(h1:P.underlying t=some (.slice el))(hz:szAgg P el=some (g,s))(b o:Nat)(k:IntKind)(i:Int)(h0:0≤i)(hn:i < n)(w:World) :
  (Instr.indexAt t (.slice (some ⟨b,o,none⟩) n m) (.int k i)).run P w=.ok (ptr b (o + i.toNat * s)) w:=by
 simp [Instr.indexAt,asIntOf,run_underlying h1,ptr,h0,hn,zka hz,zob]
theorem zie{c:Ctr}{p:IP}{K:IE→Ctr→Env→Prop}{ρ:Env}(h:doIE (PA P W Q QM QP) c p K ρ) :
  ∃ e c' ρ',K e c' ρ'∧c.le c'∧c'.nk=c.nk∧Env.like c ρ ρ'∧e.wf c'=true∧∀ ρ'',Env.like c' ρ' ρ''→e.den ρ''=p.den ρ'':=by
 unfold doIE at h;split at h
 ·rename_i hl;rw [zdl]at h;exact⟨_,c,ρ,h,Ctr.le_refl _,rfl,Env.like_refl _ _,rfl,fun ρ'' _=>(IP.den_lits (ρ:=Env.zero) (ρ':=ρ'') hl)⟩
 ·split at h
  ·rename_i hw;have h1:=h (p.den ρ) rfl;have hle:c.le {c with ni:=c.ni + 1}:=Ctr.le_ni c 1;refine⟨_,_,_,h1,hle,rfl,zsc c ρ _,by simp [IE.wf],fun ρ'' hl => ?_⟩
   have e1:ρ''.i c.ni=p.den ρ:=by
    rw [hl.i c.ni (Nat.lt_succ_self _)];exact if_pos rfl
   simp only [IE.den,e1];rw [IP.den_like (Env.like_trans hle (zsc c ρ _) hl) hw]
  ·exact h.elim
theorem zxe{c:Ctr}{op:IE→IE→IP}{a b:IE}{K:IE→Ctr→Env→Prop}{ρ:Env}(h:doSum (PA P W Q QM QP) c op a b K ρ) :
  ∃ e c' ρ',K e c' ρ'∧c.le c'∧c'.nk=c.nk∧Env.like c ρ ρ'∧e.wf c'=true∧∀ ρ'',Env.like c' ρ' ρ''→e.den ρ''=(op a b).den ρ'':=zie h
inductive Ent where
 | fix (cs:List At) (t:TypeId)
 | row (ce:CE) (sz:Nat) (t:TypeId)
def getE(m:Mem)(o:OMem)(k:Nat):Option Ent :=
  match getM m k with
  | some (cs,t)=>some (.fix cs t)
  | none=>match getO o k with
    | some (ce,sz,t)=>some (.row ce sz t)
    | none=>none
def Holds(W:Wld)(ρ:Env)(β:Nat→Nat)(k:Nat):Ent→World→Prop
 | .fix cs t,w=>OwnB W (β k)∧w.heap[β k]? = some (.cells (cs.map (At.den ρ β)).toArray t)
 | .row ce sz t,w=>RowOkP (OwnB W) (β k) (β (k + 1)) (β (k + 2)) (β (k + 3)) (ceDen ρ β ce) sz t w
def RdOk(W:Wld)(m:Mem)(o:OMem)(l:List Nat)(ρ:Env)(β:Nat→Nat)(w:World):Prop :=
 ∀ k∈l,∀ e,getE m o k=some e→Holds W ρ β k e w
theorem zwb{m:Mem}{o:OMem}{k:Nat}{cs:List At}{t:TypeId}(h:getM m k=some (cs,t)):getE m o k=some (.fix cs t):=by
 simp [getE,h]
theorem zla{m:Mem}{o:OMem}{k:Nat}{ce:CE}{sz:Nat}{t:TypeId}(hm:getM m k=none)(h:getO o k=some (ce,sz,t)):getE m o k=some (.row ce sz t):=by
 simp [getE,hm,h]
def Apart(m:Mem)(o:OMem):Prop:=∀ k x,getO o k=some x→getM m k=none
theorem zvr{lo:Nat→Prop}{b code n base:Nat}{xs:List Value}{sz:Nat}{t:TypeId}{w:World}(h:RowOld lo b code n base xs sz t w):xs.length / sz=n:=by
 rw [h.1];exact Nat.mul_div_cancel _ h.2.1
theorem zdt{lo:Nat→Prop}{b code n base:Nat}{xs:List Value}{sz:Nat}{t:TypeId}{w:World}(h:RowOld lo b code n base xs sz t w)(hn:0 < n) :
  2≤code∧base=0∧∃ cur,w.heap[b]? = some (.cells cur t (0,0))∧cur.toList.take (n * sz)=xs:=by
 rcases h.2.2 with ⟨_,h0⟩ | ⟨h1,h2,_,_,_,cur,h3,_,h4⟩
 ·omega
 ·exact⟨h1,h2,cur,h3,h4⟩
theorem zny(ρ:Env)(β:Nat→Nat)(ce:CE)(sz:Nat):(IP.olen (ceNum ce) (ceVars ce) sz).den ρ=(((ceDen ρ β ce).length / sz:Nat):Int):=by
 rw [zmf];rfl
theorem zxa{c:Ctr}{ce:CE}{sz:Nat}{K:IE→Ctr→Env→Prop}{ρ:Env}(h:doOLen (PA P W Q QM QP) c ce sz K ρ) :
  ∃ e c' ρ',K e c' ρ'∧c.le c'∧c'.nk=c.nk∧Env.like c ρ ρ'∧e.wf c'=true∧∀ ρ'' β,Env.like c' ρ' ρ''→e.den ρ''=(((ceDen ρ'' β ce).length / sz:Nat):Int):=by
 obtain⟨e,c',ρ',h1,h2,h3,h4,h5,h6⟩:=zie h;exact⟨e,c',ρ',h1,h2,h3,h4,h5,fun ρ'' β hl=>by rw [h6 ρ'' hl,zny ρ'' β]⟩
theorem zsj{c:Ctr}{t:TypeId}{x i:SV}{K:SV→Ctr→Env→Prop}{ρ:Env}{m:Mem}{o:OMem}(hap:Apart m o)(hx:x.wf c=true)(hi:i.wf c=true)(h:doIndexAddr (PA P W Q QM QP) P o c t x i K ρ) :
  Res c ρ K fun sv ρ''=>sv ≠ .any∧(x ≠ .any∧i ≠ .any)∧∀ β w,RdOk W m o (blksOf (svCells x)) ρ'' β w→(Instr.indexAt t (x.den ρ'' β) (i.den ρ'' β)).run P w=.ok (sv.den ρ'' β) w:=by
 unfold doIndexAddr at h;split at h
 ·rename_i ki e;have we:e.wf c=true:=hi;generalize h1:P.underlying t=u1 at h;split at h
  ·rename_i el k;generalize hz:szAgg P el=u2 at h;generalize hgo:getO o k=u3 at h;split at h
   ·rename_i g s ce sz ty;split at h
    ·rename_i hs;obtain⟨rfl,hs0⟩:=hs;obtain⟨n,c1,ρ1,r1,r2,r3,r4,r5,r6⟩:=zxa h;obtain⟨q1,ha⟩:=zb r1;obtain⟨q2,hk⟩:=zb ha;refine⟨_,c1,ρ1,hk,r2,r4,fun ρ'' hl=>⟨by simp,by simp,fun β w hrd => ?_⟩⟩;have hl0:=Env.like_trans r2 r4 hl;have hrow:=(hrd k (by simp [svCells,CV.cells,blksOf]) _ (zla (hap k _ hgo) hgo)).old hs0;have e1:0≤e.den ρ'':=by rw [IE.den_like hl (IE.wf_le r2 we)];exact q1
     have e2:e.den ρ'' < n.den ρ'':=by rw [IE.den_like hl (IE.wf_le r2 we),IE.den_like hl r5];exact q2
     have e3:=r6 ρ'' β hl;rw [zvr hrow]at e3;obtain⟨p1,p2,_⟩:=zdt hrow (by omega)
     have:=zkc (P:=P) (n:=β (k + 2)) (m:=β (k + 1) - 1) h1 hz (β k) 0 ki (e.den ρ'') e1 (by omega) w
     have e4:¬ β (k + 1)=0:=by omega
     simpa [SV.den,CV.den,At.den,ownV,e4,p2,ptr]using this
    ·exact h.elim
   ·exact h.elim
  ·rename_i el k;generalize hz:szAgg P el=u2 at h;generalize hgo:getO o k=u3 at h;split at h
   ·rename_i g s ce sz ty;split at h
    ·rename_i hs;obtain⟨rfl,rfl,rfl⟩:=hs;obtain⟨n,c1,ρ1,r1,r2,r3,r4,r5,r6⟩:=zxa h;obtain⟨q1,ha⟩:=zb r1;obtain⟨q2,hk⟩:=zb ha;refine⟨_,c1,ρ1,hk,r2,r4,fun ρ'' hl=>⟨by simp,by simp,fun β w hrd => ?_⟩⟩;have hl0:=Env.like_trans r2 r4 hl;have hrow:=hrd k (by simp [svCells,CV.cells,blksOf]) _ (zla (hap k _ hgo) hgo);rcases hrow with hrow | ⟨_,_,_,ho⟩
     ·exact absurd hrow.2.1 (by omega)
     have e1:0≤e.den ρ'':=by rw [IE.den_like hl (IE.wf_le r2 we)];exact q1
     have e2:e.den ρ'' < n.den ρ'':=by rw [IE.den_like hl (IE.wf_le r2 we),IE.den_like hl r5];exact q2
     have e3:=r6 ρ'' β hl;rw [Nat.div_one,← ho.1]at e3
     have:=zkc (P:=P) (n:=β (k + 2)) (m:=β (k + 1) - 2) h1 hz (β k) 0 ki (e.den ρ'') e1 (by omega) w
     simpa [SV.den,CV.den,At.den,ptr]using this
    ·exact h.elim
   ·exact h.elim
  ·rename_i el q p sz len cap;have wx:(decide (q < c.nb) && decide (p < c.np) && len.wf c && cap.wf c)=true:=hx;simp only [Bool.and_eq_true,decide_eq_true_eq]at wx;generalize hz:szAgg P el=u2 at h;split at h
   ·rename_i g s;split at h
    ·rename_i hs;subst hs;obtain⟨q0,h⟩:=zb h;obtain⟨q1,ha⟩:=zb h;clear h;obtain⟨q2,h⟩:=zb ha;clear ha;refine Res.pure h fun ρ'' hl=>⟨by simp,by simp,fun β w hrd => ?_⟩;have p0:¬ ρ''.b q=true:=by rw [hl.b q wx.1.1.1];exact q0
     have p1:0≤e.den ρ'':=by rw [IE.den_like hl we];exact q1
     have p2:e.den ρ'' < len.den ρ'':=by rw [IE.den_like hl we,IE.den_like hl wx.1.2];exact q2
     have:=zkc (P:=P) (n:=(len.den ρ'').toNat) (m:=(cap.den ρ'').toNat) h1 hz (ρ''.p p).1 (ρ''.p p).2 ki (e.den ρ'') p1 (by omega) w
     have q0:¬ ((len.den ρ'').toNat=0∧(cap.den ρ'').toNat=0):=by omega
     simpa [SV.den,CV.den,At.den,ptr,p0,zal q0]using this
    ·exact h.elim
   ·exact h.elim
  ·rename_i n el k ix sz off;generalize hz:szAgg P el=u2 at h;split at h
   ·rename_i g s;split at h
    ·rename_i j;split at h
     ·rename_i hj;refine Res.pure h fun ρ'' _=>⟨by simp,by simp,fun β w hrd => ?_⟩
      have:=zjc h1 hz (β k) ((ix.den ρ'').toNat * sz + off) ki j hj.1 (by have:=hj.1;have:=hj.2;omega) w
      simpa [SV.den,CV.den,At.den,ptr,zoa,Nat.add_assoc]using this
     ·exact h.elim
    ·obtain⟨q1,h⟩:=zb h;obtain⟨q2,h⟩:=zb h;obtain⟨m',hm,he,h⟩:=znb q1 q2 n (Nat.le_refl _) (by rw [Nat.sub_self];exact q1) h;refine Res.pure h fun ρ'' hl=>⟨by simp,by simp,fun β w hrd => ?_⟩;have he':e.den ρ''=(m':Int):=by rw [IE.den_like hl we];exact he
     have:=zjc h1 hz (β k) ((ix.den ρ'').toNat * sz + off) ki (e.den ρ'') (by rw [he'];omega) (by rw [he'];omega) w
     rw [he']at this;simp only [SV.den,CV.den,At.den,he'];simpa [ptr,Nat.add_assoc]using this
   ·exact h.elim
  ·rename_i n el k off;generalize hz:szAgg P el=u2 at h;split at h
   ·rename_i g s;split at h
    ·rename_i j;split at h
     ·rename_i hj;refine Res.pure h fun ρ'' _=>⟨by simp,by simp,fun β w hrd => ?_⟩;exact zjc h1 hz _ _ _ _ hj.1 (by have:=hj.1;have:=hj.2;omega) w
     ·exact h.elim
    ·obtain⟨q1,h⟩:=zb h;obtain⟨q2,h⟩:=zb h;obtain⟨m,hm,he,h⟩:=znb q1 q2 n (Nat.le_refl _) (by rw [Nat.sub_self];exact q1) h;refine Res.pure h fun ρ'' hl=>⟨by simp,by simp,fun β w hrd => ?_⟩;have he':e.den ρ''=(m:Int):=by rw [IE.den_like hl we];exact he
     have:=zjc h1 hz (β k) off ki (e.den ρ'') (by rw [he'];omega) (by rw [he'];omega) w
     rw [he']at this;simp only [SV.den,CV.den,At.den,he'];simpa [ptr]using this
   ·exact h.elim
  ·rename_i n el p ix sz off;generalize hz:szAgg P el=u2 at h;split at h
   ·rename_i g s;split at h
    ·rename_i j;split at h
     ·rename_i hj;refine Res.pure h fun ρ'' _=>⟨by simp,by simp,fun β w hrd => ?_⟩
      have:=zjc h1 hz (ρ''.p p).1 ((ρ''.p p).2 + (ix.den ρ'').toNat * sz + off) ki j hj.1 (by have:=hj.1;have:=hj.2;omega) w
      simpa [SV.den,CV.den,At.den,ptr,zoa,Nat.add_assoc]using this
     ·exact h.elim
    ·obtain⟨q1,h⟩:=zb h;obtain⟨q2,h⟩:=zb h;obtain⟨m,hm,he,h⟩:=znb q1 q2 n (Nat.le_refl _) (by rw [Nat.sub_self];exact q1) h;refine Res.pure h fun ρ'' hl=>⟨by simp,by simp,fun β w hrd => ?_⟩;have he':e.den ρ''=(m:Int):=by rw [IE.den_like hl we];exact he
     have:=zjc h1 hz (ρ''.p p).1 ((ρ''.p p).2 + (ix.den ρ'').toNat * sz + off) ki (e.den ρ'') (by rw [he'];omega) (by rw [he'];omega) w
     rw [he']at this;simp only [SV.den,CV.den,At.den,he'];simpa [ptr,Nat.add_assoc]using this
   ·exact h.elim
  ·rename_i el k off len cap;generalize hz:szAgg P el=u2 at h;split at h
   ·rename_i g s;split at h
    ·rename_i j;split at h
     ·rename_i hj;refine Res.pure h fun ρ'' _=>⟨by simp,by simp,fun β w hrd => ?_⟩;exact zkc h1 hz _ _ _ _ hj.1 (by have:=hj.1;have:=hj.2;omega) w
     ·exact h.elim
    ·obtain⟨q1,h⟩:=zb h;obtain⟨q2,h⟩:=zb h;obtain⟨m,hm,he,h⟩:=znb q1 q2 len (Nat.le_refl _) (by rw [Nat.sub_self];exact q1) h;refine Res.pure h fun ρ'' hl=>⟨by simp,by simp,fun β w hrd => ?_⟩;have he':e.den ρ''=(m:Int):=by rw [IE.den_like hl we];exact he
     have:=zkc (m:=cap) h1 hz (β k) off ki (e.den ρ'') (by rw [he'];omega) (n:=len) (by rw [he'];omega) w
     rw [he']at this;simp only [SV.den,CV.den,At.den,he'];simpa [ptr]using this
   ·exact h.elim
  ·rename_i el p ix sz len cap;have wx:((decide (p < c.np) && ix.wf c && len.wf c && cap.wf c))=true:=hx;simp only [Bool.and_eq_true]at wx;generalize hz:szAgg P el=u2 at h;split at h
   ·rename_i g s;split at h
    ·rename_i hs;subst hs;obtain⟨q1,ha⟩:=zb h;clear h;obtain⟨q2,h⟩:=zb ha;clear ha;have tr:∀ {ρ''},Env.like c ρ ρ''→0≤e.den ρ''∧e.den ρ'' < len.den ρ'':=fun hl=>⟨by rw [IE.den_like hl we];exact q1,by rw [IE.den_like hl we,IE.den_like hl wx.1.2];exact q2⟩;split at h
     ·rename_i hix;subst hix;refine Res.pure h fun ρ'' hl=>⟨by simp,by simp,fun β w hrd => ?_⟩;obtain⟨p1,p2⟩:=tr hl
      have:=zkc (n:=(len.den ρ'').toNat) (m:=(cap.den ρ'').toNat) h1 hz (ρ''.p p).1 ((ρ''.p p).2 + (IE.den ρ'' (.lit 0)).toNat * s) ki (e.den ρ'') p1 (by omega) w
      simpa [SV.den,CV.den,At.den,ptr,zoa]using this
     ·obtain⟨q3,h⟩:=zb h;obtain⟨e',c',ρ',r1,r2,r3,r4,r5,r6⟩:=zxe h;refine⟨_,c',ρ',r1,r2,r4,fun ρ'' hl=>⟨by simp,by simp,fun β w hrd => ?_⟩⟩;have hl0:=Env.like_trans r2 r4 hl;obtain⟨p1,p2⟩:=tr hl0;have p3:0≤ix.den ρ'':=by rw [IE.den_like hl0 wx.1.1.2];exact q3
      have:=zkc (n:=(len.den ρ'').toNat) (m:=(cap.den ρ'').toNat) h1 hz (ρ''.p p).1 ((ρ''.p p).2 + (ix.den ρ'').toNat * s) ki (e.den ρ'') p1 (by omega) w
      have e1:(e'.den ρ'').toNat=(ix.den ρ'').toNat + (e.den ρ'').toNat:=by
       rw [r6 ρ'' hl];simp only [IP.den];omega
      simpa [SV.den,CV.den,At.den,ptr,zoa,e1,Nat.add_mul,Nat.add_assoc]using this
    ·exact h.elim
   ·exact h.elim
  ·exact h.elim
 ·exact h.elim
theorem zni{t el:TypeId}{n:Nat}{g:Bool}{s:Nat}(h1:P.underlying t=some (.array n el))(hz:szAgg P el=some (g,s))(cs:List At)(k:IntKind)(i:Int)(h0:0≤i)(hn:i < n){v:CV}
  (hv:partOf P el cs (i.toNat * s)=some v) (ρ:Env) (β:Nat→Nat) (w:World) :
  (Instr.index t (.agg (cs.map (At.den ρ β)).toArray) (.int k i)).run P w=.ok (v.den ρ β) w:=by
 have:=znl hv ρ β w
 simp [Instr.index,asIntOf,run_underlying h1,h0,hn,zka hz];simpa using this
theorem zbw(l:List UInt8)(i:Nat)(h:i < l.length):(⟨l.toArray⟩:ByteArray)[i]? = some (l.getD i 0):=by
 have hs:i < (⟨l.toArray⟩:ByteArray).size:=by show i < l.toArray.size;simpa using h
 rw [getElem?_pos _ i hs];congr 1;show l.toArray[i]=_;simp [List.getD,h]
theorem zgo{c:Ctr}{t:TypeId}{x i:SV}{K:SV→Ctr→Env→Prop}{ρ:Env}(hx:x.wf c=true)(hi:i.wf c=true)(h:doIndex (PA P W Q QM QP) P c t x i K ρ) :
  Res c ρ K fun sv ρ''=>sv ≠ .any∧(x ≠ .any∧i ≠ .any)∧∀ β w,(Instr.index t (x.den ρ'' β) (i.den ρ'' β)).run P w=.ok (sv.den ρ'' β) w:=by
 unfold doIndex at h;split at h
 ·rename_i ki e;have we:e.wf c=true:=hi;generalize h1:P.underlying t=u1 at h;split at h
  ·rename_i n el cs;generalize hz:szAgg P el=u2 at h;split at h
   ·rename_i g s;split at h
    ·rename_i j;split at h
     ·rename_i hj;generalize hp:partOf P el cs (j.toNat * s)=u3 at h;split at h
      ·rename_i v;refine Res.pure h fun ρ'' _=>⟨by simp,by simp,fun β w => ?_⟩;exact zni h1 hz cs ki j hj.1 (by have:=hj.1;have:=hj.2;omega) hp ρ'' β w
      ·exact h.elim
     ·exact h.elim
    ·obtain⟨q1,h⟩:=zb h;obtain⟨q2,h⟩:=zb h;obtain⟨m,hm,he,h⟩:=znb q1 q2 n (Nat.le_refl _) (by rw [Nat.sub_self];exact q1) h;generalize hp:partOf P el cs (m * s)=u3 at h;split at h
     ·rename_i v;refine Res.pure h fun ρ'' hl=>⟨by simp,by simp,fun β w => ?_⟩;have he':e.den ρ''=(m:Int):=by rw [IE.den_like hl we];exact he
      have:=zni h1 hz cs ki (e.den ρ'') (by rw [he'];omega) (by rw [he'];omega) (v:=v) (by rw [he'];simpa using hp) ρ'' β w
      exact this
     ·exact h.elim
   ·exact h.elim
  ·rename_i x;generalize hs:strOf x=u2 at h;split at h
   ·rename_i s;have wx:x.wf c=true:=hx
    have ws:s.wf c=true:=by
     cases x <;> simp only [strOf,Option.some.injEq,reduceCtorEq]at hs <;> subst hs <;> exact wx
    obtain⟨n,c1,ρ1,r1,r2,r3,r4,r5,r6⟩:=zie h;obtain⟨q1,ha⟩:=zb r1;obtain⟨q2,hb⟩:=zb ha;obtain⟨sv,c2,ρ2,k1,k2,k3,k4⟩:=zba hb;refine⟨sv,c2,ρ2,k1,Ctr.le_trans r2 k2,Env.like_trans r2 r4 k3,fun ρ'' hl => ?_⟩;have hl1:=Env.like_trans k2 k3 hl;have hl0:=Env.like_trans r2 r4 hl1;obtain⟨v1,v2⟩:=k4 ρ'' hl b0;refine⟨v2,by simp,fun β w => ?_⟩;have e1:0≤e.den ρ'':=by rw [IE.den_like hl1 (IE.wf_le r2 we)];exact q1
    have e2:e.den ρ'' < ((s.den ρ'').length:Int):=by
     have:=r6 ρ'' hl1
     simp only [IP.den]at this;rw [← this,IE.den_like hl1 (IE.wf_le r2 we),IE.den_like hl1 r5];exact q2
    have v3:=(k4 ρ'' hl β).1;rw [v3];simp only [SV.den,CV.den];rw [zpb hs ρ'' β];simp only [At.den,IP.den];have hb:(e.den ρ'').toNat < (s.den ρ'').length:=by omega
    have hget:=zbw (s.den ρ'') (e.den ρ'').toNat hb;simp [Instr.index,asIntOf,run_underlying h1,e1,hget]
   ·exact h.elim
  ·exact h.elim
 ·exact h.elim
theorem zop:∀ (v:List Value) (k off:Nat) (cs:List Value),off + k + v.length≤cs.length →
    (v.zipIdx k).foldl (fun (a:Array Value) (x:Value × Nat)=>a.setIfInBounds (off + x.2) x.1) cs.toArray=(cs.take (off + k)++v++cs.drop (off + k + v.length)).toArray
  | [],k,off,cs,h=>by simp
  | x::v,k,off,cs,h=>by
    simp only [List.zipIdx_cons,List.foldl_cons];have hs:cs.toArray.setIfInBounds (off + k) x=(cs.set (off + k) x).toArray:=by simp
    rw [hs,zop v (k + 1) off (cs.set (off + k) x) (by simp at h ⊢;omega)];congr 1
    have:=list_seg_step cs (off + k) x v (by simp at h ⊢;omega)
    simpa [Nat.add_assoc]using this
theorem zoi{α β:Type}(f:α→β)(l:List α)(v:List α)(a b:Nat):(l.take a++v++l.drop b).map f=(l.map f).take a++v.map f++(l.map f).drop b:=by
 simp [List.map_take,List.map_drop]
theorem CV.cells_den(ρ:Env)(β:Nat→Nat)(v:CV):(v.den ρ β).cells=(v.cells.map (At.den ρ β)).toArray:=by
  cases v with
  | agg l=>rfl
  | one a =>
    have h1:=At.den_one ρ β a;simp only [CV.den,CV.cells,List.map_cons,List.map_nil];cases hd:a.den ρ β <;> first | rfl | (rw [hd]at h1;simp [Value.oneCell']at h1)
theorem zmg{place:Nat→Option (Nat × Nat)}(ρ:Env)(β:Nat→Nat):∀ (parts:List (Nat × SV)) (cells:List At) {cs:List At},fillA place cells parts=some cs →
    Instr.fill place (cells.map (At.den ρ β)).toArray (parts.map fun p=>(p.1,p.2.den ρ β))=some (cs.map (At.den ρ β)).toArray
  | [],cells,cs,h=>by simp only [fillA,Option.some.injEq]at h;subst h;rfl
  | (i,.any)::r,_,_,h=>by simp [fillA]at h
  | (i,.und)::r,_,_,h=>by simp [fillA]at h
  | (i,.tup l)::r,_,_,h=>by simp [fillA]at h
  | (i,.cv v)::r,cells,cs,h=>by
    simp only [fillA]at h;cases hp:place i with
    | none=>simp [hp]at h
    | some q =>
      obtain⟨off,size⟩:=q;simp only [hp]at h;split at h
      · rename_i hs;obtain⟨h1,h2⟩:=hs;have ih:=zmg ρ β r _ h;have hlen:(v.den ρ β).cells.size=size:=by rw [CV.cells_den];simpa using h1
        simp only [List.map_cons,Instr.fill,hp,SV.den];rw [if_neg (by rw [hlen];simp;omega)];rw [CV.cells_den,← Array.foldl_toList,Array.toList_zipIdx]
        have:=zop (v.cells.map (At.den ρ β)) 0 off (cells.map (At.den ρ β)) (by simp;omega)
        simp only [Nat.add_zero,List.length_map,h1]at this;rw [← zoi]at this;simp only []at this ⊢;rw [this];exact ih
      · cases h
theorem zjb{t:TypeId}{z:CV}(h:zeroA P t=some z)(ρ:Env)(β:Nat→Nat)(w:World)(c:Ctr):(zeroValue t).run P w=.ok (z.den ρ β) w∧z.wf c=true:=by
  unfold zeroA at h;cases hi:P.info? t with
  | none=>simp [hi]at h
  | some i =>
    simp only [hi]at h;cases hz:i.zero with
    | none=>simp [hz]at h
    | some v =>
      simp only [hz]at h;have h2:=SV.ofValue_den v c ρ β;generalize hs:SV.ofValue v=sv at h h2;cases sv with
      | cv x =>
        simp only [Option.some.injEq]at h;subst h;refine⟨?_,h2.1⟩;have h3:=h2.2 (by simp);simp only [SV.den]at h3;simp [zeroValue,typeInfo,hi,hz,h3]
      | _=>simp at h
theorem zje:∀ (fs:List Field) {pl:List (Nat × Nat)} (w:World),fieldPlaces P fs=some pl→(fs.mapM (fun f=>do pure (f.offset,← Go.sizeOf f.type):Field→Sem (Nat × Nat))).run P w=.ok pl w
  | [],pl,w,h=>by simp only [fieldPlaces,Option.some.injEq]at h;subst h;simp
  | f::l,pl,w,h=>by
    simp only [fieldPlaces]at h;split at h
    · rename_i g n r h1 h2;simp only [Option.some.injEq]at h;subst h
      have:=zje l w h2
      simp only [List.mapM_cons,Sem.run_bind,zka h1,Result.andThen_ok,Sem.run_pure,this]
    · cases h
theorem zho{c:Ctr}{t:TypeId}{parts:List (Nat × SV)}{K:SV→Ctr→Env→Prop}{ρ:Env}(h:doBuild (PA P W Q QM QP) P c t parts K ρ) :
  Res c ρ K fun sv ρ''=>sv ≠ .any∧∀ β w,(Instr.build t (parts.map fun p=>(p.1,p.2.den ρ'' β)).toArray).run P w=.ok (sv.den ρ'' β) w:=by
 unfold doBuild at h;generalize h1:P.underlying t=u1 at h;generalize h2:zeroA P t=u2 at h;split at h
 ·rename_i fs z;generalize h3:fieldPlaces P fs.toList=u3 at h;split at h
  ·rename_i pl;generalize h4:fillA (fun x=>pl[x]?) z.cells parts=u4 at h;split at h
   ·rename_i cs;refine Res.pure h fun ρ'' _=>⟨by simp,fun β w => ?_⟩;have q1:=(zjb h2 ρ'' β w c).1;have q2:=zje fs.toList w h3;have q3:=zmg ρ'' β parts z.cells h4;simp only [Instr.build,Sem.run_bind,q1,Result.andThen_ok,run_underlying h1];rw [Array.mapM_eq_mapM_toList];simp only [Sem.run_map,q2,Result.andThen_ok,CV.cells_den];have e:(fun (x:Nat)=>(pl.toArray)[x]?)=fun (x:Nat)=>pl[x]? := by funext x;simp
    simp only [e,q3];rfl
   ·exact h.elim
  ·exact h.elim
 ·rename_i n el z;generalize h3:szAgg P el=u3 at h;split at h
  ·rename_i g s;generalize h4:fillA (fun i=>some (i * s,s)) z.cells parts=u4 at h;split at h
   ·rename_i cs;refine Res.pure h fun ρ'' _=>⟨by simp,fun β w => ?_⟩;have q1:=(zjb h2 ρ'' β w c).1;have q3:=zmg ρ'' β parts z.cells h4;simp only [Instr.build,Sem.run_bind,q1,Result.andThen_ok,run_underlying h1,zka h3,CV.cells_den,q3];rfl
   ·exact h.elim
  ·exact h.elim
 ·exact h.elim
end Vc
