import Derived.Test.YtnjpiipdgapakaaGreatDoorAwv
import Derived.Test.YtnjpiipdgapakaaGreatDoorQa
import Derived.Lib.LaidU8
import Derived.Lib.LaidTab
import Derived.WalkKit
import Derived.ProofKit
import Derived.OpenShut
import Derived.Lib.SmallJoins
set_option linter.unusedVariables false
set_option linter.unusedSimpArgs false
namespace Go.Proofs.YtnjpiipdgapakaaGreatDoor
open Go Go.RowKit Go.ChangeShapes Go.WideShapes Go.ChangeAt Go.Joins Vc
theorem Rz{α:Type}(c:Nat):∀(ls:List (List α)) (cs:List α),cs.length=ls.length*c->(∀i l,ls[i]? = some l->(cs.drop (i*c)).take c=l)->cs=ls.flatten
  | [],cs,h,_=>by simpa using h
  |l::r,cs,h,hi=>by
    have h0:=hi 0 l rfl;simp only [Nat.zero_mul,List.drop_zero]at h0
    have hr:=Rz c r (cs.drop c) (by rw [List.length_drop,h,List.length_cons,Nat.add_mul];omega) λi l' hl=>by
      have:=hi (i+1) l' (by simpa using hl)
      rw [List.drop_drop];rw [show c+i*c=(i+1)*c by rw [Nat.add_mul];omega];exact this
    rw [List.flatten_cons,<-hr,<-h0,List.take_append_drop]
theorem RB{P:Program}{w:World}{sp:Nat->Bool}{held:Bool}{fuel:Nat}{t e:TypeId}{n:Nat}{cs:List Value}{ds:List (DataW Unit)}{ls:List (List Value)}{p:List MemPlace}
    (ht:P.underlying t=some (.array n e)) (A3:P.cellsOf t=n*P.cellsOf e) (hn:ds.length=n) (Bu:ls.length=n)
    (GQ:∀(fuel:Nat) (cs:List Value) (d:DataW Unit) (p:List MemPlace),DataW.trod (λ_=>()) P w 0 sp held fuel e cs=some (d,p)->∀i:Nat,ds[i]? = some d->ls[i]? = some cs)
    (h:DataW.trod (λ_=>()) P w 0 sp held fuel t cs=some (.agg ds,p)):cs=ls.flatten:=by
  cases fuel with
  |zero=>simp [DataW.trod]at h
  |succ fuel =>
    simp only [DataW.trod,ht]at h;split at h
    · rename_i hl;obtain⟨xs,hm,hx⟩:=Option.map_eq_some_iff.1 h
      have oK:xs.map (·.1)=ds:=by
        have:=congrArg Prod.fst hx
        simpa using this
      refine Rz (P.cellsOf e) ls cs (by rw [hl,A3,Bu]) λi l hi => ?_;have su:i<n:=by rw [<-Bu];exact (List.getElem?_eq_some_iff.1 hi).1
      obtain⟨b,hb,hf⟩:=Lib.mapM_at hm i i (by simp [su]);have hd:ds[i]? = some b.1:=by rw [<-oK];simp [hb]
      have:=GQ fuel _ b.1 b.2 hf i hd
      rw [hi]at this;exact (Option.some.inj this).symm
    · cases h
theorem Na{P:Program}{w:World}{n:String}{d:DataW Unit}(h:Lib.VarReads P w n d){g:Nat}(hg:P.globalNamed n=some g){t:TypeId}(ht:(P.globals[g]?).map (·.type)=some t) :
  ∃(cs:List Value) (fuel:Nat) (p:List MemPlace),(∃ty mk,w.heap[g]? = some (.cells cs.toArray ty mk))/\DataW.trod (λ_=>()) P w 0 (λ_=>true) false fuel t cs=some (d,p):=by
 obtain⟨g',t',cs,fuel,p,eF,WM,pq,hd⟩:=h;obtain rfl:=Option.some.inj (hg.symm.trans eF);obtain rfl:=Option.some.inj (ht.symm.trans WM);refine⟨cs.toList,fuel,p, ?_,hd⟩;unfold World.var? at pq;rw [hg]at pq;simp only [Option.bind_some]at pq;split at pq
 ·rename_i fH ty mk hh;cases pq;exact⟨ty,mk,by rw [hh]⟩
 ·cases pq
def yB:DataW Unit->List Int
  | .agg l=>l.map λx=>match x with
    | .lit (.int _ z)=>z
    |_=>0
  |_=>[]
def rU:DataW Unit->List (List UInt8)
  | .agg l=>l.map λx=>match x with
    | .lit (.string z)=>z
    |_=>[]
  |_=>[]
def xn:DataW Unit->List (DataW Unit)
 | .agg l=>l
 |_=>[]
theorem E'{P:Program}{w:World}{n:String}{k:IntKind}{d:DataW Unit}(h:Lib.VarReads P w n d)(hd:d=Lib.tabData k (yB d)){g:Nat}(hg:P.globalNamed n=some g){t e:TypeId}{m:Nat}(ht:(P.globals[g]?).map (·.type)=some t)
  (hu:P.underlying t=some (.array m e)) (he:P.underlying e=some (.int k)) (pf:P.cellsOf e=1) (A3:P.cellsOf t=m) {C:Array Value} (hC:((yB d).map λz=>Value.int k z).toArray=C):∃ty mk,w.heap[g]? = some (.cells C ty mk):=by
 obtain⟨cs,fuel,p,h1,h2⟩:=Na h hg ht;rw [hd]at h2;rw [Lib.cells_of_tab hu he pf A3 h2,hC]at h1;exact h1
theorem Nb{P:Program}{w:World}{n:String}{d:DataW Unit}(h:Lib.VarReads P w n d)(hd:d=.agg ((rU d).map λs=>.lit (.string s))){g:Nat}(hg:P.globalNamed n=some g){t e:TypeId}{m:Nat}(ht:(P.globals[g]?).map (·.type)=some t)
  (hu:P.underlying t=some (.array m e)) (he:P.underlying e=some .string) (A3:P.cellsOf t=m*P.cellsOf e) (hm:(rU d).length=m) {C:Array Value} (hC:(((rU d).map λs=>[Value.string ⟨s.toArray⟩]).flatten).toArray=C):∃ty mk,w.heap[g]? = some (.cells C ty mk):=by
 obtain⟨cs,fuel,p,h1,h2⟩:=Na h hg ht;rw [hd]at h2
 rw [RB hu A3 (by simpa using hm) (ls:=(rU d).map λs=>[Value.string ⟨s.toArray⟩]) (by simpa using hm) (λfuel cs d' p oM i hi=>by
  obtain⟨s,hs,hx,_⟩:=DataW.trod_string he oM;obtain⟨rfl,rfl⟩:=Prod.mk.inj hx;simp only [List.getElem?_map,Option.map_eq_some_iff,DataW.lit.injEq,Lit.string.injEq]at hi;obtain⟨s',hi,rfl⟩:=hi;subst hs;simp [hi]) h2,hC]at h1
 exact h1
section
variable {H:Type} {enc:TypeId × Value->H} {w:World} {base:Nat} {sp:Nat->Bool} {held:Bool}
set_option maxRecDepth 100000 in
theorem Nc{fuel:Nat}{cs:List Value}{x:DataW H × List MemPlace}(h:DataW.trod enc Tryz.prog w base sp held fuel 156 cs=some x) :
    ∃a b c d e:Int,cs=[.int .i64 a,.int .i64 b,.int .i64 c,.int .i64 d,.int .i64 e]/\x.1=.agg [.lit (.int .i64 a),.lit (.int .i64 b),.lit (.int .i64 c),.lit (.int .i64 d),.lit (.int .i64 e)]:=by
  obtain⟨xs,n,_,hx,hl,hlen,hf⟩:=DataW.trod_struct Tryz.underlying156 h;have e1:Tryz.prog.cellsOf 3=1:=by kernel_rfl
  have e3:Tryz.prog.cellsOf 156=5:=by kernel_rfl
  rw [e3]at hl
  match xs,hlen with
  | [y0,y1,y2,y3,y4],_ =>
    match cs,hl with
    | [c0,c1,c2,c3,c4],_ =>
      have g0:=hf 0 _ rfl;have g1:=hf 1 _ rfl;have g2:=hf 2 _ rfl;have g3:=hf 3 _ rfl;have g4:=hf 4 _ rfl;simp [e1]at g0 g1 g2 g3 g4;obtain⟨a0,q0,z0,_⟩:=DataW.trod_int Tryz.underlying3 g0;obtain⟨a1,q1,z1,_⟩:=DataW.trod_int Tryz.underlying3 g1;obtain⟨a2,q2,z2,_⟩:=DataW.trod_int Tryz.underlying3 g2;obtain⟨a3,q3,z3,_⟩:=DataW.trod_int Tryz.underlying3 g3;obtain⟨a4,q4,z4,_⟩:=DataW.trod_int Tryz.underlying3 g4;simp at q0 q1 q2 q3 q4;subst q0 q1 q2 q3 q4 z0 z1 z2 z3 z4;exact⟨a0,a1,a2,a3,a4,rfl,by rw [hx];rfl⟩
set_option maxRecDepth 100000 in
theorem WN{fuel:Nat}{cs:List Value}{x:DataW H × List MemPlace}(h:DataW.trod enc Tryz.prog w base sp held fuel 228 cs=some x) :
    ∃(s:ByteArray) (a b c d e:Int),cs=[.string s,.int .i64 a,.int .i64 b,.int .i64 c,.int .i64 d,.int .i64 e]/\x.1=.agg [.lit (.string s.data.toList),.agg [.lit (.int .i64 a),.lit (.int .i64 b),.lit (.int .i64 c),.lit (.int .i64 d),.lit (.int .i64 e)]]:=by
  obtain⟨xs,n,_,hx,hl,hlen,hf⟩:=DataW.trod_struct Tryz.underlying228 h;have e1:Tryz.prog.cellsOf 9=1:=by kernel_rfl
  have e2:Tryz.prog.cellsOf 156=5:=by kernel_rfl
  have e3:Tryz.prog.cellsOf 228=6:=by kernel_rfl
  rw [e3]at hl
  match xs,hlen with
  | [y0,y1],_ =>
    match cs,hl with
    | [c0,c1,c2,c3,c4,c5],_ =>
      have g0:=hf 0 _ rfl;have g1:=hf 1 _ rfl;simp [e1,e2]at g0 g1;obtain⟨s,q0,z0,_⟩:=DataW.trod_string Tryz.underlying9 g0;obtain⟨a0,a1,a2,a3,a4,q1,z1⟩:=Nc g1;simp at q0 q1;obtain⟨rfl,rfl,rfl,rfl,rfl⟩:=q1;subst q0;exact⟨s,a0,a1,a2,a3,a4,rfl,by rw [hx];simp [z0,z1]⟩
end
def mv:DataW Unit->List Value
 | .agg [.lit (.string s),.agg [.lit (.int .i64 a),.lit (.int .i64 b),.lit (.int .i64 c),.lit (.int .i64 d),.lit (.int .i64 e)]]=>[.string ⟨s.toArray⟩,.int .i64 a,.int .i64 b,.int .i64 c,.int .i64 d,.int .i64 e]
 |_=>[]
theorem Nd{w:World}{n:String}{d:DataW Unit}(h:Lib.VarReads Tryz.prog w n d)(hd:d=.agg (xn d)){g:Nat}(hg:Tryz.prog.globalNamed n=some g){t:TypeId}{m:Nat}(ht:(Tryz.prog.globals[g]?).map (·.type)=some t)
  (hu:Tryz.prog.underlying t=some (.array m 228)) (A3:Tryz.prog.cellsOf t=m*Tryz.prog.cellsOf 228) (hm:(xn d).length=m) {C:Array Value} (hC:(((xn d).map mv).flatten).toArray=C):∃ty mk,w.heap[g]? = some (.cells C ty mk):=by
 obtain⟨cs,fuel,p,h1,h2⟩:=Na h hg ht;rw [hd]at h2
 rw [RB hu A3 hm (ls:=(xn d).map mv) (by simpa using hm) (λfuel cs d' p oM i hi=>by
  obtain⟨s,a,b,c,d2,e,hs,hx⟩:=WN oM;simp only at hx;subst hs hx;simp [hi,mv]) h2,hC]at h1
 exact h1
set_option maxRecDepth 100000 in
theorem Nf{W:World}(hr:∀n d,(n,d)∈Rows.topBurnsRow.laid->Lib.VarReads Tryz.prog W n d):nO W where
 g0:=Nd (t:=229) (hr _ _ (List.mem_of_getElem? (i:=4) rfl)) (by kernel_rfl) (by kernel_rfl) (by kernel_rfl) (m:=14) (by kernel_rfl) (by kernel_rfl) (by kernel_rfl) (by kernel_rfl)
 g3:=Nb (t:=197) (hr _ _ (List.mem_of_getElem? (i:=3) rfl)) (by kernel_rfl) (by kernel_rfl) (by kernel_rfl) (m:=13) (e:=9) (by kernel_rfl) (by kernel_rfl) (by kernel_rfl) (by kernel_rfl) (by kernel_rfl)
 g4:=E' (t:=226) (k := .i64) (e:=3) (m:=3) (hr _ _ (List.mem_of_getElem? (i:=5) rfl)) (by kernel_rfl) (by kernel_rfl) (by kernel_rfl) (by kernel_rfl) (by kernel_rfl) (by kernel_rfl) (by kernel_rfl) (by kernel_rfl)
 g14:=E' (t:=230) (k := .u8) (e:=5) (m:=256) (hr _ _ (List.mem_of_getElem? (i:=2) rfl)) (by kernel_rfl) (by kernel_rfl) (by kernel_rfl) (by kernel_rfl) (by kernel_rfl) (by kernel_rfl) (by kernel_rfl) (by kernel_rfl)
end Go.Proofs.YtnjpiipdgapakaaGreatDoor
