import Derived.Test.YtdjgnbkclcjiiaaGreatDoorG0
import Derived.Test.YtdjgnbkclcjiiaaGreatDoorProg
import Derived.Test.YtdjgnbkclcjiiaaGreatDoorRows
import Derived.Lib.LaidU8
import Derived.Lib.LaidTab
import Derived.LaidSub
import Derived.LaidMore
import Derived.WalkKit
import Derived.ProofKit
import Derived.OpenShut
import Derived.Lib.SmallJoins
set_option linter.unusedVariables false
set_option linter.unusedSimpArgs false
namespace Go.Proofs.YtdjgnbkclcjiiaaGreatDoor
open Go Go.RowKit Go.ChangeShapes Go.WideShapes Go.ChangeAt Go.Joins
theorem zlh{α:Type}(c:Nat):∀ (ls:List (List α)) (cs:List α),cs.length=ls.length * c→(∀ i l,ls[i]? = some l→(cs.drop (i * c)).take c=l)→cs=ls.flatten
  | [],cs,h,_=>by simpa using h
  | l::r,cs,h,hi=>by
    have h0:=hi 0 l rfl;simp only [Nat.zero_mul,List.drop_zero]at h0
    have hr:=zlh c r (cs.drop c) (by rw [List.length_drop,h,List.length_cons,Nat.add_mul];omega) fun i l' hl=>by
      have:=hi (i + 1) l' (by simpa using hl)
      rw [List.drop_drop];rw [show c + i * c=(i + 1) * c by rw [Nat.add_mul];omega];exact this
    rw [List.flatten_cons,← hr,← h0,List.take_append_drop]
theorem zqk{H:Type}{enc:TypeId × Value→H}{P:Program}{w:World}{sp:Nat→Bool}{held:Bool}{fuel:Nat}{t e:TypeId}{n:Nat}{cs:List Value}{ds:List (DataW H)}{ls:List (List Value)}{p:List MemPlace}
    (ht:P.underlying t=some (.array n e)) (hct:P.cellsOf t=n * P.cellsOf e) (hn:ds.length=n) (hll:ls.length=n)
    (hel:∀ (fuel:Nat) (cs:List Value) (d:DataW H) (p:List MemPlace),DataW.trod enc P w 0 sp held fuel e cs=some (d,p)→∀ i:Nat,ds[i]? = some d→ls[i]? = some cs)
    (h:DataW.trod enc P w 0 sp held fuel t cs=some (.agg ds,p)):cs=ls.flatten:=by
  cases fuel with
  | zero=>simp [DataW.trod]at h
  | succ fuel =>
    simp only [DataW.trod,ht]at h;split at h
    · rename_i hl;obtain⟨xs,hm,hx⟩:=Option.map_eq_some_iff.1 h
      have hxs:xs.map (·.1)=ds:=by
        have:=congrArg Prod.fst hx
        simpa using this
      refine zlh (P.cellsOf e) ls cs (by rw [hl,hct,hll]) fun i l hi => ?_;have hin:i < n:=by rw [← hll];exact (List.getElem?_eq_some_iff.1 hi).1
      obtain⟨b,hb,hf⟩:=Lib.mapM_at hm i i (by simp [hin]);have hd:ds[i]? = some b.1:=by rw [← hxs];simp [hb]
      have:=hel fuel _ b.1 b.2 hf i hd
      rw [hi]at this;exact (Option.some.inj this).symm
    · cases h
theorem zuu{P:Program}{w:World}{n:String}{d:DataW Unit}(h:Lib.VarReads P w n d){g:Nat}(hg:P.globalNamed n=some g){t:TypeId}(ht:(P.globals[g]?).map (·.type)=some t) :
  ∃ (cs:List Value) (fuel:Nat) (p:List MemPlace),(∃ ty mk,w.heap[g]? = some (.cells cs.toArray ty mk))∧DataW.trod (fun _=>()) P w 0 (fun _=>true) false fuel t cs=some (d,p):=by
 obtain⟨g',t',cs,fuel,p,hg',ht',hvar,hd⟩:=h;obtain rfl:=Option.some.inj (hg.symm.trans hg');obtain rfl:=Option.some.inj (ht.symm.trans ht');refine⟨cs.toList,fuel,p, ?_,hd⟩;unfold World.var? at hvar;rw [hg]at hvar;simp only [Option.bind_some]at hvar;split at hvar
 ·rename_i cs' ty mk hh;cases hvar;exact⟨ty,mk,by rw [hh]⟩
 ·cases hvar
def strsD:DataW Unit→List (List UInt8)
  | .agg l=>l.map fun x=>match x with
    | .lit (.string z)=>z
    | _=>[]
  | _=>[]
theorem zvu{P:Program}{w:World}{n:String}{d:DataW Unit}(h:Lib.VarReads P w n d)(hd:d=.agg ((strsD d).map fun s=>.lit (.string s))){g:Nat}(hg:P.globalNamed n=some g){t e:TypeId}{m:Nat}(ht:(P.globals[g]?).map (·.type)=some t)
  (hu:P.underlying t=some (.array m e)) (he:P.underlying e=some .string) (hct:P.cellsOf t=m * P.cellsOf e) (hm:(strsD d).length=m) {C:Array Value} (hC:(((strsD d).map fun s=>[Value.string ⟨s.toArray⟩]).flatten).toArray=C):∃ ty mk,w.heap[g]? = some (.cells C ty mk):=by
 obtain⟨cs,fuel,p,h1,h2⟩:=zuu h hg ht;rw [hd]at h2
 rw [zqk hu hct (by simpa using hm) (ls:=(strsD d).map fun s=>[Value.string ⟨s.toArray⟩]) (by simpa using hm) (fun fuel cs d' p hd' i hi=>by
  obtain⟨s,hs,hx,_⟩:=DataW.trod_string he hd';obtain⟨rfl,rfl⟩:=Prod.mk.inj hx;simp only [List.getElem?_map,Option.map_eq_some_iff,DataW.lit.injEq,Lit.string.injEq]at hi;obtain⟨s',hi,rfl⟩:=hi;subst hs;simp [hi]) h2,hC]at h1
 exact h1
theorem zue{P:Program}(hP:P=Tryz.prog){w:World}{sp:Nat→Bool}{fuel:Nat}{cs:List Value}{s:List UInt8}{b:UInt8}{r:List UInt8}{p:List MemPlace}{f0:FuncId}
    (hone:((List.range P.funcs.size).filter fun f=>(P.funcs[f]?).any (·.name.toUTF8.data.toList == b::r))=[f0])
    (h:DataW.trod (funcToken P) P w 0 sp true fuel 188 cs=some (.agg [.lit (.string s),.held (b::r)],p)):cs=[.string ⟨s.toArray⟩,.func (.func f0) #[] #[]]:=by
  have hu:P.underlying 188=Tryz.prog.underlying 188:=by rw [hP]
  obtain⟨y0,y1,n,hx,hl,g0,g1⟩:=trod_struct2 (hu.trans Tryz.underlying188) h;have e0:P.cellsOf 9=1:=by rw [hP];kernel_rfl
  have e1:P.cellsOf 186=1:=by rw [hP];kernel_rfl
  have e3:P.cellsOf 188=2:=by rw [hP];kernel_rfl
  have us:P.underlying 9=some .string:=by rw [hP];kernel_rfl
  have uf:P.underlying 186=Tryz.prog.underlying 186:=by rw [hP]
  rw [e3]at hl;simp only [e0,e1]at g0 g1;simp only [Prod.mk.injEq,DataW.agg.injEq,List.cons.injEq,and_true]at hx;obtain⟨⟨h0,h1⟩,_⟩:=hx
  match cs,hl with
  | [c0,c1],_ =>
    obtain⟨s',q0,hx0,_⟩:=DataW.trod_string us g0;obtain⟨ps,rs,va,huf⟩:∃ ps rs va,Tryz.prog.underlying 186=some (.func ps rs va):=⟨#[3,3],#[4],false,by kernel_rfl⟩;obtain⟨y1,q1⟩:=y1;simp only at h1;subst h1
    have:=func_of_trod (uf.trans huf) hone (v:=c1) (by simpa using g1)
    subst this;simp at q0;rw [hx0]at h0;simp only [DataW.lit.injEq,Lit.string.injEq]at h0;rw [q0,h0]
set_option maxRecDepth 100000 in
theorem zuca {W : World} (h : funcsAt Tryz.prog W "ullage/countdown.comparisons" (match (Rows.laid_ullage_countdown_comparisons : DataW Unit) with | .iface _ d => d | d => d)) : Vg_1 W := by
  obtain⟨g,t,cs,fuel,p,hg,ht,hv,hd⟩:=h;obtain rfl := Option.some.inj ((show Tryz.prog.globalNamed "ullage/countdown.comparisons" = some 1 by kernel_rfl).symm.trans hg);obtain rfl:=Option.some.inj ((show (Tryz.prog.globals[1]?).map (·.type)=some 189 by kernel_rfl).symm.trans ht);have hd':DataW.trod (funcToken Tryz.prog) Tryz.prog W 0 (fun _=>true) true fuel 189 cs.toList=some (.agg [.agg [.lit (.string [60]),.held [117,108,108,97,103,101,47,99,111,117,110,116,100,111,119,110,46,99,111,109,112,97,114,105,115,111,110,115,36,49]],.agg [.lit (.string [60,61]),.held [117,108,108,97,103,101,47,99,111,117,110,116,100,111,119,110,46,99,111,109,112,97,114,105,115,111,110,115,36,50]],.agg [.lit (.string [62]),.held [117,108,108,97,103,101,47,99,111,117,110,116,100,111,119,110,46,99,111,109,112,97,114,105,115,111,110,115,36,51]],.agg [.lit (.string [62,61]),.held [117,108,108,97,103,101,47,99,111,117,110,116,100,111,119,110,46,99,111,109,112,97,114,105,115,111,110,115,36,52]],.agg [.lit (.string [61,61]),.held [117,108,108,97,103,101,47,99,111,117,110,116,100,111,119,110,46,99,111,109,112,97,114,105,115,111,110,115,36,53]],.agg [.lit (.string [33,61]),.held [117,108,108,97,103,101,47,99,111,117,110,116,100,111,119,110,46,99,111,109,112,97,114,105,115,111,110,115,36,54]]],p):=hd
  have hel:∀ (fuel:Nat) (cs:List Value) (d:DataW (List UInt8)) (p:List MemPlace),DataW.trod (funcToken Tryz.prog) Tryz.prog W 0 (fun _=>true) true fuel 188 cs=some (d,p)→∀ i:Nat,([.agg [.lit (.string [60]),.held [117,108,108,97,103,101,47,99,111,117,110,116,100,111,119,110,46,99,111,109,112,97,114,105,115,111,110,115,36,49]],.agg [.lit (.string [60,61]),.held [117,108,108,97,103,101,47,99,111,117,110,116,100,111,119,110,46,99,111,109,112,97,114,105,115,111,110,115,36,50]],.agg [.lit (.string [62]),.held [117,108,108,97,103,101,47,99,111,117,110,116,100,111,119,110,46,99,111,109,112,97,114,105,115,111,110,115,36,51]],.agg [.lit (.string [62,61]),.held [117,108,108,97,103,101,47,99,111,117,110,116,100,111,119,110,46,99,111,109,112,97,114,105,115,111,110,115,36,52]],.agg [.lit (.string [61,61]),.held [117,108,108,97,103,101,47,99,111,117,110,116,100,111,119,110,46,99,111,109,112,97,114,105,115,111,110,115,36,53]],.agg [.lit (.string [33,61]),.held [117,108,108,97,103,101,47,99,111,117,110,116,100,111,119,110,46,99,111,109,112,97,114,105,115,111,110,115,36,54]]]:List (DataW (List UInt8)))[i]? = some d→([[.string ⟨(([60]:List UInt8)).toArray⟩,.func (.func 219) #[] #[]],
    [.string ⟨(([60,61]:List UInt8)).toArray⟩,.func (.func 220) #[] #[]],
    [.string ⟨(([62]:List UInt8)).toArray⟩,.func (.func 221) #[] #[]],
    [.string ⟨(([62,61]:List UInt8)).toArray⟩,.func (.func 222) #[] #[]],
    [.string ⟨(([61,61]:List UInt8)).toArray⟩,.func (.func 223) #[] #[]],
    [.string ⟨(([33,61]:List UInt8)).toArray⟩,.func (.func 224) #[] #[]]]:List (List Value))[i]? = some cs:=fun fuel cs d p h' i hi=>by
    match i,hi with
    | 0,hi =>
      obtain rfl:_=d:=Option.some.inj hi;exact (congrArg some (zue rfl (f0:=219) (by kernel_rfl) h')).symm
    | 1,hi =>
      obtain rfl:_=d:=Option.some.inj hi;exact (congrArg some (zue rfl (f0:=220) (by kernel_rfl) h')).symm
    | 2,hi =>
      obtain rfl:_=d:=Option.some.inj hi;exact (congrArg some (zue rfl (f0:=221) (by kernel_rfl) h')).symm
    | 3,hi =>
      obtain rfl:_=d:=Option.some.inj hi;exact (congrArg some (zue rfl (f0:=222) (by kernel_rfl) h')).symm
    | 4,hi =>
      obtain rfl:_=d:=Option.some.inj hi;exact (congrArg some (zue rfl (f0:=223) (by kernel_rfl) h')).symm
    | 5,hi =>
      obtain rfl:_=d:=Option.some.inj hi;exact (congrArg some (zue rfl (f0:=224) (by kernel_rfl) h')).symm
    | i + 6,hi=>cases hi
  have hcs:=zqk (t:=189) (n:=6) (by kernel_rfl) (by kernel_rfl) rfl rfl hel hd';unfold World.var? at hv;rw [hg]at hv;simp only [Option.bind_some]at hv;split at hv
  · rename_i cs' ty mk hh;cases hv;refine⟨ty,mk, ?_⟩;rw [hh,← Array.toArray_toList (xs:=cs),hcs];rfl
  · cases hv
set_option maxRecDepth 100000 in
theorem zdy {W : World} (h : Lib.VarReads Tryz.prog W "ullage/countdown.nothing" Rows.laid_ullage_countdown_nothing) : Vg_3 W := by
  obtain⟨cs,fuel,p,⟨ty,mk,hh⟩,hd⟩:=zuu h (g:=3) (by kernel_rfl) (t:=201) (by kernel_rfl);obtain⟨y0,y1,n,hx,hl,g0,g1⟩:=trod_struct2 Tryz.underlying201 hd;have e1:Tryz.prog.cellsOf 3=1:=by kernel_rfl
  have e3:Tryz.prog.cellsOf 201=2:=by kernel_rfl
  rw [e3]at hl;simp only [e1]at g0 g1;simp only [Rows.laid_ullage_countdown_nothing,Prod.mk.injEq,DataW.agg.injEq,List.cons.injEq,and_true]at hx;obtain⟨⟨h0,h1⟩,_⟩:=hx
  match cs,hl with
  | [c0,c1],_ =>
    obtain⟨a0,q0,z0,_⟩:=DataW.trod_int Tryz.underlying3 g0;obtain⟨a1,q1,z1,_⟩:=DataW.trod_int Tryz.underlying3 g1;rw [z0]at h0;rw [z1]at h1;simp at q0 q1 h0 h1;subst q0 q1 h0 h1;exact⟨ty,mk,hh⟩
set_option maxRecDepth 100000 in
theorem zwea{W:World}(hL:laidMetH Tryz.prog Rows.countdownLeadsRow.laid W):Vg_0 W∧Vg_1 W∧Vg_2 W∧Vg_3 W:=by
 have hr:∀ n d,(n,d)∈Rows.countdownLeadsRow.laid→d.handleName?.isNone=true→Lib.VarReads Tryz.prog W n d:=fun n d h1 h2=>Lib.laidMet.reads (laidMetH_iff.1 hL).1 (List.mem_filter.2 ⟨h1,h2⟩);refine⟨?_, ?_, ?_, ?_⟩
 ·exact zvu (t:=184) (hr _ _ (List.mem_of_getElem? (i:=6) rfl) rfl) (by kernel_rfl) (by kernel_rfl) (by kernel_rfl) (m:=3) (e:=9) (by kernel_rfl) (by kernel_rfl) (by kernel_rfl) (by kernel_rfl) (by kernel_rfl)
 ·exact zuca (hL.funcs (List.mem_of_getElem? (i:=7) rfl))
 ·exact zvu (t:=194) (hr _ _ (List.mem_of_getElem? (i:=8) rfl) rfl) (by kernel_rfl) (by kernel_rfl) (by kernel_rfl) (m:=13) (e:=9) (by kernel_rfl) (by kernel_rfl) (by kernel_rfl) (by kernel_rfl) (by kernel_rfl)
 ·exact zdy (hr _ _ (List.mem_of_getElem? (i:=5) rfl) rfl)
end Go.Proofs.YtdjgnbkclcjiiaaGreatDoor
